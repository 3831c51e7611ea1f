/- Lemmas; conditions: as each states. -/
import Derived.Test.YtlmfmioljeppfaaGreatDoorRefFind
import Derived.Test.YtlmfmioljeppfaaGreatDoorCall
set_option maxHeartbeats 4000000
namespace Go.Proofs.YtlmfmioljeppfaaGreatDoor
open Go.RowKit Go.Shelf Go.Lib
set_option maxRecDepth 100000
theorem QbO(l:List Qb)(U:Value)(C c n t:Str)(static:Bool)(w:World)(hR:Zk l)(V:∀c∈l,qd c=0)(I:qj w U l):
 Calls Tryz.prog 118 #[U,.string C,.string c,.string n,.string t,.bool static] w fun e w'=>e=.returned (.int .i64 (Zz (Za l) C c n t static))/\Below w.heap.size w w':=by
 have M:=Xh (QA l U c w I);have N:Hid (∀wx,Below w.heap.size w wx->_):=fun wx Z=>QA l U C wx (I.mono Z)
 have O:Hid ((Qc (Za l) c).isSome=true->∀wx,Below w.heap.size w wx->_):=fun hk wx Z=>QcC l U c n t wx hR V (I.mono Z) hk
 unfold zJ at M N;unfold Zbu at O;obtain⟨pl,capl,rfl,_⟩:=I.open;have E:=Xh (zbo (Za l) C c n t static);clear I hR V;generalize Zz (Za l) C c n t static=f at *;generalize (Qc (Za l) c).isSome=aB at *;generalize (Qc (Za l) C).isSome=T at *;generalize (Qc (Za l) c).getD zg=dc at *;generalize (Qc (Za l) C).getD zg=ds at *;generalize Qal (Za l) c n t=o at *;obtain⟨n2,s2,f2,b2,d2,m2⟩:=dc;obtain⟨n3,s3,f3,b3,d3,m3⟩:=ds;dsimp only at *;cases aB with
 |false =>
  have J:f=3:=E.out;subst J;clear E O N;go_enter Tryz.func118,Tryz.ntmps118;go_wp2_with (go_fit M.out;rintro e w4⟨b,g,h,i,j,k,rfl,_,_,_,D,_⟩)
  go_ret;exact⟨rfl,D.alloc D.size _⟩
 |true =>
  have P:Hid (∀wx,Below w.heap.size w wx->_):=fun wx Z=>O.out rfl wx Z
  replace E:Hid (f=Zbz o T C static):=E.out;clear O;cases o with
  |none =>
   simp only[ZaM,Option.map_none,Option.getD_none]at P;have J:f=3:=E.out;subst J;clear E;go_enter Tryz.func118,Tryz.ntmps118;go_wp2_with (first
    |(go_fit (P.out _ B);rintro e w5⟨⟨v5,rfl,p,r,s,v,rfl⟩,H⟩;(have A:=(Qa B Xl H).alloc (Qa B Xl H).size (.cells #[.string zH.name,.string zH.type,.bool zH.static,.bool zH.abs,.bool zH.priv,.int .i64 zH.locals,.slice p zH.code.length r,.slice s zH.handlers.length v] 53)))
    |(go_at_call 14;(have L:=A);(with_reducible refine(N.out _ L).mono ?_);rintro e w6⟨p4,k4,p5,k5,p6,k6,rfl,_,_,_,F,_⟩)
    |(go_fit M.out;rintro e w4⟨b,g,h,i,j,k,rfl,_,_,_,D,_⟩;(have B:=D.alloc D.size (.cells #[.string n2,.string s2,.slice b f2.length g,.bool b2,.slice h d2.length i,.slice j m2.length k] 36))))
   go_ret;exact⟨rfl,(Qa A Xl F).alloc (Qa A Xl F).size _⟩
  |some x =>
   obtain⟨d,m⟩:=x;simp only[ZaM,Option.map_some,Option.getD_some]at P;have X:=q8 d C;obtain⟨y,Y⟩:∃q,(m.static==static)=q:=⟨_,rfl⟩;have hs1n:(m.static != static)=!y:=(by rw[<-Y];rfl);obtain⟨ne,z⟩:∃q,(d.toList==C.toList)=q:=⟨_,rfl⟩;obtain⟨a,aA⟩:∃q,m.priv=q:=⟨_,rfl⟩;have G:Hid (f=if T=false then 3 else if y=false then 7 else if (a&&!ne)=true then 9 else 0):=by
    unfold Hid;rw[E.out,ZbI,<-Y,<-z,X,aA]
   clear E X;go_enter Tryz.func118,Tryz.ntmps118;go_upto_region 6 with(first
    |(go_fit (P.out _ B);rintro e w5⟨⟨v5,rfl,p,r,s,v,rfl⟩,H⟩;(have A:=(Qa B Xl H).alloc (Qa B Xl H).size (.cells #[.string m.name,.string m.type,.bool m.static,.bool m.abs,.bool a,.int .i64 m.locals,.slice p m.code.length r,.slice s m.handlers.length v] 53)))
    |(go_at_call 14;(have L:=A);(with_reducible refine(N.out _ L).mono ?_);rintro e w6⟨p4,k4,p5,k5,p6,k6,rfl,_,_,_,F,_⟩)
    |(go_fit M.out;rintro e w4⟨b,g,h,i,j,k,rfl,_,_,_,D,_⟩;(have B:=D.alloc D.size (.cells #[.string n2,.string s2,.slice b f2.length g,.bool b2,.slice h d2.length i,.slice j m2.length k] 36))))
   have S:=(Blk.new w5 53 [.string m.name,.string m.type,.bool m.static,.bool m.abs,.bool a,.int .i64 m.locals,.slice p m.code.length r,.slice s m.handlers.length v]).step F;obtain⟨t0,t1,t2,t3,t4,t5,t6,t7⟩:=S.cells8;have hlt:=S.lt;have R:=Xh ((Qa A Xl F).alloc (Qa A Xl F).size (.cells #[.string n3,.string s3,.slice p4 f3.length k4,.bool b3,.slice p5 d3.length k5,.slice p6 m3.length k6] 36));clear S F A H B D;cases T with
   |false =>
    have J:f=3:=G.out;subst J;go_wp2_with fail;go_ret;exact⟨rfl,R⟩
   |true =>
    cases y with
    |false =>
     have J:f=7:=G.out;subst J;go_wp2_with fail;go_ret;exact⟨rfl,R⟩
    |true =>
     cases a<;>cases ne
     case true.false =>
      have J:f=9:=G.out;subst J;go_wp2_with fail;go_ret;exact⟨rfl,R⟩
     all_goals
      have J:f=0:=G.out;subst J;go_wp2_with fail;go_ret;exact⟨rfl,R⟩
set_option maxRecDepth 512
end Go.Proofs.YtlmfmioljeppfaaGreatDoor
