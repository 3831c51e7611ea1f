/- Lemmas; conditions: as each states. -/
import Derived.Test.YtlmfmioljeppfaaGreatDoorRefFind
import Derived.Test.YtlmfmioljeppfaaGreatDoorCall
set_option maxHeartbeats 4000000
namespace Go.Proofs.YtlmfmioljeppfaaGreatDoor
open Go.RowKit Go.Shelf Go.Lib
set_option maxRecDepth 100000
theorem qbP(l:List Qb)(lv:Value)(src c n t:Str)(static:Bool)(w:World)(hR:Qj l)(hcf:∀c∈l,qd c=0)(hlv:qi w lv l):
 Calls Tryz.prog 118 #[lv,.string src,.string c,.string n,.string t,.bool static] w fun e w'=>e=.returned (.int .i64 (Zz (Za l) src c n t static))/\Below w.heap.size w w':=by
 have HC1:=Xh (QA l lv c w hlv);have HC2:Hid (∀wx,Below w.heap.size w wx->_):=fun wx hb=>QA l lv src wx (hlv.mono hb)
 have HRM:Hid ((Qc (Za l) c).isSome=true->∀wx,Below w.heap.size w wx->_):=fun hk wx hb=>qcA l lv c n t wx hR hcf (hlv.mono hb) hk
 unfold qJ at HC1 HC2;unfold zbw at HRM;obtain⟨pl,capl,rfl,_⟩:=hlv.open;have HCF:=Xh (Zbo (Za l) src c n t static);clear hlv hR hcf;generalize Zz (Za l) src c n t static=f at *;generalize (Qc (Za l) c).isSome=isc at *;generalize (Qc (Za l) src).isSome=iss at *;generalize (Qc (Za l) c).getD zg=dc at *;generalize (Qc (Za l) src).getD zg=ds at *;generalize zam (Za l) c n t=o at *;obtain⟨n2,s2,f2,b2,d2,m2⟩:=dc;obtain⟨n3,s3,f3,b3,d3,m3⟩:=ds;dsimp only at *;cases isc with
 |false =>
  have hf:f=3:=HCF.out;subst hf;clear HCF HRM HC2;go_enter Tryz.func118,Tryz.ntmps118;go_wp2_with (go_fit HC1.out;rintro e w4⟨p1,k1,p2,k2,p3,k3,rfl,_,_,_,hB4,_⟩)
  go_ret;exact⟨rfl,hB4.alloc hB4.size _⟩
 |true =>
  have HRm:Hid (∀wx,Below w.heap.size w wx->_):=fun wx hb=>HRM.out rfl wx hb
  replace HCF:Hid (f=qbA o iss src static):=HCF.out;clear HRM;cases o with
  |none =>
   simp only[qaL,Option.map_none,Option.getD_none]at HRm;have hf:f=3:=HCF.out;subst hf;clear HCF;go_enter Tryz.func118,Tryz.ntmps118;go_wp2_with (first
    |(go_fit (HRm.out _ hB4a);rintro e w5⟨⟨v5,rfl,pc,kc,ph,kh,rfl⟩,hB5⟩;(have hB5a:=(Qa hB4a Xl hB5).alloc (Qa hB4a Xl hB5).size (.cells #[.string QG.name,.string QG.type,.bool QG.static,.bool QG.abs,.bool QG.priv,.int .i64 QG.locals,.slice pc QG.code.length kc,.slice ph QG.handlers.length kh] 53)))
    |(go_at_call 14;(have hB5b:=hB5a);(with_reducible refine(HC2.out _ hB5b).mono ?_);rintro e w6⟨p4,k4,p5,k5,p6,k6,rfl,_,_,_,hB6,_⟩)
    |(go_fit HC1.out;rintro e w4⟨p1,k1,p2,k2,p3,k3,rfl,_,_,_,hB4,_⟩;(have hB4a:=hB4.alloc hB4.size (.cells #[.string n2,.string s2,.slice p1 f2.length k1,.bool b2,.slice p2 d2.length k2,.slice p3 m2.length k3] 36))))
   go_ret;exact⟨rfl,(Qa hB5a Xl hB6).alloc (Qa hB5a Xl hB6).size _⟩
  |some x =>
   obtain⟨d,m⟩:=x;simp only[qaL,Option.map_some,Option.getD_some]at HRm;have hst:=Z5 d src;obtain⟨st,hs1⟩:∃q,(m.static==static)=q:=⟨_,rfl⟩;have hs1n:(m.static != static)=!st:=(by rw[<-hs1];rfl);obtain⟨ne,hs2⟩:∃q,(d.toList==src.toList)=q:=⟨_,rfl⟩;obtain⟨pv,hpv⟩:∃q,m.priv=q:=⟨_,rfl⟩;have HFin:Hid (f=if iss=false then 3 else if st=false then 7 else if (pv&&!ne)=true then 9 else 0):=by
    unfold Hid;rw[HCF.out,qbJ,<-hs1,<-hs2,hst,hpv]
   clear HCF hst;go_enter Tryz.func118,Tryz.ntmps118;go_upto_region 6 with(first
    |(go_fit (HRm.out _ hB4a);rintro e w5⟨⟨v5,rfl,pc,kc,ph,kh,rfl⟩,hB5⟩;(have hB5a:=(Qa hB4a Xl hB5).alloc (Qa hB4a Xl hB5).size (.cells #[.string m.name,.string m.type,.bool m.static,.bool m.abs,.bool pv,.int .i64 m.locals,.slice pc m.code.length kc,.slice ph m.handlers.length kh] 53)))
    |(go_at_call 14;(have hB5b:=hB5a);(with_reducible refine(HC2.out _ hB5b).mono ?_);rintro e w6⟨p4,k4,p5,k5,p6,k6,rfl,_,_,_,hB6,_⟩)
    |(go_fit HC1.out;rintro e w4⟨p1,k1,p2,k2,p3,k3,rfl,_,_,_,hB4,_⟩;(have hB4a:=hB4.alloc hB4.size (.cells #[.string n2,.string s2,.slice p1 f2.length k1,.bool b2,.slice p2 d2.length k2,.slice p3 m2.length k3] 36))))
   have B16:=(Blk.new w5 53 [.string m.name,.string m.type,.bool m.static,.bool m.abs,.bool pv,.int .i64 m.locals,.slice pc m.code.length kc,.slice ph m.handlers.length kh]).step hB6;obtain⟨t0,t1,t2,t3,t4,t5,t6,t7⟩:=B16.cells8;have hlt:=B16.lt;have HB7:=Xh ((Qa hB5a Xl hB6).alloc (Qa hB5a Xl hB6).size (.cells #[.string n3,.string s3,.slice p4 f3.length k4,.bool b3,.slice p5 d3.length k5,.slice p6 m3.length k6] 36));clear B16 hB6 hB5a hB5 hB4a hB4;cases iss with
   |false =>
    have hf:f=3:=HFin.out;subst hf;go_wp2_with fail;go_ret;exact⟨rfl,HB7⟩
   |true =>
    cases st with
    |false =>
     have hf:f=7:=HFin.out;subst hf;go_wp2_with fail;go_ret;exact⟨rfl,HB7⟩
    |true =>
     cases pv<;>cases ne
     case true.false =>
      have hf:f=9:=HFin.out;subst hf;go_wp2_with fail;go_ret;exact⟨rfl,HB7⟩
     all_goals
      have hf:f=0:=HFin.out;subst hf;go_wp2_with fail;go_ret;exact⟨rfl,HB7⟩
set_option maxRecDepth 512
end Go.Proofs.YtlmfmioljeppfaaGreatDoor
