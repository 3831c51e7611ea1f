/- Lemmas; conditions: as each states. -/
import Derived.Test.YtmclocdhcblbiaaGreatDoorRunInvoke
set_option maxHeartbeats 4000000
namespace Go.Proofs.YtmclocdhcblbiaaGreatDoor
open Go.RowKit Go.Shelf Go.Lib
theorem qcd(w0 w:World)(kb B:Nat)(hv cv:Value)(ps:List (Zc×Value))(qs:List Zs)(q:Zs)(st:Int)(wr:World)(X:Nat->Prop)(T:MW w0 wr X w kb B hv cv ps (qs++[q]) v0 ⟨#[]⟩ st false)(d:q.c.S.length<=4194304)(E:World)(l:List qa)(f:Zi E w0 B l)(o:Qx (Za l) (ps.map (·.1))=0)(U:qs.length+1<=20)(V:∀p∈qs++[q],∀h∈p.c.m.handlers,ZW h)(x:Ins)(Y:x.type.size<=1048576)(g:x.op=24\/x.op=25)(args:List Str)(G:Str)(C given:List Val)(I:Str)(H:zg)(F:Zdd (Za l) (ps.map (·.1)) x q.c.S args G C given I H):
 Calls Tryz.prog 84 #[.pointer (some ⟨kb,0,none⟩),.pointer (some ⟨q.cb,0,none⟩),qao x] w (zae l w0 wr X kb B st (ZaN (Za l) (ps.map (·.1)) q.c x (qs.map (·.c)).reverse)):=by
 obtain⟨y,a,b,t,cls,A⟩:=x;have r:=F;obtain⟨O,P,D,i,R,-,j,-,-⟩:=F;dsimp only at Y g O D i R j;have J:q.c.S.length=C.length+given.length:=by rw[P,List.length_append]
 have L:q.c.S.take (q.c.S.length-given.length)=C:=by rw[J,Nat.add_sub_cancel,P,List.take_left]
 have M:q.c.S.drop (q.c.S.length-given.length)=given:=by rw[J,Nat.add_sub_cancel,P,List.drop_left]
 rcases g with rfl|rfl
 ·have D:given.length=args.length+1:=D;have Z:ZaN (Za l) (ps.map (·.1)) q.c ⟨24,a,b,t,cls,A⟩ (qs.map (·.c)).reverse =
   (
    if (given.headD v0).n<=0 then qS (Za l) (ps.map (·.1)) (q.c::(qs.map (·.c)).reverse)
    else if H.priv then ZaJ (ps.map (·.1)) I H given ({ q.c with S:=C }::(qs.map (·.c)).reverse)
    else if qai (qY (Za l) (ZY (zl (ps.map (·.1)) (given.headD v0)).type) A t) then
     (
      match qY (Za l) (ZY (zl (ps.map (·.1)) (given.headD v0)).type) A t with
      |some p=>ZaJ (ps.map (·.1)) p.1 p.2 given ({ q.c with S:=C }::(qs.map (·.c)).reverse)
      |none=>.full)
    else qS (Za l) (ps.map (·.1)) (q.c::(qs.map (·.c)).reverse)):=by
   unfold ZaN;dsimp only;rw[O,R];dsimp only[Option.map_some,Option.getD_some];rw[D]at L M;rw[if_pos rfl,if_pos rfl];simp only[L,M];cases qY (Za l) (ZY (zl (ps.map (·.1)) (given.headD v0)).type) A t<;>rfl
  exact qdd w0 w kb B hv cv ps qs q st wr X T d E l f o U V a b t cls A Y args G C given I H r _ Z
 ·have D:given.length=args.length:=D;obtain⟨N,k,s,v⟩:=j (Or.inl rfl);have Z:ZaN (Za l) (ps.map (·.1)) q.c ⟨25,a,b,t,cls,A⟩ (qs.map (·.c)).reverse=ZaJ (ps.map (·.1)) I H given ({ q.c with S:=C }::(qs.map (·.c)).reverse):=by
   unfold ZaN;dsimp only;rw[O,R];dsimp only[Option.map_some,Option.getD_some];rw[D]at L M;rw[if_neg (by decide),if_neg (by decide),Nat.add_zero];simp only[L,M]
  rw[Z];refine(qcA w0 w kb B hv cv ps qs q v0 ⟨#[]⟩ st false wr X T d E l f a b t cls A Y args G O C given P D i I H R N k s v).mono ?_;exact fun e w' h=>qbJ l k h
theorem QdS(p:Addr)(w:World):
 CallsD Tryz.prog 80 #[.pointer (some p)] .returning w fun e A w'=>e=.returned (.tuple #[])/\A=.returning/\w'=w:=by
 refine callsD_of_wpS Tryz.func80 rfl fun B cs C=>?_
 apply wpS_seq;apply wpS_region;simp[wpOpsS,go_sem,recoverD,C,Tryz.ntmps80,Exit.thenS];apply wpS_seq;apply wpS_region;simp[wpOpsS,go_sem,Exit.thenS];refine wpS_cond (t:=false) (by simp[Act.eval,Array.replicate]) ?_;simp only[Bool.false_eq_true,if_false];refine wpS_of_wp (wp_skip ?_);cases B;simp_all [bodyPostS,results,Tryz.results80]
set_option maxRecDepth 100000
theorem zdT(p:Addr)(w:World):
 CallsD Tryz.prog 80 #[.pointer (some p)] (.panicking (zar 4::[])) w fun e E w'=>e=.panicked [zar 4]/\E=.panicking ({ zar 4 with recovered:=true }::[])/\Below w.heap.size w w':=by
 have C:=Xh ((Below.refl w.heap.size w).alloc Xl (.cells #[] 142));refine callsD_of_wpS Tryz.func80 rfl fun F cs B=>?_
 apply wpS_seq;apply wpS_region;simp[wpOpsS,go_sem,recoverD,B,Tryz.ntmps80,Exit.thenS,zar];apply wpS_seq;apply wpS_region;simp[wpOpsS,go_sem,Exit.thenS];refine wpS_cond (t:=true) (by simp[Act.eval,Array.replicate]) ?_;simp only[if_true];refine wpS_of_wp ?_;have D:∀w:World,(Instr.typeAssert (.iface 108 (.agg #[.int .i64 4])) 20 142 true).run Tryz.prog w=.ok (.tuple #[.agg #[],.bool false]) w:=fun w=>by kernel_rfl
 have A:(#[Value.pointer (some p)]++((((Array.replicate 23 undef).setIfInBounds 3 (.iface 108 (.agg #[.int .i64 4]))).setIfInBounds 0 (.iface 108 (.agg #[.int .i64 4]))).setIfInBounds 4 (.iface 108 (.agg #[.int .i64 4]))).setIfInBounds 5 (.bool true))=#[.pointer (some p),(.iface 108 (.agg #[.int .i64 4])),undef,undef,(.iface 108 (.agg #[.int .i64 4])),(.iface 108 (.agg #[.int .i64 4])),.bool true,undef,undef,undef,undef,undef,undef,undef,undef,undef,undef,undef,undef,undef,undef,undef,undef,undef]:=by kernel_rfl
 rw[A];clear A;generalize (Value.agg #[.int .i64 4])=G at *;clear B;go_wp2_with fail;cases F;exact⟨rfl,_,rfl,rfl,rfl,C⟩
set_option maxRecDepth 512
theorem ZcW{cs:List qa}{h:List Zc}{cls:Str}{v A:Val}{t:Str}:∀{r:List Cal},QE cs h cls v r=.ends A t->A=v0
 |[],e=>by injection e with e _;exact e.symm
 |c::r,e=>by
  unfold QE at e;split at e
  ·cases e
  ·exact ZcW e
theorem qaN{cs:List qa}{h:List Zc}{cls:Str}{v:Val}:∀{r:List Cal},QE cs h cls v r≠.full
 |[],e=>by cases e
 |c::r,e=>by
  unfold QE at e;split at e
  ·cases e
  ·exact qaN e
section
variable {w0 wr w w':World} {X:Nat->Prop} {kb B:Nat} {hv cv:Value} {ps:List (Zc×Value)} {qs:List Zs} {tv:Val} {th:Str} {st:Int} {ov:Bool}
theorem Zaz.into(T:MW w0 wr X w kb B hv cv ps qs tv th st ov){F:List Zc}{cs:List Cal}{tv':Val}{th':Str}{st':Int}{ov':Bool}(h:Zaz w0 w (XS kb hv cv ps qs) kb B F cs tv' th' st' ov' w'):Zaz w0 wr X kb B F cs tv' th' st' ov' w':=by
 obtain⟨A,C,D,E,U,G,H⟩:=h;exact⟨A,C,D,E,T.then U,G,H⟩
theorem qaJ.keeps{o:Out}(h:qaJ w0 wr X kb B st o (.returned (.tuple #[])) w'):∃hv cv ps qs tv th ov,MW w0 wr X w' kb B hv cv ps qs tv th st ov:=by
 cases o with
 |full=>cases h.1
 |on k=>obtain⟨_,hv,cv,ps,qs,U,_⟩:=h;exact⟨hv,cv,ps,qs,_,_,_,U⟩
 |ends v t=>obtain⟨_,_,hv,cv,ps,qs,U,_⟩:=h;exact⟨hv,cv,ps,qs,_,_,_,U⟩
theorem QcA(T:MW w0 wr X w kb B hv cv ps qs v0 ⟨#[]⟩ st false){cs:List qa}{h:List Zc}{cls:Str}{v:Val}{r:List Cal}(A:Qb5 w0 w (XS kb hv cv ps qs) kb B h v0 ⟨#[]⟩ st false (QE cs h cls v r) w'):qaJ w0 wr X kb B st (QE cs h cls v r) (.returned (.tuple #[])) w':=by
 cases C:QE cs h cls v r with
 |full=>exact absurd C qaN
 |on k=>rw[C]at A;exact⟨rfl,Zaz.into T A⟩
 |ends D t =>
  rw[C]at A;have:=ZcW C;subst this;exact⟨rfl,h,Zaz.into T A⟩
end
set_option maxRecDepth 100000
theorem Zdy(N w0 w:World)(kb B:Nat)(hv cv:Value)(ps:List (Zc×Value))(qs:List Zs)(st:Int)(wr:World)(X:Nat->Prop)(T:MW w0 wr X w kb B hv cv ps qs v0 ⟨#[]⟩ st false)(l:List qa)(s:Zi N w0 B l)(hh:Qx (Za l) (ps.map (·.1))=0)(v:qs.length<=20)(x:∀q∈qs,∀h∈q.c.m.handlers,ZW h)(R:Nat)(y:∀w' A cv' ps' qs' tv' th' st' ov',MW w0 wr X w' kb B A cv' ps' qs' tv' th' st' ov'->Blk w' R 79 [.pointer (some ⟨kb,0,none⟩)]):
 CallsD Tryz.prog 80 #[.pointer (some ⟨R,0,none⟩)] (.panicking (Qad::[])) w fun e u' w'=>u'=.panicking ({ Qad with recovered:=true }::[]) /\
  (
   (qS (Za l) (ps.map (·.1)) (qs.map (·.c)).reverse=.full/\e=.panicked [zar 4]/\Chg X wr w') \/
   (qS (Za l) (ps.map (·.1)) (qs.map (·.c)).reverse≠.full/\e=.returned (.tuple #[])/\qaJ w0 wr X kb B st (qS (Za l) (ps.map (·.1)) (qs.map (·.c)).reverse) e w')):=by
 have z:ps.length<=50:=by have:=(Z2 hh).1;rwa [List.length_map]at this
 have F:(ps.map (·.1)).length=ps.length:=List.length_map ..;have hk:(Qb (Za l) Ql).isSome=true:=QaN l;have G:=Xh T;have C:=Xh y;have hs20:=qaM s.faults hk;have HF:Hid (∀wx,Below w.heap.size w wx->Calls Tryz.prog 83 #[.map (some B),.string { data:=#[70,97,117,108,116] }] wx (Qa6 wx Ql (Qq (zU (Za l) Ql)).length)):=fun wx V=>QcR N wx B l ((s.step T.at'.below).step V) Ql hk
 unfold Qa6 at HF;have O:Hid (∀wx (p:Option Addr) (k n:Nat),n=(Qq (zU (Za l) Ql)).length->Below w.heap.size w wx->wx.ownsRow w.heap.size 43 2 (.slice p n k) (List.replicate n Qaf).length ((List.replicate n Qaf).flatMap qt)->_):=fun wx p k n L V f=>zb6 N w0 wx kb B hv cv ps qs v0 ⟨#[]⟩ st false (G.out.at'.step V) l s (Qc Ql) (.cl Ql) p k n (QU f G.out.at'.size) (fun r b hp e=>by have:=(G.out.at'.lt r b hp).2;have:=(f.lt b e).1;omega) (zdr hk n) (by rw[Zan];unfold maxLen;omega) (fun e h=>by cases h) (Qq (zU (Za l) Ql)) (qbo _ _ _) L.symm
 have hft:∀M:Value,(ps++[((⟨Qc Ql,(Qq (zU (Za l) Ql)).map QF⟩:Zc),M)]).map (·.1)=ps.map (·.1)++[Q0 (Za l) Ql]:=fun M=>by
  rw[List.map_append,zcS];rfl
 have Y:Hid (∀wx A M,ps.length<50->MW w0 wr X wx kb B A cv (ps++[(⟨Qc Ql,(Qq (zU (Za l) Ql)).map QF⟩,M)]) qs v0 ⟨#[]⟩ st false->Calls Tryz.prog 81 #[.pointer (some ⟨kb,0,none⟩),.agg #[.int .i64 3,.int .i64 ((ps.length:Int)+1)]] wx fun e w'=>e=.returned (.tuple #[])/\qaJ w0 wr X kb B st (QE (Za l) (ps.map (·.1)++[Q0 (Za l) Ql]) Ql ⟨3,(ps.length:Int)+1⟩ (qs.map (·.c)).reverse) (.returned (.tuple #[])) w'):=fun wx A M h5 U=>by
  have hc:=ZeV Ql;have h:=zcB N w0 wx kb B A cv (ps++[(⟨Qc Ql,(Qq (zU (Za l) Ql)).map QF⟩,M)]) qs v0 ⟨#[]⟩ st false U.at' l s 3 ps.length ⟨Qc Ql,(Qq (zU (Za l) Ql)).map QF⟩ M (Qab _ _) (by simp;omega) (.cl Ql) (QaA Ql).symm (by show(Qc Ql).size<=_;rw[Zan];unfold maxLen;omega) (by show(Qb (Za l) (zam (Qc Ql))).isSome=true;rw[hc];exact hk) x v;rw[hft,show zam (Zc.type ⟨Qc Ql,(Qq (zU (Za l) Ql)).map QF⟩)=Ql from hc]at h;exact h.mono fun e w' ⟨g,h2⟩=>⟨g,QcA U h2⟩
 have hta:∀w:World,(Instr.typeAssert (.iface 142 (.agg #[])) 20 142 true).run Tryz.prog w=.ok (.tuple #[.agg #[],.bool true]) w:=fun w=>by kernel_rfl
 have j0:=G.out.at'.cells.1;have j1:=(C.out _ _ _ _ _ _ _ _ _ G.out).cell 0;unfold qS;rw[F];generalize Qq (zU (Za l) Ql)=P at *;generalize Q0 (Za l) Ql=FT at *;clear T y s hk hs20 hft hh x v;by_cases E:50<=ps.length
 ·rw[if_pos E];have HC:Hid (∀wx (p:Option Addr) (k n:Nat),n=P.length->Below w.heap.size w wx->wx.ownsRow w.heap.size 43 2 (.slice p n k) (List.replicate n Qaf).length ((List.replicate n Qaf).flatMap qt)->Calls Tryz.prog 82 #[.pointer (some ⟨kb,0,none⟩),.agg #[.string (Qc Ql),.slice p n k]] wx fun e w'=>e=.panicked [zar 4]/\Below wx.heap.size wx w'):=fun wx p k n L V f=>(O.out wx p k n L V f).mono fun e w' h=>by
   rcases h with⟨_,g,h2⟩|⟨g,_⟩
   ·exact⟨g,h2⟩
   ·omega
  clear O E z F Y;refine callsD_of_wpS Tryz.func80 rfl fun c₀ cs hu=>?_
  apply wpS_seq;apply wpS_region;simp[wpOpsS,go_sem,recoverD,hu,Tryz.ntmps80,Exit.thenS,Qad];apply wpS_seq;apply wpS_region;simp[wpOpsS,go_sem,Exit.thenS];refine wpS_cond (t:=true) (by simp[Act.eval,Array.replicate]) ?_;simp only[if_true];refine wpS_of_wp ?_;have hT:(#[Value.pointer (some ⟨R,0,none⟩)]++((((Array.replicate 23 undef).setIfInBounds 3 (.iface 142 (.agg #[]))).setIfInBounds 0 (.iface 142 (.agg #[]))).setIfInBounds 4 (.iface 142 (.agg #[]))).setIfInBounds 5 (.bool true))=#[.pointer (some ⟨R,0,none⟩),(.iface 142 (.agg #[])),undef,undef,(.iface 142 (.agg #[])),(.iface 142 (.agg #[])),.bool true,undef,undef,undef,undef,undef,undef,undef,undef,undef,undef,undef,undef,undef,undef,undef,undef,undef]:=by kernel_rfl
  rw[hT];clear hT;have Z:=(Below.refl w.heap.size w).alloc Xl (.cells #[] 142);have H:=Xh (G.out.step Z);have HA:=Xh Z;have i0:=H.out.at'.cells.1;have i1:=(C.out _ _ _ _ _ _ _ _ _ H.out).cell 0;clear Z j0 j1;go_upto_region 5 with fail;have D:=HA.out;generalize w.alloc (.cells #[] 142)=wa at *;refine wp_region_held_drew (S:=(fun w'=>w'.cell? ⟨kb,0,none⟩=some (.map (some B))/\w'.cell? ⟨R,0,none⟩=some (.pointer (some ⟨kb,0,none⟩)))) (by kernel_rfl) (⟨i0,i1⟩) (fun hHeld=>?_);change wpAnyH _ _ _ _ _ 9 _ _ _;(first|(refine tkP (i:=0) rfl hHeld ?_)|(refine tkQ (i:=0) rfl hHeld ?_));try simp only[Act.put,Xa,Xc,Xd]
  (first|(refine tkP (i:=1) rfl hHeld ?_)|(refine tkQ (i:=1) rfl hHeld ?_));try simp only[Act.put,Xa,Xc,Xd]
  (first|(refine tkP (i:=2) rfl hHeld ?_)|(refine tkQ (i:=2) rfl hHeld ?_));try simp only[Act.put,Xa,Xc,Xd]
  (first|(refine tkP (i:=3) rfl hHeld ?_)|(refine tkQ (i:=3) rfl hHeld ?_));try simp only[Act.put,Xa,Xc,Xd]
  (first|(refine tkP (i:=4) rfl hHeld ?_)|(refine tkQ (i:=4) rfl hHeld ?_));try simp only[Act.put,Xa,Xc,Xd]
  (first|(refine tkP (i:=5) rfl hHeld ?_)|(refine tkQ (i:=5) rfl hHeld ?_));try simp only[Act.put,Xa,Xc,Xd]
  refine wpAnyH_ready (rs:=[6]) (fuel:=2) (by kernel_rfl) (by simp) ?_;refine AllReadyH.cons (i:=6) rfl (fun K hK=>?_) AllReadyH.nil;go_simp;refine(HF.out _ D.drew).mono ?_;rintro e o⟨⟨p,k,rfl,a⟩,d⟩;have I:Below w.heap.size w o:=Qa D.drew Xl d;have j:=G.out.step I;refine hK.out _ _ (⟨j.at'.cells.1,(C.out _ _ _ _ _ _ _ _ _ j).cell 0⟩) (fun hHeld=>?_);clear hK K;try dsimp only[Act.put]
  refine wpAnyH_ready (rs:=[7]) (fuel:=1) (by kernel_rfl) (by simp) ?_;refine AllReadyH.cons (i:=7) rfl (fun K hK=>?_) AllReadyH.nil;go_simp;refine(HC.out o p k P.length rfl I (QU a D.size)).mono ?_;rintro e w4⟨rfl,hB4⟩;have hcz:=(j.step hB4).chg;cases c₀;exact⟨rfl,_,rfl,rfl,rfl,hcz⟩
 ·rw[if_neg E];have J:ps.length<50:=by omega
  have HC:Hid (∀wx (p:Option Addr) (k n:Nat),n=P.length->Below w.heap.size w wx->wx.ownsRow w.heap.size 43 2 (.slice p n k) (List.replicate n Qaf).length ((List.replicate n Qaf).flatMap qt)->Calls Tryz.prog 82 #[.pointer (some ⟨kb,0,none⟩),.agg #[.string (Qc Ql),.slice p n k]] wx fun e w'=>e=.returned (.agg #[.int .i64 3,.int .i64 ((ps.length:Int)+1)])/\∃A,MW w0 wr X w' kb B A cv (ps++[(⟨Qc Ql,P.map QF⟩,.slice p n k)]) qs v0 ⟨#[]⟩ st false):=fun wx p k n L V f=>(O.out wx p k n L V f).mono fun e w' h=>by
   rcases h with⟨g,_⟩|⟨_,g,h2,A,h3,h4⟩
   ·omega
   ·exact⟨g,A,(G.out.step V).mored h2 (fun b e=>Xf G.out.chg.size (f.lt b e).1) h3 h4⟩
  have HTh2:Hid (∀wx A M,MW w0 wr X wx kb B A cv (ps++[(⟨Qc Ql,P.map QF⟩,M)]) qs v0 ⟨#[]⟩ st false->_):=fun wx A M U=>Y.out wx A M J U
  clear O E z F Y J;refine callsD_of_wpS Tryz.func80 rfl fun c₀ cs hu=>?_
  apply wpS_seq;apply wpS_region;simp[wpOpsS,go_sem,recoverD,hu,Tryz.ntmps80,Exit.thenS,Qad];apply wpS_seq;apply wpS_region;simp[wpOpsS,go_sem,Exit.thenS];refine wpS_cond (t:=true) (by simp[Act.eval,Array.replicate]) ?_;simp only[if_true];refine wpS_of_wp ?_;have hT:(#[Value.pointer (some ⟨R,0,none⟩)]++((((Array.replicate 23 undef).setIfInBounds 3 (.iface 142 (.agg #[]))).setIfInBounds 0 (.iface 142 (.agg #[]))).setIfInBounds 4 (.iface 142 (.agg #[]))).setIfInBounds 5 (.bool true))=#[.pointer (some ⟨R,0,none⟩),(.iface 142 (.agg #[])),undef,undef,(.iface 142 (.agg #[])),(.iface 142 (.agg #[])),.bool true,undef,undef,undef,undef,undef,undef,undef,undef,undef,undef,undef,undef,undef,undef,undef,undef,undef]:=by kernel_rfl
  rw[hT];clear hT;have Z:=(Below.refl w.heap.size w).alloc Xl (.cells #[] 142);have H:=Xh (G.out.step Z);have HA:=Xh Z;have i0:=H.out.at'.cells.1;have i1:=(C.out _ _ _ _ _ _ _ _ _ H.out).cell 0;clear Z j0 j1;go_upto_region 5 with fail;have D:=HA.out;generalize w.alloc (.cells #[] 142)=wa at *;go_region_held3 (fun w'=>w'.cell? ⟨kb,0,none⟩=some (.map (some B))/\w'.cell? ⟨R,0,none⟩=some (.pointer (some ⟨kb,0,none⟩))) (go_keep)
   (first
    |(go_fit (HF.out _ D.drew);rintro e o⟨⟨p,k,rfl,a⟩,d⟩;(have hr4:o.ownsRow w.heap.size 43 2 (.slice p P.length k) (List.replicate P.length Qaf).length ((List.replicate P.length Qaf).flatMap qt):=QU a D.size);(have I:Below w.heap.size w o:=Qa D.drew Xl d);(have j:=G.out.step I);(have z0:=j.at'.cells.1);(have z1:=(C.out _ _ _ _ _ _ _ _ _ j).cell 0))
    |(go_fit (HC.out o p k P.length rfl I hr4);rintro e w4⟨rfl,hv4,U4⟩;(have z2:=U4.at'.cells.1);(have z3:=(C.out _ _ _ _ _ _ _ _ _ U4).cell 0))
    |(go_fit (HTh2.out w4 hv4 _ U4);rintro e w5⟨rfl,hO⟩;obtain⟨_,_,_,_,_,_,_,U5⟩:=hO.keeps;(have z4:=U5.at'.cells.1);(have z5:=(C.out _ _ _ _ _ _ _ _ _ U5).cell 0)))
  all_goals
   cases c₀;exact⟨rfl,_,rfl,.tuple #[],by simp[results,Tryz.results80],rfl,Or.inr ⟨qaN,rfl,hO⟩⟩
set_option maxRecDepth 512
end Go.Proofs.YtmclocdhcblbiaaGreatDoor
