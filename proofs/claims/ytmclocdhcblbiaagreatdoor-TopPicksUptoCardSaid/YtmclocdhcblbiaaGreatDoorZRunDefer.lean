/- Lemmas; conditions: as each states. -/
import Derived.Test.YtmclocdhcblbiaaGreatDoorZRunInvoke
set_option maxHeartbeats 4000000
namespace Go.Proofs.YtmclocdhcblbiaaGreatDoor
open Go.RowKit Go.Shelf Go.Lib Tryz
theorem Qcf(w0 w:World)(kb B:Nat)(hv cv:Value)(ps:List (Zc×Value))(qs:List Zs)(q:Zs)(st:Int)(wr:World)(X:Nat->Prop)(T:MW w0 wr X w kb B hv cv ps (qs++[q]) v0 ⟨#[]⟩ st false)(Z:q.c.S.length<=4194304)(D:World)(l:List qa)(d:qh D w0 B l)(k:Zy (Za l) (ps.map (·.1))=0)(R:qs.length+1<=20)(U:∀p∈qs++[q],∀h∈p.c.m.handlers,QY h)(x:Ins)(V:x.type.size<=1048576)(f:x.op=24\/x.op=25)(args:List Str)(E:Str)(A given:List Val)(H:Str)(G:qc)(F:qde (Za l) (ps.map (·.1)) x q.c.S args E A given H G):
 Calls prog 84 #[.pointer (some ⟨kb,0,none⟩),.pointer (some ⟨q.cb,0,none⟩),zaq x] w (zag l w0 wr X kb B st (zaC (Za l) (ps.map (·.1)) q.c x (qs.map (·.c)).reverse)):=by
 obtain⟨v,a,b,t,cls,name⟩:=x;have o:=F;obtain⟨M,O,C,g,P,-,i,-,-⟩:=F;dsimp only at V f M C g P i;have I:q.c.S.length=A.length+given.length:=by rw[O,List.length_append]
 have J:q.c.S.take (q.c.S.length-given.length)=A:=by rw[I,Nat.add_sub_cancel,O,List.take_left]
 have L:q.c.S.drop (q.c.S.length-given.length)=given:=by rw[I,Nat.add_sub_cancel,O,List.drop_left]
 rcases f with rfl|rfl
 ·have C:given.length=args.length+1:=C;have Y:zaC (Za l) (ps.map (·.1)) q.c ⟨24,a,b,t,cls,name⟩ (qs.map (·.c)).reverse =
   (
    if (given.headD v0).n<=0 then QM (Za l) (ps.map (·.1)) (q.c::(qs.map (·.c)).reverse)
    else if G.priv then qaq (ps.map (·.1)) H G given ({ q.c with S:=A }::(qs.map (·.c)).reverse)
    else if QB (Qs (Za l) (ZO (qj (ps.map (·.1)) (given.headD v0)).type) name t) then
     (
      match Qs (Za l) (ZO (qj (ps.map (·.1)) (given.headD v0)).type) name t with
      |some p=>qaq (ps.map (·.1)) p.1 p.2 given ({ q.c with S:=A }::(qs.map (·.c)).reverse)
      |none=>.full)
    else QM (Za l) (ps.map (·.1)) (q.c::(qs.map (·.c)).reverse)):=by
   unfold zaC;dsimp only;rw[M,P];dsimp only[Option.map_some,Option.getD_some];rw[C]at J L;rw[if_pos rfl,if_pos rfl];simp only[J,L];cases Qs (Za l) (ZO (qj (ps.map (·.1)) (given.headD v0)).type) name t<;>rfl
  exact Qde w0 w kb B hv cv ps qs q st wr X T Z D l d k R U a b t cls name V args E A given H G o _ Y
 ·have C:given.length=args.length:=C;obtain⟨N,j,r,s⟩:=i (Or.inl rfl);have Y:zaC (Za l) (ps.map (·.1)) q.c ⟨25,a,b,t,cls,name⟩ (qs.map (·.c)).reverse=qaq (ps.map (·.1)) H G given ({ q.c with S:=A }::(qs.map (·.c)).reverse):=by
   unfold zaC;dsimp only;rw[M,P];dsimp only[Option.map_some,Option.getD_some];rw[C]at J L;rw[if_neg (by decide),if_neg (by decide),Nat.add_zero];simp only[J,L]
  rw[Y];refine(ZcD w0 w kb B hv cv ps qs q v0 ⟨#[]⟩ st false wr X T Z D l d a b t cls name V args E M A given O C g H G P N j r s).mono ?_;exact fun e w' h=>QbL l j h
theorem qdW(p:Addr)(w:World):
 CallsD prog 80 #[.pointer (some p)] .returning w fun e A w'=>e=.returned (.tuple #[])/\A=.returning/\w'=w:=by
 refine callsD_of_wpS func80 rfl fun B cs C=>?_
 apply wpS_seq;apply wpS_region;simp[wpOpsS,go_sem,recoverD,C,ntmps80,Exit.thenS];apply wpS_seq;apply wpS_region;simp[wpOpsS,go_sem,Exit.thenS];refine wpS_cond (t:=false) (by simp[Act.eval,Array.replicate]) ?_;simp only[Bool.false_eq_true,if_false];refine wpS_of_wp (wp_skip ?_);cases B;simp_all [bodyPostS,results,results80]
set_option maxRecDepth 100000
theorem QdW(p:Addr)(w:World):
 CallsD prog 80 #[.pointer (some p)] (.panicking (Zat 4::[])) w fun e E w'=>e=.panicked [Zat 4]/\E=.panicking ({ Zat 4 with recovered:=true }::[])/\Below w.heap.size w w':=by
 have C:=Xh ((Below.refl w.heap.size w).alloc Xl (.cells #[] 142));refine callsD_of_wpS func80 rfl fun F cs B=>?_
 apply wpS_seq;apply wpS_region;simp[wpOpsS,go_sem,recoverD,B,ntmps80,Exit.thenS,Zat];apply wpS_seq;apply wpS_region;simp[wpOpsS,go_sem,Exit.thenS];refine wpS_cond (t:=true) (by simp[Act.eval,Array.replicate]) ?_;simp only[if_true];refine wpS_of_wp ?_;have D:∀w:World,(Instr.typeAssert (.iface 108 (.agg #[.int .i64 4])) 20 142 true).run prog w=.ok (.tuple #[.agg #[],.bool false]) w:=fun w=>by kernel_rfl
 have A:(#[Value.pointer (some p)]++((((Array.replicate 23 undef).setIfInBounds 3 (.iface 108 (.agg #[.int .i64 4]))).setIfInBounds 0 (.iface 108 (.agg #[.int .i64 4]))).setIfInBounds 4 (.iface 108 (.agg #[.int .i64 4]))).setIfInBounds 5 (.bool true))=#[.pointer (some p),(.iface 108 (.agg #[.int .i64 4])),undef,undef,(.iface 108 (.agg #[.int .i64 4])),(.iface 108 (.agg #[.int .i64 4])),.bool true,undef,undef,undef,undef,undef,undef,undef,undef,undef,undef,undef,undef,undef,undef,undef,undef,undef]:=by kernel_rfl
 rw[A];clear A;generalize (Value.agg #[.int .i64 4])=G at *;clear B;go_wp2_with fail;cases F;exact⟨rfl,_,rfl,rfl,rfl,C⟩
theorem ZcZ{cs:List qa}{h:List Zc}{cls:Str}{v A:Val}{t:Str}:∀{r:List Cal},qF cs h cls v r=.ends A t->A=v0
 |[],e=>by injection e with e _;exact e.symm
 |c::r,e=>by
  unfold qF at e;split at e
  ·cases e
  ·exact ZcZ e
theorem ZaR{cs:List qa}{h:List Zc}{cls:Str}{v:Val}:∀{r:List Cal},qF cs h cls v r≠.full
 |[],e=>by cases e
 |c::r,e=>by
  unfold qF at e;split at e
  ·cases e
  ·exact ZaR e
section
variable {w0 wr w w':World} {X:Nat->Prop} {kb B:Nat} {hv cv:Value} {ps:List (Zc×Value)} {qs:List Zs} {tv:Val} {th:Str} {st:Int} {ov:Bool}
theorem QaC.into(T:MW w0 wr X w kb B hv cv ps qs tv th st ov){F:List Zc}{cs:List Cal}{tv':Val}{th':Str}{st':Int}{ov':Bool}(h:QaC w0 w (XS kb hv cv ps qs) kb B F cs tv' th' st' ov' w'):QaC w0 wr X kb B F cs tv' th' st' ov' w':=by
 obtain⟨A,C,D,E,U,G,H⟩:=h;exact⟨A,C,D,E,T.then U,G,H⟩
theorem QaN.keeps{o:Out}(h:QaN w0 wr X kb B st o (.returned (.tuple #[])) w'):∃hv cv ps qs tv th ov,MW w0 wr X w' kb B hv cv ps qs tv th st ov:=by
 cases o with
 |full=>cases h.1
 |on k=>obtain⟨_,hv,cv,ps,qs,U,_⟩:=h;exact⟨hv,cv,ps,qs,_,_,_,U⟩
 |ends v t=>obtain⟨_,_,hv,cv,ps,qs,U,_⟩:=h;exact⟨hv,cv,ps,qs,_,_,_,U⟩
theorem qcD(T:MW w0 wr X w kb B hv cv ps qs v0 ⟨#[]⟩ st false){cs:List qa}{h:List Zc}{cls:Str}{v:Val}{r:List Cal}(A:Qb6 w0 w (XS kb hv cv ps qs) kb B h v0 ⟨#[]⟩ st false (qF cs h cls v r) w'):QaN w0 wr X kb B st (qF cs h cls v r) (.returned (.tuple #[])) w':=by
 cases C:qF cs h cls v r with
 |full=>exact absurd C ZaR
 |on k=>rw[C]at A;exact⟨rfl,QaC.into T A⟩
 |ends D t =>
  rw[C]at A;have:=ZcZ C;subst this;exact⟨rfl,h,QaC.into T A⟩
end
theorem ZdC(N w0 w:World)(kb B:Nat)(hv cv:Value)(ps:List (Zc×Value))(qs:List Zs)(st:Int)(wr:World)(X:Nat->Prop)(T:MW w0 wr X w kb B hv cv ps qs v0 ⟨#[]⟩ st false)(l:List qa)(s:qh N w0 B l)(hh:Zy (Za l) (ps.map (·.1))=0)(v:qs.length<=20)(x:∀q∈qs,∀h∈q.c.m.handlers,QY h)(R:Nat)(y:∀w' A cv' ps' qs' tv' th' st' ov',MW w0 wr X w' kb B A cv' ps' qs' tv' th' st' ov'->Blk w' R 79 [.pointer (some ⟨kb,0,none⟩)]):
 CallsD prog 80 #[.pointer (some ⟨R,0,none⟩)] (.panicking (Qaf::[])) w fun e u' w'=>u'=.panicking ({ Qaf with recovered:=true }::[]) /\
  (
   (QM (Za l) (ps.map (·.1)) (qs.map (·.c)).reverse=.full/\e=.panicked [Zat 4]/\Chg X wr w') \/
   (QM (Za l) (ps.map (·.1)) (qs.map (·.c)).reverse≠.full/\e=.returned (.tuple #[])/\QaN w0 wr X kb B st (QM (Za l) (ps.map (·.1)) (qs.map (·.c)).reverse) e w')):=by
 have z:ps.length<=50:=by have:=(z7 hh).1;rwa [List.length_map]at this
 have F:(ps.map (·.1)).length=ps.length:=List.length_map ..;have hk:(Qb (Za l) qm).isSome=true:=qaR l;have G:=Xh T;have C:=Xh y;have hs20:=qaQ s.faults hk;have HF:Hid (∀wx,Below w.heap.size w wx->Calls prog 83 #[.map (some B),.string { data:=#[70,97,117,108,116] }] wx (zbb wx qm (Zq (qW (Za l) qm)).length)):=fun wx V=>QcT N wx B l ((s.step T.at'.below).step V) qm hk
 unfold zbb at HF;have O:Hid (∀wx (p:Option Addr) (k n:Nat),n=(Zq (qW (Za l) qm)).length->Below w.heap.size w wx->wx.ownsRow w.heap.size 43 2 (.slice p n k) (List.replicate n qah).length ((List.replicate n qah).flatMap Zt)->_):=fun wx p k n L V f=>zb7 N w0 wx kb B hv cv ps qs v0 ⟨#[]⟩ st false (G.out.at'.step V) l s (Qc qm) (.cl qm) p k n (ZX f G.out.at'.size) (fun r b hp e=>by have:=(G.out.at'.lt r b hp).2;have:=(f.lt b e).1;omega) (zdt hk n) (by rw[Zao];unfold maxLen;omega) (fun e h=>by cases h) (Zq (qW (Za l) qm)) (qbr _ _ _) L.symm
 have hft:∀M:Value,(ps++[((⟨Qc qm,(Zq (qW (Za l) qm)).map QG⟩:Zc),M)]).map (·.1)=ps.map (·.1)++[qU (Za l) qm]:=fun M=>by
  rw[List.map_append,zcU];rfl
 have Y:Hid (∀wx A M,ps.length<50->MW w0 wr X wx kb B A cv (ps++[(⟨Qc qm,(Zq (qW (Za l) qm)).map QG⟩,M)]) qs v0 ⟨#[]⟩ st false->Calls prog 81 #[.pointer (some ⟨kb,0,none⟩),.agg #[.int .i64 3,.int .i64 ((ps.length:Int)+1)]] wx fun e w'=>e=.returned (.tuple #[])/\QaN w0 wr X kb B st (qF (Za l) (ps.map (·.1)++[qU (Za l) qm]) qm ⟨3,(ps.length:Int)+1⟩ (qs.map (·.c)).reverse) (.returned (.tuple #[])) w'):=fun wx A M h5 U=>by
  have hc:=Ze0 qm;have h:=QcD N w0 wx kb B A cv (ps++[(⟨Qc qm,(Zq (qW (Za l) qm)).map QG⟩,M)]) qs v0 ⟨#[]⟩ st false U.at' l s 3 ps.length ⟨Qc qm,(Zq (qW (Za l) qm)).map QG⟩ M (Qad _ _) (by simp;omega) (.cl qm) (QaE qm).symm (by show(Qc qm).size<=_;rw[Zao];unfold maxLen;omega) (by show(Qb (Za l) (qan (Qc qm))).isSome=true;rw[hc];exact hk) x v;rw[hft,show qan (Zc.type ⟨Qc qm,(Zq (qW (Za l) qm)).map QG⟩)=qm from hc]at h;exact h.mono fun e w' ⟨g,h2⟩=>⟨g,qcD U h2⟩
 have hta:∀w:World,(Instr.typeAssert (.iface 142 (.agg #[])) 20 142 true).run prog w=.ok (.tuple #[.agg #[],.bool true]) w:=fun w=>by kernel_rfl
 have j0:=G.out.at'.cells.1;have j1:=(C.out _ _ _ _ _ _ _ _ _ G.out).cell 0;unfold QM;rw[F];generalize Zq (qW (Za l) qm)=P at *;generalize qU (Za l) qm=FT at *;clear T y s hk hs20 hft hh x v;by_cases E:50<=ps.length
 ·rw[if_pos E];have HC:Hid (∀wx (p:Option Addr) (k n:Nat),n=P.length->Below w.heap.size w wx->wx.ownsRow w.heap.size 43 2 (.slice p n k) (List.replicate n qah).length ((List.replicate n qah).flatMap Zt)->Calls prog 82 #[.pointer (some ⟨kb,0,none⟩),.agg #[.string (Qc qm),.slice p n k]] wx fun e w'=>e=.panicked [Zat 4]/\Below wx.heap.size wx w'):=fun wx p k n L V f=>(O.out wx p k n L V f).mono fun e w' h=>by
   rcases h with⟨_,g,h2⟩|⟨g,_⟩
   ·exact⟨g,h2⟩
   ·omega
  clear O E z F Y;refine callsD_of_wpS func80 rfl fun c₀ cs hu=>?_
  apply wpS_seq;apply wpS_region;simp[wpOpsS,go_sem,recoverD,hu,ntmps80,Exit.thenS,Qaf];apply wpS_seq;apply wpS_region;simp[wpOpsS,go_sem,Exit.thenS];refine wpS_cond (t:=true) (by simp[Act.eval,Array.replicate]) ?_;simp only[if_true];refine wpS_of_wp ?_;have hT:(#[Value.pointer (some ⟨R,0,none⟩)]++((((Array.replicate 23 undef).setIfInBounds 3 (.iface 142 (.agg #[]))).setIfInBounds 0 (.iface 142 (.agg #[]))).setIfInBounds 4 (.iface 142 (.agg #[]))).setIfInBounds 5 (.bool true))=#[.pointer (some ⟨R,0,none⟩),(.iface 142 (.agg #[])),undef,undef,(.iface 142 (.agg #[])),(.iface 142 (.agg #[])),.bool true,undef,undef,undef,undef,undef,undef,undef,undef,undef,undef,undef,undef,undef,undef,undef,undef,undef]:=by kernel_rfl
  rw[hT];clear hT;have Z:=(Below.refl w.heap.size w).alloc Xl (.cells #[] 142);have H:=Xh (G.out.step Z);have HA:=Xh Z;have i0:=H.out.at'.cells.1;have i1:=(C.out _ _ _ _ _ _ _ _ _ H.out).cell 0;clear Z j0 j1;go_upto_region 5 with fail;have D:=HA.out;generalize w.alloc (.cells #[] 142)=wa at *;refine wp_region_held_drew (S:=(fun w'=>w'.cell? ⟨kb,0,none⟩=some (.map (some B))/\w'.cell? ⟨R,0,none⟩=some (.pointer (some ⟨kb,0,none⟩)))) (by kernel_rfl) (⟨i0,i1⟩) (fun hHeld=>?_);change wpAnyH _ _ _ _ _ 9 _ _ _;first|refine tkP 0 ?_|refine tkQ 0 ?_
  first|refine tkP 1 ?_|refine tkQ 1 ?_
  first|refine tkP 2 ?_|refine tkQ 2 ?_
  first|refine tkP 3 ?_|refine tkQ 3 ?_
  first|refine tkP 4 ?_|refine tkQ 4 ?_
  first|refine tkP 5 ?_|refine tkQ 5 ?_
  refine wpAnyH_ready (rs:=[6]) (fuel:=2) (by kernel_rfl) (by simp) ?_;refine AllReadyH.cons (i:=6) rfl (fun K hK=>?_) AllReadyH.nil;go_simp;refine(HF.out _ D.drew).mono ?_;rintro e o⟨⟨p,k,rfl,a⟩,d⟩;have I:Below w.heap.size w o:=Qa D.drew Xl d;have j:=G.out.step I;refine hK.out _ _ (⟨j.at'.cells.1,(C.out _ _ _ _ _ _ _ _ _ j).cell 0⟩) (fun hHeld=>?_);clear hK K;try dsimp only[Act.put]
  refine wpAnyH_ready (rs:=[7]) (fuel:=1) (by kernel_rfl) (by simp) ?_;refine AllReadyH.cons (i:=7) rfl (fun K hK=>?_) AllReadyH.nil;go_simp;refine(HC.out o p k P.length rfl I (ZX a D.size)).mono ?_;rintro e w4⟨rfl,hB4⟩;have hcz:=(j.step hB4).chg;cases c₀;exact⟨rfl,_,rfl,rfl,rfl,hcz⟩
 ·rw[if_neg E];have J:ps.length<50:=by omega
  have HC:Hid (∀wx (p:Option Addr) (k n:Nat),n=P.length->Below w.heap.size w wx->wx.ownsRow w.heap.size 43 2 (.slice p n k) (List.replicate n qah).length ((List.replicate n qah).flatMap Zt)->Calls prog 82 #[.pointer (some ⟨kb,0,none⟩),.agg #[.string (Qc qm),.slice p n k]] wx fun e w'=>e=.returned (.agg #[.int .i64 3,.int .i64 ((ps.length:Int)+1)])/\∃A,MW w0 wr X w' kb B A cv (ps++[(⟨Qc qm,P.map QG⟩,.slice p n k)]) qs v0 ⟨#[]⟩ st false):=fun wx p k n L V f=>(O.out wx p k n L V f).mono fun e w' h=>by
   rcases h with⟨g,_⟩|⟨_,g,h2,A,h3,h4⟩
   ·omega
   ·exact⟨g,A,(G.out.step V).mored h2 (fun b e=>Xf G.out.chg.size (f.lt b e).1) h3 h4⟩
  have HTh2:Hid (∀wx A M,MW w0 wr X wx kb B A cv (ps++[(⟨Qc qm,P.map QG⟩,M)]) qs v0 ⟨#[]⟩ st false->_):=fun wx A M U=>Y.out wx A M J U
  clear O E z F Y J;refine callsD_of_wpS func80 rfl fun c₀ cs hu=>?_
  apply wpS_seq;apply wpS_region;simp[wpOpsS,go_sem,recoverD,hu,ntmps80,Exit.thenS,Qaf];apply wpS_seq;apply wpS_region;simp[wpOpsS,go_sem,Exit.thenS];refine wpS_cond (t:=true) (by simp[Act.eval,Array.replicate]) ?_;simp only[if_true];refine wpS_of_wp ?_;have hT:(#[Value.pointer (some ⟨R,0,none⟩)]++((((Array.replicate 23 undef).setIfInBounds 3 (.iface 142 (.agg #[]))).setIfInBounds 0 (.iface 142 (.agg #[]))).setIfInBounds 4 (.iface 142 (.agg #[]))).setIfInBounds 5 (.bool true))=#[.pointer (some ⟨R,0,none⟩),(.iface 142 (.agg #[])),undef,undef,(.iface 142 (.agg #[])),(.iface 142 (.agg #[])),.bool true,undef,undef,undef,undef,undef,undef,undef,undef,undef,undef,undef,undef,undef,undef,undef,undef,undef]:=by kernel_rfl
  rw[hT];clear hT;have Z:=(Below.refl w.heap.size w).alloc Xl (.cells #[] 142);have H:=Xh (G.out.step Z);have HA:=Xh Z;have i0:=H.out.at'.cells.1;have i1:=(C.out _ _ _ _ _ _ _ _ _ H.out).cell 0;clear Z j0 j1;go_upto_region 5 with fail;have D:=HA.out;generalize w.alloc (.cells #[] 142)=wa at *;go_region_held3 (fun w'=>w'.cell? ⟨kb,0,none⟩=some (.map (some B))/\w'.cell? ⟨R,0,none⟩=some (.pointer (some ⟨kb,0,none⟩))) (go_keep)
   (first
    |(go_fit (HF.out _ D.drew);rintro e o⟨⟨p,k,rfl,a⟩,d⟩;(have hr4:o.ownsRow w.heap.size 43 2 (.slice p P.length k) (List.replicate P.length qah).length ((List.replicate P.length qah).flatMap Zt):=ZX a D.size);(have I:Below w.heap.size w o:=Qa D.drew Xl d);(have j:=G.out.step I);(have z0:=j.at'.cells.1);(have z1:=(C.out _ _ _ _ _ _ _ _ _ j).cell 0))
    |(go_fit (HC.out o p k P.length rfl I hr4);rintro e w4⟨rfl,hv4,U4⟩;(have z2:=U4.at'.cells.1);(have z3:=(C.out _ _ _ _ _ _ _ _ _ U4).cell 0))
    |(go_fit (HTh2.out w4 hv4 _ U4);rintro e w5⟨rfl,hO⟩;obtain⟨_,_,_,_,_,_,_,U5⟩:=hO.keeps;(have z4:=U5.at'.cells.1);(have z5:=(C.out _ _ _ _ _ _ _ _ _ U5).cell 0)))
  all_goals
   cases c₀;exact⟨rfl,_,rfl,.tuple #[],by simp[results,results80],rfl,Or.inr ⟨ZaR,rfl,hO⟩⟩
