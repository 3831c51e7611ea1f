/-
  PROVED: the law TopPicks as a tied card, in its second form: for all arguments of bulk at most 1048576 it returns true and leaves them as they were. Conditions: those of the card itself alone.
-/
import Derived.Test.YtmclocdhcblbiaaGreatDoorCards
import Derived.Test.YtmclocdhcblbiaaGreatDoorTie
import Derived.Test.YtmclocdhcblbiaaGreatDoorZTopPicks
import Derived.Test.YtmclocdhcblbiaaGreatDoorZArgs
import Derived.OpenShut
import Derived.Deep.DeepHandedRow
set_option maxHeartbeats 4000000
namespace Go.Proofs.YtmclocdhcblbiaaGreatDoor.topPicks
open Go.RowKit Go.Shelf Go.Lib Go.ChangeShapes Go.WideShapes Go.ChangeAt
theorem own:ownKnob Tryz.prog.godebug=none:=by kernel_rfl
theorem laidOut:laidOutB Tryz.prog=true:=by kernel_rfl
set_option maxRecDepth 100000
theorem contract(H:Type)(enc:TypeId×Value->H)(W:World)(base:Nat)(args:Array Value)(ds gs:List (DataW H))(before:List MemPlace)(hval:∀(j:Nat) t v,Tryz.f3.params[j]? = some t->args[j]? = some v->Value.okWide Tryz.prog W .any base t v)(hW:DataW.Whole enc Tryz.prog Tryz.f3.params.toList Rows.topPicksSpec.vars false W args.toList ds gs before)(hk:Rows.uptoSmall H (ds++gs)=true)(hL:laidMetH Tryz.prog Rows.topPicksUptoRow.laid W):
 Calls Tryz.prog 3 args W fun e W'=>∃v,e=.returned v/\Rows.topPicksSpec.post enc Tryz.prog Tryz.f3 false true false false W args v W':=by
 have hW':=hW;obtain⟨p,q,hA0,hV,rfl,hfz,hnd⟩:=hW;have hA:DataW.TrodAll enc Tryz.prog W 0 (fun _=>true) true Tryz.f3.params.toList args.toList ds p:=hA0;rw[Tryz.params3]at hA hval;obtain⟨w0,ws0,d0,ds0,p0,q0,hargs,rfl,rfl,h0t,r0⟩:=trodAll_cons hA;obtain⟨w1,ws1,d1,ds1,p1,q1,rfl,rfl,rfl,h1t,r1⟩:=trodAll_cons r0;obtain⟨w2,ws2,d2,ds2,p2,q2,rfl,rfl,rfl,h2t,r2⟩:=trodAll_cons r1;obtain⟨w3,ws3,d3,ds3,p3,q3,rfl,rfl,rfl,h3t,r3⟩:=trodAll_cons r2;obtain⟨rfl,rfl,rfl⟩:=trodAll_nil r3;obtain rfl:args=#[w0,w1,w2,w3]:=by cases args;simp_all
 obtain⟨rfl,rfl⟩:=trodVars_none hV;clear hA0 hA r0 r1 r2 r3 hargs;have hb:Rows.uptoBulkAll [d0,d1,d2,d3]<=1048576:=by
  have:=Xm hk;simpa using this
 simp only[Rows.uptoBulkAll]at hb;have hlt:∀x,(x∈p0\/x∈p1\/x∈p2\/x∈p3)->x.block<W.heap.size:=fun x hx=>hW'.lt x (by
  simp only[List.append_nil,List.mem_append];rcases hx with h|h|h|h<;>simp[h])
 have g0:=h0t;have g1:=h1t;have g2:=h2t;have g3:=h3t;obtain⟨sa0,sn0,sc0,rfl⟩:=okWide_slice Tryz.underlying22 (hval 0 22 w0 rfl rfl);obtain⟨f0,e0⟩:=h0t;obtain⟨l0,a0,o0⟩:=Qc3 (x:=(d0,p0)) e0 (by show Rows.uptoBulk d0<=_;omega);have hval1:=hval 1 3 w1 rfl rfl;obtain⟨n1,rfl,rfl,rfl,hn1⟩:=open_int Tryz.underlying3 hval1 h1t;have hval2:=hval 2 9 w2 rfl rfl;obtain⟨s2,rfl,rfl,rfl,h2⟩:=Go.ChangeMaps.open_string Tryz.underlying9 hval2 h2t;have k2:s2.size<=1048576:=by have:=Zbm (H:=H) s2;omega
 have hval3:=hval 3 9 w3 rfl rfl;obtain⟨s3,rfl,rfl,rfl,h3⟩:=Go.ChangeMaps.open_string Tryz.underlying9 hval3 h3t;have k3:s3.size<=1048576:=by have:=Zbm (H:=H) s3;omega
 have hLd:Qax W:=qe4 (by kernel_rfl) (by kernel_rfl) hL;have walk:=Qdh l0 (.slice sa0 sn0 sc0) n1 s2 s3 W hLd o0 a0 k2 k3;refine walk.mono fun e W' ⟨he,hnx⟩=>?_
 subst he;refine⟨_,rfl,_,_,_,[],(p0++([]++([]++([]++[])))),[],hW',trodAll_cons_mk (shut_bool Tryz.underlying4 _) trodAll_mk0,?_,rfl,hnx.frame _,fun h=>by cases h⟩;exact trodAll_cons_mk (Below.trod laidOut (by kernel_rfl) (Xm (by kernel_rfl)) g0 hnx (fun x hx=>hlt x (Or.inl hx)))
  (trodAll_cons_mk (Below.trod laidOut (by kernel_rfl) (Xm (by kernel_rfl)) g1 hnx (fun x hx=>hlt x (Or.inr (Or.inl hx))))
  (trodAll_cons_mk (Below.trod laidOut (by kernel_rfl) (Xm (by kernel_rfl)) g2 hnx (fun x hx=>hlt x (Or.inr (Or.inr (Or.inl hx)))))
  (trodAll_cons_mk (Below.trod laidOut (by kernel_rfl) (Xm (by kernel_rfl)) g3 hnx (fun x hx=>hlt x (Or.inr (Or.inr (Or.inr hx)))))
  trodAll_mk0)))
set_option maxRecDepth 512
def leaf:DataW Unit->Value
 |.lit (.int k n)=>.int k n
 |.lit (.string b)=>.string ⟨b.toArray⟩
 |_=>.bool false
def row1:DataW Unit->List Value
 |.agg l=>l.map leaf
 |_=>[]
def row2:DataW Unit->List Value
 |.agg l=>l.flatMap row1
 |_=>[]
def setCells(vs:List Value):Obj->Obj
 |.cells _ t frozen=>.cells vs.toArray t frozen
 |o=>o
noncomputable def laidWorld(os:Os):World :=
 { World.holding Tryz.prog os ⟨#[],#[],[]⟩ with heap:=(((World.holding Tryz.prog os ⟨#[],#[],[]⟩).heap.modify 2 (setCells (row2 Rows.laid_unicode_utf8_acceptRanges))).modify 3 (setCells (row2 Rows.laid_coffeehouse_ins_forms))).modify 1 (setCells (row1 Rows.laid_unicode_utf8_first)) }
def wArgs:Array Value:=#[.slice none 0 0,.int .i64 0,.string .empty,.string .empty]
theorem laid_met(os:Os):laidMet Tryz.prog Rows.topPicksUptoRow.laid ((laidWorld os).forCall (fun _ _=>0) ⟨#[],wArgs,[]⟩).memory :=
 laidMet_of_run' 8 (by kernel_rfl) (by kernel_rfl)
theorem reads(os:Os){H:Type}(enc:TypeId×Value->H):∃places,DataW.whole enc Tryz.prog ((laidWorld os).forCall (fun _ _=>0) ⟨#[],wArgs,[]⟩).memory Tryz.f3.params.toList Rows.topPicksSpec.vars false wArgs.toList 8=some ([.nil,.lit (.int .i64 0),.lit (.string []),.lit (.string [])],[],places) :=
 ⟨[],by kernel_rfl⟩
set_option maxRecDepth 100000
theorem liftedUpto(os:Os)(started:os.Started)(H:Type)(enc:TypeId×Value->H)(F:Stop.Interp):
 ReturnsInHanded {} Tryz.checked os 3 .any ((Rows.OpenSpec.upto Rows.topPicksSpec).preRow enc Tryz.prog Tryz.f3 Rows.topPicksUptoRow.domain false Rows.topPicksUptoRow.laid) (((Rows.OpenSpec.upto Rows.topPicksSpec).at F).post enc Tryz.prog Tryz.f3 false true false false):=by
 obtain⟨places,hx⟩:=reads os enc;refine returnsInHanded_of_row (C:=Tryz.checked) (s:=Rows.OpenSpec.upto Rows.topPicksSpec) own started (by kernel_rfl) Tryz.func3
  (witness_row_at (enc:=enc) (C:=Tryz.checked) false (laidWorld os) wArgs rfl (by kernel_rfl) (by kernel_rfl) (by kernel_rfl)
   (OpenSpec.preRow_of_cond 8 hx (by kernel_rfl) (fun k hk=>by cases hk;kernel_rfl) (by kernel_rfl) (laid_met os))) ?_
 intro W base args ds gs before hval hW _ hcond _ hL _ _;exact contract H enc W base args ds gs before hval hW (hcond _ rfl) hL
set_option maxRecDepth 512
theorem named:Tryz.pinned.checked.prog.funcNamed Rows.topPicksUptoRow.func=some 3:=by kernel_rfl
theorem closed:joinedFacts Tryz.pinned.checked.prog 3 Tryz.f3 (Rows.OpenSpec.upto Rows.topPicksSpec).bare Rows.topPicksUptoRow=true:=by kernel_rfl
theorem saidUpto:Rows.TopPicksUptoSaid :=
 OpenClaim.holds_of_cond 3 Tryz.f3 rfl rfl rfl rfl rfl rfl rfl ⟨rfl,rfl,rfl,rfl,rfl⟩ rfl rfl rfl rfl rfl named Tryz.func3 closed
  (Xm (by kernel_rfl)) (by unfold Func.isWrapper;first|(rw[if_pos (by decide +kernel)];kernel_rfl)|(rw[if_neg (by decide +kernel)];exact⟨rfl,rfl⟩))
  (fun os started H enc _ F=>by rw[OpenClaim.pre_eq_preRow];exact liftedUpto os started H enc F)
theorem plain(f:FuncId)(fn:Func)(hf:Tryz.pinned.checked.prog.funcNamed "coffeehouse/coffeehousetop.TopPicks"=some f)(hfn:Tryz.pinned.checked.prog.funcs[f]? = some fn):
 true=Tryz.pinned.checked.prog.looks []/\∀(j:Nat) t,fn.params[j]? = some t->Tryz.pinned.checked.prog.wantsStandIn t=false:=by
 obtain rfl:f=3:=Option.some.inj ((show Tryz.prog.funcNamed "coffeehouse/coffeehousetop.TopPicks"=some 3 by kernel_rfl).symm.trans hf) |>.symm
 obtain rfl:fn=Tryz.f3:=(Option.some.inj (Tryz.func3.symm.trans hfn)).symm;refine⟨by kernel_rfl,fun j t ht=>?_⟩;rw[Tryz.params3]at ht;have hm:t∈[22,3,9,9]:=by simpa using Array.mem_of_getElem? ht
 simp only[List.mem_cons,List.mem_nil_iff,or_false]at hm;rcases hm with rfl|rfl|rfl|rfl
 ·exact(show Tryz.prog.wantsStandIn 22=false by kernel_rfl)
 ·exact(show Tryz.prog.wantsStandIn 3=false by kernel_rfl)
 ·exact(show Tryz.prog.wantsStandIn 9=false by kernel_rfl)
 ·exact(show Tryz.prog.wantsStandIn 9=false by kernel_rfl)
theorem proved:Rows.TopPicksUptoCardSaid :=
 Claim7.holds_tied_plain_at .later [] _ _ _ _ saidUpto (fun _ h=>by cases h) (by kernel_rfl) (fun _ h=>by cases h) topPicksUpto_row_tie rfl ⟨rfl,rfl⟩ (by kernel_rfl) rfl plain (by kernel_rfl)
end Go.Proofs.YtmclocdhcblbiaaGreatDoor.topPicks
