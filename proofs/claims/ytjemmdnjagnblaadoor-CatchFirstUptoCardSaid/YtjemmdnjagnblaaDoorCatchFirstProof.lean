/-
  PROVED: the law CatchFirst of catch.Which (handlers that are appended do not change the handler that is found), as a tied card. Conditions: those of the card itself alone; its second form: the arguments' bulk is at most 1048576.
-/
import Derived.Test.YtjemmdnjagnblaaDoorCards
import Derived.Test.YtjemmdnjagnblaaDoorTie
import Derived.Test.YtjemmdnjagnblaaDoorCatchFirst
import Derived.Test.YtjemmdnjagnblaaDoorLaid
import Derived.Test.YtjemmdnjagnblaaDoorArgs
import Derived.ProofKit
import Derived.OpenShut
import Derived.Deep.DeepHandedRow
import Derived.Lib.LaidTab
namespace Go.Proofs.YtjemmdnjagnblaaDoor.catchFirst
open Go.RowKit Go.Shelf Go.Lib Go.ChangeShapes Go.WideShapes Go.ChangeAt
theorem own : ownKnob Tryd.prog.godebug = none := by kernel_rfl
theorem laidOut : laidOutB Tryd.prog = true := by kernel_rfl
set_option maxRecDepth 100000 in
theorem contract (H : Type) (enc : TypeId × Value → H) (W : World) (base : Nat) (args : Array Value) (ds gs : List (DataW H)) (before : List MemPlace)
    (hval : ∀ (j : Nat) t v, Tryd.f3.params[j]? = some t → args[j]? = some v → Value.okWide Tryd.prog W .any base t v)
    (hW : DataW.Whole enc Tryd.prog Tryd.f3.params.toList Rows.catchFirstSpec.vars false W args.toList ds gs before) (hk : Rows.uptoSmall H (ds ++ gs) = true) (hL : laidMetH Tryd.prog Rows.catchFirstUptoRow.laid W) :
    Calls Tryd.prog 3 args W fun e W' => ∃ v, e = .returned v ∧ Rows.catchFirstSpec.post enc Tryd.prog Tryd.f3 false true false false W args v W' := by
  have hW' := hW
  obtain ⟨p, q, hA0, hV, rfl, hfz, hnd⟩ := hW
  have hA : DataW.TrodAll enc Tryd.prog W 0 (fun _ => true) true Tryd.f3.params.toList args.toList ds p := hA0
  rw [Tryd.params3] at hA hval
  obtain ⟨v0, vs0, d0, ds0, p0, q0, hargs, rfl, rfl, h0, r0⟩ := trodAll_cons hA
  obtain ⟨v1, vs1, d1, ds1, p1, q1, rfl, rfl, rfl, h1, r1⟩ := trodAll_cons r0
  obtain ⟨v2, vs2, d2, ds2, p2, q2, rfl, rfl, rfl, h2, r2⟩ := trodAll_cons r1
  obtain ⟨v3, vs3, d3, ds3, p3, q3, rfl, rfl, rfl, h3, r3⟩ := trodAll_cons r2
  obtain ⟨v4, vs4, d4, ds4, p4, q4, rfl, rfl, rfl, h4, r4⟩ := trodAll_cons r3
  obtain ⟨rfl, rfl, rfl⟩ := trodAll_nil r4
  obtain rfl : args = #[v0, v1, v2, v3, v4] := by cases args; simp_all
  obtain ⟨rfl, rfl⟩ := trodVars_none hV
  clear hA0 hA r0 r1 r2 r3 r4 hargs
  have hb : Rows.uptoBulkAll [d0, d1, d2, d3, d4] ≤ 1048576 := by
    have := of_decide_eq_true hk
    simpa using this
  simp only [Rows.uptoBulkAll] at hb
  have hlt : ∀ x, (x ∈ p0 ∨ x ∈ p1 ∨ x ∈ p2 ∨ x ∈ p3 ∨ x ∈ p4) → x.block < W.heap.size := fun x hx => hW'.lt x (by
    simp only [List.append_nil, List.mem_append]
    rcases hx with h | h | h | h | h <;> simp [h])
  -- the arguments, opened
  obtain ⟨a0, n0, c0, rfl⟩ := okWide_slice Tryd.underlying22 (hval 0 22 v0 rfl rfl)
  obtain ⟨a4, n4, c4, rfl⟩ := okWide_slice Tryd.underlying24 (hval 4 24 v4 rfl rfl)
  obtain ⟨cs, rfl, hcs⟩ := okWide_struct Tryd.underlying26 (hval 1 26 v1 rfl rfl)
  rw [cellsM] at hcs
  have hval2 := hval 2 3 v2 rfl rfl
  have hval3 := hval 3 9 v3 rfl rfl
  have h0' := h0
  have h1' := h1
  have h2' := h2
  have h3' := h3
  have h4' := h4
  obtain ⟨pos, rfl, rfl, rfl, hpos⟩ := open_int Tryd.underlying3 hval2 h2
  obtain ⟨s, rfl, rfl, rfl, hs⟩ := Go.ChangeMaps.open_string Tryd.underlying9 hval3 h3
  obtain ⟨f0, e0⟩ := h0
  obtain ⟨f1, e1⟩ := h1
  obtain ⟨f4, e4⟩ := h4
  obtain ⟨l, hl1, hl2⟩ := read_classes (x := (d0, p0)) e0 (by show Rows.uptoBulk d0 ≤ _; omega)
  obtain ⟨t, ht1, ht2, ht3⟩ := read_handlers (x := (d4, p4)) e4 (by show Rows.uptoBulk d4 ≤ _; omega)
  obtain ⟨m, ⟨cv, hv, hm0, hm1, hm2⟩, hm3⟩ := read_method _ _ (d1, p1) (by simpa [Value.cells] using hcs) e1
  obtain ⟨hm4, hm5⟩ := hm3 (by show Rows.uptoBulk d1 ≤ _; omega)
  have hmv : Value.agg cs = methodV m cv hv := by
    simp only [Value.cells] at hm0
    unfold methodV
    congr 1
    exact Array.toList_inj.1 hm0
  rw [hmv] at h1' hW' ⊢
  have hLd : Laid W := laid_of (by kernel_rfl) (by kernel_rfl) hL
  have walk := catchFirst_any l (.slice a0 n0 c0) m cv hv pos s t (.slice a4 n4 c4) W hLd hl2 hl1 hm4.handlers hm1 hm2 ht2 ht1 hs hm5 ht3
  refine walk.mono fun e W' ⟨he, hnx⟩ => ?_
  subst he
  refine ⟨_, rfl, _, _, _, [], p0 ++ (p1 ++ ([] ++ ([] ++ (p4 ++ [])))), [], hW', trodAll_cons_mk (shut_bool Tryd.underlying4 _) trodAll_mk0, ?_, rfl, hnx.frame _, fun h => by cases h⟩
  exact trodAll_cons_mk (Below.trod laidOut (by kernel_rfl) (of_decide_eq_true (by kernel_rfl)) h0' hnx (fun x hx => hlt x (Or.inl hx)))
    (trodAll_cons_mk (Below.trod laidOut (by kernel_rfl) (of_decide_eq_true (by kernel_rfl)) h1' hnx (fun x hx => hlt x (Or.inr (Or.inl hx))))
    (trodAll_cons_mk (Below.trod laidOut (by kernel_rfl) (of_decide_eq_true (by kernel_rfl)) h2' hnx (fun x hx => hlt x (Or.inr (Or.inr (Or.inl hx)))))
    (trodAll_cons_mk (Below.trod laidOut (by kernel_rfl) (of_decide_eq_true (by kernel_rfl)) h3' hnx (fun x hx => hlt x (Or.inr (Or.inr (Or.inr (Or.inl hx))))))
    (trodAll_cons_mk (Below.trod laidOut (by kernel_rfl) (of_decide_eq_true (by kernel_rfl)) h4' hnx (fun x hx => hlt x (Or.inr (Or.inr (Or.inr (Or.inr hx)))))) trodAll_mk0))))
def leaf : DataW Unit → Value
  | .lit (.int k n) => .int k n
  | .lit (.string b) => .string ⟨b.toArray⟩
  | _ => .bool false
def row1 : DataW Unit → List Value
  | .agg l => l.map leaf
  | _ => []
def row2 : DataW Unit → List Value
  | .agg l => l.flatMap row1
  | _ => []
def setCells (vs : List Value) : Obj → Obj
  | .cells _ t frozen => .cells vs.toArray t frozen
  | o => o
/-- a world in which the listed variables hold what the text lays -/
noncomputable def laidWorld (os : Os) : World :=
  { World.holding Tryd.prog os ⟨#[], #[], []⟩ with heap := (((World.holding Tryd.prog os ⟨#[], #[], []⟩).heap.modify 2 (setCells (row2 Rows.laid_unicode_utf8_acceptRanges))).modify 3 (setCells (row2 Rows.laid_coffeehouse_ins_forms))).modify 1 (setCells (row1 Rows.laid_unicode_utf8_first)) }
def wArgs : Array Value := #[.slice none 0 0, .agg #[.string .empty, .string .empty, .bool false, .bool false, .bool false, .int .i64 0, .slice none 0 0, .slice none 0 0], .int .i64 0, .string .empty, .slice none 0 0]
theorem laid_met (os : Os) : laidMet Tryd.prog Rows.catchFirstUptoRow.laid ((laidWorld os).forCall (fun _ _ => 0) ⟨#[], wArgs, []⟩).memory :=
  laidMet_of_run' 8 (by kernel_rfl) (by kernel_rfl)
theorem reads (os : Os) {H : Type} (enc : TypeId × Value → H) : ∃ places, DataW.whole enc Tryd.prog ((laidWorld os).forCall (fun _ _ => 0) ⟨#[], wArgs, []⟩).memory Tryd.f3.params.toList Rows.catchFirstSpec.vars false wArgs.toList 8 = some ([.nil, .agg [.lit (.string []), .lit (.string []), .lit (.bool false), .lit (.bool false), .lit (.bool false), .lit (.int .i64 0), .nil, .nil], .lit (.int .i64 0), .lit (.string []), .nil], [], places) :=
  ⟨[], by kernel_rfl⟩
set_option maxRecDepth 100000 in
theorem liftedUpto (os : Os) (started : os.Started) (H : Type) (enc : TypeId × Value → H) (F : Stop.Interp) :
    ReturnsInHanded {} Tryd.checked os 3 .any ((Rows.OpenSpec.upto Rows.catchFirstSpec).preRow enc Tryd.prog Tryd.f3 Rows.catchFirstUptoRow.domain false Rows.catchFirstUptoRow.laid) (((Rows.OpenSpec.upto Rows.catchFirstSpec).at F).post enc Tryd.prog Tryd.f3 false true false false) := by
  obtain ⟨places, hx⟩ := reads os enc
  refine returnsInHanded_of_row (C := Tryd.checked) (s := Rows.OpenSpec.upto Rows.catchFirstSpec) own started (by kernel_rfl) Tryd.func3
    (witness_row_at (enc := enc) (C := Tryd.checked) false (laidWorld os) wArgs rfl (by kernel_rfl) (by kernel_rfl) (by kernel_rfl)
      (OpenSpec.preRow_of_cond 8 hx (by kernel_rfl) (fun k hk => by cases hk; kernel_rfl) (by kernel_rfl) (laid_met os))) ?_
  intro W base args ds gs before hval hW _ hcond _ hL _ _
  exact contract H enc W base args ds gs before hval hW (hcond _ rfl) hL
theorem saidUpto : Rows.CatchFirstUptoSaid :=
  OpenClaim.holds_of_cond 3 Tryd.f3 rfl rfl rfl rfl rfl rfl rfl ⟨rfl, rfl, rfl, rfl, rfl⟩ rfl rfl rfl rfl rfl (by kernel_rfl) Tryd.func3 (by kernel_rfl)
    (of_decide_eq_true (by kernel_rfl)) (by unfold Func.isWrapper; first | (rw [if_pos (by decide +kernel)]; kernel_rfl) | (rw [if_neg (by decide +kernel)]; exact ⟨rfl, rfl⟩))
    (fun os started H enc _ F => by rw [OpenClaim.pre_eq_preRow]; exact liftedUpto os started H enc F)
theorem plain (f : FuncId) (fn : Func) (hf : Tryd.pinned.checked.prog.funcNamed "coffeehouse/coffeehouselaw3.CatchFirst" = some f) (hfn : Tryd.pinned.checked.prog.funcs[f]? = some fn) :
    true = Tryd.pinned.checked.prog.looks [] ∧ ∀ (j : Nat) t, fn.params[j]? = some t → Tryd.pinned.checked.prog.wantsStandIn t = false := by
  obtain rfl : f = 3 := Option.some.inj ((show Tryd.prog.funcNamed "coffeehouse/coffeehouselaw3.CatchFirst" = some 3 by kernel_rfl).symm.trans hf) |>.symm
  obtain rfl : fn = Tryd.f3 := (Option.some.inj (Tryd.func3.symm.trans hfn)).symm
  refine ⟨by kernel_rfl, fun j t ht => ?_⟩
  rw [Tryd.params3] at ht
  have hm : t ∈ [22, 26, 3, 9, 24] := by simpa using Array.mem_of_getElem? ht
  simp only [List.mem_cons, List.mem_nil_iff, or_false] at hm
  rcases hm with rfl | rfl | rfl | rfl | rfl
  · exact (show Tryd.prog.wantsStandIn 22 = false by kernel_rfl)
  · exact (show Tryd.prog.wantsStandIn 26 = false by kernel_rfl)
  · exact (show Tryd.prog.wantsStandIn 3 = false by kernel_rfl)
  · exact (show Tryd.prog.wantsStandIn 9 = false by kernel_rfl)
  · exact (show Tryd.prog.wantsStandIn 24 = false by kernel_rfl)
theorem proved : Rows.CatchFirstUptoCardSaid :=
  Claim7.holds_tied_plain_at .later [] _ _ _ _ saidUpto (fun _ h => by cases h) (by kernel_rfl) (fun _ h => by cases h) catchFirstUpto_row_tie rfl ⟨rfl, rfl⟩ (by kernel_rfl) rfl plain (by kernel_rfl)
end Go.Proofs.YtjemmdnjagnblaaDoor.catchFirst
