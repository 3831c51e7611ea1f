/-
  WALK over the law CatchFirst. Conditions: as in XWhich; at most 1048576 handlers.
-/
import Derived.Test.YtjemmdnjagnblaaDoorFlat
import Derived.Laws.AppendOwnNone
import Derived.Maps.AppendAt
namespace Go.Proofs.YtjemmdnjagnblaaDoor
open Go.RowKit Go.Shelf Go.Lib
def caughtH : Handler := ⟨0, 2, 5, sObject⟩
def caughtM : Method := ⟨.empty, .empty, false, false, false, 0, [], [caughtH]⟩
theorem caught_plain : whichR [] caughtM.handlers 1 sFault = (5, 0) := by decide +kernel
set_option maxHeartbeats 1000000 in
set_option maxRecDepth 100000 in
theorem caught_any (w : World) (hl : Laid w) : Calls Tryd.prog 4 #[] w fun e w' => e = .returned (.bool true) ∧ Below w.heap.size w w' := by
  have hB := (Below.refl w.heap.size w).alloc (Nat.le_refl _) (.cells #[.int .i64 0, .int .i64 2, .int .i64 5, .string sObject] 33)
  have HW := Lib.hid (which_any [] (.slice none 0 0) caughtM (.slice none 0 0) (.slice (some ⟨w.heap.size, 0, none⟩) 1 1) 1 sFault _ (hl.mono hB hl.1) (fun c hc => by cases hc) (Or.inl ⟨rfl, rfl⟩)
    (fun h hh => by
      simp only [caughtM, List.mem_singleton] at hh; subst hh
      exact ⟨by unfold bd64; decide, by unfold bd64; decide, by unfold bd64; decide, by decide⟩)
    (Or.inr ⟨_, 1, rfl, by decide, by decide, fun i x hi => by
      simp only [caughtM] at hi
      match i, hi with
      | 0, hi => simp at hi; subst hi; exact ⟨_, rfl, rfl, rfl, by simp [Cells, caughtH]⟩⟩) (by decide) 5 0 caught_plain)
  have HB := Lib.hid hB
  clear hB
  simp only [methodV, caughtM, caughtH, sObject, sFault, show ByteArray.empty = ⟨#[]⟩ from rfl, show errV 0 = .nilIface from rfl] at HW HB
  go_enter Tryd.func4, Tryd.ntmps4
  go_wp2_with (go_at_call 5; (with_reducible refine HW.out.mono ?_); rintro e w2 ⟨rfl, hB2⟩)
  go_ret
  exact ⟨rfl, below_call HB.out (Nat.le_refl _) hB2⟩
theorem firstGo_app {cs : List Class} {ev : List Str} {pos r : Int} (hr : 0 ≤ r) (t : List Handler) : ∀ l : List Handler, firstGo cs ev pos l = (r, true) → firstGo cs ev pos (l ++ t) = (r, true)
  | [], h => by simp [firstGo] at h; omega
  | x :: l, h => by
    rw [List.cons_append]
    rw [firstGo] at h ⊢
    by_cases h1 : pos < x.lo ∨ x.hi ≤ pos
    · rw [if_pos h1] at h ⊢; exact firstGo_app hr t l h
    · rw [if_neg h1] at h ⊢
      by_cases h2 : (!(findC cs x.cls).isSome) = true
      · rw [if_pos h2] at h; simp at h
      · rw [if_neg h2] at h ⊢
        by_cases h3 : memB ev x.cls = true
        · rw [if_pos h3] at h ⊢; exact h
        · rw [if_neg h3] at h ⊢; exact firstGo_app hr t l h
structure WhichYes (l : List Class) (hs : List Handler) (pos : Int) (n : Str) (r : Int) : Prop where
  read : readFault l = 0
  small : hs.length ≤ 8
  known : (findC (allC l) n).isSome = true
  go : firstGo (allC l) (everyC (allC l) n) pos hs = (r, true)
theorem whichR_yes {l : List Class} {hs : List Handler} {pos r : Int} {n : Str} (h : whichR l hs pos n = (r, 0)) : WhichYes l hs pos n r := by
  unfold whichR at h
  by_cases h1 : readFault l ≠ 0
  · rw [if_pos h1] at h; simp only [Prod.mk.injEq] at h; exact absurd h.2 h1
  · rw [if_neg h1] at h
    by_cases h2 : 8 < hs.length
    · rw [if_pos h2] at h; simp at h
    · rw [if_neg h2] at h
      by_cases h3 : (!(findC (allC l) n).isSome) = true
      · rw [if_pos h3] at h; simp at h
      · rw [if_neg h3] at h
        by_cases h4 : (firstGo (allC l) (everyC (allC l) n) pos hs).2 = true
        · rw [if_pos h4] at h
          simp only [Prod.mk.injEq] at h
          exact ⟨by simpa using h1, by omega, by cases hq : (findC (allC l) n).isSome with | true => rfl | false => exact absurd (by rw [hq]; rfl) h3, Prod.ext h.1 h4⟩
        · rw [if_neg h4] at h; simp at h
theorem whichR_of {l : List Class} {hs : List Handler} {pos r : Int} {n : Str} (h1 : readFault l = 0) (h2 : hs.length ≤ 8) (h3 : (findC (allC l) n).isSome = true) (h4 : firstGo (allC l) (everyC (allC l) n) pos hs = (r, true)) : whichR l hs pos n = (r, 0) := by
  unfold whichR
  rw [if_neg (by rw [h1]; decide), if_neg (by omega), if_neg (by rw [h3]; decide), h4]; rfl
theorem whichR_full {l : List Class} {hs : List Handler} {pos : Int} {n : Str} (h1 : readFault l = 0) (h2 : 8 < hs.length) : whichR l hs pos n = (0, 4) := by
  unfold whichR
  rw [if_neg (by rw [h1]; decide), if_pos h2]
theorem firstGo_object {l : List Class} (hr : Right l) {pos : Int} {n : Str} (hk : (findC (allC l) n).isSome = true) (hs : List Handler) : firstGo (allC l) (everyC (allC l) n) pos (⟨pos, pos + 1, 7, sObject⟩ :: hs) = (7, true) := by
  rw [firstGo, if_neg (by simp; omega), if_neg (by simp [findC, allC, cObject, noClass]), if_pos (memB_iff.2 (hr.object _ n hk (Nat.le_refl _)))]
theorem cells_put7 {w : World} {b : Nat} {a0 a1 a2 a3 a4 a5 a6 a7 u : Value} (z : Cells w b 0 [a0, a1, a2, a3, a4, a5, a6, a7]) : Cells (w.setCell ⟨b, 7, none⟩ u) b 0 [a0, a1, a2, a3, a4, a5, a6, u] := by
  obtain ⟨c0, c1, c2, c3, c4, c5, c6, c7, _⟩ := z
  exact ⟨(World.cell?_setCell_other _ _ _ _ (by simp)).trans c0, (World.cell?_setCell_other _ _ _ _ (by simp)).trans c1, (World.cell?_setCell_other _ _ _ _ (by simp)).trans c2, (World.cell?_setCell_other _ _ _ _ (by simp)).trans c3, (World.cell?_setCell_other _ _ _ _ (by simp)).trans c4, (World.cell?_setCell_other _ _ _ _ (by simp)).trans c5, (World.cell?_setCell_other _ _ _ _ (by simp)).trans c6, World.cell?_setCell_same _ _ _ c7, trivial⟩
theorem heap_put {w : World} {b : Nat} {u : Value} {g : Nat} (h : g ≠ b) : (w.setCell ⟨b, 7, none⟩ u).heap[g]? = w.heap[g]? := Below.heap_setCell w ⟨b, 7, none⟩ u g h
theorem ownsRow_h1 (w : World) (h : Handler) : (w.alloc (.cells #[.int .i64 h.lo, .int .i64 h.hi, .int .i64 h.dest, .string h.cls] 33)).ownsRow w.heap.size 33 4 (.slice (some ⟨w.heap.size, 0, none⟩) 1 1) [h].length (flat [h]) :=
  ⟨rfl, Or.inr ⟨w.heap.size, 1, _, rfl, Nat.le_refl _, heap_alloc_new _ _, Nat.le_refl _, by decide, rfl, rfl⟩⟩
theorem ownsRow_zero (w : World) : (w.alloc (.cells #[] 33)).ownsRow w.heap.size 33 4 (.slice (some ⟨w.heap.size, 0, none⟩) 0 0) ([] : List Handler).length (flat []) :=
  ⟨rfl, Or.inr ⟨w.heap.size, 0, #[], rfl, Nat.le_refl _, heap_alloc_new _ _, Nat.le_refl _, by decide, rfl, rfl⟩⟩
set_option maxHeartbeats 4000000 in
set_option maxRecDepth 100000 in
theorem catchFirst_any (l : List Class) (lv : Value) (m : Method) (cv hv : Value) (pos : Int) (n : Str) (hs2 : List Handler) (h2v : Value) (w : World) (hl : Laid w) (ho : ∀ c ∈ l, ClassOk c) (hlv : ClassesAt w lv l) (hho : ∀ h ∈ m.handlers, HandlerOk h) (hcv : SliceOf w 6 InsCells cv m.code) (hhv : SliceOf w 4 HandlerCells hv m.handlers)
    (h2o : ∀ h ∈ hs2, HandlerOk h) (h2 : SliceOf w 4 HandlerCells h2v hs2) (hn : n.size ≤ maxLen) (k1 : m.handlers.length ≤ 1048576) (k2 : hs2.length ≤ 1048576) :
    Calls Tryd.prog 3 #[lv, methodV m cv hv, .int .i64 pos, .string n, h2v] w fun e w' => e = .returned (.bool true) ∧ Below w.heap.size w w' := by
  have HCa : Hid (∀ wx, Below w.heap.size w wx → _) := fun wx hb => caught_any wx (hl.mono hb hl.1)
  have HWh : Hid (∀ wx (hs : List Handler) hvx (r : Int) (f : Nat), Below w.heap.size w wx → (∀ h ∈ hs, HandlerOk h) → SliceOf wx 4 HandlerCells hvx hs → whichR l hs pos n = (r, f) → _) := fun wx hs hvx r f hb hhs hhx hr => which_any l lv { m with handlers := hs } cv hvx pos n wx (hl.mono hb hl.1) ho (hlv.mono hb) hhs hhx hn r f hr
  obtain ⟨pl, capl, rfl, hd1, hd2, _⟩ := hlv.open
  obtain ⟨pc, capc, rfl, he1, he2, _⟩ := hcv.open
  obtain ⟨ph, caph, rfl, hc1, hc2, _⟩ := hhv.open
  obtain ⟨p2, cap2, rfl, hg1, hg2, _⟩ := h2.open
  have HB1 := Lib.hid ((Below.refl w.heap.size w).alloc (Nat.le_refl _) (.cells #[.string m.name, .string m.type, .bool m.static, .bool m.abs, .bool m.priv, .int .i64 m.locals, .slice pc m.code.length capc, .slice ph m.handlers.length caph] 26))
  have HHV := Lib.hid hhv
  have HHO := Lib.hid hho
  clear hhv hho hlv hcv
  cases hw : whichR l m.handlers pos n with
  | mk r f =>
  by_cases hbad : f ≠ 0 ∨ r < 0 ∨ pos < 0 ∨ 40 < pos
  · have hW1 : Hid (∀ wx, Below w.heap.size w wx → _) := fun wx hb => HWh.out wx m.handlers _ r f hb HHO.out (HHV.out.mono hb (by decide) (fun _ _ h => h)) hw
    unfold methodV at *
    have HBad := Lib.hid hbad
    clear hbad HWh hw
    dsimp only at *
    rcases errV_cases f with ⟨hv1, hz⟩ | ⟨hv1, hz⟩
    · rw [hv1] at hW1
      go_enter Tryd.func3, Tryd.ntmps3
      go_wp2_with (first
        | (go_at_call 4; (with_reducible refine (HCa.out _ HB1.out).mono ?_); rintro e w2 ⟨rfl, hB2⟩; obtain ⟨hcl, _⟩ := bcell hB2; (have r0 := hcl w.heap.size 0 (by simp)); (have r1 := hcl w.heap.size 1 (by simp)); (have r2 := hcl w.heap.size 2 (by simp)); (have r3 := hcl w.heap.size 3 (by simp)); (have r4 := hcl w.heap.size 4 (by simp)); (have r5 := hcl w.heap.size 5 (by simp)); (have r6 := hcl w.heap.size 6 (by simp)); (have r7 := hcl w.heap.size 7 (by simp)))
        | (go_at_call 5; (with_reducible refine (hW1.out _ (below_call HB1.out (Nat.le_refl _) hB2)).mono ?_); rintro e w3 ⟨rfl, hB3⟩))
      all_goals first | (exfalso; have := HBad.out; omega) | skip
      all_goals
        go_ret
        exact ⟨rfl, below_call (below_call HB1.out (Nat.le_refl _) hB2) (Nat.le_refl _) hB3⟩
    · rw [hv1] at hW1
      go_enter Tryd.func3, Tryd.ntmps3
      go_wp2_with (first
        | (go_at_call 4; (with_reducible refine (HCa.out _ HB1.out).mono ?_); rintro e w2 ⟨rfl, hB2⟩; obtain ⟨hcl, _⟩ := bcell hB2; (have r0 := hcl w.heap.size 0 (by simp)); (have r1 := hcl w.heap.size 1 (by simp)); (have r2 := hcl w.heap.size 2 (by simp)); (have r3 := hcl w.heap.size 3 (by simp)); (have r4 := hcl w.heap.size 4 (by simp)); (have r5 := hcl w.heap.size 5 (by simp)); (have r6 := hcl w.heap.size 6 (by simp)); (have r7 := hcl w.heap.size 7 (by simp)))
        | (go_at_call 5; (with_reducible refine (hW1.out _ (below_call HB1.out (Nat.le_refl _) hB2)).mono ?_); rintro e w3 ⟨rfl, hB3⟩))
      go_ret
      exact ⟨rfl, below_call (below_call HB1.out (Nat.le_refl _) hB2) (Nat.le_refl _) hB3⟩
  · simp only [not_or, Int.not_lt, Decidable.not_not] at hbad
    obtain ⟨rfl, hr0, hp0, hp4⟩ := hbad
    have hW1 : Hid (∀ wx, Below w.heap.size w wx → _) := fun wx hb => HWh.out wx m.handlers _ r 0 hb HHO.out (HHV.out.mono hb (by decide) (fun _ _ h => h)) hw
    have e0 : errV 0 = .nilIface := rfl
    rw [e0] at hW1
    have HY := Lib.hid (whichR_yes hw)
    obtain ⟨i0, hi, hz0, hz1, hz2⟩ := info_parts info_handler
    unfold methodV at *
    dsimp only at *
    clear hw
    go_enter Tryd.func3, Tryd.ntmps3
    go_upto_region 5 with (first
        | (go_at_call 4; (with_reducible refine (HCa.out _ HB1.out).mono ?_); rintro e w2 ⟨rfl, hB2⟩; obtain ⟨hcl, _⟩ := bcell hB2; (have r0 := hcl w.heap.size 0 (by simp)); (have r1 := hcl w.heap.size 1 (by simp)); (have r2 := hcl w.heap.size 2 (by simp)); (have r3 := hcl w.heap.size 3 (by simp)); (have r4 := hcl w.heap.size 4 (by simp)); (have r5 := hcl w.heap.size 5 (by simp)); (have r6 := hcl w.heap.size 6 (by simp)); (have r7 := hcl w.heap.size 7 (by simp)))
        | (go_at_call 5; (with_reducible refine (hW1.out _ (below_call HB1.out (Nat.le_refl _) hB2)).mono ?_); rintro e w3 ⟨rfl, hB3⟩))
    have BX : Boxed w w3 [.string m.name, .string m.type, .bool m.static, .bool m.abs, .bool m.priv, .int .i64 m.locals, .slice pc m.code.length capc, .slice ph m.handlers.length caph] := ⟨below_call (below_call HB1.out (Nat.le_refl _) hB2) (Nat.le_refl _) hB3, Nat.lt_of_lt_of_le (by simp) (Nat.le_trans hB2.size hB3.size), Cells.mono hB3 (Nat.lt_of_lt_of_le (by simp) hB2.size) (Cells.mono hB2 (by simp) (by simp [Cells]))⟩
    clear r0 r1 r2 r3 r4 r5 r6 r7 hcl hB2 hB3
    obtain ⟨q0, q1, q2, q3, q4, q5, q6, q7⟩ := boxed8 BX
    have hszw := BX.size
    have t1 : decide (r < 0) = false := by simpa using hr0
    have t2 : decide (pos < 0) = false := by simpa using hp0
    have t3 : decide (40 < pos) = false := by simpa using hp4
    go_upto_region 8 with (first | fail)
    have BY : Boxed w3 (w3.alloc (.cells #[.string m.name, .string m.type, .bool m.static, .bool m.abs, .bool m.priv, .int .i64 m.locals, .slice pc m.code.length capc, .slice ph m.handlers.length caph] 26)) [.string m.name, .string m.type, .bool m.static, .bool m.abs, .bool m.priv, .int .i64 m.locals, .slice pc m.code.length capc, .slice ph m.handlers.length caph] := ⟨(Below.refl _ _).alloc (Nat.le_refl _) _, by simp, by simp [Cells]⟩
    have hfz : (w3.alloc (.cells #[.string m.name, .string m.type, .bool m.static, .bool m.abs, .bool m.priv, .int .i64 m.locals, .slice pc m.code.length capc, .slice ph m.handlers.length caph] 26)).frozen? ⟨w3.heap.size, 7, none⟩ = false := by simp
    have BX4 := BX.step BY.below
    generalize w3.alloc (.cells #[.string m.name, .string m.type, .bool m.static, .bool m.abs, .bool m.priv, .int .i64 m.locals, .slice pc m.code.length capc, .slice ph m.handlers.length caph] 26) = w4 at *
    clear q0 q1 q2 q3 q4 q5 q6 q7 hszw
    obtain ⟨q0, q1, q2, q3, q4, q5, q6, q7⟩ := boxed8 BX4
    have hszw := BX4.size
    have hlt4 := BY.size
    have hS5 := HHV.out.mono (BX4.alloc (.cells #[] 33)).below (by decide) (fun _ _ h => h)
    have hB5 : Below w4.heap.size w4 (w4.alloc (.cells #[] 33)) := (Below.refl _ _).alloc (Nat.le_refl _) _
    have bd1 : ([] : List Handler).length + m.handlers.length ≤ 4194304 := by simp; omega
    have bd2 : m.handlers.length + hs2.length ≤ 4194304 := by omega
    go_upto_region 9 with (first
      | (at_builtin; refine append_handlers rfl _ _ rfl w4.heap.size _ m.handlers rfl ho1 _ hs2 rfl (h2.mono (BX4.step hB1).below (by decide) (fun _ _ h => h)) bd2 hB1.size ?_; intro v2 w6 ho2 hg2; obtain ⟨va, vc, rfl⟩ := ownsRow_shape ho2; (have hB2 := hB1.grown hg2 hB1.size (fun k hk => (ho1.lt k hk).1)); (have z7 := (hB2.cell (p := ⟨w3.heap.size, 7, none⟩) hlt4).trans (boxed8 BY).2.2.2.2.2.2.2); (have zf := (hB2.frozen (p := ⟨w3.heap.size, 7, none⟩) hlt4).trans hfz))
      | (at_builtin; refine append_handlers rfl _ _ rfl w4.heap.size _ [] rfl (ownsRow_zero w4) _ m.handlers rfl hS5 bd1 hB5.size ?_; intro v1 w5 ho1 hg1; (have hB1 := hB5.grown hg1 hB5.size (fun k hk => ((ownsRow_zero w4).lt k hk).1))))
    have BY6 : Boxed w3 w6 [.string m.name, .string m.type, .bool m.static, .bool m.abs, .bool m.priv, .int .i64 m.locals, .slice pc m.code.length capc, .slice ph m.handlers.length caph] := BY.step hB2
    have hN : (m.handlers ++ hs2).length = m.handlers.length + hs2.length := List.length_append
    have BY7 : Boxed w3 (w6.setCell ⟨w3.heap.size, 7, none⟩ (.slice va (m.handlers.length + hs2.length) vc)) [.string m.name, .string m.type, .bool m.static, .bool m.abs, .bool m.priv, .int .i64 m.locals, .slice pc m.code.length capc, .slice va (m.handlers.length + hs2.length) vc] := ⟨BY6.below.setCell (Nat.le_refl _) _, by simpa using BY6.size, cells_put7 BY6.cells⟩
    have hs7 : SliceOf (w6.setCell ⟨w3.heap.size, 7, none⟩ (.slice va (m.handlers.length + hs2.length) vc)) 4 HandlerCells (.slice va (m.handlers.length + hs2.length) vc) (m.handlers ++ hs2) := by
      have h0 := sliceOf_flat ho2
      rw [hN] at h0
      exact h0.block (by decide) (fun g hg => heap_put (by have := (ho2.lt g (by rw [hN]; exact hg)).1; omega))
    clear z7 zf ho2 hg2 ho1 hg1 hB1 hB2 hB5 hS5 BY6 q0 q1 q2 q3 q4 q5 q6 q7 hszw hlt4 BX4 hfz BY t1 t2 t3
    generalize w6.setCell ⟨w3.heap.size, 7, none⟩ (.slice va (m.handlers.length + hs2.length) vc) = w7 at *
    have BX7 := BX.step BY7.below
    cases hw2 : whichR l (m.handlers ++ hs2) pos n with
    | mk kk ff =>
    have hW2 := Lib.hid (HWh.out w7 (m.handlers ++ hs2) _ kk ff BX7.below (fun h hh => by
      rcases List.mem_append.1 hh with hh | hh
      · exact HHO.out h hh
      · exact h2o h hh) hs7 hw2)
    obtain ⟨z0, z1, z2, z3, z4, z5, z6, z7⟩ := boxed8 BY7
    go_upto_region 10 with (go_at_call 5; (with_reducible refine hW2.out.mono ?_); rintro e w8 ⟨rfl, hB8⟩)
    have BX8 := BX7.step hB8
    have BZ8 := BY7.step hB8
    clear hB8 hs7 z0 z1 z2 z3 z4 z5 z6 z7 hW2 BX7
    obtain ⟨q0, q1, q2, q3, q4, q5, q6, q7⟩ := boxed8 BX8
    have hszw := BX8.size
    go_upto_region 11 with (first | fail)
    have BY : Boxed w8 (w8.alloc (.cells #[.string m.name, .string m.type, .bool m.static, .bool m.abs, .bool m.priv, .int .i64 m.locals, .slice pc m.code.length capc, .slice ph m.handlers.length caph] 26)) [.string m.name, .string m.type, .bool m.static, .bool m.abs, .bool m.priv, .int .i64 m.locals, .slice pc m.code.length capc, .slice ph m.handlers.length caph] := ⟨(Below.refl _ _).alloc (Nat.le_refl _) _, by simp, by simp [Cells]⟩
    have hfz : (w8.alloc (.cells #[.string m.name, .string m.type, .bool m.static, .bool m.abs, .bool m.priv, .int .i64 m.locals, .slice pc m.code.length capc, .slice ph m.handlers.length caph] 26)).frozen? ⟨w8.heap.size, 7, none⟩ = false := by simp
    have BX9 := BX8.step BY.below
    generalize w8.alloc (.cells #[.string m.name, .string m.type, .bool m.static, .bool m.abs, .bool m.priv, .int .i64 m.locals, .slice pc m.code.length capc, .slice ph m.handlers.length caph] 26) = w9 at *
    clear q0 q1 q2 q3 q4 q5 q6 q7 hszw
    obtain ⟨q0, q1, q2, q3, q4, q5, q6, q7⟩ := boxed8 BX9
    have hszw := BX9.size
    have hlt9 := BY.size
    have hB5 : Below w9.heap.size w9 (w9.alloc (.cells #[.int .i64 pos, .int .i64 (pos + 1), .int .i64 7, .string sObject] 33)) := (Below.refl _ _).alloc (Nat.le_refl _) _
    have hS5 := HHV.out.mono (BX9.alloc (.cells #[.int .i64 pos, .int .i64 (pos + 1), .int .i64 7, .string sObject] 33)).below (by decide) (fun _ _ h => h)
    have bd3 : [(⟨pos, pos + 1, 7, sObject⟩ : Handler)].length + m.handlers.length ≤ 4194304 := by simp; omega
    have hrow := ownsRow_h1 w9 ⟨pos, pos + 1, 7, sObject⟩
    have hwr : wrap64 (pos + 1) = pos + 1 := by unfold wrap64; omega
    simp only [sObject] at hS5 hrow hB5
    go_upto_region 12 with (at_builtin; refine append_handlers rfl _ _ rfl w9.heap.size _ [⟨pos, pos + 1, 7, sObject⟩] rfl hrow _ m.handlers rfl hS5 bd3 hB5.size ?_; intro v2 w10 ho2 hg2; obtain ⟨va3, vc3, rfl⟩ := ownsRow_shape ho2; (have hB2 := hB5.grown hg2 hB5.size (fun k hk => (hrow.lt k hk).1)); (have z7 := (hB2.cell (p := ⟨w8.heap.size, 7, none⟩) hlt9).trans (boxed8 BY).2.2.2.2.2.2.2); (have zf := (hB2.frozen (p := ⟨w8.heap.size, 7, none⟩) hlt9).trans hfz))
    have hN3 : ([(⟨pos, pos + 1, 7, sObject⟩ : Handler)] ++ m.handlers).length = m.handlers.length + 1 := by simp
    have BY6 := BY.step (below_call ((Below.refl w9.heap.size w9)) (Nat.le_refl _) hB2)
    have BY7 : Boxed w8 (w10.setCell ⟨w8.heap.size, 7, none⟩ (.slice va3 (m.handlers.length + 1) vc3)) [.string m.name, .string m.type, .bool m.static, .bool m.abs, .bool m.priv, .int .i64 m.locals, .slice pc m.code.length capc, (.slice va3 (m.handlers.length + 1) vc3)] := ⟨BY6.below.setCell (Nat.le_refl _) _, by simpa using BY6.size, cells_put7 BY6.cells⟩
    have hs7 : SliceOf (w10.setCell ⟨w8.heap.size, 7, none⟩ (.slice va3 (m.handlers.length + 1) vc3)) 4 HandlerCells (.slice va3 (m.handlers.length + 1) vc3) ([⟨pos, pos + 1, 7, sObject⟩] ++ m.handlers) := by
      have h0 := sliceOf_flat ho2
      rw [hN3] at h0
      exact h0.block (by decide) (fun g hg => heap_put (by have := (ho2.lt g (by rw [hN3]; exact hg)).1; omega))
    clear z7 zf ho2 hg2 hB2 hB5 hS5 BY6 q0 q1 q2 q3 q4 q5 q6 q7 hszw hlt9 BX9 hfz BY hrow
    generalize w10.setCell ⟨w8.heap.size, 7, none⟩ (.slice va3 (m.handlers.length + 1) vc3) = w11 at *
    have BX11 := BX8.step BY7.below
    have BZ11 := BZ8.step BY7.below
    cases hw3 : whichR l ([⟨pos, pos + 1, 7, sObject⟩] ++ m.handlers) pos n with
    | mk jj gg =>
    have hW3 := Lib.hid (HWh.out w11 ([⟨pos, pos + 1, 7, sObject⟩] ++ m.handlers) _ jj gg BX11.below (fun h hh => by
      rcases List.mem_append.1 hh with hh | hh
      · simp only [List.mem_singleton] at hh; subst hh
        exact ⟨by unfold bd64; dsimp only; omega, by unfold bd64; dsimp only; omega, by unfold bd64; dsimp only; omega, (by decide : sObject.size ≤ 1048576)⟩
      · exact HHO.out h hh) hs7 hw3)
    obtain ⟨z0, z1, z2, z3, z4, z5, z6, z7⟩ := boxed8 BY7
    go_upto_region 13 with (go_at_call 5; (with_reducible refine hW3.out.mono ?_); rintro e w12 ⟨rfl, hB12⟩)
    have BX12 := BX11.step hB12
    have BZ12 := BZ11.step hB12
    have BY12 := BY7.step hB12
    clear z0 z1 z2 z3 z4 z5 z6 z7 hW3 hs7 HWh HCa hW1
    have y7 := (boxed8 BZ12).2.2.2.2.2.2.2
    have x7 := (boxed8 BY12).2.2.2.2.2.2.2
    have hR := right_of HY.out.read
    have hF : Hid ((8 < m.handlers.length + hs2.length ∧ kk = 0 ∧ ff = 4) ∨ (m.handlers.length + hs2.length ≤ 8 ∧ kk = r ∧ ff = 0)) := by
      by_cases h8 : 8 < m.handlers.length + hs2.length
      · rw [whichR_full HY.out.read (by rw [List.length_append]; exact h8)] at hw2
        simp only [Prod.mk.injEq] at hw2
        exact Or.inl ⟨h8, hw2.1.symm, hw2.2.symm⟩
      · rw [whichR_of HY.out.read (by rw [List.length_append]; omega) HY.out.known (firstGo_app hr0 hs2 _ HY.out.go)] at hw2
        simp only [Prod.mk.injEq] at hw2
        exact Or.inr ⟨by omega, hw2.1.symm, hw2.2.symm⟩
    have hG : Hid ((8 < m.handlers.length + 1 ∧ jj = 0 ∧ gg = 4) ∨ (m.handlers.length + 1 ≤ 8 ∧ jj = 7 ∧ gg = 0)) := by
      by_cases h8 : 8 < m.handlers.length + 1
      · rw [whichR_full HY.out.read (by rw [hN3]; exact h8)] at hw3
        simp only [Prod.mk.injEq] at hw3
        exact Or.inl ⟨h8, hw3.1.symm, hw3.2.symm⟩
      · have h3 := whichR_of (hs := [⟨pos, pos + 1, 7, sObject⟩] ++ m.handlers) (pos := pos) HY.out.read (by rw [hN3]; omega) HY.out.known (firstGo_object hR HY.out.known _)
        rw [h3] at hw3
        simp only [Prod.mk.injEq] at hw3
        exact Or.inr ⟨by omega, hw3.1.symm, hw3.2.symm⟩
    clear hw2 hw3 hR
    have hcmp : ∀ w, (binOp .eql 29 (.iface 34 (.int .i64 4)) (.iface 34 (.int .i64 4))).run Tryd.prog w = .ok (.bool true) w := fun w => by kernel_rfl
    have e4 : errV 4 = .iface 34 (.int .i64 4) := rfl
    rcases hF.out with ⟨f1, rfl, rfl⟩ | ⟨f1, rfl, rfl⟩ <;> rcases hG.out with ⟨g1, rfl, rfl⟩ | ⟨g1, rfl, rfl⟩
    all_goals
      simp only [e0, e4]
      go_wp2_with (first | fail)
      all_goals first | (exfalso; omega) | skip
      all_goals
        go_ret
        exact ⟨rfl, BX12.below⟩
end Go.Proofs.YtjemmdnjagnblaaDoor
