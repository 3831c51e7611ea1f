/-
  WALKS over the reference's typeMay. Conditions: as in XIns.
-/
import Derived.Test.YtinccnehfalfnaaGreatDoorRefInsFault
namespace Go.Proofs.YtinccnehfalfnaaGreatDoor
open Go.RowKit Go.Shelf Go.Lib
theorem refMethod_no_call {s : ByteArray} (hs : s.size ≤ 1048576) (h : methodR s = none) (w : World) : Calls Tryz.prog 46 #[.string s] w fun e w' => e = .returned (.tuple #[.slice none 0 0, .string .empty, .bool false]) ∧ Below w.heap.size w w' := by
  have := refMethod_any s w hs
  rw [h] at this
  exact this.mono fun e w' ⟨h1, h2⟩ => ⟨h2, h1⟩
def RefMethodYes (w : World) (args : List ByteArray) (g : ByteArray) (e : Ending) (w' : World) : Prop := ∃ a c, e = .returned (.tuple #[.slice a args.length c, .string g, .bool true]) ∧ StrsAt w' (.slice a args.length c) args ∧ Below w.heap.size w w'
theorem refMethod_yes_call {s : ByteArray} {args : List ByteArray} {g : ByteArray} (hs : s.size ≤ 1048576) (h : methodR s = some (args, g)) (w : World) : Calls Tryz.prog 46 #[.string s] w (RefMethodYes w args g) := by
  have := refMethod_any s w hs
  rw [h] at this
  refine this.mono fun e w' ⟨h1, v, h2, h3⟩ => ?_
  obtain ⟨a, c, rfl⟩ := strsAt_shape h3
  exact ⟨a, c, h2, h3, h1⟩
theorem refMay_num (x : Ins) (w : World) (h : x.op = 2 ∨ x.op = 9 ∨ x.op = 10) : Calls Tryz.prog 84 #[insV x] w fun e w' => e = .returned (.bool (typedB x)) ∧ Below w.heap.size w w' := by
  obtain ⟨op, a, b, type, cls, name⟩ := x
  have hfin : Hid (typedB ⟨op, a, b, type, cls, name⟩ = wordB type.data.toList) := by unfold Hid typedB; rw [if_pos h]
  have HW := Lib.hid (refIsWord_any type)
  unfold insV
  rcases h with rfl | rfl | rfl
  all_goals
    go_enter Tryz.func84, Tryz.ntmps84
    go_wp2_with (go_at_call 107; (with_reducible refine (HW.out _).mono ?_); rintro e w' ⟨rfl, rfl⟩)
    go_ret
    exact ⟨ret_bool (by rw [hfin.out]), by first | exact Below.refl _ _ | exact (Below.refl _ _).alloc (Nat.le_refl _) _⟩
theorem refMay_ref (x : Ins) (w : World) (hs : x.type.size ≤ 1048576) (h : x.op = 22 ∨ x.op = 23) : Calls Tryz.prog 84 #[insV x] w fun e w' => e = .returned (.bool (typedB x)) ∧ Below w.heap.size w w' := by
  obtain ⟨op, a, b, type, cls, name⟩ := x
  have hm : type.size ≤ maxLen := maxLen_of (Nat.le_trans hs (by decide))
  replace h : op = 22 ∨ op = 23 := h
  have hfin : Hid (typedB ⟨op, a, b, type, cls, name⟩ = refB type.data.toList) := by
    unfold Hid typedB refB; rw [if_neg (by simp; omega), if_neg (by simp; omega), if_pos h]
  have HR : Hid (∀ w, _) := fun w => refIsRef_any type w hm
  unfold insV
  clear hs hm
  rcases h with rfl | rfl
  all_goals
    go_enter Tryz.func84, Tryz.ntmps84
    go_wp2_with (go_at_call 109; (with_reducible refine (HR.out _).mono ?_); rintro e w' ⟨rfl, rfl⟩)
    go_ret
    exact ⟨ret_bool (by rw [hfin.out]), by first | exact Below.refl _ _ | exact (Below.refl _ _).alloc (Nat.le_refl _) _⟩
set_option maxHeartbeats 1000000 in
theorem refMay_call (x : Ins) (w : World) (hs : x.type.size ≤ 1048576) (h : x.op = 24 ∨ x.op = 25) : Calls Tryz.prog 84 #[insV x] w fun e w' => e = .returned (.bool (typedB x)) ∧ Below w.heap.size w w' := by
  obtain ⟨op, a, b, type, cls, name⟩ := x
  replace h : op = 24 ∨ op = 25 := h
  replace hs : type.size ≤ 1048576 := hs
  have hfin : Hid (typedB ⟨op, a, b, type, cls, name⟩ = (methodR type).isSome) := by
    unfold Hid typedB; rw [if_neg (by simp; omega), if_neg (by simp; omega), if_neg (by simp; omega), if_pos h]
  unfold insV
  cases hm : methodR type with
  | none =>
    have hC := Lib.hid (refMethod_no_call hs hm)
    have HT := Lib.hid hm
    clear hm hs
    rcases h with rfl | rfl
    all_goals
      go_enter Tryz.func84, Tryz.ntmps84
      go_wp2_with (go_at_call 46; (with_reducible refine (hC.out _).mono ?_); rintro e w2 ⟨rfl, hB⟩)
      go_ret
      exact ⟨ret_bool (by rw [hfin.out, HT.out]; rfl), by first | exact hB | exact below2 ((Below.refl _ _).alloc (Nat.le_refl _) _) hB⟩
  | some m =>
    obtain ⟨args, g⟩ := m
    have hC := Lib.hid (refMethod_yes_call hs hm)
    have HT := Lib.hid hm
    clear hm hs
    rcases h with rfl | rfl
    all_goals
      go_enter Tryz.func84, Tryz.ntmps84
      go_wp2_with (go_at_call 46; (with_reducible refine (hC.out _).mono ?_); rintro e w2 ⟨va, vc, rfl, hV, hB⟩)
      go_ret
      exact ⟨ret_bool (by rw [hfin.out, HT.out]; rfl), by first | exact hB | exact below2 ((Below.refl _ _).alloc (Nat.le_refl _) _) hB⟩
set_option maxHeartbeats 1000000 in
theorem refMay_else (x : Ins) (w : World) (h : ¬ (x.op = 2 ∨ x.op = 9 ∨ x.op = 10)) (h2 : ¬ (x.op = 18 ∨ x.op = 20 ∨ x.op = 21)) (h3 : ¬ (x.op = 22 ∨ x.op = 23)) (h4 : ¬ (x.op = 24 ∨ x.op = 25)) : Calls Tryz.prog 84 #[insV x] w fun e w' => e = .returned (.bool (typedB x)) ∧ Below w.heap.size w w' := by
  obtain ⟨op, a, b, type, cls, name⟩ := x
  have hfin : Hid (typedB ⟨op, a, b, type, cls, name⟩ = true) := by
    unfold Hid typedB; rw [if_neg h, if_neg h2, if_neg h3, if_neg h4]
  simp only [not_or] at h h2 h3 h4
  have n2 : (op == 2) = false := by simp [h.1]
  have n9 : (op == 9) = false := by simp [h.2.1]
  have n10 : (op == 10) = false := by simp [h.2.2]
  have n18 : (op == 18) = false := by simp [h2.1]
  have n20 : (op == 20) = false := by simp [h2.2.1]
  have n21 : (op == 21) = false := by simp [h2.2.2]
  have n22 : (op == 22) = false := by simp [h3.1]
  have n23 : (op == 23) = false := by simp [h3.2]
  have n24 : (op == 24) = false := by simp [h4.1]
  have n25 : (op == 25) = false := by simp [h4.2]
  unfold insV
  clear h h2 h3 h4
  go_enter Tryz.func84, Tryz.ntmps84
  go_wp2_with fail
  go_ret
  exact ⟨ret_bool (by rw [hfin.out]), by first | exact Below.refl _ _ | exact (Below.refl _ _).alloc (Nat.le_refl _) _⟩
set_option maxHeartbeats 1000000 in
theorem refMay_arr (x : Ins) (w : World) (hs : x.type.size ≤ 1048576) (h : x.op = 18 ∨ x.op = 20 ∨ x.op = 21) : Calls Tryz.prog 84 #[insV x] w fun e w' => e = .returned (.bool (typedB x)) ∧ Below w.heap.size w w' := by
  obtain ⟨op, a, b, type, cls, name⟩ := x
  have hm : type.size ≤ maxLen := maxLen_of (Nat.le_trans hs (by decide))
  replace h : op = 18 ∨ op = 20 ∨ op = 21 := h
  replace hs : type.size ≤ 1048576 := hs
  have hfin : Hid (typedB ⟨op, a, b, type, cls, name⟩ = (typeB type.data.toList && typeB (91 :: type.data.toList))) := by
    unfold Hid typedB; rw [if_neg (by simp; omega), if_pos h]
  have hT := refIsType_any type
  have HD : Hid (∀ w, _) := fun w => refDeep_any type w hm
  have hdl := typeB_deep type
  unfold insV
  cases hTT : typeB type.data.toList with
  | false =>
    rw [hTT] at hT hfin
    have HT : Hid (∀ w, _) := fun w => hT w hm
    clear hT hTT hm hs hdl
    rcases h with rfl | rfl | rfl
    all_goals
      go_enter Tryz.func84, Tryz.ntmps84
      go_wp2_with (go_at_call 33; (with_reducible refine (HT.out _).mono ?_); rintro e w2 ⟨rfl, rfl⟩)
      go_ret
      exact ⟨ret_bool (by rw [hfin.out]; rfl), by first | exact Below.refl _ _ | exact (Below.refl _ _).alloc (Nat.le_refl _) _⟩
  | true =>
    rw [hTT, hdl hTT] at hfin
    rw [hTT] at hT
    have HT : Hid (∀ w, _) := fun w => hT w hm
    clear hT hTT hm hs hdl
    generalize deepOf type.data.toList = d at *
    rcases h with rfl | rfl | rfl
    all_goals
      go_enter Tryz.func84, Tryz.ntmps84
      go_wp2_with (first | (go_at_call 33; (with_reducible refine (HT.out _).mono ?_); rintro e w2 ⟨rfl, rfl⟩) | (go_at_call 108; (with_reducible refine (HD.out _).mono ?_); rintro e w2 ⟨rfl, rfl⟩))
      go_ret
      exact ⟨ret_bool (by rw [hfin.out, Bool.eq_iff_iff]; simp; try omega), by first | exact Below.refl _ _ | exact (Below.refl _ _).alloc (Nat.le_refl _) _⟩
theorem refMay_any (x : Ins) (w : World) (hs : x.type.size ≤ 1048576) : Calls Tryz.prog 84 #[insV x] w fun e w' => e = .returned (.bool (typedB x)) ∧ Below w.heap.size w w' := by
  by_cases h1 : x.op = 2 ∨ x.op = 9 ∨ x.op = 10
  · exact refMay_num x w h1
  by_cases h2 : x.op = 18 ∨ x.op = 20 ∨ x.op = 21
  · exact refMay_arr x w hs h2
  by_cases h3 : x.op = 22 ∨ x.op = 23
  · exact refMay_ref x w hs h3
  by_cases h4 : x.op = 24 ∨ x.op = 25
  · exact refMay_call x w hs h4
  exact refMay_else x w h1 h2 h3 h4
end Go.Proofs.YtinccnehfalfnaaGreatDoor
