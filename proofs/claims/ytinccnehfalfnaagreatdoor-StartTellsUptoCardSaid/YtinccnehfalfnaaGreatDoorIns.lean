/-
  WALKS over package ins: Jumps, ranged, typed. Conditions: numbers of 64 bits, texts of at most 1048576 signs.
-/
import Derived.Test.YtinccnehfalfnaaGreatDoorMethodText
namespace Go.Proofs.YtinccnehfalfnaaGreatDoor
open Go.RowKit Go.Shelf Go.Lib
def insV (x : Ins) : Value := .agg #[.int .i64 x.op, .int .i64 x.a, .int .i64 x.b, .string x.type, .string x.cls, .string x.name]
def bd64 (n : Int) : Prop := -9223372036854775808 ≤ n ∧ n ≤ 9223372036854775807
/-- an instruction whose numbers and texts are no greater than those that are read -/
structure InsOk (x : Ins) : Prop where
  op : bd64 x.op
  a : bd64 x.a
  b : bd64 x.b
  type : x.type.size ≤ 1048576
  cls : x.cls.size ≤ 1048576
  name : x.name.size ≤ 1048576
theorem jumps_any (op : Int) (w : World) : Calls Tryz.prog 119 #[.int .i64 op] w fun e w' => e = .returned (.bool (jumpsB op)) ∧ w = w' := by
  go_enter Tryz.func119, Tryz.ntmps119
  go_wp2
  all_goals
    go_ret
    exact ⟨ret_bool (by simp [jumpsB, *]), rfl⟩
theorem word32_eq (a : Int) : (a == wrap64 (wrap32 a)) = (decide (-2147483648 ≤ a) && decide (a ≤ 2147483647)) := by
  rw [Bool.eq_iff_iff]; simp; unfold wrap64 wrap32; omega
set_option maxHeartbeats 1000000 in
theorem ranged_any (x : Ins) (w : World) : Calls Tryz.prog 128 #[insV x] w fun e w' => e = .returned (.bool (rangedB x)) ∧ Below w.heap.size w w' := by
  obtain ⟨op, a, b, type, cls, name⟩ := x
  unfold insV
  by_cases h2 : op = 2
  · subst h2
    have hw := word32_eq a
    cases hI : (type.toList == [73]) with
    | true =>
      have hfin : Hid (rangedB ⟨2, a, b, type, cls, name⟩ = (decide (-2147483648 ≤ a) && decide (a ≤ 2147483647))) := by
        unfold Hid rangedB; rw [if_pos rfl, lst, ← ByteArray.toList_eq, hI]; rfl
      go_enter Tryz.func128, Tryz.ntmps128
      go_wp2
      go_ret
      exact ⟨ret_bool (by rw [hfin.out]), (Below.refl _ _).alloc (Nat.le_refl _) _⟩
    | false =>
      have hfin : Hid (rangedB ⟨2, a, b, type, cls, name⟩ = true) := by
        unfold Hid rangedB; rw [if_pos rfl, lst, ← ByteArray.toList_eq, hI]; rfl
      go_enter Tryz.func128, Tryz.ntmps128
      go_wp2
      go_ret
      exact ⟨ret_bool (by rw [hfin.out]), (Below.refl _ _).alloc (Nat.le_refl _) _⟩
  have n2 : (op == 2) = false := by simpa using h2
  by_cases h4 : op = 4 ∨ op = 5
  · have hfin : Hid (rangedB ⟨op, a, b, type, cls, name⟩ = (decide (0 ≤ a) && decide (a < 8))) := by
      unfold Hid rangedB; rw [if_neg h2, if_pos h4]
    rcases h4 with rfl | rfl
    all_goals
      clear h2 n2
      go_enter Tryz.func128, Tryz.ntmps128
      go_wp2
      all_goals
        go_ret
        exact ⟨ret_bool (by rw [hfin.out, Bool.eq_iff_iff]; simp; omega), (Below.refl _ _).alloc (Nat.le_refl _) _⟩
  have n4 : (op == 4) = false := by simp; omega
  have n5 : (op == 5) = false := by simp; omega
  by_cases h9 : op = 9
  · have hfin : Hid (rangedB ⟨op, a, b, type, cls, name⟩ = (decide (1 ≤ a) && decide (a ≤ 12))) := by
      unfold Hid rangedB; rw [if_neg h2, if_neg h4, if_pos h9]
    subst h9
    clear h2 n2 h4 n4 n5
    go_enter Tryz.func128, Tryz.ntmps128
    go_wp2
    all_goals
      go_ret
      exact ⟨ret_bool (by rw [hfin.out, Bool.eq_iff_iff]; simp; omega), (Below.refl _ _).alloc (Nat.le_refl _) _⟩
  have n9 : (op == 9) = false := by simpa using h9
  have hfin : Hid (rangedB ⟨op, a, b, type, cls, name⟩ = (!jumpsB op || (decide (0 ≤ a) && decide (a ≤ 40) && decide (0 ≤ b) && decide (b ≤ 5)))) := by
    unfold Hid rangedB; rw [if_neg h2, if_neg h4, if_neg h9]
  clear h2 h4 h9
  cases hj : jumpsB op with
  | false =>
    go_enter Tryz.func128, Tryz.ntmps128
    go_wp2_with (go_at_call 119; (with_reducible refine (jumps_any _ _).mono ?_); rintro e w' ⟨rfl, rfl⟩)
    all_goals
      go_ret
      exact ⟨ret_bool (by rw [hfin.out, hj]; rfl), (Below.refl _ _).alloc (Nat.le_refl _) _⟩
  | true =>
    go_enter Tryz.func128, Tryz.ntmps128
    go_wp2_with (go_at_call 119; (with_reducible refine (jumps_any _ _).mono ?_); rintro e w' ⟨rfl, rfl⟩)
    all_goals
      go_ret
      exact ⟨ret_bool (by rw [hfin.out, hj, Bool.eq_iff_iff]; simp; omega), (Below.refl _ _).alloc (Nat.le_refl _) _⟩
end Go.Proofs.YtinccnehfalfnaaGreatDoor
