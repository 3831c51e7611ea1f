/-
  WALKS over the reference MathOf, Word32, IsWord and over the comparison of errors. Conditions: numbers in the ranges named.
-/
import Derived.Test.YtadnljpjmhlkpaaRefShift
namespace Go.Proofs.Ytadnljpjmhlkpaa
open Go.RowKit
theorem bits_bd (op : BinOp) (a b : Int) (h : op = .and ∨ op = .or ∨ op = .xor) : -9223372036854775808 ≤ bits op .i64 a b ∧ bits op .i64 a b ≤ 9223372036854775807 := by
  rcases h with rfl | rfl | rfl <;> (unfold bits; simp only [IntKind.wrap_i64]; omega)
theorem rem_eq (a b : Int) (ha : -9223372036854775808 ≤ a ∧ a ≤ 9223372036854775807) (hb : b ≠ 0) (hb2 : -9223372036854775808 ≤ b ∧ b ≤ 9223372036854775807) : wrap64 (a - wrap64 (wrap64 (a.tdiv b) * b)) = a.tmod b := by
  have e := Int.mul_tdiv_add_tmod a b
  have f := rem_facts a b hb
  rw [wrap64_mul, Int.mul_comm]
  generalize b * a.tdiv b = y at *
  have hr : -9223372036854775808 ≤ a.tmod b ∧ a.tmod b ≤ 9223372036854775807 := by
    obtain ⟨f1, f2, f3, f4⟩ := f
    by_cases h : 0 < b
    · have := f3 h; omega
    · have := f4 (by omega); omega
  generalize a.tmod b = r at *
  clear f
  unfold wrap64; omega
set_option maxHeartbeats 400000 in
theorem mathOf_J (which a b : Int) (w : World) (hw : which = 1 ∨ which = 2 ∨ which = 3 ∨ which = 6 ∨ which = 7 ∨ which = 8 ∨ which = 12) :
    Calls Try.prog 12 #[.string ⟨#[74]⟩, .int .i64 which, .int .i64 a, .int .i64 b] w fun e w' => e = .returned (.tuple #[.int .i64 (ofN false which a b), .bool (ofB which b)]) ∧ w = w' := by
  rcases hw with rfl | rfl | rfl | rfl | rfl | rfl | rfl
  all_goals
    go_enter Try.func12, Try.ntmps12
    go_wp2_with fail
    go_ret2
    simp [ofN, wholeN, ofB, wholeB]
theorem mathOf_J4 (a b : Int) (w : World) (hb : b ≠ 0) :
    Calls Try.prog 12 #[.string ⟨#[74]⟩, .int .i64 4, .int .i64 a, .int .i64 b] w fun e w' => e = .returned (.tuple #[.int .i64 (ofN false 4 a b), .bool (ofB 4 b)]) ∧ w = w' := by
  have hb' : (b == 0) = false := by simpa using hb
  have h1 : ofN false 4 a b = wrap64 (a.tdiv b) := by simp [ofN, wholeN, hb]
  have h2 : ofB 4 b = true := by simp [ofB, wholeB, hb]
  rw [h1, h2]
  clear h1 h2
  go_enter Try.func12, Try.ntmps12
  go_wp2_with fail
  go_ret2
  exact ⟨rfl, rfl⟩
theorem mathOf_J5 (a b : Int) (w : World) (hb : b ≠ 0) (ha : -9223372036854775808 ≤ a ∧ a ≤ 9223372036854775807) (hbb : -9223372036854775808 ≤ b ∧ b ≤ 9223372036854775807) :
    Calls Try.prog 12 #[.string ⟨#[74]⟩, .int .i64 5, .int .i64 a, .int .i64 b] w fun e w' => e = .returned (.tuple #[.int .i64 (ofN false 5 a b), .bool (ofB 5 b)]) ∧ w = w' := by
  have hb' : (b == 0) = false := by simpa using hb
  have h1 : ofN false 5 a b = wrap64 (a - wrap64 (wrap64 (a.tdiv b) * b)) := by rw [rem_eq a b ha hb hbb]; simp [ofN, wholeN, hb]
  have h2 : ofB 5 b = true := by simp [ofB, wholeB, hb]
  rw [h1, h2]
  clear h1 h2 ha hbb
  go_enter Try.func12, Try.ntmps12
  go_wp2_with fail
  go_ret2
  exact ⟨rfl, rfl⟩
theorem mathOf_0 (s : ByteArray) (which a : Int) (w : World) (hw : which = 4 ∨ which = 5) :
    Calls Try.prog 12 #[.string s, .int .i64 which, .int .i64 a, .int .i64 0] w fun e w' => e = .returned (.tuple #[.int .i64 0, .bool false]) ∧ w = w' := by
  rcases hw with rfl | rfl
  all_goals
    go_enter Try.func12, Try.ntmps12
    go_wp2_with fail
    go_ret2
    exact ⟨rfl, rfl⟩
theorem cnt64 (b : Int) : (wrap64 (b.tmod 64 + 64)).tmod 64 = ((b % 64).toNat : Int) := by
  obtain ⟨f1, f2, f3, _⟩ := rem_facts b 64 (by omega)
  have g := f3 (by omega)
  have h0 : 0 ≤ wrap64 (b.tmod 64 + 64) := by unfold wrap64; omega
  have e := Int.mul_tdiv_add_tmod b 64
  rw [Int.tmod_eq_emod_of_nonneg h0]
  unfold wrap64
  omega
theorem cnt32 (b : Int) : (wrap64 (b.tmod 32 + 32)).tmod 32 = ((b % 32).toNat : Int) := by
  obtain ⟨f1, f2, f3, _⟩ := rem_facts b 32 (by omega)
  have g := f3 (by omega)
  have h0 : 0 ≤ wrap64 (b.tmod 32 + 32) := by unfold wrap64; omega
  have e := Int.mul_tdiv_add_tmod b 32
  rw [Int.tmod_eq_emod_of_nonneg h0]
  unfold wrap64
  omega
theorem quo_bd (a : Int) (k : Nat) (lo hi : Int) (h0 : lo ≤ 0) (h1 : 0 ≤ hi) (h2 : lo ≤ a) (h3 : a ≤ hi) : lo ≤ a / 2 ^ k ∧ a / 2 ^ k ≤ hi := by
  have hp : (0 : Int) < 2 ^ k := Int.pow_pos (by omega)
  by_cases h : 0 ≤ a
  · have := Int.ediv_nonneg h (Int.le_of_lt hp)
    have := Int.ediv_le_self ((2 : Int) ^ k) h
    omega
  · have := Int.ediv_neg_of_neg_of_pos (by omega : a < 0) hp
    have h4 : a ≤ a / 2 ^ k := by
      rw [Int.le_ediv_iff_mul_le hp]
      have : (1 : Int) ≤ 2 ^ k := hp
      have h5 := Int.mul_le_mul_of_nonneg_left this (by omega : 0 ≤ -a)
      simp only [Int.neg_mul, Int.mul_one] at h5
      omega
    omega
theorem mathOf_J9 (a b : Int) (w : World) (ha : -9223372036854775808 ≤ a ∧ a ≤ 9223372036854775807) :
    Calls Try.prog 12 #[.string ⟨#[74]⟩, .int .i64 9, .int .i64 a, .int .i64 b] w fun e w' => e = .returned (.tuple #[.int .i64 (ofN false 9 a b), .bool (ofB 9 b)]) ∧ w = w' := by
  have hk : (b % 64).toNat ≤ 63 := by omega
  have h1 : ofN false 9 a b = wrap64 (a * 2 ^ (b % 64).toNat) := by simp [ofN, shiftN]
  have h2 : ofB 9 b = true := by simp [ofB]
  rw [h1, h2]
  clear h1 h2
  go_enter Try.func12, Try.ntmps12
  go_wp2_with fail
  rw [cnt64 b]
  refine (refShl a _ true _ (by omega) hk).mono ?_
  rintro e w' ⟨rfl, rfl⟩
  go_wp2_with fail
  go_ret2
  exact ⟨rfl, rfl⟩
theorem mathOf_J10 (a b : Int) (w : World) (ha : -9223372036854775808 ≤ a ∧ a ≤ 9223372036854775807) :
    Calls Try.prog 12 #[.string ⟨#[74]⟩, .int .i64 10, .int .i64 a, .int .i64 b] w fun e w' => e = .returned (.tuple #[.int .i64 (ofN false 10 a b), .bool (ofB 10 b)]) ∧ w = w' := by
  have hk : (b % 64).toNat ≤ 63 := by omega
  have h1 : ofN false 10 a b = a / 2 ^ (b % 64).toNat := by simp [ofN, shiftN]
  have h2 : ofB 10 b = true := by simp [ofB]
  rw [h1, h2]
  clear h1 h2
  go_enter Try.func12, Try.ntmps12
  go_wp2_with fail
  rw [cnt64 b]
  refine (refShr a _ true _ (by omega) hk).mono ?_
  rintro e w' ⟨rfl, rfl⟩
  go_wp2_with fail
  go_ret2
  exact ⟨rfl, rfl⟩
theorem mathOf_J11 (a b : Int) (w : World) (ha : -9223372036854775808 ≤ a ∧ a ≤ 9223372036854775807) :
    Calls Try.prog 12 #[.string ⟨#[74]⟩, .int .i64 11, .int .i64 a, .int .i64 b] w fun e w' => e = .returned (.tuple #[.int .i64 (ofN false 11 a b), .bool (ofB 11 b)]) ∧ w = w' := by
  have hk : (b % 64).toNat ≤ 63 := by omega
  have h1 : ofN false 11 a b = ush a (b % 64).toNat := by simp [ofN, shiftN, ush, IntKind.wrap_u64]
  have h2 : ofB 11 b = true := by simp [ofB]
  rw [h1, h2]
  clear h1 h2
  go_enter Try.func12, Try.ntmps12
  go_wp2_with fail
  rw [cnt64 b]
  refine (refUsh64 a _ _ (by omega) hk).mono ?_
  rintro e w' ⟨rfl, rfl⟩
  go_wp2_with fail
  go_ret2
  exact ⟨rfl, rfl⟩
theorem mathOf_I9 (a b : Int) (w : World) (ha : -2147483648 ≤ a ∧ a ≤ 2147483647) :
    Calls Try.prog 12 #[.string ⟨#[73]⟩, .int .i64 9, .int .i64 a, .int .i64 b] w fun e w' => e = .returned (.tuple #[.int .i64 (ofN true 9 a b), .bool (ofB 9 b)]) ∧ w = w' := by
  have hk : (b % 32).toNat ≤ 63 := by omega
  have h1 : ofN true 9 a b = wrap32 (wrap64 (a * 2 ^ (b % 32).toNat)) := by simp [ofN, shiftN]
  have h2 : ofB 9 b = true := by simp [ofB]
  rw [h1, h2]
  clear h1 h2
  go_enter Try.func12, Try.ntmps12
  go_wp2_with fail
  rw [cnt32 b]
  refine (refShl a _ false _ (by omega) hk).mono ?_
  rintro e w' ⟨rfl, rfl⟩
  go_wp2_with fail
  refine (wrap_any _ _ ?b1 ?b2).mono ?_
  case b1 => exact (wrap64_bd _).1
  case b2 => exact (wrap64_bd _).2
  rintro e w' ⟨rfl, rfl⟩
  go_wp2_with fail
  go_ret2
  exact ⟨rfl, rfl⟩
theorem mathOf_I10 (a b : Int) (w : World) (ha : -2147483648 ≤ a ∧ a ≤ 2147483647) :
    Calls Try.prog 12 #[.string ⟨#[73]⟩, .int .i64 10, .int .i64 a, .int .i64 b] w fun e w' => e = .returned (.tuple #[.int .i64 (ofN true 10 a b), .bool (ofB 10 b)]) ∧ w = w' := by
  have hk : (b % 32).toNat ≤ 63 := by omega
  have h1 : ofN true 10 a b = wrap32 (a / 2 ^ (b % 32).toNat) := by simp [ofN, shiftN]
  have h2 : ofB 10 b = true := by simp [ofB]
  rw [h1, h2]
  clear h1 h2
  go_enter Try.func12, Try.ntmps12
  go_wp2_with fail
  rw [cnt32 b]
  refine (refShr a _ false _ (by omega) hk).mono ?_
  rintro e w' ⟨rfl, rfl⟩
  go_wp2_with fail
  refine (wrap_any _ _ ?b1 ?b2).mono ?_
  case b1 => exact (quo_bd a _ (-9223372036854775808) 9223372036854775807 (by omega) (by omega) (by omega) (by omega)).1
  case b2 => exact (quo_bd a _ (-9223372036854775808) 9223372036854775807 (by omega) (by omega) (by omega) (by omega)).2
  rintro e w' ⟨rfl, rfl⟩
  go_wp2_with fail
  go_ret2
  exact ⟨rfl, rfl⟩
theorem mathOf_I11 (a b : Int) (w : World) (ha : -2147483648 ≤ a ∧ a ≤ 2147483647) :
    Calls Try.prog 12 #[.string ⟨#[73]⟩, .int .i64 11, .int .i64 a, .int .i64 b] w fun e w' => e = .returned (.tuple #[.int .i64 (ofN true 11 a b), .bool (ofB 11 b)]) ∧ w = w' := by
  have hk : (b % 32).toNat ≤ 63 := by omega
  have h1 : ofN true 11 a b = wrap32 ((a % 4294967296) / 2 ^ (b % 32).toNat) := by simp [ofN, shiftN, wrap32_wrap64]
  have h2 : ofB 11 b = true := by simp [ofB]
  rw [h1, h2]
  clear h1 h2
  go_enter Try.func12, Try.ntmps12
  go_wp2_with fail
  rw [cnt32 b]
  refine (refUsh32 a _ _ (by omega) hk).mono ?_
  rintro e w' ⟨rfl, rfl⟩
  go_wp2_with fail
  refine (wrap_any _ _ ?b1 ?b2).mono ?_
  case b1 => exact (quo_bd (a % 4294967296) _ (-9223372036854775808) 9223372036854775807 (by omega) (by omega) (by omega) (by omega)).1
  case b2 => exact (quo_bd (a % 4294967296) _ (-9223372036854775808) 9223372036854775807 (by omega) (by omega) (by omega) (by omega)).2
  rintro e w' ⟨rfl, rfl⟩
  go_wp2_with fail
  go_ret2
  exact ⟨rfl, rfl⟩
theorem mathOf_I1 (a b : Int) (w : World) (ha : -2147483648 ≤ a ∧ a ≤ 2147483647) (hb : -2147483648 ≤ b ∧ b ≤ 2147483647) :
    Calls Try.prog 12 #[.string ⟨#[73]⟩, .int .i64 1, .int .i64 a, .int .i64 b] w fun e w' => e = .returned (.tuple #[.int .i64 (ofN true 1 a b), .bool (ofB 1 b)]) ∧ w = w' := by
  have h1 : ofN true 1 a b = wrap32 (a + b) := by simp [ofN, wholeN, wrap32_wrap64]
  have h2 : ofB 1 b = true := by simp [ofB, wholeB]
  rw [h1, h2]
  clear h1 h2
  go_enter Try.func12, Try.ntmps12
  go_wp2_with fail
  refine (wrap_any _ _ ?b1 ?b2).mono ?_
  case b1 => omega
  case b2 => omega
  rintro e w' ⟨rfl, rfl⟩
  go_wp2_with fail
  go_ret2
  exact ⟨rfl, rfl⟩
theorem mathOf_I2 (a b : Int) (w : World) (ha : -2147483648 ≤ a ∧ a ≤ 2147483647) (hb : -2147483648 ≤ b ∧ b ≤ 2147483647) :
    Calls Try.prog 12 #[.string ⟨#[73]⟩, .int .i64 2, .int .i64 a, .int .i64 b] w fun e w' => e = .returned (.tuple #[.int .i64 (ofN true 2 a b), .bool (ofB 2 b)]) ∧ w = w' := by
  have h1 : ofN true 2 a b = wrap32 (a - b) := by simp [ofN, wholeN, wrap32_wrap64]
  have h2 : ofB 2 b = true := by simp [ofB, wholeB]
  rw [h1, h2]
  clear h1 h2
  go_enter Try.func12, Try.ntmps12
  go_wp2_with fail
  refine (wrap_any _ _ ?b1 ?b2).mono ?_
  case b1 => omega
  case b2 => omega
  rintro e w' ⟨rfl, rfl⟩
  go_wp2_with fail
  go_ret2
  exact ⟨rfl, rfl⟩
theorem mathOf_I3 (a b : Int) (w : World) (_ha : -2147483648 ≤ a ∧ a ≤ 2147483647) (_hb : -2147483648 ≤ b ∧ b ≤ 2147483647) :
    Calls Try.prog 12 #[.string ⟨#[73]⟩, .int .i64 3, .int .i64 a, .int .i64 b] w fun e w' => e = .returned (.tuple #[.int .i64 (ofN true 3 a b), .bool (ofB 3 b)]) ∧ w = w' := by
  have h1 : ofN true 3 a b = wrap32 (wrap64 (a * b)) := by simp [ofN, wholeN]
  have h2 : ofB 3 b = true := by simp [ofB, wholeB]
  rw [h1, h2]
  clear h1 h2
  go_enter Try.func12, Try.ntmps12
  go_wp2_with fail
  refine (wrap_any _ _ ?b1 ?b2).mono ?_
  case b1 => exact (wrap64_bd _).1
  case b2 => exact (wrap64_bd _).2
  rintro e w' ⟨rfl, rfl⟩
  go_wp2_with fail
  go_ret2
  exact ⟨rfl, rfl⟩
theorem mathOf_I6 (a b : Int) (w : World) (_ha : -2147483648 ≤ a ∧ a ≤ 2147483647) (_hb : -2147483648 ≤ b ∧ b ≤ 2147483647) :
    Calls Try.prog 12 #[.string ⟨#[73]⟩, .int .i64 6, .int .i64 a, .int .i64 b] w fun e w' => e = .returned (.tuple #[.int .i64 (ofN true 6 a b), .bool (ofB 6 b)]) ∧ w = w' := by
  have h1 : ofN true 6 a b = wrap32 (bits .and .i64 a b) := by simp [ofN, wholeN]
  have h2 : ofB 6 b = true := by simp [ofB, wholeB]
  rw [h1, h2]
  clear h1 h2
  go_enter Try.func12, Try.ntmps12
  go_wp2_with fail
  refine (wrap_any _ _ ?b1 ?b2).mono ?_
  case b1 => exact (bits_bd _ a b (by simp)).1
  case b2 => exact (bits_bd _ a b (by simp)).2
  rintro e w' ⟨rfl, rfl⟩
  go_wp2_with fail
  go_ret2
  exact ⟨rfl, rfl⟩
theorem mathOf_I7 (a b : Int) (w : World) (_ha : -2147483648 ≤ a ∧ a ≤ 2147483647) (_hb : -2147483648 ≤ b ∧ b ≤ 2147483647) :
    Calls Try.prog 12 #[.string ⟨#[73]⟩, .int .i64 7, .int .i64 a, .int .i64 b] w fun e w' => e = .returned (.tuple #[.int .i64 (ofN true 7 a b), .bool (ofB 7 b)]) ∧ w = w' := by
  have h1 : ofN true 7 a b = wrap32 (bits .or .i64 a b) := by simp [ofN, wholeN]
  have h2 : ofB 7 b = true := by simp [ofB, wholeB]
  rw [h1, h2]
  clear h1 h2
  go_enter Try.func12, Try.ntmps12
  go_wp2_with fail
  refine (wrap_any _ _ ?b1 ?b2).mono ?_
  case b1 => exact (bits_bd _ a b (by simp)).1
  case b2 => exact (bits_bd _ a b (by simp)).2
  rintro e w' ⟨rfl, rfl⟩
  go_wp2_with fail
  go_ret2
  exact ⟨rfl, rfl⟩
theorem mathOf_I8 (a b : Int) (w : World) (_ha : -2147483648 ≤ a ∧ a ≤ 2147483647) (_hb : -2147483648 ≤ b ∧ b ≤ 2147483647) :
    Calls Try.prog 12 #[.string ⟨#[73]⟩, .int .i64 8, .int .i64 a, .int .i64 b] w fun e w' => e = .returned (.tuple #[.int .i64 (ofN true 8 a b), .bool (ofB 8 b)]) ∧ w = w' := by
  have h1 : ofN true 8 a b = wrap32 (bits .xor .i64 a b) := by simp [ofN, wholeN]
  have h2 : ofB 8 b = true := by simp [ofB, wholeB]
  rw [h1, h2]
  clear h1 h2
  go_enter Try.func12, Try.ntmps12
  go_wp2_with fail
  refine (wrap_any _ _ ?b1 ?b2).mono ?_
  case b1 => exact (bits_bd _ a b (by simp)).1
  case b2 => exact (bits_bd _ a b (by simp)).2
  rintro e w' ⟨rfl, rfl⟩
  go_wp2_with fail
  go_ret2
  exact ⟨rfl, rfl⟩
theorem mathOf_I12 (a b : Int) (w : World) (ha : -2147483648 ≤ a ∧ a ≤ 2147483647) (_hb : -2147483648 ≤ b ∧ b ≤ 2147483647) :
    Calls Try.prog 12 #[.string ⟨#[73]⟩, .int .i64 12, .int .i64 a, .int .i64 b] w fun e w' => e = .returned (.tuple #[.int .i64 (ofN true 12 a b), .bool (ofB 12 b)]) ∧ w = w' := by
  have h1 : ofN true 12 a b = wrap32 (-a) := by simp [ofN, wholeN, wrap32_wrap64]
  have h2 : ofB 12 b = true := by simp [ofB, wholeB]
  rw [h1, h2]
  clear h1 h2
  go_enter Try.func12, Try.ntmps12
  go_wp2_with fail
  refine (wrap_any _ _ ?b1 ?b2).mono ?_
  case b1 => omega
  case b2 => omega
  rintro e w' ⟨rfl, rfl⟩
  go_wp2_with fail
  go_ret2
  exact ⟨rfl, rfl⟩
theorem mathOf_I4 (a b : Int) (w : World) (_ha : -2147483648 ≤ a ∧ a ≤ 2147483647) (_hb : -2147483648 ≤ b ∧ b ≤ 2147483647) (hb0 : b ≠ 0) :
    Calls Try.prog 12 #[.string ⟨#[73]⟩, .int .i64 4, .int .i64 a, .int .i64 b] w fun e w' => e = .returned (.tuple #[.int .i64 (ofN true 4 a b), .bool (ofB 4 b)]) ∧ w = w' := by
  have hb' : (b == 0) = false := by simpa using hb0
  have h1 : ofN true 4 a b = wrap32 (wrap64 (a.tdiv b)) := by simp [ofN, wholeN, hb0]
  have h2 : ofB 4 b = true := by simp [ofB, wholeB, hb0]
  rw [h1, h2]
  clear h1 h2
  go_enter Try.func12, Try.ntmps12
  go_wp2_with fail
  refine (wrap_any _ _ ?b1 ?b2).mono ?_
  case b1 => exact (wrap64_bd _).1
  case b2 => exact (wrap64_bd _).2
  rintro e w' ⟨rfl, rfl⟩
  go_wp2_with fail
  go_ret2
  exact ⟨rfl, rfl⟩
theorem mathOf_I5 (a b : Int) (w : World) (ha : -2147483648 ≤ a ∧ a ≤ 2147483647) (hb : -2147483648 ≤ b ∧ b ≤ 2147483647) (hb0 : b ≠ 0) :
    Calls Try.prog 12 #[.string ⟨#[73]⟩, .int .i64 5, .int .i64 a, .int .i64 b] w fun e w' => e = .returned (.tuple #[.int .i64 (ofN true 5 a b), .bool (ofB 5 b)]) ∧ w = w' := by
  have hb' : (b == 0) = false := by simpa using hb0
  have h1 : ofN true 5 a b = wrap32 (wrap64 (a - wrap64 (wrap64 (a.tdiv b) * b))) := by rw [rem_eq a b (by omega) hb0 (by omega)]; simp [ofN, wholeN, hb0]
  have h2 : ofB 5 b = true := by simp [ofB, wholeB, hb0]
  rw [h1, h2]
  clear h1 h2
  go_enter Try.func12, Try.ntmps12
  go_wp2_with fail
  refine (wrap_any _ _ ?b1 ?b2).mono ?_
  case b1 => exact (wrap64_bd _).1
  case b2 => exact (wrap64_bd _).2
  rintro e w' ⟨rfl, rfl⟩
  go_wp2_with fail
  go_ret2
  exact ⟨rfl, rfl⟩
theorem mathOf_I (which a b : Int) (w : World) (h1 : 1 ≤ which) (h2 : which ≤ 12) (ha : -2147483648 ≤ a ∧ a ≤ 2147483647) (hb : -2147483648 ≤ b ∧ b ≤ 2147483647) :
    Calls Try.prog 12 #[.string ⟨#[73]⟩, .int .i64 which, .int .i64 a, .int .i64 b] w fun e w' => e = .returned (.tuple #[.int .i64 (ofN true which a b), .bool (ofB which b)]) ∧ w = w' := by
  have hc : which = 1 ∨ which = 2 ∨ which = 3 ∨ which = 4 ∨ which = 5 ∨ which = 6 ∨ which = 7 ∨ which = 8 ∨ which = 9 ∨ which = 10 ∨ which = 11 ∨ which = 12 := by omega
  rcases hc with rfl | rfl | rfl | rfl | rfl | rfl | rfl | rfl | rfl | rfl | rfl | rfl
  · exact mathOf_I1 a b w ha hb
  · exact mathOf_I2 a b w ha hb
  · exact mathOf_I3 a b w ha hb
  · by_cases h0 : b = 0
    · subst h0; have := mathOf_0 ⟨#[73]⟩ 4 a w (by omega); simpa [ofN, wholeN, ofB, wholeB, wrap32_in'] using this
    · exact mathOf_I4 a b w ha hb h0
  · by_cases h0 : b = 0
    · subst h0; have := mathOf_0 ⟨#[73]⟩ 5 a w (by omega); simpa [ofN, wholeN, ofB, wholeB, wrap32_in'] using this
    · exact mathOf_I5 a b w ha hb h0
  · exact mathOf_I6 a b w ha hb
  · exact mathOf_I7 a b w ha hb
  · exact mathOf_I8 a b w ha hb
  · exact mathOf_I9 a b w ha
  · exact mathOf_I10 a b w ha
  · exact mathOf_I11 a b w ha
  · exact mathOf_I12 a b w ha hb
theorem mathOf_Jall (which a b : Int) (w : World) (h1 : 1 ≤ which) (h2 : which ≤ 12) (ha : -9223372036854775808 ≤ a ∧ a ≤ 9223372036854775807) (hb : -9223372036854775808 ≤ b ∧ b ≤ 9223372036854775807) :
    Calls Try.prog 12 #[.string ⟨#[74]⟩, .int .i64 which, .int .i64 a, .int .i64 b] w fun e w' => e = .returned (.tuple #[.int .i64 (ofN false which a b), .bool (ofB which b)]) ∧ w = w' := by
  have hc : (which = 1 ∨ which = 2 ∨ which = 3 ∨ which = 6 ∨ which = 7 ∨ which = 8 ∨ which = 12) ∨ which = 4 ∨ which = 5 ∨ which = 9 ∨ which = 10 ∨ which = 11 := by omega
  rcases hc with hc | rfl | rfl | rfl | rfl | rfl
  · exact mathOf_J which a b w hc
  · by_cases h0 : b = 0
    · subst h0; have := mathOf_0 ⟨#[74]⟩ 4 a w (by omega); simpa [ofN, wholeN, ofB, wholeB] using this
    · exact mathOf_J4 a b w h0
  · by_cases h0 : b = 0
    · subst h0; have := mathOf_0 ⟨#[74]⟩ 5 a w (by omega); simpa [ofN, wholeN, ofB, wholeB] using this
    · exact mathOf_J5 a b w h0 ha hb
  · exact mathOf_J9 a b w ha
  · exact mathOf_J10 a b w ha
  · exact mathOf_J11 a b w ha
theorem word32_yes (n : Int) (w : World) (h1 : -2147483648 ≤ n) (h2 : n ≤ 2147483647) : Calls Try.prog 19 #[.int .i64 n] w fun e w' => e = .returned (.bool true) ∧ w = w' := by
  go_enter Try.func19, Try.ntmps19
  go_wp2
  all_goals go_ret
  all_goals exact ⟨by simp [*], rfl⟩
theorem word32_no (n : Int) (w : World) (h : ¬ (-2147483648 ≤ n ∧ n ≤ 2147483647)) : Calls Try.prog 19 #[.int .i64 n] w fun e w' => e = .returned (.bool false) ∧ w = w' := by
  by_cases h1 : -2147483648 ≤ n
  · have h2 : 2147483647 < n := by omega
    clear h
    go_enter Try.func19, Try.ntmps19
    go_wp2
    go_ret
    exact ⟨by first | (simp; done) | (simp; omega), rfl⟩
  · have h2 : n < -2147483648 := by omega
    clear h h1
    go_enter Try.func19, Try.ntmps19
    go_wp2
    go_ret
    exact ⟨by first | (simp; done) | (simp; omega), rfl⟩
theorem isWord_I (w : World) : Calls Try.prog 14 #[.string ⟨#[73]⟩] w fun e w' => e = .returned (.bool true) ∧ w = w' := by
  go_enter Try.func14, Try.ntmps14
  go_wp2
  all_goals
    go_ret
    simp
theorem isWord_J (w : World) : Calls Try.prog 14 #[.string ⟨#[74]⟩] w fun e w' => e = .returned (.bool true) ∧ w = w' := by
  go_enter Try.func14, Try.ntmps14
  go_wp2
  all_goals
    go_ret
    simp
theorem isWord_not (s : ByteArray) (w : World) (h1 : (s.toList == [73]) = false) (h2 : (s.toList == [74]) = false) : Calls Try.prog 14 #[.string s] w fun e w' => e = .returned (.bool false) ∧ w = w' := by
  go_enter Try.func14, Try.ntmps14
  go_wp2
  all_goals
    go_ret
    simp
theorem error_ok (w : World) : Calls Try.prog 11 #[.nilIface, .int .i64 0] w fun e w' => e = .returned (.bool true) ∧ w = w' := by
  go_enter Try.func11, Try.ntmps11
  go_wp2
  go_ret
  exact ⟨rfl, rfl⟩
theorem error_at (k : Int) (w : World) (hk : (k == 0) = false) : Calls Try.prog 11 #[.iface 31 (.int .i64 k), .int .i64 k] w fun e w' => e = .returned (.bool true) ∧ w = w' := by
  have he := eql_err
  go_enter Try.func11, Try.ntmps11
  go_wp2
  go_ret
  exact ⟨by simp, rfl⟩
end Go.Proofs.Ytadnljpjmhlkpaa
