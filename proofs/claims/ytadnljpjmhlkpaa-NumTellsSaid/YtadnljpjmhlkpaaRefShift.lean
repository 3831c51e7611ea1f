/-
  WALKS over the reference shifted: what its two loops compute. Conditions: 64-bit numbers, a count up to 63.
-/
import Derived.Test.YtadnljpjmhlkpaaRing
namespace Go.Proofs.Ytadnljpjmhlkpaa
open Go.RowKit
theorem half_step (a : Int) (j : Nat) : (a / 2 ^ j) / 2 = a / 2 ^ (j + 1) := by
  rw [Int.ediv_ediv_of_nonneg (by exact Int.le_of_lt (Int.pow_pos (by omega))), Int.pow_succ]
theorem ret_shr {v a : Int} {j k : Nat} (h : v = a / 2 ^ j) (e : j = k) : Ending.returned (.int .i64 v) = Ending.returned (.int .i64 (a / 2 ^ k)) := by rw [h, e]
theorem refShr (a : Int) (k : Nat) (L : Bool) (w : World) (ha : -9223372036854775808 ≤ a ∧ a ≤ 9223372036854775807) (hk : k ≤ 63) :
    Calls Try.prog 20 #[.int .i64 10, .int .i64 a, .int .i64 k, .bool L] w fun e w' => e = .returned (.int .i64 (a / 2 ^ k)) ∧ w = w' := by
  have h0 : Hid (a = a / 2 ^ 0) := by unfold Hid; simp
  go_enter Try.func20, Try.ntmps20
  go_wp2_with fail
  go_loop [1, 9] (fun x i => ∃ (j : Nat) (v : Int), j ≤ k ∧ Hid (v = a / 2 ^ j) ∧ -9223372036854775808 ≤ v ∧ v ≤ 9223372036854775807 ∧ x = .int .i64 v ∧ i = .int .i64 j) (fun _ i => k - (intOf i).toNat)
  case atStart => exact ⟨0, a, by omega, h0, ha.1, ha.2, rfl, rfl⟩
  case round =>
    clear h0
    obtain ⟨j, v, hj, hv, hv1, hv2, rfl, rfl⟩ := hrel
    by_cases hlt : j < k
    · go_wp2_with (go_at_call 21; (with_reducible refine (floor_two _ _ hv1 hv2).mono ?_); rintro e w' ⟨rfl, rfl⟩)
      go_round
      case rel => exact ⟨j + 1, v / 2, by omega, by have := hv.out; rw [this]; exact half_step a j, by omega, by omega, rfl, by go_num⟩
      case measure => simp [intOf]; omega
    · go_wp2_with fail
      go_ret
      exact ⟨ret_shr hv.out (by omega), rfl⟩
theorem dbl_step (a : Int) (j : Nat) : wrap64 (wrap64 (a * 2 ^ j) + wrap64 (a * 2 ^ j)) = wrap64 (a * 2 ^ (j + 1)) := by
  rw [wrap64_add_l, Int.add_comm, wrap64_add_l, Int.pow_succ, ← Int.mul_assoc]
  congr 1; omega
theorem ret_shl {v a : Int} {j k : Nat} (h : v = wrap64 (a * 2 ^ j)) (e : j = k) : Ending.returned (.int .i64 v) = Ending.returned (.int .i64 (wrap64 (a * 2 ^ k))) := by rw [h, e]
theorem refShl (a : Int) (k : Nat) (L : Bool) (w : World) (ha : -9223372036854775808 ≤ a ∧ a ≤ 9223372036854775807) (hk : k ≤ 63) :
    Calls Try.prog 20 #[.int .i64 9, .int .i64 a, .int .i64 k, .bool L] w fun e w' => e = .returned (.int .i64 (wrap64 (a * 2 ^ k))) ∧ w = w' := by
  have h0 : Hid (a = wrap64 (a * 2 ^ 0)) := by unfold Hid; rw [Int.pow_zero, Int.mul_one, wrap64_in ha]
  go_enter Try.func20, Try.ntmps20
  go_wp2_with fail
  go_loop [1, 10] (fun x i => ∃ (j : Nat) (v : Int), j ≤ k ∧ Hid (v = wrap64 (a * 2 ^ j)) ∧ x = .int .i64 v ∧ i = .int .i64 j) (fun _ i => k - (intOf i).toNat)
  case atStart => exact ⟨0, a, by omega, h0, rfl, rfl⟩
  case round =>
    clear h0
    obtain ⟨j, v, hj, hv, rfl, rfl⟩ := hrel
    by_cases hlt : j < k
    · go_wp2_with fail
      go_round
      case rel => exact ⟨j + 1, wrap64 (v + v), by omega, by have := hv.out; rw [this]; exact dbl_step a j, by go_num, by go_num⟩
      case measure => simp [intOf]; omega
    · go_wp2_with fail
      go_ret
      exact ⟨ret_shl hv.out (by omega), rfl⟩
theorem refUsh32 (a : Int) (k : Nat) (w : World) (ha : -2147483648 ≤ a ∧ a ≤ 2147483647) (hk : k ≤ 63) :
    Calls Try.prog 20 #[.int .i64 11, .int .i64 a, .int .i64 k, .bool false] w fun e w' => e = .returned (.int .i64 ((a % 4294967296) / 2 ^ k)) ∧ w = w' := by
  have hu1 : 0 ≤ a % 4294967296 := by omega
  have hu2 : a % 4294967296 ≤ 4294967295 := by omega
  obtain ⟨u, hu⟩ : ∃ u, a % 4294967296 = u := ⟨_, rfl⟩
  rw [hu] at hu1 hu2 ⊢
  have h0 : Hid (u = u / 2 ^ 0) := by unfold Hid; simp
  by_cases hneg : a < 0
  · have hs : a = u - 4294967296 := by omega
    subst hs
    clear hu
    go_enter Try.func20, Try.ntmps20
    go_wp2_with fail
    go_loop [1, 10] (fun x i => ∃ (j : Nat) (v : Int), j ≤ k ∧ Hid (v = u / 2 ^ j) ∧ 0 ≤ v ∧ v ≤ 4294967295 ∧ x = .int .i64 v ∧ i = .int .i64 j) (fun _ i => k - (intOf i).toNat)
    case atStart => exact ⟨0, u, by omega, h0, hu1, hu2, by go_num, rfl⟩
    case round =>
      clear h0
      obtain ⟨j, v, hj, hv, hv1, hv2, rfl, rfl⟩ := hrel
      by_cases hlt : j < k
      · go_wp2_with fail
        go_round
        case rel => exact ⟨j + 1, v / 2, by omega, by have := hv.out; rw [this]; exact half_step u j, by omega, by omega, by go_num, by go_num⟩
        case measure => simp [intOf]; omega
      · go_wp2_with fail
        go_ret
        exact ⟨ret_shr hv.out (by omega), rfl⟩
  · have hs : a = u := by omega
    subst hs
    clear hu
    go_enter Try.func20, Try.ntmps20
    go_wp2_with fail
    go_loop [1, 10] (fun x i => ∃ (j : Nat) (v : Int), j ≤ k ∧ Hid (v = a / 2 ^ j) ∧ 0 ≤ v ∧ v ≤ 4294967295 ∧ x = .int .i64 v ∧ i = .int .i64 j) (fun _ i => k - (intOf i).toNat)
    case atStart => exact ⟨0, a, by omega, h0, hu1, hu2, by go_num, rfl⟩
    case round =>
      clear h0
      obtain ⟨j, v, hj, hv, hv1, hv2, rfl, rfl⟩ := hrel
      by_cases hlt : j < k
      · go_wp2_with fail
        go_round
        case rel => exact ⟨j + 1, v / 2, by omega, by have := hv.out; rw [this]; exact half_step a j, by omega, by omega, by go_num, by go_num⟩
        case measure => simp [intOf]; omega
      · go_wp2_with fail
        go_ret
        exact ⟨ret_shr hv.out (by omega), rfl⟩
def ush (a : Int) (j : Nat) : Int := wrap64 ((a % 18446744073709551616) / 2 ^ j)
theorem ush_zero (a : Int) (ha : -9223372036854775808 ≤ a ∧ a ≤ 9223372036854775807) : ush a 0 = a := by
  unfold ush wrap64; simp; omega
theorem ush_succ (a : Int) (j : Nat) : 0 ≤ ush a (j + 1) ∧ ush a (j + 1) ≤ 9223372036854775807 ∧ ush a (j + 1) = ((a % 18446744073709551616) / 2 ^ j) / 2 := by
  have h1 : 0 ≤ a % 18446744073709551616 := by omega
  have h2 : a % 18446744073709551616 < 18446744073709551616 := by omega
  unfold ush
  rw [← half_step]
  generalize a % 18446744073709551616 = u at *
  have hp : (0 : Int) < 2 ^ j := Int.pow_pos (by omega)
  have h3 : 0 ≤ u / 2 ^ j := Int.ediv_nonneg h1 (Int.le_of_lt hp)
  have h4 : u / 2 ^ j ≤ u := Int.ediv_le_self _ h1
  unfold wrap64
  omega
theorem ush_step (a : Int) (j : Nat) : (ush a j < 0 → ush a j / 2 + 9223372036854775808 = ush a (j + 1)) ∧ (0 ≤ ush a j → ush a j / 2 = ush a (j + 1)) := by
  have h1 : 0 ≤ a % 18446744073709551616 := by omega
  have h2 : a % 18446744073709551616 < 18446744073709551616 := by omega
  rw [(ush_succ a j).2.2]
  unfold ush
  generalize a % 18446744073709551616 = u at *
  have hp : (0 : Int) < 2 ^ j := Int.pow_pos (by omega)
  have h3 : 0 ≤ u / 2 ^ j := Int.ediv_nonneg h1 (Int.le_of_lt hp)
  have h4 : u / 2 ^ j ≤ u := Int.ediv_le_self _ h1
  generalize u / 2 ^ j = q at *
  unfold wrap64
  omega
theorem ret_ush {v a : Int} {j k : Nat} (h : v = ush a j) (e : j = k) : Ending.returned (.int .i64 v) = Ending.returned (.int .i64 (ush a k)) := by rw [h, e]
theorem refUsh64 (a : Int) (k : Nat) (w : World) (ha : -9223372036854775808 ≤ a ∧ a ≤ 9223372036854775807) (hk : k ≤ 63) :
    Calls Try.prog 20 #[.int .i64 11, .int .i64 a, .int .i64 k, .bool true] w fun e w' => e = .returned (.int .i64 (ush a k)) ∧ w = w' := by
  have h0 : Hid (a = ush a 0) := (ush_zero a ha).symm
  go_enter Try.func20, Try.ntmps20
  go_wp2_with fail
  go_loop [1, 10] (fun x i => ∃ (j : Nat) (v : Int), j ≤ k ∧ Hid (v = ush a j) ∧ -9223372036854775808 ≤ v ∧ v ≤ 9223372036854775807 ∧ x = .int .i64 v ∧ i = .int .i64 j) (fun _ i => k - (intOf i).toNat)
  case atStart => exact ⟨0, a, by omega, h0, ha.1, ha.2, rfl, rfl⟩
  case round =>
    clear h0
    obtain ⟨j, v, hj, hv, hv1, hv2, rfl, rfl⟩ := hrel
    by_cases hlt : j < k
    · have hs := Lib.hid (ush_step a j)
      have hb := Lib.hid (ush_succ a j)
      by_cases hneg : v < 0
      · go_wp2_with (go_at_call 21; (with_reducible refine (floor_two _ _ hv1 hv2).mono ?_); rintro e w' ⟨rfl, rfl⟩)
        go_round
        case rel =>
          have e : v / 2 + 9223372036854775808 = ush a (j + 1) := by have := hs.out.1; rw [← hv.out] at this; exact this hneg
          exact ⟨j + 1, v / 2 + 9223372036854775808, by omega, e, by omega, by omega, by go_num, by go_num⟩
        case measure => simp [intOf]; omega
      · go_wp2_with fail
        go_round
        case rel =>
          have e : v / 2 = ush a (j + 1) := by have := hs.out.2; rw [← hv.out] at this; exact this (by omega)
          exact ⟨j + 1, v / 2, by omega, e, by omega, by omega, by go_num, by go_num⟩
        case measure => simp [intOf]; omega
    · go_wp2_with fail
      go_ret
      exact ⟨ret_ush hv.out (by omega), rfl⟩
end Go.Proofs.Ytadnljpjmhlkpaa
