/-
  WALKS over the reference's numbers: floor, Wrap, small. Conditions: 64-bit numbers.
-/
import Derived.Test.YtadnljpjmhlkpaaDivides
import Derived.Lib.Hide
namespace Go.Proofs.Ytadnljpjmhlkpaa
open Go.RowKit
theorem i64_and_mask (n : Int) (j : Nat) (hj : j ≤ 32) : bits .and .i64 n ((2 : Int) ^ j - 1) = n % 2 ^ j := by
  have hp : (2 : Nat) ^ j ≤ 2 ^ 32 := Nat.pow_le_pow_right (by omega) hj
  have h1 : 1 ≤ (2 : Nat) ^ j := Nat.one_le_two_pow
  have hc : ((2 : Int) ^ j - 1) = (((2 : Nat) ^ j - 1 : Nat) : Int) := by
    rw [Int.natCast_sub h1]; simp
  have h127 : (BitVec.ofInt 64 ((2 : Int) ^ j - 1)).toNat = 2 ^ j - 1 := by
    rw [hc, BitVec.ofInt_natCast, BitVec.toNat_ofNat, Nat.mod_eq_of_lt]
    omega
  have key : (BitVec.ofInt 64 n &&& BitVec.ofInt 64 ((2 : Int) ^ j - 1)).toNat = (n % ((2 ^ 64 : Nat) : Int)).toNat % 2 ^ j := by
    rw [BitVec.toNat_and, BitVec.toNat_ofInt, h127, Nat.and_two_pow_sub_one_eq_mod]
  show IntKind.i64.wrap ((BitVec.ofInt 64 n &&& BitVec.ofInt 64 ((2 : Int) ^ j - 1)).toNat : Nat) = n % 2 ^ j
  rw [key, IntKind.wrap_i64]
  have e : (((n % ((2 ^ 64 : Nat) : Int)).toNat % 2 ^ j : Nat) : Int) = n % 2 ^ j := by
    rw [Int.natCast_emod, Int.toNat_of_nonneg (by omega)]
    have : ((2 ^ j : Nat) : Int) ∣ ((2 ^ 64 : Nat) : Int) := by
      exact Int.natCast_dvd_natCast.2 (Nat.pow_dvd_pow 2 (by omega))
    rw [Int.emod_emod_of_dvd _ this, Int.natCast_pow]
    rfl
  rw [e]
  have h2 : (0 : Int) < 2 ^ j := Int.pow_pos (by omega)
  have h3 : ((2 ^ j : Nat) : Int) ≤ 4294967296 := Int.ofNat_le.2 hp
  rw [Int.natCast_pow] at h3
  replace h3 : (2 : Int) ^ j ≤ 4294967296 := h3
  have := Int.emod_nonneg n (Int.ne_of_gt h2)
  have := Int.emod_lt_of_pos n h2
  omega
theorem shl_back (x : Int) (k : Nat) (hk : k ≤ 31) : (wrap32 (wrap64 (x * 2 ^ k)) % 4294967296) / 2 ^ k = x % 2 ^ (32 - k) := by
  have e1 : ∀ y : Int, wrap32 (wrap64 y) % 4294967296 = y % 4294967296 := by intro y; unfold wrap32 wrap64; omega
  have hm : (4294967296 : Int) = 2 ^ k * 2 ^ (32 - k) := by
    rw [← Int.pow_add, show k + (32 - k) = 32 by omega]; rfl
  have h2 : (0 : Int) < 2 ^ k := Int.pow_pos (by omega)
  rw [e1, hm, Int.mul_comm x, Int.mul_emod_mul_of_pos _ _ h2, Int.mul_ediv_cancel_left _ (Int.ne_of_gt h2)]
theorem mask_val (k : Nat) (hk : k ≤ 31) : ((-1 : Int) % 4294967296) / 2 ^ k = 2 ^ (32 - k) - 1 := by
  have hm : (4294967296 : Int) = 2 ^ k * 2 ^ (32 - k) := by
    rw [← Int.pow_add, show k + (32 - k) = 32 by omega]; rfl
  have h2 : (0 : Int) < 2 ^ k := Int.pow_pos (by omega)
  have e : ((-1 : Int) % 4294967296) = -1 + 2 ^ k * 2 ^ (32 - k) := by rw [← hm]; rfl
  rw [e, Int.add_mul_ediv_left _ _ (Int.ne_of_gt h2)]
  have : (-1 : Int) / 2 ^ k = -1 := by
    exact ((Int.ediv_emod_unique (a := -1) (q := -1) (r := 2 ^ k - 1) h2).2 ⟨by omega, by omega, by omega⟩).1
  omega
theorem tdiv_cases (n M : Int) : (0 ≤ n → n.tdiv M = n / M) ∧ (n < 0 → n.tdiv M = -((-n) / M)) := by
  constructor
  · intro h; exact Int.tdiv_eq_ediv_of_nonneg h
  · intro h
    have := Int.tdiv_eq_ediv_of_nonneg (a := -n) (b := M) (by omega)
    rw [← this, Int.neg_tdiv, Int.neg_neg]
theorem floor32 (n : Int) (h1 : -9223372036854775808 ≤ n) (h2 : n ≤ 9223372036854775807) :
    (n < n.tdiv 4294967296 * 4294967296 → n.tdiv 4294967296 - 1 = n / 4294967296) ∧ (n.tdiv 4294967296 * 4294967296 ≤ n → n.tdiv 4294967296 = n / 4294967296) ∧ -2147483648 ≤ n.tdiv 4294967296 ∧ n.tdiv 4294967296 ≤ 2147483647 := by
  obtain ⟨c1, c2⟩ := tdiv_cases n 4294967296
  by_cases h : 0 ≤ n
  · rw [c1 h]; omega
  · rw [c2 (by omega)]; omega
theorem floor2 (n : Int) (h1 : -9223372036854775808 ≤ n) (h2 : n ≤ 9223372036854775807) :
    (n < n.tdiv 2 * 2 → n.tdiv 2 - 1 = n / 2) ∧ (n.tdiv 2 * 2 ≤ n → n.tdiv 2 = n / 2) ∧ -4611686018427387904 ≤ n.tdiv 2 ∧ n.tdiv 2 ≤ 4611686018427387903 := by
  obtain ⟨c1, c2⟩ := tdiv_cases n 2
  by_cases h : 0 ≤ n
  · rw [c1 h]; omega
  · rw [c2 (by omega)]; omega

theorem ret_i64 {a b : Int} (h : a = b) : Ending.returned (.int .i64 a) = Ending.returned (.int .i64 b) := by rw [h]
theorem floor_big (n : Int) (w : World) (h1 : -9223372036854775808 ≤ n) (h2 : n ≤ 9223372036854775807) :
    Calls Try.prog 21 #[.int .i64 n, .int .i64 4294967296] w fun e w' => e = .returned (.int .i64 (n / 4294967296)) ∧ w = w' := by
  obtain ⟨g1, g2, g3, g4⟩ := floor32 n h1 h2
  have G1 := Lib.hid g1
  have G2 := Lib.hid g2
  clear g1 g2
  go_enter Try.func21, Try.ntmps21
  go_wp2
  · go_ret
    refine ⟨?_, rfl⟩
    have h : n < n.tdiv 4294967296 * 4294967296 := by assumption
    exact ret_i64 (G1.out h)
  · go_ret
    refine ⟨?_, rfl⟩
    exact ret_i64 (G2.out (by assumption))
theorem floor_two (n : Int) (w : World) (h1 : -9223372036854775808 ≤ n) (h2 : n ≤ 9223372036854775807) :
    Calls Try.prog 21 #[.int .i64 n, .int .i64 2] w fun e w' => e = .returned (.int .i64 (n / 2)) ∧ w = w' := by
  obtain ⟨g1, g2, g3, g4⟩ := floor2 n h1 h2
  have G1 := Lib.hid g1
  have G2 := Lib.hid g2
  clear g1 g2
  go_enter Try.func21, Try.ntmps21
  go_wp2
  · go_ret
    refine ⟨?_, rfl⟩
    have h : n < n.tdiv 2 * 2 := by assumption
    exact ret_i64 (G1.out h)
  · go_ret
    refine ⟨?_, rfl⟩
    exact ret_i64 (G2.out (by assumption))
theorem wrap_any (n : Int) (w : World) (h1 : -9223372036854775808 ≤ n) (h2 : n ≤ 9223372036854775807) :
    Calls Try.prog 15 #[.int .i64 n] w fun e w' => e = .returned (.int .i64 (wrap32 n)) ∧ w = w' := by
  have h3 : -2147483648 ≤ n / 4294967296 := by omega
  have h4 : n / 4294967296 ≤ 2147483647 := by omega
  go_enter Try.func15, Try.ntmps15
  go_wp2_with (go_at_call 21; (with_reducible refine (floor_big _ _ h1 h2).mono ?_); rintro e w' ⟨rfl, rfl⟩)
  all_goals
    go_ret
    exact ⟨ret_i64 (by unfold wrap32; omega), rfl⟩
theorem small_any (n : Int) (w : World) (h1 : -9223372036854775808 ≤ n) (h2 : n ≤ 9223372036854775807) :
    Calls Try.prog 9 #[.int .i64 n] w fun e w' => e = .returned (.int .i64 (wrap32 n)) ∧ w = w' := by
  go_enter Try.func9, Try.ntmps9
  go_wp2_with (go_at_call 15; (with_reducible refine (wrap_any _ _ h1 h2).mono ?_); rintro e w' ⟨rfl, rfl⟩)
  go_ret
  exact ⟨rfl, rfl⟩
end Go.Proofs.Ytadnljpjmhlkpaa
