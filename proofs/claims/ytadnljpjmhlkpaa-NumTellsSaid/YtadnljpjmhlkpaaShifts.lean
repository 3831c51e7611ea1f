/-
  NumShifts: the walk of the law on every input. Conditions: a is a 64-bit number.
-/
import Derived.Test.YtadnljpjmhlkpaaRefNum
namespace Go.Proofs.Ytadnljpjmhlkpaa
open Go.RowKit
theorem gives_shift_I {which x k : Int} (h1 : 9 ≤ which) (h2 : which ≤ 11) (hx : -2147483648 ≤ x ∧ x ≤ 2147483647) (hk : -2147483648 ≤ k ∧ k ≤ 2147483647) : Gives ⟨#[73]⟩ which x k (ofN true which x k) := by
  refine gives_of_I ?_ rfl
  unfold mathE
  rw [if_neg (by omega), if_neg, if_pos]
  · simp [ofB, h1, h2]
  · have := eq_wrap hx; have := eq_wrap hk; rintro (⟨_, h | h⟩ | ⟨_, _, h⟩) <;> contradiction
theorem gives_shift_J {which x k : Int} (h1 : 9 ≤ which) (h2 : which ≤ 11) (hk : -2147483648 ≤ k ∧ k ≤ 2147483647) : Gives ⟨#[74]⟩ which x k (ofN false which x k) := by
  refine gives_of_J ?_ rfl
  unfold mathE
  rw [if_neg (by omega), if_neg, if_pos]
  · simp [ofB, h1, h2]
  · have := eq_wrap hk; rintro (⟨h, _⟩ | ⟨_, _, h⟩) <;> contradiction
theorem shift_more (which x k : Int) (h1 : 9 ≤ which) (h2 : which ≤ 11) : ofN true which x (k + 32) = ofN true which x k := by
  unfold ofN shiftN
  simp [h1, h2]
theorem shift_less (which x k : Int) (h1 : 9 ≤ which) (h2 : which ≤ 11) : ofN false which x (k - 64) = ofN false which x k := by
  unfold ofN shiftN
  have e : (k - 64) % 64 = k % 64 := by omega
  simp [h1, h2, e]
theorem i64_and_m1 (n : Int) : bits .and .i64 n (-1) = wrap64 n := by
  have e : BitVec.ofInt 64 n &&& BitVec.ofInt 64 (-1) = BitVec.ofInt 64 n := by
    have : BitVec.ofInt 64 (-1) = BitVec.allOnes 64 := by decide
    rw [this, BitVec.and_allOnes]
  show IntKind.i64.wrap ((BitVec.ofInt 64 n &&& BitVec.ofInt 64 (-1)).toNat : Nat) = wrap64 n
  rw [e, IntKind.wrap_i64, BitVec.toNat_ofInt]
  unfold wrap64
  omega
theorem kept_eq (x k : Int) (h1 : 0 ≤ k) (h2 : k ≤ 31) : ofN true 11 (ofN true 9 x k) k = ofN true 6 x (ofN true 11 (-1) k) := by
  have e : k % 32 = k := by omega
  obtain ⟨K, hK⟩ := Int.eq_ofNat_of_zero_le h1
  subst hK
  have hK : K ≤ 31 := by omega
  simp only [ofN, shiftN, wholeN, e, Int.toNat_natCast]
  simp only [if_true, Int.reduceLE, and_self, Int.reduceEq, if_false, Int.reduceNeg, and_true]
  rw [shl_back x K hK, mask_val K hK]
  have hp : (0 : Int) < 2 ^ (32 - K) := Int.pow_pos (by omega)
  have hM : (2 : Int) ^ (32 - K) ≤ 4294967296 := by
    have h3 : ((2 ^ (32 - K) : Nat) : Int) ≤ 4294967296 := Int.ofNat_le.2 (Nat.pow_le_pow_right (by omega) (by omega : 32 - K ≤ 32))
    rw [Int.natCast_pow] at h3
    exact h3
  by_cases h0 : K = 0
  · subst h0
    have e1 : wrap32 (wrap64 ((2 : Int) ^ (32 - 0) - 1)) = -1 := by
      show wrap32 (wrap64 4294967295) = -1
      unfold wrap32 wrap64; omega
    rw [e1, i64_and_m1]
    show wrap32 (wrap64 (x % 4294967296)) = wrap32 (wrap64 x)
    unfold wrap32 wrap64; omega
  · have hM' : (2 : Int) ^ (32 - K) ≤ 2147483648 := by
      have h3 : ((2 ^ (32 - K) : Nat) : Int) ≤ 2147483648 := Int.ofNat_le.2 (Nat.pow_le_pow_right (by omega) (by omega : 32 - K ≤ 31))
      rw [Int.natCast_pow] at h3
      exact h3
    have e1 : wrap32 (wrap64 ((2 : Int) ^ (32 - K) - 1)) = 2 ^ (32 - K) - 1 := by unfold wrap32 wrap64; omega
    rw [e1, i64_and_mask x (32 - K) (by omega), wrap32_wrap64]
theorem same_eq (x k : Int) (hx : 0 ≤ x) (hx2 : x ≤ 2147483647) : ofN true 10 x k = ofN true 11 x k := by
  simp only [ofN, shiftN]
  simp only [if_true, Int.reduceLE, and_self, Int.reduceEq, if_false]
  have e : x % 4294967296 = x := by omega
  rw [e, wrap32_wrap64]
def Small (a x : Int) : Prop := ∀ w, Calls Try.prog 9 #[.int .i64 a] w fun e w' => e = .returned (.int .i64 x) ∧ w = w'
theorem Small.at {a x : Int} (c : Small a x) (w : World) : Calls Try.prog 9 #[.int .i64 a] w fun e w' => e = .returned (.int .i64 x) ∧ w = w' := c w
def Rounds (a x k : Int) : Prop := ∀ n, 9 ≤ n → n ≤ 11 → ∃ p r, Gives ⟨#[73]⟩ n x k p ∧ Gives ⟨#[73]⟩ n x (k + 32) p ∧ Gives ⟨#[74]⟩ n a k r ∧ Gives ⟨#[74]⟩ n a (k - 64) r
set_option maxRecDepth 100000 in
set_option maxHeartbeats 400000 in
theorem shifts_core (a b x k u d p q m : Int) (w : World) (hk : wrap64 ((IntKind.u64.wrap b).tmod 32) = k) (hk1 : 0 ≤ k) (hk2 : k ≤ 31) (cs : Small a x) (cl : Rounds a x k)
    (c1 : Gives ⟨#[73]⟩ 9 x k u) (c2 : Gives ⟨#[73]⟩ 11 u k d) (c3 : Gives ⟨#[73]⟩ 10 x k p) (c4 : Gives ⟨#[73]⟩ 11 x k q) (c5 : Gives ⟨#[73]⟩ 11 (-1) k m) (c6 : Gives ⟨#[73]⟩ 6 x m d) (hx : x < 0 ∨ p = q) :
    Calls Try.prog 4 #[.int .i64 a, .int .i64 b] w fun e w' => e = .returned (.bool true) ∧ w = w' := by
  have HK := Lib.hid hk
  have HX := Lib.hid hx
  clear hk hx
  go_enter Try.func4, Try.ntmps4
  go_wp2_with (first | (go_at_call 7; (with_reducible refine (summed_any _).mono ?_); rintro e w' ⟨rfl, rfl⟩) | (go_at_call 9; (with_reducible refine (Small.at cs _).mono ?_); rintro e w' ⟨rfl, rfl⟩))
  rw [HK.out]
  go_loop [8] (fun i => ∃ n : Int, 9 ≤ n ∧ n ≤ 12 ∧ i = .int .i64 n) (fun i => (12 - intOf i).toNat)
  case atStart => exact ⟨9, by omega, by omega, rfl⟩
  case round =>
    obtain ⟨n, hn1, hn2, rfl⟩ := hrel
    by_cases hlt : n ≤ 11
    · obtain ⟨p', r', l1, l2, l3, l4⟩ := cl n hn1 hlt
      go_wp2_with (first | (go_at_call 8; (with_reducible refine (Gives.at l1 _).mono ?_); rintro e w' ⟨rfl, rfl⟩) | (go_at_call 8; (with_reducible refine (Gives.at l2 _).mono ?_); rintro e w' ⟨rfl, rfl⟩) | (go_at_call 8; (with_reducible refine (Gives.at l3 _).mono ?_); rintro e w' ⟨rfl, rfl⟩) | (go_at_call 8; (with_reducible refine (Gives.at l4 _).mono ?_); rintro e w' ⟨rfl, rfl⟩))
      go_round
      case rel => exact ⟨n + 1, by omega, by omega, rfl⟩
      case measure => simp [intOf]; omega
    · clear hk1 hk2
      rcases HX.out with h | h
      · go_wp2_with (first | (go_at_call 8; (with_reducible refine (Gives.at c1 _).mono ?_); rintro e w' ⟨rfl, rfl⟩) | (go_at_call 8; (with_reducible refine (Gives.at c2 _).mono ?_); rintro e w' ⟨rfl, rfl⟩) | (go_at_call 8; (with_reducible refine (Gives.at c3 _).mono ?_); rintro e w' ⟨rfl, rfl⟩) | (go_at_call 8; (with_reducible refine (Gives.at c4 _).mono ?_); rintro e w' ⟨rfl, rfl⟩) | (go_at_call 8; (with_reducible refine (Gives.at c5 _).mono ?_); rintro e w' ⟨rfl, rfl⟩) | (go_at_call 8; (with_reducible refine (Gives.at c6 _).mono ?_); rintro e w' ⟨rfl, rfl⟩))
        go_ret
        exact ⟨by simp, rfl⟩
      · subst h
        go_wp2_with (first | (go_at_call 8; (with_reducible refine (Gives.at c1 _).mono ?_); rintro e w' ⟨rfl, rfl⟩) | (go_at_call 8; (with_reducible refine (Gives.at c2 _).mono ?_); rintro e w' ⟨rfl, rfl⟩) | (go_at_call 8; (with_reducible refine (Gives.at c3 _).mono ?_); rintro e w' ⟨rfl, rfl⟩) | (go_at_call 8; (with_reducible refine (Gives.at c4 _).mono ?_); rintro e w' ⟨rfl, rfl⟩) | (go_at_call 8; (with_reducible refine (Gives.at c5 _).mono ?_); rintro e w' ⟨rfl, rfl⟩) | (go_at_call 8; (with_reducible refine (Gives.at c6 _).mono ?_); rintro e w' ⟨rfl, rfl⟩))
        all_goals
          go_ret
          exact ⟨by simp, rfl⟩
theorem rounds_any (a x k : Int) (hx : -2147483648 ≤ x ∧ x ≤ 2147483647) (hk1 : 0 ≤ k) (hk2 : k ≤ 31) : Rounds a x k := by
  intro n h1 h2
  refine ⟨ofN true n x k, ofN false n a k, gives_shift_I h1 h2 hx (by omega), ?_, gives_shift_J h1 h2 (by omega), ?_⟩
  · have := gives_shift_I (k := k + 32) h1 h2 hx (by omega)
    rwa [shift_more n x k h1 h2] at this
  · have := gives_shift_J (x := a) (k := k - 64) h1 h2 (by omega)
    rwa [shift_less n a k h1 h2] at this
theorem ofN_bd (which a b : Int) : -2147483648 ≤ ofN true which a b ∧ ofN true which a b ≤ 2147483647 := by
  unfold ofN
  rw [if_pos rfl]
  exact wrap32_bd _
theorem shifts_any (a b : Int) (w : World) (ha : -9223372036854775808 ≤ a ∧ a ≤ 9223372036854775807) (_hb : -9223372036854775808 ≤ b ∧ b ≤ 9223372036854775807) :
    Calls Try.prog 4 #[.int .i64 a, .int .i64 b] w fun e w' => e = .returned (.bool true) ∧ w = w' := by
  have hk1 : 0 ≤ wrap64 ((IntKind.u64.wrap b).tmod 32) := by
    rw [Int.tmod_eq_emod_of_nonneg (by rw [IntKind.wrap_u64]; omega)]; unfold wrap64; omega
  have hk2 : wrap64 ((IntKind.u64.wrap b).tmod 32) ≤ 31 := by
    rw [Int.tmod_eq_emod_of_nonneg (by rw [IntKind.wrap_u64]; omega)]; unfold wrap64; omega
  generalize hk : wrap64 ((IntKind.u64.wrap b).tmod 32) = k at hk1 hk2
  have hx := wrap32_bd a
  have b1 : -2147483648 ≤ k ∧ k ≤ 2147483647 := by omega
  have c2 := gives_shift_I (which := 11) (x := ofN true 9 (wrap32 a) k) (by omega) (by omega) (ofN_bd _ _ _) b1
  rw [kept_eq (wrap32 a) k hk1 hk2] at c2
  have m1 : -2147483648 ≤ ofN true 11 (-1) k ∧ ofN true 11 (-1) k ≤ 2147483647 := ofN_bd _ _ _
  have c6 : Gives ⟨#[73]⟩ 6 (wrap32 a) (ofN true 11 (-1) k) (ofN true 6 (wrap32 a) (ofN true 11 (-1) k)) := gives_of_I (by
    unfold mathE
    rw [if_neg (by omega), if_neg, if_pos]
    · simp [ofB, wholeB]
    · have h8 := eq_wrap hx; have h9 := eq_wrap m1
      rintro (⟨_, h | h⟩ | ⟨h, _⟩)
      · exact h8 h
      · exact h9 h
      · omega) rfl
  refine shifts_core a b (wrap32 a) k _ _ _ _ _ w hk hk1 hk2 (fun w => small_any a w ha.1 ha.2) (rounds_any a _ k hx hk1 hk2) (gives_shift_I (by omega) (by omega) hx b1) c2
    (gives_shift_I (by omega) (by omega) hx b1) (gives_shift_I (by omega) (by omega) hx b1) (gives_shift_I (by omega) (by omega) (by omega) b1) c6 ?_
  by_cases h : wrap32 a < 0
  · exact Or.inl h
  · exact Or.inr (same_eq _ _ (by omega) hx.2)
end Go.Proofs.Ytadnljpjmhlkpaa
