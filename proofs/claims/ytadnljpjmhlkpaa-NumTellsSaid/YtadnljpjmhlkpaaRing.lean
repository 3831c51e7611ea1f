/-
  NumRing: the walk of the law on every input. Conditions: a, b and c are 64-bit numbers.
-/
import Derived.Test.YtadnljpjmhlkpaaShifts
namespace Go.Proofs.Ytadnljpjmhlkpaa
open Go.RowKit
theorem conv_I (a : Int) (w : World) : Calls Try.prog 13 #[.string ⟨#[73]⟩, .int .i64 a] w fun e w' => e = .returned (.tuple #[.int .i64 (wrap32 a), .nilIface]) ∧ w = w' := by
  go_enter Try.func13, Try.ntmps13
  go_wp2_with (first | (go_at_call 16; (with_reducible refine (number_I _).mono ?_); rintro e w' ⟨rfl, rfl⟩) | (go_at_call 17; (with_reducible refine (word_any _ _).mono ?_); rintro e w' ⟨rfl, rfl⟩))
  go_ret2
  exact ⟨rfl, rfl⟩
def Convs (u v : Int) : Prop := ∀ w, Calls Try.prog 13 #[.string ⟨#[73]⟩, .int .i64 u] w fun e w' => e = .returned (.tuple #[.int .i64 v, .nilIface]) ∧ w = w'
theorem Convs.at {u v : Int} (c : Convs u v) (w : World) : Calls Try.prog 13 #[.string ⟨#[73]⟩, .int .i64 u] w fun e w' => e = .returned (.tuple #[.int .i64 v, .nilIface]) ∧ w = w' := c w
def Ring (x y z : Int) : Prop := ∀ n, n = 1 ∨ n = 3 → ∃ p r s u, Gives ⟨#[73]⟩ n x y p ∧ Gives ⟨#[73]⟩ n y x p ∧ Gives ⟨#[73]⟩ n p z r ∧ Gives ⟨#[73]⟩ n y z s ∧ Gives ⟨#[73]⟩ n x s r ∧ Gives ⟨#[74]⟩ n x y u ∧ Convs u p
set_option maxRecDepth 100000 in
set_option maxHeartbeats 400000 in
theorem ring_core (a b c x y z : Int) (w : World) (s1 : Small a x) (s2 : Small b y) (s3 : Small c z) (cl : Ring x y z) :
    Calls Try.prog 6 #[.int .i64 a, .int .i64 b, .int .i64 c] w fun e w' => e = .returned (.bool true) ∧ w = w' := by
  go_enter Try.func6, Try.ntmps6
  go_wp2_with (first | (go_at_call 7; (with_reducible refine (summed_any _).mono ?_); rintro e w' ⟨rfl, rfl⟩) | (go_at_call 9; (with_reducible refine (Small.at s1 _).mono ?_); rintro e w' ⟨rfl, rfl⟩) | (go_at_call 9; (with_reducible refine (Small.at s2 _).mono ?_); rintro e w' ⟨rfl, rfl⟩) | (go_at_call 9; (with_reducible refine (Small.at s3 _).mono ?_); rintro e w' ⟨rfl, rfl⟩))
  go_loop [11] (fun i => ∃ n : Int, (n = 1 ∨ n = 3 ∨ n = 5) ∧ i = .int .i64 n) (fun i => (5 - intOf i).toNat)
  case atStart => exact ⟨1, by omega, rfl⟩
  case round =>
    obtain ⟨n, hn, rfl⟩ := hrel
    have hcase : (n = 1 ∨ n = 3) ∨ n = 5 := by omega
    clear hn
    rcases hcase with hn | hn
    · obtain ⟨p, r, s, u, l1, l2, l3, l4, l5, l6, l7⟩ := cl n hn
      have hn1 : n ≤ 3 := by omega
      have hn2 : 1 ≤ n := by omega
      have HN := Lib.hid hn
      clear hn
      go_wp2_with (first | (go_at_call 8; (with_reducible refine (Gives.at l1 _).mono ?_); rintro e w' ⟨rfl, rfl⟩) | (go_at_call 8; (with_reducible refine (Gives.at l2 _).mono ?_); rintro e w' ⟨rfl, rfl⟩) | (go_at_call 8; (with_reducible refine (Gives.at l3 _).mono ?_); rintro e w' ⟨rfl, rfl⟩) | (go_at_call 8; (with_reducible refine (Gives.at l4 _).mono ?_); rintro e w' ⟨rfl, rfl⟩) | (go_at_call 8; (with_reducible refine (Gives.at l5 _).mono ?_); rintro e w' ⟨rfl, rfl⟩) | (go_at_call 8; (with_reducible refine (Gives.at l6 _).mono ?_); rintro e w' ⟨rfl, rfl⟩) | (go_at_call 13; (with_reducible refine (Convs.at l7 _).mono ?_); rintro e w' ⟨rfl, rfl⟩))
      go_round
      case rel => exact ⟨n + 2, by have := HN.out; omega, rfl⟩
      case measure => simp [intOf]; omega
    · subst hn
      go_wp2_with fail
      go_ret
      exact ⟨rfl, rfl⟩
theorem gives_I1 {x y : Int} (hx : -2147483648 ≤ x ∧ x ≤ 2147483647) (hy : -2147483648 ≤ y ∧ y ≤ 2147483647) : Gives ⟨#[73]⟩ 1 x y (wrap32 (x + y)) :=
  gives_of_I (mathE_ok (by omega) (by omega) (fun _ => hx) (fun _ => hy) (by simp [ofB, wholeB])) (by simp [ofN, wholeN, wrap32_wrap64])
theorem gives_I3 {x y : Int} (hx : -2147483648 ≤ x ∧ x ≤ 2147483647) (hy : -2147483648 ≤ y ∧ y ≤ 2147483647) : Gives ⟨#[73]⟩ 3 x y (wrap32 (x * y)) :=
  gives_of_I (mathE_ok (by omega) (by omega) (fun _ => hx) (fun _ => hy) (by simp [ofB, wholeB])) (by simp [ofN, wholeN, wrap32_wrap64])
theorem gives_J1 (x y : Int) : Gives ⟨#[74]⟩ 1 x y (wrap64 (x + y)) :=
  gives_of_J (mathE_ok (by omega) (by omega) (fun h => by cases h) (fun h => by cases h) (by simp [ofB, wholeB])) (by simp [ofN, wholeN])
theorem gives_J3 (x y : Int) : Gives ⟨#[74]⟩ 3 x y (wrap64 (x * y)) :=
  gives_of_J (mathE_ok (by omega) (by omega) (fun h => by cases h) (fun h => by cases h) (by simp [ofB, wholeB])) (by simp [ofN, wholeN])
theorem convs_any (u v : Int) (h : wrap32 u = v) : Convs u v := by
  intro w
  have := conv_I u w
  rwa [h] at this
theorem ring_any (x y z : Int) (hx : -2147483648 ≤ x ∧ x ≤ 2147483647) (hy : -2147483648 ≤ y ∧ y ≤ 2147483647) (hz : -2147483648 ≤ z ∧ z ≤ 2147483647) : Ring x y z := by
  intro n hn
  rcases hn with rfl | rfl
  · have b1 := wrap32_bd (x + y)
    have b2 := wrap32_bd (y + z)
    refine ⟨wrap32 (x + y), wrap32 (wrap32 (x + y) + z), wrap32 (y + z), wrap64 (x + y), gives_I1 hx hy, ?_, gives_I1 b1 hz, gives_I1 hy hz, ?_, gives_J1 x y, convs_any _ _ (wrap32_wrap64 _)⟩
    · have := gives_I1 hy hx
      rwa [Int.add_comm] at this
    · have := gives_I1 hx b2
      rwa [Int.add_comm x, wrap32_add_l, show y + z + x = (x + y) + z by omega, ← wrap32_add_l (x + y) z] at this
  · have b1 := wrap32_bd (x * y)
    have b2 := wrap32_bd (y * z)
    refine ⟨wrap32 (x * y), wrap32 (wrap32 (x * y) * z), wrap32 (y * z), wrap64 (x * y), gives_I3 hx hy, ?_, gives_I3 b1 hz, gives_I3 hy hz, ?_, gives_J3 x y, convs_any _ _ (wrap32_wrap64 _)⟩
    · have := gives_I3 hy hx
      rwa [Int.mul_comm] at this
    · have := gives_I3 hx b2
      rwa [Int.mul_comm x, wrap32_mul, Int.mul_comm (y * z), ← Int.mul_assoc, ← wrap32_mul (x * y) z] at this
theorem numRing_any (a b c : Int) (w : World) (ha : -9223372036854775808 ≤ a ∧ a ≤ 9223372036854775807) (hb : -9223372036854775808 ≤ b ∧ b ≤ 9223372036854775807) (hc : -9223372036854775808 ≤ c ∧ c ≤ 9223372036854775807) :
    Calls Try.prog 6 #[.int .i64 a, .int .i64 b, .int .i64 c] w fun e w' => e = .returned (.bool true) ∧ w = w' :=
  ring_core a b c (wrap32 a) (wrap32 b) (wrap32 c) w (fun w => small_any a w ha.1 ha.2) (fun w => small_any b w hb.1 hb.2) (fun w => small_any c w hc.1 hc.2) (ring_any _ _ _ (wrap32_bd a) (wrap32_bd b) (wrap32_bd c))
end Go.Proofs.Ytadnljpjmhlkpaa
