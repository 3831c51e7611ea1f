/-
  WALKS over the reference MathFault. Conditions: those that each theorem names.
-/
import Derived.Test.YtadnljpjmhlkpaaRefMath
namespace Go.Proofs.Ytadnljpjmhlkpaa
open Go.RowKit
theorem ret_int {k : IntKind} {a b : Int} (h : a = b) : Ending.returned (.int k a) = Ending.returned (.int k b) := by rw [h]
theorem mathFault_not (s : ByteArray) (which a b : Int) (w : World) (h1 : (s.toList == [73]) = false) (h2 : (s.toList == [74]) = false) :
    Calls Try.prog 10 #[.string s, .int .i64 which, .int .i64 a, .int .i64 b] w fun e w' => e = .returned (.int .i64 1) ∧ w = w' := by
  go_enter Try.func10, Try.ntmps10
  go_wp2_with (go_at_call 14; (with_reducible refine (isWord_not _ _ h1 h2).mono ?_); rintro e w' ⟨rfl, rfl⟩)
  go_ret
  exact ⟨rfl, rfl⟩
set_option maxHeartbeats 400000 in
theorem mathFault_I_lo (which a b : Int) (w : World) (h : which < 1) :
    Calls Try.prog 10 #[.string ⟨#[73]⟩, .int .i64 which, .int .i64 a, .int .i64 b] w fun e w' => e = .returned (.int .i64 1) ∧ w = w' := by
  go_enter Try.func10, Try.ntmps10
  go_wp2_with (first | (go_at_call 14; (with_reducible refine (isWord_I _).mono ?_); rintro e w' ⟨rfl, rfl⟩))
  all_goals
    go_ret
    exact ⟨rfl, rfl⟩
set_option maxHeartbeats 400000 in
theorem mathFault_I_hi (which a b : Int) (w : World) (h : 12 < which) :
    Calls Try.prog 10 #[.string ⟨#[73]⟩, .int .i64 which, .int .i64 a, .int .i64 b] w fun e w' => e = .returned (.int .i64 1) ∧ w = w' := by
  go_enter Try.func10, Try.ntmps10
  go_wp2_with (first | (go_at_call 14; (with_reducible refine (isWord_I _).mono ?_); rintro e w' ⟨rfl, rfl⟩))
  all_goals
    go_ret
    exact ⟨rfl, rfl⟩
set_option maxHeartbeats 400000 in
theorem mathFault_J_lo (which a b : Int) (w : World) (h : which < 1) :
    Calls Try.prog 10 #[.string ⟨#[74]⟩, .int .i64 which, .int .i64 a, .int .i64 b] w fun e w' => e = .returned (.int .i64 1) ∧ w = w' := by
  go_enter Try.func10, Try.ntmps10
  go_wp2_with (first | (go_at_call 14; (with_reducible refine (isWord_J _).mono ?_); rintro e w' ⟨rfl, rfl⟩))
  all_goals
    go_ret
    exact ⟨rfl, rfl⟩
set_option maxHeartbeats 400000 in
theorem mathFault_J_hi (which a b : Int) (w : World) (h : 12 < which) :
    Calls Try.prog 10 #[.string ⟨#[74]⟩, .int .i64 which, .int .i64 a, .int .i64 b] w fun e w' => e = .returned (.int .i64 1) ∧ w = w' := by
  go_enter Try.func10, Try.ntmps10
  go_wp2_with (first | (go_at_call 14; (with_reducible refine (isWord_J _).mono ?_); rintro e w' ⟨rfl, rfl⟩))
  all_goals
    go_ret
    exact ⟨rfl, rfl⟩
set_option maxHeartbeats 400000 in
theorem mathFault_I_a (which a b : Int) (w : World) (ha : ¬ (-2147483648 ≤ a ∧ a ≤ 2147483647)) (h1 : 1 ≤ which) (h2 : which ≤ 12) :
    Calls Try.prog 10 #[.string ⟨#[73]⟩, .int .i64 which, .int .i64 a, .int .i64 b] w fun e w' => e = .returned (.int .i64 2) ∧ w = w' := by
  go_enter Try.func10, Try.ntmps10
  go_wp2_with (first | (go_at_call 14; (with_reducible refine (isWord_I _).mono ?_); rintro e w' ⟨rfl, rfl⟩) | (go_at_call 19; (with_reducible refine (word32_no _ _ ha).mono ?_); rintro e w' ⟨rfl, rfl⟩))
  all_goals
    go_ret
    exact ⟨rfl, rfl⟩
set_option maxHeartbeats 400000 in
theorem mathFault_I_b (which a b : Int) (w : World) (ha1 : -2147483648 ≤ a) (ha2 : a ≤ 2147483647) (hb : ¬ (-2147483648 ≤ b ∧ b ≤ 2147483647)) (h1 : 1 ≤ which) (h2 : which ≤ 12) :
    Calls Try.prog 10 #[.string ⟨#[73]⟩, .int .i64 which, .int .i64 a, .int .i64 b] w fun e w' => e = .returned (.int .i64 2) ∧ w = w' := by
  go_enter Try.func10, Try.ntmps10
  go_wp2_with (first | (go_at_call 14; (with_reducible refine (isWord_I _).mono ?_); rintro e w' ⟨rfl, rfl⟩) | (go_at_call 19; (with_reducible refine (word32_no _ _ hb).mono ?_); rintro e w' ⟨rfl, rfl⟩) | (go_at_call 19; (with_reducible refine (word32_yes _ _ ha1 ha2).mono ?_); rintro e w' ⟨rfl, rfl⟩))
  all_goals
    go_ret
    exact ⟨rfl, rfl⟩
set_option maxHeartbeats 400000 in
theorem mathFault_I_0 (which a b : Int) (w : World) (ha : -2147483648 ≤ a ∧ a ≤ 2147483647) (hb : -2147483648 ≤ b ∧ b ≤ 2147483647) (h1 : 1 ≤ which) (h2 : which ≤ 12) (ho : ofB which b = true) :
    Calls Try.prog 10 #[.string ⟨#[73]⟩, .int .i64 which, .int .i64 a, .int .i64 b] w fun e w' => e = .returned (.int .i64 0) ∧ w = w' := by
  obtain ⟨ha1, ha2⟩ := ha
  obtain ⟨hb1, hb2⟩ := hb
  have hc : which = 9 ∨ which = 10 ∨ which = 11 ∨ ((which == 9) = false ∧ (which == 10) = false ∧ (which == 11) = false) := by simp; omega
  rcases hc with rfl | rfl | rfl | ⟨n9, n10, n11⟩
  all_goals
    go_enter Try.func10, Try.ntmps10
    go_wp2_with (first | (go_at_call 14; (with_reducible refine (isWord_I _).mono ?_); rintro e w' ⟨rfl, rfl⟩) | (go_at_call 19; (with_reducible refine (word32_yes _ _ ha1 ha2).mono ?_); rintro e w' ⟨rfl, rfl⟩) | (go_at_call 19; (with_reducible refine (word32_yes _ _ hb1 hb2).mono ?_); rintro e w' ⟨rfl, rfl⟩) | (go_at_call 12; (with_reducible refine (mathOf_I _ _ _ _ (by omega) (by omega) ⟨ha1, ha2⟩ ⟨hb1, hb2⟩).mono ?_); rintro e w' ⟨rfl, rfl⟩))
    all_goals
      go_ret
      exact ⟨rfl, rfl⟩
set_option maxHeartbeats 400000 in
theorem mathFault_J_0 (which a b : Int) (w : World) (ha : -9223372036854775808 ≤ a ∧ a ≤ 9223372036854775807) (hb : -2147483648 ≤ b ∧ b ≤ 2147483647) (h1 : 1 ≤ which) (h2 : which ≤ 12) (ho : ofB which b = true) :
    Calls Try.prog 10 #[.string ⟨#[74]⟩, .int .i64 which, .int .i64 a, .int .i64 b] w fun e w' => e = .returned (.int .i64 0) ∧ w = w' := by
  obtain ⟨hb1, hb2⟩ := hb
  have hbb : -9223372036854775808 ≤ b ∧ b ≤ 9223372036854775807 := by omega
  have hc : which = 9 ∨ which = 10 ∨ which = 11 ∨ ((which == 9) = false ∧ (which == 10) = false ∧ (which == 11) = false) := by simp; omega
  rcases hc with rfl | rfl | rfl | ⟨n9, n10, n11⟩
  all_goals
    go_enter Try.func10, Try.ntmps10
    go_wp2_with (first | (go_at_call 14; (with_reducible refine (isWord_J _).mono ?_); rintro e w' ⟨rfl, rfl⟩) | (go_at_call 19; (with_reducible refine (word32_yes _ _ hb1 hb2).mono ?_); rintro e w' ⟨rfl, rfl⟩) | (go_at_call 12; (with_reducible refine (mathOf_Jall _ _ _ _ (by omega) (by omega) ha hbb).mono ?_); rintro e w' ⟨rfl, rfl⟩))
    all_goals
      go_ret
      exact ⟨rfl, rfl⟩
set_option maxHeartbeats 400000 in
theorem mathFault_J_0n (which a b : Int) (w : World) (ha : -9223372036854775808 ≤ a ∧ a ≤ 9223372036854775807) (hb : -9223372036854775808 ≤ b ∧ b ≤ 9223372036854775807) (h1 : 1 ≤ which) (h2 : which ≤ 12) (hs : which < 9 ∨ 11 < which) (ho : ofB which b = true) :
    Calls Try.prog 10 #[.string ⟨#[74]⟩, .int .i64 which, .int .i64 a, .int .i64 b] w fun e w' => e = .returned (.int .i64 0) ∧ w = w' := by
  have n9 : (which == 9) = false := by simp; omega
  have n10 : (which == 10) = false := by simp; omega
  have n11 : (which == 11) = false := by simp; omega
  go_enter Try.func10, Try.ntmps10
  go_wp2_with (first | (go_at_call 14; (with_reducible refine (isWord_J _).mono ?_); rintro e w' ⟨rfl, rfl⟩) | (go_at_call 12; (with_reducible refine (mathOf_Jall _ _ _ _ (by omega) (by omega) ha hb).mono ?_); rintro e w' ⟨rfl, rfl⟩))
  all_goals
    go_ret
    exact ⟨rfl, rfl⟩
set_option maxHeartbeats 400000 in
theorem mathFault_I_3 (which a b : Int) (w : World) (ha : -2147483648 ≤ a ∧ a ≤ 2147483647) (hb : -2147483648 ≤ b ∧ b ≤ 2147483647) (h1 : 1 ≤ which) (h2 : which ≤ 12) (ho : ofB which b = false) :
    Calls Try.prog 10 #[.string ⟨#[73]⟩, .int .i64 which, .int .i64 a, .int .i64 b] w fun e w' => e = .returned (.int .i64 3) ∧ w = w' := by
  obtain ⟨ha1, ha2⟩ := ha
  obtain ⟨hb1, hb2⟩ := hb
  have hc : which = 9 ∨ which = 10 ∨ which = 11 ∨ ((which == 9) = false ∧ (which == 10) = false ∧ (which == 11) = false) := by simp; omega
  rcases hc with rfl | rfl | rfl | ⟨n9, n10, n11⟩
  all_goals
    go_enter Try.func10, Try.ntmps10
    go_wp2_with (first | (go_at_call 14; (with_reducible refine (isWord_I _).mono ?_); rintro e w' ⟨rfl, rfl⟩) | (go_at_call 19; (with_reducible refine (word32_yes _ _ ha1 ha2).mono ?_); rintro e w' ⟨rfl, rfl⟩) | (go_at_call 19; (with_reducible refine (word32_yes _ _ hb1 hb2).mono ?_); rintro e w' ⟨rfl, rfl⟩) | (go_at_call 12; (with_reducible refine (mathOf_I _ _ _ _ (by omega) (by omega) ⟨ha1, ha2⟩ ⟨hb1, hb2⟩).mono ?_); rintro e w' ⟨rfl, rfl⟩))
    all_goals
      go_ret
      exact ⟨rfl, rfl⟩
set_option maxHeartbeats 400000 in
theorem mathFault_J_3 (which a b : Int) (w : World) (ha : -9223372036854775808 ≤ a ∧ a ≤ 9223372036854775807) (hb : -2147483648 ≤ b ∧ b ≤ 2147483647) (h1 : 1 ≤ which) (h2 : which ≤ 12) (ho : ofB which b = false) :
    Calls Try.prog 10 #[.string ⟨#[74]⟩, .int .i64 which, .int .i64 a, .int .i64 b] w fun e w' => e = .returned (.int .i64 3) ∧ w = w' := by
  obtain ⟨hb1, hb2⟩ := hb
  have hbb : -9223372036854775808 ≤ b ∧ b ≤ 9223372036854775807 := by omega
  have hc : which = 9 ∨ which = 10 ∨ which = 11 ∨ ((which == 9) = false ∧ (which == 10) = false ∧ (which == 11) = false) := by simp; omega
  rcases hc with rfl | rfl | rfl | ⟨n9, n10, n11⟩
  all_goals
    go_enter Try.func10, Try.ntmps10
    go_wp2_with (first | (go_at_call 14; (with_reducible refine (isWord_J _).mono ?_); rintro e w' ⟨rfl, rfl⟩) | (go_at_call 19; (with_reducible refine (word32_yes _ _ hb1 hb2).mono ?_); rintro e w' ⟨rfl, rfl⟩) | (go_at_call 12; (with_reducible refine (mathOf_Jall _ _ _ _ (by omega) (by omega) ha hbb).mono ?_); rintro e w' ⟨rfl, rfl⟩))
    all_goals
      go_ret
      exact ⟨rfl, rfl⟩
set_option maxHeartbeats 400000 in
theorem mathFault_J_3n (which a b : Int) (w : World) (ha : -9223372036854775808 ≤ a ∧ a ≤ 9223372036854775807) (hb : -9223372036854775808 ≤ b ∧ b ≤ 9223372036854775807) (h1 : 1 ≤ which) (h2 : which ≤ 12) (hs : which < 9 ∨ 11 < which) (ho : ofB which b = false) :
    Calls Try.prog 10 #[.string ⟨#[74]⟩, .int .i64 which, .int .i64 a, .int .i64 b] w fun e w' => e = .returned (.int .i64 3) ∧ w = w' := by
  have n9 : (which == 9) = false := by simp; omega
  have n10 : (which == 10) = false := by simp; omega
  have n11 : (which == 11) = false := by simp; omega
  go_enter Try.func10, Try.ntmps10
  go_wp2_with (first | (go_at_call 14; (with_reducible refine (isWord_J _).mono ?_); rintro e w' ⟨rfl, rfl⟩) | (go_at_call 12; (with_reducible refine (mathOf_Jall _ _ _ _ (by omega) (by omega) ha hb).mono ?_); rintro e w' ⟨rfl, rfl⟩))
  all_goals
    go_ret
    exact ⟨rfl, rfl⟩
set_option maxHeartbeats 400000 in
theorem mathFault_J_b (which a b : Int) (w : World) (hb : ¬ (-2147483648 ≤ b ∧ b ≤ 2147483647)) (h1 : 9 ≤ which) (h2 : which ≤ 11) :
    Calls Try.prog 10 #[.string ⟨#[74]⟩, .int .i64 which, .int .i64 a, .int .i64 b] w fun e w' => e = .returned (.int .i64 2) ∧ w = w' := by
  go_enter Try.func10, Try.ntmps10
  go_wp2_with (first | (go_at_call 14; (with_reducible refine (isWord_J _).mono ?_); rintro e w' ⟨rfl, rfl⟩) | (go_at_call 19; (with_reducible refine (word32_no _ _ hb).mono ?_); rintro e w' ⟨rfl, rfl⟩))
  all_goals
    go_ret
    exact ⟨rfl, rfl⟩
end Go.Proofs.Ytadnljpjmhlkpaa
