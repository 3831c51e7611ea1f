/-
  NumTells: the walk of the law on every input. Conditions: which, a and b are 64-bit numbers.
-/
import Derived.Test.YtadnljpjmhlkpaaRefFault
namespace Go.Proofs.Ytadnljpjmhlkpaa
open Go.RowKit
theorem conv_J (a : Int) (w : World) : Calls Try.prog 13 #[.string ⟨#[74]⟩, .int .i64 a] w fun e w' => e = .returned (.tuple #[.int .i64 a, .nilIface]) ∧ w = w' := by
  go_enter Try.func13, Try.ntmps13
  go_wp2_with (go_at_call 16; (with_reducible refine (number_J _).mono ?_); rintro e w' ⟨rfl, rfl⟩)
  go_ret2
  exact ⟨rfl, rfl⟩
theorem conv_not (s : ByteArray) (a : Int) (w : World) (h1 : (s.toList == [73]) = false) (h2 : (s.toList == [74]) = false) : Calls Try.prog 13 #[.string s, .int .i64 a] w fun e w' => e = .returned (.tuple #[.int .i64 0, .iface 31 (.int .i64 1)]) ∧ w = w' := by
  go_enter Try.func13, Try.ntmps13
  go_wp2_with (go_at_call 16; (with_reducible refine (number_not _ _ h1 h2).mono ?_); rintro e w' ⟨rfl, rfl⟩)
  go_ret2
  exact ⟨rfl, rfl⟩
def Fault (s : ByteArray) (which a b k : Int) : Prop := ∀ w, Calls Try.prog 10 #[.string s, .int .i64 which, .int .i64 a, .int .i64 b] w fun e w' => e = .returned (.int .i64 k) ∧ w = w'
theorem Fault.at {s : ByteArray} {which a b k : Int} (c : Fault s which a b k) (w : World) : Calls Try.prog 10 #[.string s, .int .i64 which, .int .i64 a, .int .i64 b] w fun e w' => e = .returned (.int .i64 k) ∧ w = w' := c w
def MathIs (s : ByteArray) (which a b n : Int) : Prop := ∀ w, Calls Try.prog 12 #[.string s, .int .i64 which, .int .i64 a, .int .i64 b] w fun e w' => e = .returned (.tuple #[.int .i64 n, .bool true]) ∧ w = w'
theorem MathIs.at {s : ByteArray} {which a b n : Int} (c : MathIs s which a b n) (w : World) : Calls Try.prog 12 #[.string s, .int .i64 which, .int .i64 a, .int .i64 b] w fun e w' => e = .returned (.tuple #[.int .i64 n, .bool true]) ∧ w = w' := c w
set_option maxHeartbeats 400000 in
theorem tells_I_err (which a b k : Int) (w : World) (cF : Fault ⟨#[73]⟩ which a b k) (cM : Fails ⟨#[73]⟩ which a b k) (hk : (k == 0) = false) (ha1 : -9223372036854775808 ≤ a) (ha2 : a ≤ 9223372036854775807) :
    Calls Try.prog 5 #[.string ⟨#[73]⟩, .int .i64 which, .int .i64 a, .int .i64 b] w fun e w' => e = .returned (.bool true) ∧ w = w' := by
  go_enter Try.func5, Try.ntmps5
  go_wp2_with (first | (go_at_call 7; (with_reducible refine (summed_any _).mono ?_); rintro e w' ⟨rfl, rfl⟩) | (go_at_call 10; (with_reducible refine (Fault.at cF _).mono ?_); rintro e w' ⟨rfl, rfl⟩) | (go_at_call 8; (with_reducible refine (Fails.at cM _).mono ?_); rintro e w' ⟨rfl, rfl⟩) | (go_at_call 11; (with_reducible refine (error_at _ _ hk).mono ?_); rintro e w' ⟨rfl, rfl⟩) | (go_at_call 11; (with_reducible refine (error_ok _).mono ?_); rintro e w' ⟨rfl, rfl⟩) | (go_at_call 13; (with_reducible refine (conv_I _ _).mono ?_); rintro e w' ⟨rfl, rfl⟩) | (go_at_call 14; (with_reducible refine (isWord_I _).mono ?_); rintro e w' ⟨rfl, rfl⟩) | (go_at_call 15; (with_reducible refine (wrap_any _ _ ha1 ha2).mono ?_); rintro e w' ⟨rfl, rfl⟩))
  go_ret
  exact ⟨by simp, rfl⟩
set_option maxHeartbeats 400000 in
theorem tells_I_ok (which a b n : Int) (w : World) (cF : Fault ⟨#[73]⟩ which a b 0) (cM : Gives ⟨#[73]⟩ which a b n) (cO : MathIs ⟨#[73]⟩ which a b n) (ha1 : -9223372036854775808 ≤ a) (ha2 : a ≤ 9223372036854775807) :
    Calls Try.prog 5 #[.string ⟨#[73]⟩, .int .i64 which, .int .i64 a, .int .i64 b] w fun e w' => e = .returned (.bool true) ∧ w = w' := by
  go_enter Try.func5, Try.ntmps5
  go_wp2_with (first | (go_at_call 7; (with_reducible refine (summed_any _).mono ?_); rintro e w' ⟨rfl, rfl⟩) | (go_at_call 10; (with_reducible refine (Fault.at cF _).mono ?_); rintro e w' ⟨rfl, rfl⟩) | (go_at_call 8; (with_reducible refine (Gives.at cM _).mono ?_); rintro e w' ⟨rfl, rfl⟩) | (go_at_call 12; (with_reducible refine (MathIs.at cO _).mono ?_); rintro e w' ⟨rfl, rfl⟩) | (go_at_call 11; (with_reducible refine (error_ok _).mono ?_); rintro e w' ⟨rfl, rfl⟩) | (go_at_call 13; (with_reducible refine (conv_I _ _).mono ?_); rintro e w' ⟨rfl, rfl⟩) | (go_at_call 14; (with_reducible refine (isWord_I _).mono ?_); rintro e w' ⟨rfl, rfl⟩) | (go_at_call 15; (with_reducible refine (wrap_any _ _ ha1 ha2).mono ?_); rintro e w' ⟨rfl, rfl⟩))
  go_ret
  exact ⟨by simp, rfl⟩
set_option maxHeartbeats 400000 in
theorem tells_J_err (which a b k : Int) (w : World) (cF : Fault ⟨#[74]⟩ which a b k) (cM : Fails ⟨#[74]⟩ which a b k) (hk : (k == 0) = false)  :
    Calls Try.prog 5 #[.string ⟨#[74]⟩, .int .i64 which, .int .i64 a, .int .i64 b] w fun e w' => e = .returned (.bool true) ∧ w = w' := by
  go_enter Try.func5, Try.ntmps5
  go_wp2_with (first | (go_at_call 7; (with_reducible refine (summed_any _).mono ?_); rintro e w' ⟨rfl, rfl⟩) | (go_at_call 10; (with_reducible refine (Fault.at cF _).mono ?_); rintro e w' ⟨rfl, rfl⟩) | (go_at_call 8; (with_reducible refine (Fails.at cM _).mono ?_); rintro e w' ⟨rfl, rfl⟩) | (go_at_call 11; (with_reducible refine (error_at _ _ hk).mono ?_); rintro e w' ⟨rfl, rfl⟩) | (go_at_call 11; (with_reducible refine (error_ok _).mono ?_); rintro e w' ⟨rfl, rfl⟩) | (go_at_call 13; (with_reducible refine (conv_J _ _).mono ?_); rintro e w' ⟨rfl, rfl⟩) | (go_at_call 14; (with_reducible refine (isWord_J _).mono ?_); rintro e w' ⟨rfl, rfl⟩))
  go_ret
  exact ⟨by simp, rfl⟩
set_option maxHeartbeats 400000 in
theorem tells_J_ok (which a b n : Int) (w : World) (cF : Fault ⟨#[74]⟩ which a b 0) (cM : Gives ⟨#[74]⟩ which a b n) (cO : MathIs ⟨#[74]⟩ which a b n)  :
    Calls Try.prog 5 #[.string ⟨#[74]⟩, .int .i64 which, .int .i64 a, .int .i64 b] w fun e w' => e = .returned (.bool true) ∧ w = w' := by
  go_enter Try.func5, Try.ntmps5
  go_wp2_with (first | (go_at_call 7; (with_reducible refine (summed_any _).mono ?_); rintro e w' ⟨rfl, rfl⟩) | (go_at_call 10; (with_reducible refine (Fault.at cF _).mono ?_); rintro e w' ⟨rfl, rfl⟩) | (go_at_call 8; (with_reducible refine (Gives.at cM _).mono ?_); rintro e w' ⟨rfl, rfl⟩) | (go_at_call 12; (with_reducible refine (MathIs.at cO _).mono ?_); rintro e w' ⟨rfl, rfl⟩) | (go_at_call 11; (with_reducible refine (error_ok _).mono ?_); rintro e w' ⟨rfl, rfl⟩) | (go_at_call 13; (with_reducible refine (conv_J _ _).mono ?_); rintro e w' ⟨rfl, rfl⟩) | (go_at_call 14; (with_reducible refine (isWord_J _).mono ?_); rintro e w' ⟨rfl, rfl⟩))
  go_ret
  exact ⟨by simp, rfl⟩
set_option maxHeartbeats 400000 in
theorem tells_not (which a b : Int) (w : World) (s : ByteArray) (h1 : (s.toList == [73]) = false) (h2 : (s.toList == [74]) = false) :
    Calls Try.prog 5 #[.string s, .int .i64 which, .int .i64 a, .int .i64 b] w fun e w' => e = .returned (.bool true) ∧ w = w' := by
  go_enter Try.func5, Try.ntmps5
  go_wp2_with (first | (go_at_call 7; (with_reducible refine (summed_any _).mono ?_); rintro e w' ⟨rfl, rfl⟩) | (go_at_call 10; (with_reducible refine (mathFault_not _ _ _ _ _ h1 h2).mono ?_); rintro e w' ⟨rfl, rfl⟩) | (go_at_call 8; (with_reducible refine (math_not' _ _ _ _ _ h1 h2).mono ?_); rintro e w' ⟨rfl, rfl⟩) | (go_at_call 11; (with_reducible refine (error_at _ _ rfl).mono ?_); rintro e w' ⟨rfl, rfl⟩) | (go_at_call 13; (with_reducible refine (conv_not _ _ _ h1 h2).mono ?_); rintro e w' ⟨rfl, rfl⟩) | (go_at_call 14; (with_reducible refine (isWord_not _ _ h1 h2).mono ?_); rintro e w' ⟨rfl, rfl⟩))
  go_ret
  exact ⟨by simp, rfl⟩
theorem mathE_out {I : Bool} {which a b : Int} (h : which < 1 ∨ 12 < which) : mathE I which a b = 0 + 1 := by unfold mathE; rw [if_pos h]
theorem mathE_rangeI {which a b : Int} (h1 : 1 ≤ which) (h2 : which ≤ 12) (h : ¬ (-2147483648 ≤ a ∧ a ≤ 2147483647) ∨ ¬ (-2147483648 ≤ b ∧ b ≤ 2147483647)) : mathE true which a b = 1 + 1 := by
  unfold mathE
  rw [if_neg (by omega), if_pos]
  rcases h with h | h
  · exact Or.inl ⟨rfl, Or.inl (ne_wrap (wrap32_out h))⟩
  · exact Or.inl ⟨rfl, Or.inr (ne_wrap (wrap32_out h))⟩
theorem mathE_I {which a b : Int} (h1 : 1 ≤ which) (h2 : which ≤ 12) (ha : -2147483648 ≤ a ∧ a ≤ 2147483647) (hb : -2147483648 ≤ b ∧ b ≤ 2147483647) : mathE true which a b = if ofB which b = true then 0 else 3 := by
  unfold mathE
  rw [if_neg (by omega), if_neg]
  have := eq_wrap ha; have := eq_wrap hb
  rintro (⟨_, h | h⟩ | ⟨_, _, h⟩) <;> contradiction
theorem mathE_J {which a b : Int} (h1 : 1 ≤ which) (h2 : which ≤ 12) (hb : (-2147483648 ≤ b ∧ b ≤ 2147483647) ∨ which < 9 ∨ 11 < which) : mathE false which a b = if ofB which b = true then 0 else 3 := by
  unfold mathE
  rw [if_neg (by omega), if_neg]
  rintro (⟨h, _⟩ | ⟨h3, h4, h⟩)
  · cases h
  · rcases hb with hb | hb
    · exact eq_wrap hb h
    · omega
theorem mathE_Jb {which a b : Int} (h1 : 9 ≤ which) (h2 : which ≤ 11) (hb : ¬ (-2147483648 ≤ b ∧ b ≤ 2147483647)) : mathE false which a b = 1 + 1 := by
  unfold mathE
  rw [if_neg (by omega), if_pos]
  exact Or.inr ⟨h1, h2, ne_wrap (wrap32_out hb)⟩
theorem numTells_any (s : ByteArray) (which a b : Int) (w : World) (_hw : -9223372036854775808 ≤ which ∧ which ≤ 9223372036854775807) (ha : -9223372036854775808 ≤ a ∧ a ≤ 9223372036854775807) (hb : -9223372036854775808 ≤ b ∧ b ≤ 9223372036854775807) :
    Calls Try.prog 5 #[.string s, .int .i64 which, .int .i64 a, .int .i64 b] w fun e w' => e = .returned (.bool true) ∧ w = w' := by
  by_cases hI : s.toList = [73]
  · obtain rfl := str_of_list hI
    by_cases hlo : which < 1
    · exact tells_I_err which a b _ w (fun w => mathFault_I_lo which a b w hlo) (fails_of_I (mathE_out (Or.inl hlo))) rfl ha.1 ha.2
    by_cases hhi : 12 < which
    · exact tells_I_err which a b _ w (fun w => mathFault_I_hi which a b w hhi) (fails_of_I (mathE_out (Or.inr hhi))) rfl ha.1 ha.2
    have h1 : 1 ≤ which := by omega
    have h2 : which ≤ 12 := by omega
    by_cases hra : -2147483648 ≤ a ∧ a ≤ 2147483647
    · by_cases hrb : -2147483648 ≤ b ∧ b ≤ 2147483647
      · cases ho : ofB which b with
        | true =>
          exact tells_I_ok which a b (ofN true which a b) w (fun w => mathFault_I_0 which a b w hra hrb h1 h2 ho) (gives_of_I (by rw [mathE_I h1 h2 hra hrb, if_pos ho]) rfl)
            (fun w => by have := mathOf_I which a b w h1 h2 hra hrb; rwa [ho] at this) ha.1 ha.2
        | false =>
          exact tells_I_err which a b _ w (fun w => mathFault_I_3 which a b w hra hrb h1 h2 ho) (fails_of_I (k := 2) (by rw [mathE_I h1 h2 hra hrb, if_neg (by rw [ho]; decide)])) rfl ha.1 ha.2
      · exact tells_I_err which a b _ w (fun w => mathFault_I_b which a b w hra.1 hra.2 hrb h1 h2) (fails_of_I (mathE_rangeI h1 h2 (Or.inr hrb))) rfl ha.1 ha.2
    · exact tells_I_err which a b _ w (fun w => mathFault_I_a which a b w hra h1 h2) (fails_of_I (mathE_rangeI h1 h2 (Or.inl hra))) rfl ha.1 ha.2
  · by_cases hJ : s.toList = [74]
    · obtain rfl := str_of_list hJ
      by_cases hlo : which < 1
      · exact tells_J_err which a b _ w (fun w => mathFault_J_lo which a b w hlo) (fails_of_J (mathE_out (Or.inl hlo))) rfl
      by_cases hhi : 12 < which
      · exact tells_J_err which a b _ w (fun w => mathFault_J_hi which a b w hhi) (fails_of_J (mathE_out (Or.inr hhi))) rfl
      have h1 : 1 ≤ which := by omega
      have h2 : which ≤ 12 := by omega
      by_cases hs : which < 9 ∨ 11 < which
      · cases ho : ofB which b with
        | true =>
          exact tells_J_ok which a b (ofN false which a b) w (fun w => mathFault_J_0n which a b w ha hb h1 h2 hs ho) (gives_of_J (by rw [mathE_J h1 h2 (Or.inr hs), if_pos ho]) rfl)
            (fun w => by have := mathOf_Jall which a b w h1 h2 ha hb; rwa [ho] at this)
        | false =>
          exact tells_J_err which a b _ w (fun w => mathFault_J_3n which a b w ha hb h1 h2 hs ho) (fails_of_J (k := 2) (by rw [mathE_J h1 h2 (Or.inr hs), if_neg (by rw [ho]; decide)])) rfl
      · by_cases hrb : -2147483648 ≤ b ∧ b ≤ 2147483647
        · cases ho : ofB which b with
          | true =>
            exact tells_J_ok which a b (ofN false which a b) w (fun w => mathFault_J_0 which a b w ha hrb h1 h2 ho) (gives_of_J (by rw [mathE_J h1 h2 (Or.inl hrb), if_pos ho]) rfl)
              (fun w => by have := mathOf_Jall which a b w h1 h2 ha hb; rwa [ho] at this)
          | false =>
            exact tells_J_err which a b _ w (fun w => mathFault_J_3 which a b w ha hrb h1 h2 ho) (fails_of_J (k := 2) (by rw [mathE_J h1 h2 (Or.inl hrb), if_neg (by rw [ho]; decide)])) rfl
        · exact tells_J_err which a b _ w (fun w => mathFault_J_b which a b w hrb (by omega) (by omega)) (fails_of_J (mathE_Jb (by omega) (by omega) hrb)) rfl
    · exact tells_not which a b w s (by simpa using hI) (by simpa using hJ)
end Go.Proofs.Ytadnljpjmhlkpaa
