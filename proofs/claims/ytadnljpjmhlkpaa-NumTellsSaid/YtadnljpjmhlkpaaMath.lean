/-
  WALKS over package num: what Math and its callees return, for every input. No conditions.
-/
import Derived.Test.YtadnljpjmhlkpaaRows
import Derived.WalkKit
import Derived.WalkSpells
import Derived.WalkLawsBesides
namespace Go.Proofs.Ytadnljpjmhlkpaa
open Go.RowKit
theorem i64_and31 (n : Int) : bits .and .i64 n 31 = n % 32 := by
  have h127 : (BitVec.ofInt 64 31).toNat = 2 ^ 5 - 1 := by decide
  have key : (BitVec.ofInt 64 n &&& BitVec.ofInt 64 31).toNat = (n % ((2 ^ 64 : Nat) : Int)).toNat % 2 ^ 5 := by
    rw [BitVec.toNat_and, BitVec.toNat_ofInt, h127, Nat.and_two_pow_sub_one_eq_mod]
  show IntKind.i64.wrap ((BitVec.ofInt 64 n &&& BitVec.ofInt 64 31).toNat : Nat) = n % 32
  rw [key, IntKind.wrap_i64]
  omega
theorem i64_and63 (n : Int) : bits .and .i64 n 63 = n % 64 := by
  have h127 : (BitVec.ofInt 64 63).toNat = 2 ^ 6 - 1 := by decide
  have key : (BitVec.ofInt 64 n &&& BitVec.ofInt 64 63).toNat = (n % ((2 ^ 64 : Nat) : Int)).toNat % 2 ^ 6 := by
    rw [BitVec.toNat_and, BitVec.toNat_ofInt, h127, Nat.and_two_pow_sub_one_eq_mod]
  show IntKind.i64.wrap ((BitVec.ofInt 64 n &&& BitVec.ofInt 64 63).toNat : Nat) = n % 64
  rw [key, IntKind.wrap_i64]
  omega
def wholeN (which a b : Int) : Int :=
  if which = 1 then wrap64 (a + b) else if which = 2 then wrap64 (a - b) else if which = 3 then wrap64 (a * b)
  else if which = 6 then bits .and .i64 a b else if which = 7 then bits .or .i64 a b else if which = 8 then bits .xor .i64 a b
  else if which = 12 then wrap64 (-a) else if which = 4 then (if b = 0 then 0 else wrap64 (a.tdiv b)) else if which = 5 then (if b = 0 then 0 else a.tmod b) else 0
def wholeB (which b : Int) : Bool :=
  which == 1 || which == 2 || which == 3 || which == 6 || which == 7 || which == 8 || which == 12 || ((which == 4 || which == 5) && b != 0)
set_option maxHeartbeats 400000 in
theorem whole_any (which a b : Int) (w : World)  :
    Calls Try.prog 22 #[.int .i64 which, .int .i64 a, .int .i64 b] w fun e w' => e = .returned (.tuple #[.int .i64 (wholeN which a b), .bool (wholeB which b)]) ∧ w = w' := by
  have hw0 : wrap64 0 = 0 := by unfold wrap64; omega
  by_cases hb : b = 0
  · subst hb
    go_enter Try.func22, Try.ntmps22
    go_wp2
    all_goals
      go_ret2
      simp_all [wholeN, wholeB]
  · have hb' : (b == 0) = false := by simpa using hb
    go_enter Try.func22, Try.ntmps22
    go_wp2
    all_goals
      go_ret2
      simp_all [wholeN, wholeB]
def shiftN (which a d : Int) (i32 : Bool) : Int :=
  if i32 then
    (if which = 9 then wrap64 (a * 2 ^ (d % 32).toNat) else if which = 10 then a / 2 ^ (d % 32).toNat else wrap64 ((a % 4294967296) / 2 ^ (d % 32).toNat))
  else
    (if which = 9 then wrap64 (a * 2 ^ (d % 64).toNat) else if which = 10 then a / 2 ^ (d % 64).toNat else wrap64 (IntKind.u64.wrap a / 2 ^ (d % 64).toNat))
set_option maxHeartbeats 400000 in
theorem shifted_any32 (which a d : Int) (w : World)   :
    Calls Try.prog 23 #[.int .i64 which, .int .i64 a, .int .i64 d, .int .i64 32] w fun e w' => e = .returned (.int .i64 (shiftN which a d true)) ∧ w = w' := by
  have hm := i64_and31 d
  have h0 : 0 ≤ d % 32 := by omega
  have h1 : d % 32 ≤ 31 := by omega
  go_enter Try.func23, Try.ntmps23
  go_wp2
  all_goals
    go_ret
    simp_all [shiftN]
set_option maxHeartbeats 400000 in
theorem shifted_any64 (which a d : Int) (w : World)   :
    Calls Try.prog 23 #[.int .i64 which, .int .i64 a, .int .i64 d, .int .i64 64] w fun e w' => e = .returned (.int .i64 (shiftN which a d false)) ∧ w = w' := by
  have hm := i64_and63 d
  have h0 : 0 ≤ d % 64 := by omega
  have h1 : d % 64 ≤ 63 := by omega
  go_enter Try.func23, Try.ntmps23
  go_wp2
  all_goals
    go_ret
    simp_all [shiftN]
theorem word_any (a : Int) (w : World)  :
    Calls Try.prog 17 #[.int .i64 a] w fun e w' => e = .returned (.int .i64 (wrap32 a)) ∧ w = w' := by
  have h := wrap32_wf a
  have hw : wrap64 (wrap32 a) = wrap32 a := by unfold wrap64 wrap32; omega
  go_enter Try.func17, Try.ntmps17
  go_wp2
  go_ret
  exact ⟨by simp [hw], rfl⟩
def ofN (I : Bool) (which a b : Int) : Int :=
  if I then wrap32 (if 9 ≤ which ∧ which ≤ 11 then shiftN which a b true else wholeN which a b) else (if 9 ≤ which ∧ which ≤ 11 then shiftN which a b false else wholeN which a b)
def ofB (which b : Int) : Bool := (decide (9 ≤ which) && decide (which ≤ 11)) || wholeB which b
set_option maxHeartbeats 400000 in
theorem of_I (which a b : Int) (w : World) :
    Calls Try.prog 18 #[.string ⟨#[73]⟩, .int .i64 which, .int .i64 a, .int .i64 b] w fun e w' => e = .returned (.tuple #[.int .i64 (ofN true which a b), .bool (ofB which b)]) ∧ w = w' := by
  by_cases h1 : 9 ≤ which
  · by_cases h2 : which ≤ 11
    · go_enter Try.func18, Try.ntmps18
      go_wp2_with (first | (go_at_call 22; refine (whole_any _ _ _ _).mono ?_; rintro e w' ⟨rfl, rfl⟩) | (go_at_call 23; refine (shifted_any32 _ _ _ _).mono ?_; rintro e w' ⟨rfl, rfl⟩) | (go_at_call 17; refine (word_any _ _).mono ?_; rintro e w' ⟨rfl, rfl⟩))
      go_ret2
      simp [ofN, ofB, h1, h2]
    · go_enter Try.func18, Try.ntmps18
      go_wp2_with (first | (go_at_call 22; refine (whole_any _ _ _ _).mono ?_; rintro e w' ⟨rfl, rfl⟩) | (go_at_call 23; refine (shifted_any32 _ _ _ _).mono ?_; rintro e w' ⟨rfl, rfl⟩) | (go_at_call 17; refine (word_any _ _).mono ?_; rintro e w' ⟨rfl, rfl⟩))
      go_ret2
      have h3 : ¬ which ≤ 11 := by omega
      simp [ofN, ofB, h3]
  · go_enter Try.func18, Try.ntmps18
    go_wp2_with (first | (go_at_call 22; refine (whole_any _ _ _ _).mono ?_; rintro e w' ⟨rfl, rfl⟩) | (go_at_call 23; refine (shifted_any32 _ _ _ _).mono ?_; rintro e w' ⟨rfl, rfl⟩) | (go_at_call 17; refine (word_any _ _).mono ?_; rintro e w' ⟨rfl, rfl⟩))
    go_ret2
    have h3 : ¬ 9 ≤ which := by omega
    simp [ofN, ofB, h3]
set_option maxHeartbeats 400000 in
theorem of_J (which a b : Int) (w : World) :
    Calls Try.prog 18 #[.string ⟨#[74]⟩, .int .i64 which, .int .i64 a, .int .i64 b] w fun e w' => e = .returned (.tuple #[.int .i64 (ofN false which a b), .bool (ofB which b)]) ∧ w = w' := by
  by_cases h1 : 9 ≤ which
  · by_cases h2 : which ≤ 11
    · go_enter Try.func18, Try.ntmps18
      go_wp2_with (first | (go_at_call 22; refine (whole_any _ _ _ _).mono ?_; rintro e w' ⟨rfl, rfl⟩) | (go_at_call 23; refine (shifted_any64 _ _ _ _).mono ?_; rintro e w' ⟨rfl, rfl⟩) | (go_at_call 17; refine (word_any _ _).mono ?_; rintro e w' ⟨rfl, rfl⟩))
      go_ret2
      simp [ofN, ofB, h1, h2]
    · go_enter Try.func18, Try.ntmps18
      go_wp2_with (first | (go_at_call 22; refine (whole_any _ _ _ _).mono ?_; rintro e w' ⟨rfl, rfl⟩) | (go_at_call 23; refine (shifted_any64 _ _ _ _).mono ?_; rintro e w' ⟨rfl, rfl⟩) | (go_at_call 17; refine (word_any _ _).mono ?_; rintro e w' ⟨rfl, rfl⟩))
      go_ret2
      have h3 : ¬ which ≤ 11 := by omega
      simp [ofN, ofB, h3]
  · go_enter Try.func18, Try.ntmps18
    go_wp2_with (first | (go_at_call 22; refine (whole_any _ _ _ _).mono ?_; rintro e w' ⟨rfl, rfl⟩) | (go_at_call 23; refine (shifted_any64 _ _ _ _).mono ?_; rintro e w' ⟨rfl, rfl⟩) | (go_at_call 17; refine (word_any _ _).mono ?_; rintro e w' ⟨rfl, rfl⟩))
    go_ret2
    have h3 : ¬ 9 ≤ which := by omega
    simp [ofN, ofB, h3]
theorem number_any (s : ByteArray) (w : World) :
    Calls Try.prog 16 #[.string s] w fun e w' => e = .returned (.bool (s.toList == [73] || s.toList == [74])) ∧ w = w' := by
  go_enter Try.func16, Try.ntmps16
  go_wp2
  all_goals
    go_ret
    simp [*]
def errV (e : Nat) : Value := if e = 0 then .nilIface else .iface 31 (.int .i64 e)
def mathE (I : Bool) (which a b : Int) : Nat :=
  if which < 1 ∨ 12 < which then 1
  else if (I = true ∧ (a ≠ wrap32 a ∨ b ≠ wrap32 b)) ∨ (9 ≤ which ∧ which ≤ 11 ∧ b ≠ wrap32 b) then 2
  else if ofB which b = true then 0 else 3
def mathN (I : Bool) (which a b : Int) : Int := if mathE I which a b = 0 then ofN I which a b else 0
theorem number_I (w : World) : Calls Try.prog 16 #[.string ⟨#[73]⟩] w fun e w' => e = .returned (.bool true) ∧ w = w' := by
  go_enter Try.func16, Try.ntmps16
  go_wp2
  all_goals
    go_ret
    simp
theorem number_J (w : World) : Calls Try.prog 16 #[.string ⟨#[74]⟩] w fun e w' => e = .returned (.bool true) ∧ w = w' := by
  go_enter Try.func16, Try.ntmps16
  go_wp2
  all_goals
    go_ret
    simp
theorem number_not (s : ByteArray) (w : World) (h1 : (s.toList == [73]) = false) (h2 : (s.toList == [74]) = false) : Calls Try.prog 16 #[.string s] w fun e w' => e = .returned (.bool false) ∧ w = w' := by
  go_enter Try.func16, Try.ntmps16
  go_wp2
  all_goals
    go_ret
    simp
theorem wrap32_in {a : Int} (h : -2147483648 ≤ a ∧ a ≤ 2147483647) : wrap32 a = a := by unfold wrap32; omega
theorem wrap32_out {a : Int} (h : ¬ (-2147483648 ≤ a ∧ a ≤ 2147483647)) : (a != wrap32 a) = true := by
  rw [bne_iff_ne]; intro e; apply h; rw [e]; unfold wrap32; omega
theorem word_in (a : Int) (w : World) (h : -2147483648 ≤ a ∧ a ≤ 2147483647) :
    Calls Try.prog 17 #[.int .i64 a] w fun e w' => e = .returned (.int .i64 a) ∧ w = w' := by
  have := word_any a w
  rwa [wrap32_in h] at this

theorem fin {I : Bool} {which a b : Int} {k : Nat} (h : mathE I which a b = k) :
    Ending.returned (.tuple #[.int .i64 (mathN I which a b), errV (mathE I which a b)]) = Ending.returned (.tuple #[.int .i64 (if k = 0 then ofN I which a b else 0), errV k]) := by
  unfold mathN; rw [h]
theorem ne_wrap {a : Int} (h : (a != wrap32 a) = true) : a ≠ wrap32 a := by rwa [bne_iff_ne] at h
theorem eq_wrap {a : Int} (h : -2147483648 ≤ a ∧ a ≤ 2147483647) : ¬ a ≠ wrap32 a := by rw [wrap32_in h]; exact fun h => h rfl
set_option maxHeartbeats 400000 in
theorem math_I_in (which a b : Int) (w : World) (ha : -2147483648 ≤ a ∧ a ≤ 2147483647) (hb : -2147483648 ≤ b ∧ b ≤ 2147483647) :
    Calls Try.prog 8 #[.string ⟨#[73]⟩, .int .i64 which, .int .i64 a, .int .i64 b] w fun e w' => e = .returned (.tuple #[.int .i64 (mathN true which a b), errV (mathE true which a b)]) ∧ w = w' := by
  have HE : Hid (mathE true which a b = if which < 1 ∨ 12 < which then 1 else if ofB which b = true then 0 else 3) := by
    unfold Hid mathE; congr 1; rw [if_neg]; have := eq_wrap ha; have := eq_wrap hb; rintro (⟨_, h | h⟩ | ⟨_, _, h⟩) <;> contradiction
  cases hof : ofB which b
  all_goals
    go_enter Try.func8, Try.ntmps8
    go_wp2_with (first | (go_at_call 16; (with_reducible refine (number_I _).mono ?_); rintro e w' ⟨rfl, rfl⟩) | (go_at_call 18; (with_reducible refine (of_I _ _ _ _).mono ?_); rintro e w' ⟨rfl, rfl⟩) | (go_at_call 17; (with_reducible refine (word_in _ _ ha).mono ?_); rintro e w' ⟨rfl, rfl⟩) | (go_at_call 17; (with_reducible refine (word_in _ _ hb).mono ?_); rintro e w' ⟨rfl, rfl⟩))
    all_goals
      go_ret2
      refine ⟨?_, rfl⟩
      first
        | (rw [fin (k := 1) (by rw [HE.out]; rw [if_pos (by omega)])]; rfl)
        | (rw [fin (k := 0) (by rw [HE.out]; rw [if_neg (by omega), if_pos hof])]; rfl)
        | (rw [fin (k := 3) (by rw [HE.out]; rw [if_neg (by omega), if_neg (by rw [hof]; decide)])]; rfl)

set_option maxHeartbeats 400000 in
theorem math_I_a (which a b : Int) (w : World) (ha : ¬ (-2147483648 ≤ a ∧ a ≤ 2147483647)) :
    Calls Try.prog 8 #[.string ⟨#[73]⟩, .int .i64 which, .int .i64 a, .int .i64 b] w fun e w' => e = .returned (.tuple #[.int .i64 (mathN true which a b), errV (mathE true which a b)]) ∧ w = w' := by
  have hn := wrap32_out ha
  have HE : Hid (mathE true which a b = if which < 1 ∨ 12 < which then 1 else 2) := by
    unfold Hid mathE; congr 1; rw [if_pos]; exact Or.inl ⟨rfl, Or.inl (ne_wrap hn)⟩
  go_enter Try.func8, Try.ntmps8
  go_wp2_with (first | (go_at_call 16; (with_reducible refine (number_I _).mono ?_); rintro e w' ⟨rfl, rfl⟩) | (go_at_call 18; (with_reducible refine (of_I _ _ _ _).mono ?_); rintro e w' ⟨rfl, rfl⟩) | (go_at_call 17; (with_reducible refine (word_any _ _).mono ?_); rintro e w' ⟨rfl, rfl⟩))
  all_goals
    go_ret2
    refine ⟨?_, rfl⟩
    first
      | (rw [fin (k := 1) (by rw [HE.out]; rw [if_pos (by omega)])]; rfl)
      | (rw [fin (k := 2) (by rw [HE.out]; rw [if_neg (by omega)])]; rfl)

set_option maxHeartbeats 400000 in
theorem math_I_b (which a b : Int) (w : World) (ha : -2147483648 ≤ a ∧ a ≤ 2147483647) (hb : ¬ (-2147483648 ≤ b ∧ b ≤ 2147483647)) :
    Calls Try.prog 8 #[.string ⟨#[73]⟩, .int .i64 which, .int .i64 a, .int .i64 b] w fun e w' => e = .returned (.tuple #[.int .i64 (mathN true which a b), errV (mathE true which a b)]) ∧ w = w' := by
  have hn := wrap32_out hb
  have HE : Hid (mathE true which a b = if which < 1 ∨ 12 < which then 1 else 2) := by
    unfold Hid mathE; congr 1; rw [if_pos]; exact Or.inl ⟨rfl, Or.inr (ne_wrap hn)⟩
  go_enter Try.func8, Try.ntmps8
  go_wp2_with (first | (go_at_call 16; (with_reducible refine (number_I _).mono ?_); rintro e w' ⟨rfl, rfl⟩) | (go_at_call 18; (with_reducible refine (of_I _ _ _ _).mono ?_); rintro e w' ⟨rfl, rfl⟩) | (go_at_call 17; (with_reducible refine (word_in _ _ ha).mono ?_); rintro e w' ⟨rfl, rfl⟩) | (go_at_call 17; (with_reducible refine (word_any _ _).mono ?_); rintro e w' ⟨rfl, rfl⟩))
  all_goals
    go_ret2
    refine ⟨?_, rfl⟩
    first
      | (rw [fin (k := 1) (by rw [HE.out]; rw [if_pos (by omega)])]; rfl)
      | (rw [fin (k := 2) (by rw [HE.out]; rw [if_neg (by omega)])]; rfl)

set_option maxHeartbeats 400000 in
theorem math_J_in (which a b : Int) (w : World) (hb : -2147483648 ≤ b ∧ b ≤ 2147483647) :
    Calls Try.prog 8 #[.string ⟨#[74]⟩, .int .i64 which, .int .i64 a, .int .i64 b] w fun e w' => e = .returned (.tuple #[.int .i64 (mathN false which a b), errV (mathE false which a b)]) ∧ w = w' := by
  have HE : Hid (mathE false which a b = if which < 1 ∨ 12 < which then 1 else if ofB which b = true then 0 else 3) := by
    unfold Hid mathE; congr 1; rw [if_neg]; have := eq_wrap hb; rintro (⟨h, _⟩ | ⟨_, _, h⟩) <;> contradiction
  cases hof : ofB which b
  all_goals
    go_enter Try.func8, Try.ntmps8
    go_wp2_with (first | (go_at_call 16; (with_reducible refine (number_J _).mono ?_); rintro e w' ⟨rfl, rfl⟩) | (go_at_call 18; (with_reducible refine (of_J _ _ _ _).mono ?_); rintro e w' ⟨rfl, rfl⟩) | (go_at_call 17; (with_reducible refine (word_in _ _ hb).mono ?_); rintro e w' ⟨rfl, rfl⟩))
    all_goals
      go_ret2
      refine ⟨?_, rfl⟩
      first
        | (rw [fin (k := 1) (by rw [HE.out]; rw [if_pos (by omega)])]; rfl)
        | (rw [fin (k := 0) (by rw [HE.out]; rw [if_neg (by omega), if_pos hof])]; rfl)
        | (rw [fin (k := 3) (by rw [HE.out]; rw [if_neg (by omega), if_neg (by rw [hof]; decide)])]; rfl)

set_option maxHeartbeats 400000 in
theorem math_J_b (which a b : Int) (w : World) (hb : ¬ (-2147483648 ≤ b ∧ b ≤ 2147483647)) :
    Calls Try.prog 8 #[.string ⟨#[74]⟩, .int .i64 which, .int .i64 a, .int .i64 b] w fun e w' => e = .returned (.tuple #[.int .i64 (mathN false which a b), errV (mathE false which a b)]) ∧ w = w' := by
  have hn := wrap32_out hb
  have HE : Hid (mathE false which a b = if which < 1 ∨ 12 < which then 1 else if 9 ≤ which ∧ which ≤ 11 then 2 else if ofB which b = true then 0 else 3) := by
    unfold Hid mathE; congr 1; congr 1; simp [ne_wrap hn]
  cases hof : ofB which b
  all_goals
    go_enter Try.func8, Try.ntmps8
    go_wp2_with (first | (go_at_call 16; (with_reducible refine (number_J _).mono ?_); rintro e w' ⟨rfl, rfl⟩) | (go_at_call 18; (with_reducible refine (of_J _ _ _ _).mono ?_); rintro e w' ⟨rfl, rfl⟩) | (go_at_call 17; (with_reducible refine (word_any _ _).mono ?_); rintro e w' ⟨rfl, rfl⟩))
    all_goals
      go_ret2
      refine ⟨?_, rfl⟩
      first
        | (rw [fin (k := 1) (by rw [HE.out]; rw [if_pos (by omega)])]; rfl)
        | (rw [fin (k := 2) (by rw [HE.out]; rw [if_neg (by omega), if_pos (by omega)])]; rfl)
        | (rw [fin (k := 0) (by rw [HE.out]; rw [if_neg (by omega), if_neg (by omega), if_pos hof])]; rfl)
        | (rw [fin (k := 3) (by rw [HE.out]; rw [if_neg (by omega), if_neg (by omega), if_neg (by rw [hof]; decide)])]; rfl)


theorem math_I (which a b : Int) (w : World) :
    Calls Try.prog 8 #[.string ⟨#[73]⟩, .int .i64 which, .int .i64 a, .int .i64 b] w fun e w' => e = .returned (.tuple #[.int .i64 (mathN true which a b), errV (mathE true which a b)]) ∧ w = w' := by
  by_cases ha : -2147483648 ≤ a ∧ a ≤ 2147483647
  · by_cases hb : -2147483648 ≤ b ∧ b ≤ 2147483647
    · exact math_I_in which a b w ha hb
    · exact math_I_b which a b w ha hb
  · exact math_I_a which a b w ha
theorem math_J (which a b : Int) (w : World) :
    Calls Try.prog 8 #[.string ⟨#[74]⟩, .int .i64 which, .int .i64 a, .int .i64 b] w fun e w' => e = .returned (.tuple #[.int .i64 (mathN false which a b), errV (mathE false which a b)]) ∧ w = w' := by
  by_cases hb : -2147483648 ≤ b ∧ b ≤ 2147483647
  · exact math_J_in which a b w hb
  · exact math_J_b which a b w hb
theorem math_not (s : ByteArray) (which a b : Int) (w : World) (h1 : (s.toList == [73]) = false) (h2 : (s.toList == [74]) = false) :
    Calls Try.prog 8 #[.string s, .int .i64 which, .int .i64 a, .int .i64 b] w fun e w' => e = .returned (.tuple #[.int .i64 0, errV 1]) ∧ w = w' := by
  go_enter Try.func8, Try.ntmps8
  go_wp2_with (go_at_call 16; (with_reducible refine (number_not _ _ h1 h2).mono ?_); rintro e w' ⟨rfl, rfl⟩)
  go_ret2
  exact ⟨rfl, rfl⟩
end Go.Proofs.Ytadnljpjmhlkpaa
