/-
  NumDivides: the walk of the law on every input. Conditions: a and b are 64-bit numbers.
-/
import Derived.Test.YtadnljpjmhlkpaaMath
import Derived.LaidEql
namespace Go
section
variable {P : Program} (w : World)
theorem run_equalIn_iface_int (d : Nat) {ti tn : TypeId} {ms : Array (String × TypeId)} {i : TypeInfo} {k : IntKind} (a b : Int)
    (hi : P.underlying ti = some (.interface ms)) (hn : P.underlying tn = some (.int k)) (hinfo : P.info? tn = some i) (hcomp : i.comparable = true) :
    (Op.equalIn (d + 2) ti (.iface tn (.int k a)) (.iface tn (.int k b))).run P w = .ok (a == b) w := by
  simp [Op.equalIn, run_underlying hi, run_underlying hn, typeInfo, hinfo, hcomp]
theorem run_eql_iface_int {ti tn : TypeId} {ms : Array (String × TypeId)} {i : TypeInfo} {k : IntKind} (a b : Int)
    (hi : P.underlying ti = some (.interface ms)) (hn : P.underlying tn = some (.int k)) (hinfo : P.info? tn = some i) (hcomp : i.comparable = true) :
    (binOp .eql ti (.iface tn (.int k a)) (.iface tn (.int k b))).run P w = .ok (.bool (a == b)) w := by
  simp only [binOp]
  simp [Op.equal, Op.maxDepth, run_equalIn_iface_int w 9998 a b hi hn hinfo hcomp]
end
end Go
namespace Go.Proofs.Ytadnljpjmhlkpaa
open Go.RowKit
theorem wrap64_mul (x b : Int) : wrap64 (wrap64 x * b) = wrap64 (x * b) := by
  obtain ⟨k, hk⟩ : ∃ k : Int, wrap64 x = x + k * 18446744073709551616 := ⟨-((x + 9223372036854775808) / 18446744073709551616), by unfold wrap64; omega⟩
  rw [hk]
  have e : (x + k * 18446744073709551616) * b = x * b + 18446744073709551616 * (k * b) := by
    rw [Int.add_mul, Int.mul_assoc, Int.mul_comm 18446744073709551616 b, ← Int.mul_assoc, Int.mul_comm (k * b)]
  rw [e]
  generalize k * b = m
  generalize x * b = y
  unfold wrap64
  omega
theorem wrap32_mul (x b : Int) : wrap32 (wrap32 x * b) = wrap32 (x * b) := by
  obtain ⟨k, hk⟩ : ∃ k : Int, wrap32 x = x + k * 4294967296 := ⟨-((x + 2147483648) / 4294967296), by unfold wrap32; omega⟩
  rw [hk]
  have e : (x + k * 4294967296) * b = x * b + 4294967296 * (k * b) := by
    rw [Int.add_mul, Int.mul_assoc, Int.mul_comm 4294967296 b, ← Int.mul_assoc, Int.mul_comm (k * b)]
  rw [e]
  generalize k * b = m
  generalize x * b = y
  unfold wrap32
  omega
theorem wrap32_wrap64 (x : Int) : wrap32 (wrap64 x) = wrap32 x := by unfold wrap32 wrap64; omega
theorem wrap64_wrap32 (x : Int) : wrap64 (wrap32 x) = wrap32 x := by unfold wrap32 wrap64; omega
theorem wrap32_in' {a : Int} (h : -2147483648 ≤ a ∧ a ≤ 2147483647) : wrap32 a = a := by unfold wrap32; omega
theorem wrap64_in {a : Int} (h : -9223372036854775808 ≤ a ∧ a ≤ 9223372036854775807) : wrap64 a = a := by unfold wrap64; omega
theorem wrap32_bd (a : Int) : -2147483648 ≤ wrap32 a ∧ wrap32 a ≤ 2147483647 := by unfold wrap32; omega
theorem wrap64_bd (a : Int) : -9223372036854775808 ≤ wrap64 a ∧ wrap64 a ≤ 9223372036854775807 := by unfold wrap64; omega
theorem wrap64_add_l (x y : Int) : wrap64 (wrap64 x + y) = wrap64 (x + y) := by unfold wrap64; omega
theorem wrap32_add_l (x y : Int) : wrap32 (wrap32 x + y) = wrap32 (x + y) := by unfold wrap32; omega

theorem divide_J (a b : Int) (h : -9223372036854775808 ≤ a ∧ a ≤ 9223372036854775807) :
    wrap64 (wrap64 (wrap64 (a.tdiv b) * b) + a.tmod b) = a := by
  rw [wrap64_mul, wrap64_add_l, Int.mul_comm, Int.mul_tdiv_add_tmod, wrap64_in h]
theorem divide_I (a b : Int) (h : -2147483648 ≤ a ∧ a ≤ 2147483647) :
    wrap32 (wrap32 (wrap32 (a.tdiv b) * b) + a.tmod b) = a := by
  rw [wrap32_mul, wrap32_add_l, Int.mul_comm, Int.mul_tdiv_add_tmod, wrap32_in' h]

/-- the remainder's bounds and its sign -/
theorem rem_facts (a b : Int) (_hb : b ≠ 0) :
    (0 ≤ a → 0 ≤ a.tmod b) ∧ (a ≤ 0 → a.tmod b ≤ 0) ∧ (0 < b → a.tmod b < b ∧ -b < a.tmod b) ∧ (b < 0 → a.tmod b < -b ∧ b < a.tmod b) := by
  refine ⟨fun h => Int.tmod_nonneg b h, fun h => ?_, fun h => ⟨Int.tmod_lt_of_pos a h, Int.lt_tmod_of_pos a h⟩, fun h => ?_⟩
  · have := Int.tmod_nonneg (a := -a) b (by omega)
    rw [Int.neg_tmod] at this
    omega
  · have h1 := Int.tmod_lt_of_pos a (b := -b) (by omega)
    have h2 := Int.lt_tmod_of_pos a (b := -b) (by omega)
    rw [Int.tmod_neg] at h1 h2
    omega

theorem summed_any (w : World) : Calls Try.prog 7 #[] w fun e w' => e = .returned (.bool true) ∧ w = w' := by
  have h1 : mathN true 1 2147483647 1 = -2147483648 := by decide +kernel
  have h2 : errV (mathE true 1 2147483647 1) = .nilIface := by
    have : mathE true 1 2147483647 1 = 0 := by decide +kernel
    rw [this]; rfl
  go_enter Try.func7, Try.ntmps7
  go_wp2_with (go_at_call 8; (with_reducible refine (math_I _ _ _ _).mono ?_); rintro e w' ⟨rfl, rfl⟩)
  go_ret
  exact ⟨rfl, rfl⟩
theorem info31 : ∃ i, Try.prog.info? 31 = some i ∧ i.comparable = true := ⟨_, rfl, rfl⟩
theorem eql_err (a b : Int) (w : World) : (binOp .eql 24 (.iface 31 (.int .i64 a)) (.iface 31 (.int .i64 b))).run Try.prog w = .ok (.bool (a == b)) w := by
  obtain ⟨i, h1, h2⟩ := info31
  exact run_eql_iface_int w a b Try.underlying24 Try.underlying31 h1 h2
theorem math_not' (s : ByteArray) (which a b : Int) (w : World) (h1 : (s.toList == [73]) = false) (h2 : (s.toList == [74]) = false) :
    Calls Try.prog 8 #[.string s, .int .i64 which, .int .i64 a, .int .i64 b] w fun e w' => e = .returned (.tuple #[.int .i64 0, .iface 31 (.int .i64 1)]) ∧ w = w' := math_not s which a b w h1 h2
set_option maxHeartbeats 400000 in
theorem div_not (s : ByteArray) (a b : Int) (w : World) (h1 : (s.toList == [73]) = false) (h2 : (s.toList == [74]) = false) :
    Calls Try.prog 3 #[.string s, .int .i64 a, .int .i64 b] w fun e w' => e = .returned (.bool true) ∧ w = w' := by
  have he := eql_err
  go_enter Try.func3, Try.ntmps3
  go_wp2_with (first | (go_at_call 7; (with_reducible refine (summed_any _).mono ?_); rintro e w' ⟨rfl, rfl⟩) | (go_at_call 8; (with_reducible refine (math_not' _ _ _ _ _ h1 h2).mono ?_); rintro e w' ⟨rfl, rfl⟩))
  go_ret
  exact ⟨rfl, rfl⟩
def Gives (s : ByteArray) (which a b n : Int) : Prop := ∀ w, Calls Try.prog 8 #[.string s, .int .i64 which, .int .i64 a, .int .i64 b] w fun e w' => e = .returned (.tuple #[.int .i64 n, .nilIface]) ∧ w = w'
theorem Gives.at {s : ByteArray} {which a b n : Int} (c : Gives s which a b n) (w : World) : Calls Try.prog 8 #[.string s, .int .i64 which, .int .i64 a, .int .i64 b] w fun e w' => e = .returned (.tuple #[.int .i64 n, .nilIface]) ∧ w = w' := c w
set_option maxHeartbeats 400000 in
theorem div_p0 (s : ByteArray) (a b p q : Int) (w : World) (c1 : Gives s 4 a b q) (c2 : Gives s 5 a b 0) (c3 : Gives s 3 q b p) (c4 : Gives s 1 p 0 a) (_h1 : 0 < b) (_h9 : b ≤ 9223372036854775807)  :
    Calls Try.prog 3 #[.string s, .int .i64 a, .int .i64 b] w fun e w' => e = .returned (.bool true) ∧ w = w' := by
  go_enter Try.func3, Try.ntmps3
  go_wp2_with (first | (go_at_call 7; (with_reducible refine (summed_any _).mono ?_); rintro e w' ⟨rfl, rfl⟩) | (go_at_call 8; (with_reducible refine (c1.at _).mono ?_); rintro e w' ⟨rfl, rfl⟩) | (go_at_call 8; (with_reducible refine (c2.at _).mono ?_); rintro e w' ⟨rfl, rfl⟩) | (go_at_call 8; (with_reducible refine (c3.at _).mono ?_); rintro e w' ⟨rfl, rfl⟩) | (go_at_call 8; (with_reducible refine (c4.at _).mono ?_); rintro e w' ⟨rfl, rfl⟩))
  go_ret
  exact ⟨rfl, rfl⟩
set_option maxHeartbeats 400000 in
theorem div_pp (s : ByteArray) (a b p q r : Int) (w : World) (c1 : Gives s 4 a b q) (c2 : Gives s 5 a b r) (c3 : Gives s 3 q b p) (c4 : Gives s 1 p r a) (_h1 : 0 < b) (_h9 : b ≤ 9223372036854775807) (h2 : r < b) (_h3 : -b < r) (h4 : 0 < r) (h5 : 0 < a) :
    Calls Try.prog 3 #[.string s, .int .i64 a, .int .i64 b] w fun e w' => e = .returned (.bool true) ∧ w = w' := by
  go_enter Try.func3, Try.ntmps3
  go_wp2_with (first | (go_at_call 7; (with_reducible refine (summed_any _).mono ?_); rintro e w' ⟨rfl, rfl⟩) | (go_at_call 8; (with_reducible refine (c1.at _).mono ?_); rintro e w' ⟨rfl, rfl⟩) | (go_at_call 8; (with_reducible refine (c2.at _).mono ?_); rintro e w' ⟨rfl, rfl⟩) | (go_at_call 8; (with_reducible refine (c3.at _).mono ?_); rintro e w' ⟨rfl, rfl⟩) | (go_at_call 8; (with_reducible refine (c4.at _).mono ?_); rintro e w' ⟨rfl, rfl⟩))
  go_ret
  exact ⟨by simp [decide_eq_false (show ¬ r < 0 by omega), decide_eq_false (show ¬ a < 0 by omega)], rfl⟩
set_option maxHeartbeats 400000 in
theorem div_pn (s : ByteArray) (a b p q r : Int) (w : World) (c1 : Gives s 4 a b q) (c2 : Gives s 5 a b r) (c3 : Gives s 3 q b p) (c4 : Gives s 1 p r a) (h1 : 0 < b) (_h9 : b ≤ 9223372036854775807) (_h2 : r < b) (h3 : -b < r) (h4 : r < 0) (h5 : a < 0) :
    Calls Try.prog 3 #[.string s, .int .i64 a, .int .i64 b] w fun e w' => e = .returned (.bool true) ∧ w = w' := by
  go_enter Try.func3, Try.ntmps3
  go_wp2_with (first | (go_at_call 7; (with_reducible refine (summed_any _).mono ?_); rintro e w' ⟨rfl, rfl⟩) | (go_at_call 8; (with_reducible refine (c1.at _).mono ?_); rintro e w' ⟨rfl, rfl⟩) | (go_at_call 8; (with_reducible refine (c2.at _).mono ?_); rintro e w' ⟨rfl, rfl⟩) | (go_at_call 8; (with_reducible refine (c3.at _).mono ?_); rintro e w' ⟨rfl, rfl⟩) | (go_at_call 8; (with_reducible refine (c4.at _).mono ?_); rintro e w' ⟨rfl, rfl⟩))
  go_ret
  exact ⟨by simp, rfl⟩
set_option maxHeartbeats 400000 in
theorem div_n0 (s : ByteArray) (a b p q : Int) (w : World) (c1 : Gives s 4 a b q) (c2 : Gives s 5 a b 0) (c3 : Gives s 3 q b p) (c4 : Gives s 1 p 0 a) (h0 : -9223372036854775808 < b) (h1 : b < 0)  :
    Calls Try.prog 3 #[.string s, .int .i64 a, .int .i64 b] w fun e w' => e = .returned (.bool true) ∧ w = w' := by
  go_enter Try.func3, Try.ntmps3
  go_wp2_with (first | (go_at_call 7; (with_reducible refine (summed_any _).mono ?_); rintro e w' ⟨rfl, rfl⟩) | (go_at_call 8; (with_reducible refine (c1.at _).mono ?_); rintro e w' ⟨rfl, rfl⟩) | (go_at_call 8; (with_reducible refine (c2.at _).mono ?_); rintro e w' ⟨rfl, rfl⟩) | (go_at_call 8; (with_reducible refine (c3.at _).mono ?_); rintro e w' ⟨rfl, rfl⟩) | (go_at_call 8; (with_reducible refine (c4.at _).mono ?_); rintro e w' ⟨rfl, rfl⟩))
  go_ret
  exact ⟨rfl, rfl⟩
set_option maxHeartbeats 400000 in
theorem div_np (s : ByteArray) (a b p q r : Int) (w : World) (c1 : Gives s 4 a b q) (c2 : Gives s 5 a b r) (c3 : Gives s 3 q b p) (c4 : Gives s 1 p r a) (h0 : -9223372036854775808 < b) (h1 : b < 0) (h2 : r < -b) (h3 : b < r) (h4 : 0 < r) (h5 : 0 < a) :
    Calls Try.prog 3 #[.string s, .int .i64 a, .int .i64 b] w fun e w' => e = .returned (.bool true) ∧ w = w' := by
  go_enter Try.func3, Try.ntmps3
  go_wp2_with (first | (go_at_call 7; (with_reducible refine (summed_any _).mono ?_); rintro e w' ⟨rfl, rfl⟩) | (go_at_call 8; (with_reducible refine (c1.at _).mono ?_); rintro e w' ⟨rfl, rfl⟩) | (go_at_call 8; (with_reducible refine (c2.at _).mono ?_); rintro e w' ⟨rfl, rfl⟩) | (go_at_call 8; (with_reducible refine (c3.at _).mono ?_); rintro e w' ⟨rfl, rfl⟩) | (go_at_call 8; (with_reducible refine (c4.at _).mono ?_); rintro e w' ⟨rfl, rfl⟩))
  go_ret
  exact ⟨by simp [decide_eq_false (show ¬ r < 0 by omega), decide_eq_false (show ¬ a < 0 by omega)], rfl⟩
set_option maxHeartbeats 400000 in
theorem div_nn (s : ByteArray) (a b p q r : Int) (w : World) (c1 : Gives s 4 a b q) (c2 : Gives s 5 a b r) (c3 : Gives s 3 q b p) (c4 : Gives s 1 p r a) (h0 : -9223372036854775808 < b) (h1 : b < 0) (_h2 : r < -b) (h3 : b < r) (h4 : r < 0) (h5 : a < 0) :
    Calls Try.prog 3 #[.string s, .int .i64 a, .int .i64 b] w fun e w' => e = .returned (.bool true) ∧ w = w' := by
  go_enter Try.func3, Try.ntmps3
  go_wp2_with (first | (go_at_call 7; (with_reducible refine (summed_any _).mono ?_); rintro e w' ⟨rfl, rfl⟩) | (go_at_call 8; (with_reducible refine (c1.at _).mono ?_); rintro e w' ⟨rfl, rfl⟩) | (go_at_call 8; (with_reducible refine (c2.at _).mono ?_); rintro e w' ⟨rfl, rfl⟩) | (go_at_call 8; (with_reducible refine (c3.at _).mono ?_); rintro e w' ⟨rfl, rfl⟩) | (go_at_call 8; (with_reducible refine (c4.at _).mono ?_); rintro e w' ⟨rfl, rfl⟩))
  go_ret
  exact ⟨by simp, rfl⟩
set_option maxHeartbeats 400000 in
theorem div_m0 (s : ByteArray) (a p q : Int) (w : World) (c1 : Gives s 4 a (-9223372036854775808) q) (c2 : Gives s 5 a (-9223372036854775808) 0) (c3 : Gives s 3 q (-9223372036854775808) p) (c4 : Gives s 1 p 0 a)   :
    Calls Try.prog 3 #[.string s, .int .i64 a, .int .i64 (-9223372036854775808)] w fun e w' => e = .returned (.bool true) ∧ w = w' := by
  go_enter Try.func3, Try.ntmps3
  go_wp2_with (first | (go_at_call 7; (with_reducible refine (summed_any _).mono ?_); rintro e w' ⟨rfl, rfl⟩) | (go_at_call 8; (with_reducible refine (c1.at _).mono ?_); rintro e w' ⟨rfl, rfl⟩) | (go_at_call 8; (with_reducible refine (c2.at _).mono ?_); rintro e w' ⟨rfl, rfl⟩) | (go_at_call 8; (with_reducible refine (c3.at _).mono ?_); rintro e w' ⟨rfl, rfl⟩) | (go_at_call 8; (with_reducible refine (c4.at _).mono ?_); rintro e w' ⟨rfl, rfl⟩))
  all_goals go_ret
  all_goals exact ⟨rfl, rfl⟩
set_option maxHeartbeats 400000 in
theorem div_mp (s : ByteArray) (a p q r : Int) (w : World) (c1 : Gives s 4 a (-9223372036854775808) q) (c2 : Gives s 5 a (-9223372036854775808) r) (c3 : Gives s 3 q (-9223372036854775808) p) (c4 : Gives s 1 p r a) (_h1 : -9223372036854775808 < r) (h4 : 0 < r) (h5 : 0 < a) :
    Calls Try.prog 3 #[.string s, .int .i64 a, .int .i64 (-9223372036854775808)] w fun e w' => e = .returned (.bool true) ∧ w = w' := by
  go_enter Try.func3, Try.ntmps3
  go_wp2_with (first | (go_at_call 7; (with_reducible refine (summed_any _).mono ?_); rintro e w' ⟨rfl, rfl⟩) | (go_at_call 8; (with_reducible refine (c1.at _).mono ?_); rintro e w' ⟨rfl, rfl⟩) | (go_at_call 8; (with_reducible refine (c2.at _).mono ?_); rintro e w' ⟨rfl, rfl⟩) | (go_at_call 8; (with_reducible refine (c3.at _).mono ?_); rintro e w' ⟨rfl, rfl⟩) | (go_at_call 8; (with_reducible refine (c4.at _).mono ?_); rintro e w' ⟨rfl, rfl⟩))
  all_goals go_ret
  all_goals exact ⟨by simp [decide_eq_false (show ¬ r < 0 by omega), decide_eq_false (show ¬ a < 0 by omega)], rfl⟩
set_option maxHeartbeats 400000 in
theorem div_mn (s : ByteArray) (a p q r : Int) (w : World) (c1 : Gives s 4 a (-9223372036854775808) q) (c2 : Gives s 5 a (-9223372036854775808) r) (c3 : Gives s 3 q (-9223372036854775808) p) (c4 : Gives s 1 p r a) (h1 : -9223372036854775808 < r) (h4 : r < 0) (h5 : a < 0) :
    Calls Try.prog 3 #[.string s, .int .i64 a, .int .i64 (-9223372036854775808)] w fun e w' => e = .returned (.bool true) ∧ w = w' := by
  go_enter Try.func3, Try.ntmps3
  go_wp2_with (first | (go_at_call 7; (with_reducible refine (summed_any _).mono ?_); rintro e w' ⟨rfl, rfl⟩) | (go_at_call 8; (with_reducible refine (c1.at _).mono ?_); rintro e w' ⟨rfl, rfl⟩) | (go_at_call 8; (with_reducible refine (c2.at _).mono ?_); rintro e w' ⟨rfl, rfl⟩) | (go_at_call 8; (with_reducible refine (c3.at _).mono ?_); rintro e w' ⟨rfl, rfl⟩) | (go_at_call 8; (with_reducible refine (c4.at _).mono ?_); rintro e w' ⟨rfl, rfl⟩))
  all_goals go_ret
  all_goals exact ⟨by simp, rfl⟩

def Fails (s : ByteArray) (which a b : Int) (k : Int) : Prop := ∀ w, Calls Try.prog 8 #[.string s, .int .i64 which, .int .i64 a, .int .i64 b] w fun e w' => e = .returned (.tuple #[.int .i64 0, .iface 31 (.int .i64 k)]) ∧ w = w'
theorem Fails.at {s : ByteArray} {which a b k : Int} (c : Fails s which a b k) (w : World) : Calls Try.prog 8 #[.string s, .int .i64 which, .int .i64 a, .int .i64 b] w fun e w' => e = .returned (.tuple #[.int .i64 0, .iface 31 (.int .i64 k)]) ∧ w = w' := c w
set_option maxHeartbeats 400000 in
theorem div_err (s : ByteArray) (a b k : Int) (w : World) (c1 : Fails s 4 a b k) (c2 : Fails s 5 a b k) :
    Calls Try.prog 3 #[.string s, .int .i64 a, .int .i64 b] w fun e w' => e = .returned (.bool true) ∧ w = w' := by
  have he := eql_err
  go_enter Try.func3, Try.ntmps3
  go_wp2_with (first | (go_at_call 7; (with_reducible refine (summed_any _).mono ?_); rintro e w' ⟨rfl, rfl⟩) | (go_at_call 8; (with_reducible refine (c1.at _).mono ?_); rintro e w' ⟨rfl, rfl⟩) | (go_at_call 8; (with_reducible refine (c2.at _).mono ?_); rintro e w' ⟨rfl, rfl⟩))
  go_ret
  exact ⟨by simp, rfl⟩
theorem gives_of_I {which a b n : Int} (he : mathE true which a b = 0) (hn : ofN true which a b = n) : Gives ⟨#[73]⟩ which a b n := by
  intro w
  have := math_I which a b w
  unfold mathN at this
  rw [he, hn] at this
  exact this
theorem gives_of_J {which a b n : Int} (he : mathE false which a b = 0) (hn : ofN false which a b = n) : Gives ⟨#[74]⟩ which a b n := by
  intro w
  have := math_J which a b w
  unfold mathN at this
  rw [he, hn] at this
  exact this
theorem fails_of_I {which a b : Int} {k : Nat} (he : mathE true which a b = k + 1) : Fails ⟨#[73]⟩ which a b ((k + 1 : Nat) : Int) := by
  intro w
  have := math_I which a b w
  unfold mathN at this
  rw [he] at this
  exact this
theorem fails_of_J {which a b : Int} {k : Nat} (he : mathE false which a b = k + 1) : Fails ⟨#[74]⟩ which a b ((k + 1 : Nat) : Int) := by
  intro w
  have := math_J which a b w
  unfold mathN at this
  rw [he] at this
  exact this
theorem div_cases (s : ByteArray) (a b q p r : Int) (w : World) (hb0 : b ≠ 0) (hlo : -9223372036854775808 ≤ b) (hhi : b ≤ 9223372036854775807) (hr : r = a.tmod b)
    (c1 : Gives s 4 a b q) (c2 : Gives s 5 a b r) (c3 : Gives s 3 q b p) (c4 : Gives s 1 p r a) :
    Calls Try.prog 3 #[.string s, .int .i64 a, .int .i64 b] w fun e w' => e = .returned (.bool true) ∧ w = w' := by
  obtain ⟨f1, f2, f3, f4⟩ := rem_facts a b hb0
  rw [← hr] at f1 f2 f3 f4
  clear hr
  by_cases hz : r = 0
  · subst hz
    by_cases hp : 0 < b
    · exact div_p0 s a b p q w c1 c2 c3 c4 hp hhi
    · by_cases hm : b = -9223372036854775808
      · subst hm; exact div_m0 s a p q w c1 c2 c3 c4
      · exact div_n0 s a b p q w c1 c2 c3 c4 (by omega) (by omega)
  · by_cases hpos : 0 < r
    · have ha : 0 < a := by
        by_cases h : 0 < a
        · exact h
        · have := f2 (by omega); omega
      by_cases hp : 0 < b
      · exact div_pp s a b p q r w c1 c2 c3 c4 hp hhi (f3 hp).1 (f3 hp).2 hpos ha
      · by_cases hm : b = -9223372036854775808
        · subst hm; exact div_mp s a p q r w c1 c2 c3 c4 (f4 (by omega)).2 hpos ha
        · exact div_np s a b p q r w c1 c2 c3 c4 (by omega) (by omega) (f4 (by omega)).1 (f4 (by omega)).2 hpos ha
    · have ha : a < 0 := by
        by_cases h : a < 0
        · exact h
        · have := f1 (by omega); omega
      have hneg : r < 0 := by omega
      by_cases hp : 0 < b
      · exact div_pn s a b p q r w c1 c2 c3 c4 hp hhi (f3 hp).1 (f3 hp).2 hneg ha
      · by_cases hm : b = -9223372036854775808
        · subst hm; exact div_mn s a p q r w c1 c2 c3 c4 (f4 (by omega)).2 hneg ha
        · exact div_nn s a b p q r w c1 c2 c3 c4 (by omega) (by omega) (f4 (by omega)).1 (f4 (by omega)).2 hneg ha
theorem str_of_list {s : ByteArray} {l : List UInt8} (h : s.toList = l) : s = ⟨l.toArray⟩ := by
  rw [ByteArray.toList_eq] at h
  cases s with
  | mk d => simp at h; rw [← h]
theorem mathE_ok {I : Bool} {which a b : Int} (h1 : 1 ≤ which) (h2 : which ≤ 5) (ha : I = true → -2147483648 ≤ a ∧ a ≤ 2147483647) (hb : I = true → -2147483648 ≤ b ∧ b ≤ 2147483647) (ho : ofB which b = true) : mathE I which a b = 0 := by
  unfold mathE
  rw [if_neg (by omega), if_neg, if_pos ho]
  rintro (⟨hi, h | h⟩ | ⟨h, _⟩)
  · exact eq_wrap (ha hi) h
  · exact eq_wrap (hb hi) h
  · omega
theorem numDivides_any (s : ByteArray) (a b : Int) (w : World) (ha : -9223372036854775808 ≤ a ∧ a ≤ 9223372036854775807) (hb : -9223372036854775808 ≤ b ∧ b ≤ 9223372036854775807) :
    Calls Try.prog 3 #[.string s, .int .i64 a, .int .i64 b] w fun e w' => e = .returned (.bool true) ∧ w = w' := by
  by_cases hI : s.toList = [73]
  · obtain rfl := str_of_list hI
    by_cases hr : (-2147483648 ≤ a ∧ a ≤ 2147483647) ∧ (-2147483648 ≤ b ∧ b ≤ 2147483647)
    · obtain ⟨hra, hrb⟩ := hr
      by_cases hz : b = 0
      · subst hz
        have e : ∀ which, which = 4 ∨ which = 5 → mathE true which a 0 = 2 + 1 := by
          intro which hw
          unfold mathE
          rw [if_neg (by omega), if_neg, if_neg]
          · rcases hw with rfl | rfl <;> decide
          · have := eq_wrap hra; have := eq_wrap hrb; rintro (⟨_, h | h⟩ | ⟨_, _, h⟩) <;> contradiction
        exact div_err _ a 0 _ w (fails_of_I (e 4 (by omega))) (fails_of_I (e 5 (by omega)))
      · have rb := rem_facts a b hz
        have hrr : -2147483648 ≤ a.tmod b ∧ a.tmod b ≤ 2147483647 := by
          obtain ⟨f1, f2, f3, f4⟩ := rb
          by_cases h : 0 < b
          · have := f3 h; omega
          · have := f4 (by omega); omega
        have hq := wrap32_bd (a.tdiv b)
        have hp := wrap32_bd (wrap32 (a.tdiv b) * b)
        refine div_cases _ a b (wrap32 (a.tdiv b)) (wrap32 (wrap32 (a.tdiv b) * b)) (a.tmod b) w hz hb.1 hb.2 rfl
          (gives_of_I (mathE_ok (by omega) (by omega) (fun _ => hra) (fun _ => hrb) ?_) ?_) (gives_of_I (mathE_ok (by omega) (by omega) (fun _ => hra) (fun _ => hrb) ?_) ?_)
          (gives_of_I (mathE_ok (by omega) (by omega) (fun _ => hq) (fun _ => hrb) ?_) ?_) (gives_of_I (mathE_ok (by omega) (by omega) (fun _ => hp) (fun _ => hrr) ?_) ?_)
        · simp [ofB, wholeB, hz]
        · simp [ofN, wholeN, hz, wrap32_wrap64]
        · simp [ofB, wholeB, hz]
        · simp [ofN, wholeN, hz, wrap32_in' hrr]
        · simp [ofB, wholeB]
        · simp [ofN, wholeN, wrap32_wrap64]
        · simp [ofB, wholeB]
        · simp [ofN, wholeN, wrap32_wrap64, divide_I a b hra]
    · have e : ∀ which, which = 4 ∨ which = 5 → mathE true which a b = 1 + 1 := by
        intro which hw
        unfold mathE
        rw [if_neg (by omega), if_pos]
        by_cases h : -2147483648 ≤ a ∧ a ≤ 2147483647
        · exact Or.inl ⟨rfl, Or.inr (ne_wrap (wrap32_out fun h' => hr ⟨h, h'⟩))⟩
        · exact Or.inl ⟨rfl, Or.inl (ne_wrap (wrap32_out h))⟩
      exact div_err _ a b _ w (fails_of_I (e 4 (by omega))) (fails_of_I (e 5 (by omega)))
  · by_cases hJ : s.toList = [74]
    · obtain rfl := str_of_list hJ
      by_cases hz : b = 0
      · subst hz
        have e : ∀ which, which = 4 ∨ which = 5 → mathE false which a 0 = 2 + 1 := by
          intro which hw
          unfold mathE
          rw [if_neg (by omega), if_neg, if_neg]
          · rcases hw with rfl | rfl <;> decide
          · rintro (⟨h, _⟩ | ⟨_, h, _⟩)
            · cases h
            · omega
        exact div_err _ a 0 _ w (fails_of_J (e 4 (by omega))) (fails_of_J (e 5 (by omega)))
      · refine div_cases _ a b (wrap64 (a.tdiv b)) (wrap64 (wrap64 (a.tdiv b) * b)) (a.tmod b) w hz hb.1 hb.2 rfl
          (gives_of_J (mathE_ok (by omega) (by omega) (fun h => by cases h) (fun h => by cases h) ?_) ?_) (gives_of_J (mathE_ok (by omega) (by omega) (fun h => by cases h) (fun h => by cases h) ?_) ?_)
          (gives_of_J (mathE_ok (by omega) (by omega) (fun h => by cases h) (fun h => by cases h) ?_) ?_) (gives_of_J (mathE_ok (by omega) (by omega) (fun h => by cases h) (fun h => by cases h) ?_) ?_)
        · simp [ofB, wholeB, hz]
        · simp [ofN, wholeN, hz]
        · simp [ofB, wholeB, hz]
        · simp [ofN, wholeN, hz]
        · simp [ofB, wholeB]
        · simp [ofN, wholeN]
        · simp [ofB, wholeB]
        · simp [ofN, wholeN, divide_J a b ha]
    · exact div_not s a b w (by simpa using hI) (by simpa using hJ)
end Go.Proofs.Ytadnljpjmhlkpaa
