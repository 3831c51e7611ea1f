/-
  WALKS over the reference's types and instructions: IsType, IsWord, IsRef, Deep, Word32, Jumps, Ends. Conditions: lengths as a string can have them.
-/
import Derived.Test.YtinccnehfalfnaaGreatDoorRefType
import Derived.Test.YtinccnehfalfnaaGreatDoorInsCheck
namespace Go.Proofs.YtinccnehfalfnaaGreatDoor
open Go.RowKit Go.Shelf Go.Lib
theorem typeAt_zero (s : ByteArray) : typeAtN s 0 = (typeLen s.data.toList : Int) := by
  unfold typeAtN
  rw [List.drop_zero]
  split
  · rename_i h; rw [h]; rfl
  · simp
set_option maxHeartbeats 400000 in
theorem refIsType_any (s : ByteArray) (w : World) (hs : s.size ≤ maxLen) : Calls Tryz.prog 33 #[.string s] w fun e w' => e = .returned (.bool (typeB s.data.toList)) ∧ w = w' := by
  have HT : Calls Tryz.prog 45 #[.string s, .int .i64 0] w fun e w' => e = .returned (.int .i64 (typeAtN s 0)) ∧ w = w' := typeAt_any s 0 w hs (Nat.zero_le _)
  rw [typeAt_zero] at HT
  have hb := typeB_iff s
  by_cases h0 : s.size = 0
  · have hf : typeB s.data.toList = false := by rw [Bool.eq_false_iff]; intro h; rw [hb] at h; omega
    have hz : ((s.size : Int) == 0) = true := by simp [h0]
    rw [hf]
    clear hb hf HT
    go_enter Tryz.func33, Tryz.ntmps33
    go_wp2
    all_goals first | (exfalso; omega) | skip
    go_ret
    exact ⟨rfl, rfl⟩
  · have hf : Hid (typeB s.data.toList = decide (typeLen s.data.toList = s.size)) := by
      unfold Hid; rw [Bool.eq_iff_iff, hb]; simp; omega
    have hp : 0 < s.size := by omega
    have H := Lib.hid HT
    clear hb h0 HT
    generalize typeLen s.data.toList = n at *
    go_enter Tryz.func33, Tryz.ntmps33
    go_wp2_with (go_at_call 45; (with_reducible refine H.out.mono ?_); rintro e w' ⟨rfl, rfl⟩)
    all_goals first | (exfalso; omega) | skip
    go_ret
    exact ⟨ret_bool (by rw [hf.out, Bool.eq_iff_iff]; simp; omega), rfl⟩
theorem refIsWord_any (s : ByteArray) (w : World) : Calls Tryz.prog 107 #[.string s] w fun e w' => e = .returned (.bool (wordB s.data.toList)) ∧ w = w' := by
  rw [← ByteArray.toList_eq]
  go_enter Tryz.func107, Tryz.ntmps107
  go_wp2
  all_goals
    go_ret
    simp [wordB, *]
set_option maxHeartbeats 400000 in
theorem refIsRef_any (s : ByteArray) (w : World) (hs : s.size ≤ maxLen) : Calls Tryz.prog 109 #[.string s] w fun e w' => e = .returned (.bool (refB s.data.toList)) ∧ w = w' := by
  have HT := Lib.hid (refIsType_any s w hs)
  have HW := Lib.hid (refIsWord_any s w)
  unfold refB
  generalize typeB s.data.toList = a at *
  generalize wordB s.data.toList = b at *
  cases a <;> cases b
  all_goals
    go_enter Tryz.func109, Tryz.ntmps109
    go_wp2_with (first | (go_at_call 33; (with_reducible refine HT.out.mono ?_); rintro e w' ⟨rfl, rfl⟩) | (go_at_call 107; (with_reducible refine HW.out.mono ?_); rintro e w' ⟨rfl, rfl⟩))
    go_ret
    exact ⟨rfl, rfl⟩
set_option maxHeartbeats 400000 in
theorem refDeep_any (s : ByteArray) (w : World) (hs : s.size ≤ maxLen) : Calls Tryz.prog 108 #[.string s] w fun e w' => e = .returned (.int .i64 (deepOf s.data.toList)) ∧ w = w' := by
  obtain ⟨f1, f2, f3, f4⟩ := typeFacts s 0 (Nat.zero_le _)
  rw [List.drop_zero, Nat.zero_add] at *
  generalize deepOf s.data.toList = i at *
  unfold maxLen at hs
  have F3 := Lib.hid f3
  have F4 := Lib.hid f4
  clear f1 f3 f4
  go_enter Tryz.func108, Tryz.ntmps108
  go_wp2_with fail
  go_loop [3] (fun x => ∃ k : Nat, k ≤ i ∧ x = .int .i64 k) (fun x => i - (intOf x).toNat)
  case atStart => exact ⟨0, by omega, rfl⟩
  case round =>
    obtain ⟨k, hk2, rfl⟩ := hrel
    by_cases hlt : k < i
    · have hks : k < s.size := by omega
      have hc : (((s[k]).toNat : Int) == 91) = true := sign_is (c := 91) (F3.out k hks (Nat.zero_le _) hlt) rfl
      go_wp2_with fail
      go_round
      case rel => exact ⟨k + 1, by omega, by go_num⟩
      case measure => simp [intOf]; omega
    · have hki : k = i := by omega
      subst hki
      by_cases hks : k < s.size
      · have hc : (((s[k]).toNat : Int) == 91) = false := sign_not (c := 91) (F4.out hks) rfl
        go_wp2_with fail
        go_ret
        exact ⟨rfl, rfl⟩
      · go_wp2_with fail
        go_ret
        exact ⟨rfl, rfl⟩
theorem refWord32_any (n : Int) (w : World) : Calls Tryz.prog 83 #[.int .i64 n] w fun e w' => e = .returned (.bool (decide (-2147483648 ≤ n) && decide (n ≤ 2147483647))) ∧ w = w' := by
  go_enter Tryz.func83, Tryz.ntmps83
  go_wp2
  all_goals
    go_ret
    exact ⟨ret_bool (by rw [Bool.eq_iff_iff]; simp; omega), rfl⟩
theorem refJumps_any (op : Int) (w : World) : Calls Tryz.prog 60 #[.int .i64 op] w fun e w' => e = .returned (.bool (jumpsB op)) ∧ w = w' := by
  go_enter Tryz.func60, Tryz.ntmps60
  go_wp2
  all_goals
    go_ret
    exact ⟨ret_bool (by simp [jumpsB, *]), rfl⟩
theorem refEnds_any (op : Int) (w : World) : Calls Tryz.prog 61 #[.int .i64 op] w fun e w' => e = .returned (.bool (endsB op)) ∧ w = w' := by
  go_enter Tryz.func61, Tryz.ntmps61
  go_wp2
  all_goals
    go_ret
    exact ⟨ret_bool (by simp [endsB, *]), rfl⟩
end Go.Proofs.YtinccnehfalfnaaGreatDoor
