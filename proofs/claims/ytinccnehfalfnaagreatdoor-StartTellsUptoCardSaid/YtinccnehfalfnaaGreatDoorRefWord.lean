/-
  WALKS over the reference's words: digit, letter, IsName. Conditions: none.
-/
import Derived.Test.YtinccnehfalfnaaGreatDoorWordLaw
namespace Go.Proofs.YtinccnehfalfnaaGreatDoor
open Go.RowKit
theorem digit_any (c : UInt8) (w : World) : Calls Tryz.prog 43 #[.int .u8 (c.toNat : Int)] w fun e w' => e = .returned (.bool (isDigit c)) ∧ w = w' := by
  go_enter Tryz.func43, Tryz.ntmps43
  go_wp2
  all_goals
    go_ret
    exact ⟨ret_bool (by rw [Bool.eq_iff_iff, isDigit_iff]; simp; omega), rfl⟩
theorem letter_any (c : UInt8) (w : World) : Calls Tryz.prog 44 #[.int .u8 (c.toNat : Int)] w fun e w' => e = .returned (.bool (isLetter c)) ∧ w = w' := by
  go_enter Tryz.func44, Tryz.ntmps44
  go_wp2
  all_goals
    go_ret
    exact ⟨ret_bool (by rw [Bool.eq_iff_iff, isLetter_iff]; simp; omega), rfl⟩
set_option maxHeartbeats 400000 in
theorem isName_any (s : ByteArray) (w : World) (hs : s.size ≤ maxLen) : Calls Tryz.prog 32 #[.string s] w fun e w' => e = .returned (.bool (nameB s.data.toList)) ∧ w = w' := by
  unfold maxLen at hs
  by_cases h0 : s.size = 0
  · have hn : nameB s.data.toList = false := by rw [nameB_eq]; simp [h0]
    have hz : ((s.size : Int) == 0) = true := by simp [h0]
    rw [hn]; clear hn h0
    go_enter Tryz.func32, Tryz.ntmps32
    go_wp2_with fail
    go_ret
    exact ⟨rfl, rfl⟩
  · have hz : ((s.size : Int) == 0) = false := by simp [h0]
    by_cases h20 : 20 < s.size
    · have hn : nameB s.data.toList = false := by rw [nameB_eq]; simp; omega
      rw [hn]; clear hn
      go_enter Tryz.func32, Tryz.ntmps32
      go_wp2_with fail
      go_ret
      exact ⟨rfl, rfl⟩
    · have hpos : 0 < s.size := by omega
      clear h0
      cases hd : isDigit s[0] with
      | true =>
        have hn : nameB s.data.toList = false := by
          rw [nameB_eq]
          rw [head_match hpos]; simp [hd]
        rw [hn]; clear hn
        go_enter Tryz.func32, Tryz.ntmps32
        go_wp2_with (go_at_call 43; (with_reducible refine (digit_any _ _).mono ?_); rintro e w' ⟨rfl, rfl⟩)
        go_ret
        exact ⟨rfl, rfl⟩
      | false =>
        have hn : Hid (nameB s.data.toList = s.data.toList.all signB) := by
          unfold Hid
          rw [nameB_eq, head_match hpos]
          simp [hpos, hd]; omega
        go_enter Tryz.func32, Tryz.ntmps32
        go_wp2_with (go_at_call 43; (with_reducible refine (digit_any _ _).mono ?_); rintro e w' ⟨rfl, rfl⟩)
        clear hd
        go_loop [3] (fun i => ∃ k : Nat, k ≤ s.size ∧ Hid ((s.data.toList.take k).all signB = true) ∧ i = .int .i64 k) (fun i => s.size - (intOf i).toNat)
        case atStart => exact ⟨0, Nat.zero_le _, rfl, rfl⟩
        case round =>
          obtain ⟨k, hk, hall, rfl⟩ := hrel
          by_cases hlt : k < s.size
          · cases hl : isLetter s[k] with
            | true =>
              have hnext : Hid ((s.data.toList.take (k + 1)).all signB = true) := take_all_step hlt hall.out (by simp [signB, hl])
              go_wp2_with (first | (go_at_call 44; (with_reducible refine (letter_any _ _).mono ?_); rintro e w' ⟨rfl, rfl⟩) | (go_at_call 43; (with_reducible refine (digit_any _ _).mono ?_); rintro e w' ⟨rfl, rfl⟩))
              go_round
              case rel => exact ⟨k + 1, by omega, hnext, by go_num⟩
              case measure => simp [intOf]; omega
            | false =>
              cases hd : isDigit s[k] with
              | true =>
                have hnext : Hid ((s.data.toList.take (k + 1)).all signB = true) := take_all_step hlt hall.out (by simp [signB, hd])
                go_wp2_with (first | (go_at_call 44; (with_reducible refine (letter_any _ _).mono ?_); rintro e w' ⟨rfl, rfl⟩) | (go_at_call 43; (with_reducible refine (digit_any _ _).mono ?_); rintro e w' ⟨rfl, rfl⟩))
                go_round
                case rel => exact ⟨k + 1, by omega, hnext, by go_num⟩
                case measure => simp [intOf]; omega
              | false =>
                have hf : Hid (s.data.toList.all signB = false) := all_false hlt (by simp [signB, hl, hd])
                go_wp2_with (first | (go_at_call 44; (with_reducible refine (letter_any _ _).mono ?_); rintro e w' ⟨rfl, rfl⟩) | (go_at_call 43; (with_reducible refine (digit_any _ _).mono ?_); rintro e w' ⟨rfl, rfl⟩))
                go_ret
                exact ⟨ret_bool (by rw [hn.out, hf.out]), rfl⟩
          · go_wp2_with fail
            go_ret
            exact ⟨ret_bool (by rw [hn.out, ← hall.out, List.take_of_length_le (by simp; omega)]), rfl⟩
end Go.Proofs.YtinccnehfalfnaaGreatDoor
