/-
  WALKS over the reference's words: digit, letter, IsName. Conditions: none.
  WALKS over the reference's types: TypeAt, IsType. Conditions: lengths as a slice or string can have them.
-/
import Derived.Test.YtbakcdgjibmceaaGreatDoorTypeLaw
namespace Go.Proofs.YtbakcdgjibmceaaGreatDoor
open Go.RowKit
theorem digit_any (c : UInt8) (w : World) : Calls Tryz.prog 90 #[.int .u8 (c.toNat : Int)] w fun e w' => e = .returned (.bool (isDigit c)) ∧ w = w' := by
  go_enter Tryz.func90, Tryz.ntmps90
  go_wp2
  all_goals
    go_ret
    exact ⟨ret_bool (by rw [Bool.eq_iff_iff, isDigit_iff]; simp; omega), rfl⟩
theorem letter_any (c : UInt8) (w : World) : Calls Tryz.prog 91 #[.int .u8 (c.toNat : Int)] w fun e w' => e = .returned (.bool (isLetter c)) ∧ w = w' := by
  go_enter Tryz.func91, Tryz.ntmps91
  go_wp2
  all_goals
    go_ret
    exact ⟨ret_bool (by rw [Bool.eq_iff_iff, isLetter_iff]; simp; omega), rfl⟩
set_option maxHeartbeats 400000 in
theorem isName_any (s : ByteArray) (w : World) (hs : s.size ≤ maxLen) : Calls Tryz.prog 63 #[.string s] w fun e w' => e = .returned (.bool (nameB s.data.toList)) ∧ w = w' := by
  unfold maxLen at hs
  by_cases h0 : s.size = 0
  · have hn : nameB s.data.toList = false := by rw [nameB_eq]; simp [h0]
    have hz : ((s.size : Int) == 0) = true := by simp [h0]
    rw [hn]; clear hn h0
    go_enter Tryz.func63, Tryz.ntmps63
    go_wp2_with fail
    go_ret
    exact ⟨rfl, rfl⟩
  · have hz : ((s.size : Int) == 0) = false := by simp [h0]
    by_cases h20 : 20 < s.size
    · have hn : nameB s.data.toList = false := by rw [nameB_eq]; simp; omega
      rw [hn]; clear hn
      go_enter Tryz.func63, Tryz.ntmps63
      go_wp2_with fail
      go_ret
      exact ⟨rfl, rfl⟩
    · have hpos : 0 < s.size := by omega
      clear h0
      cases hd : isDigit s[0] with
      | true =>
        have hn : nameB s.data.toList = false := by
          rw [nameB_eq]
          rw [head_match hpos]; simp [hd]
        rw [hn]; clear hn
        go_enter Tryz.func63, Tryz.ntmps63
        go_wp2_with (go_at_call 90; (with_reducible refine (digit_any _ _).mono ?_); rintro e w' ⟨rfl, rfl⟩)
        go_ret
        exact ⟨rfl, rfl⟩
      | false =>
        have hn : Hid (nameB s.data.toList = s.data.toList.all signB) := by
          unfold Hid
          rw [nameB_eq, head_match hpos]
          simp [hpos, hd]; omega
        go_enter Tryz.func63, Tryz.ntmps63
        go_wp2_with (go_at_call 90; (with_reducible refine (digit_any _ _).mono ?_); rintro e w' ⟨rfl, rfl⟩)
        clear hd
        go_loop [3] (fun i => ∃ k : Nat, k ≤ s.size ∧ Hid ((s.data.toList.take k).all signB = true) ∧ i = .int .i64 k) (fun i => s.size - (intOf i).toNat)
        case atStart => exact ⟨0, Nat.zero_le _, rfl, rfl⟩
        case round =>
          obtain ⟨k, hk, hall, rfl⟩ := hrel
          by_cases hlt : k < s.size
          · cases hl : isLetter s[k] with
            | true =>
              have hnext : Hid ((s.data.toList.take (k + 1)).all signB = true) := take_all_step hlt hall.out (by simp [signB, hl])
              go_wp2_with (first | (go_at_call 91; (with_reducible refine (letter_any _ _).mono ?_); rintro e w' ⟨rfl, rfl⟩) | (go_at_call 90; (with_reducible refine (digit_any _ _).mono ?_); rintro e w' ⟨rfl, rfl⟩))
              go_round
              case rel => exact ⟨k + 1, by omega, hnext, by go_num⟩
              case measure => simp [intOf]; omega
            | false =>
              cases hd : isDigit s[k] with
              | true =>
                have hnext : Hid ((s.data.toList.take (k + 1)).all signB = true) := take_all_step hlt hall.out (by simp [signB, hd])
                go_wp2_with (first | (go_at_call 91; (with_reducible refine (letter_any _ _).mono ?_); rintro e w' ⟨rfl, rfl⟩) | (go_at_call 90; (with_reducible refine (digit_any _ _).mono ?_); rintro e w' ⟨rfl, rfl⟩))
                go_round
                case rel => exact ⟨k + 1, by omega, hnext, by go_num⟩
                case measure => simp [intOf]; omega
              | false =>
                have hf : Hid (s.data.toList.all signB = false) := all_false hlt (by simp [signB, hl, hd])
                go_wp2_with (first | (go_at_call 91; (with_reducible refine (letter_any _ _).mono ?_); rintro e w' ⟨rfl, rfl⟩) | (go_at_call 90; (with_reducible refine (digit_any _ _).mono ?_); rintro e w' ⟨rfl, rfl⟩))
                go_ret
                exact ⟨ret_bool (by rw [hn.out, hf.out]), rfl⟩
          · go_wp2_with fail
            go_ret
            exact ⟨ret_bool (by rw [hn.out, ← hall.out, List.take_of_length_le (by simp; omega)]), rfl⟩
end Go.Proofs.YtbakcdgjibmceaaGreatDoor
namespace Go.Proofs.YtbakcdgjibmceaaGreatDoor
open Go.RowKit
set_option maxHeartbeats 1000000 in
theorem typeAt_any (s : ByteArray) (a : Nat) (w : World) (hs : s.size ≤ maxLen) (ha : a ≤ s.size) :
    Calls Tryz.prog 48 #[.string s, .int .i64 a] w fun e w' => e = .returned (.int .i64 (typeAtN s a)) ∧ w = w' := by
  obtain ⟨f1, f2, f3, f4⟩ := typeFacts s a ha
  generalize hi : a + deepOf (s.data.toList.drop a) = i at *
  have HN := Lib.hid (typeAtN_eq s a i hi.symm)
  have hs' := hs
  unfold maxLen at hs
  have F3 := Lib.hid f3
  have F4 := Lib.hid f4
  have HS := Lib.hid hs'
  clear f3 f4 hi hs'
  go_enter Tryz.func48, Tryz.ntmps48
  go_wp2_with fail
  go_loop [5] (fun x => ∃ k : Nat, a ≤ k ∧ k ≤ i ∧ x = .int .i64 k) (fun x => i - (intOf x).toNat)
  case atStart => exact ⟨a, by omega, by omega, rfl⟩
  case round =>
    obtain ⟨k, hk1, hk2, rfl⟩ := hrel
    by_cases hlt : k < i
    · have hks : k < s.size := by omega
      have hc : (((s[k]).toNat : Int) == 91) = true := sign_is (c := 91) (F3.out k hks hk1 hlt) rfl
      go_wp2_with fail
      go_round
      case rel => exact ⟨k + 1, by omega, by omega, by go_num⟩
      case measure => simp [intOf]; omega
    · have hki : k = i := by omega
      subst hki
      clear hk1 hk2 hlt F3
      by_cases hks : k < s.size
      · have hc : (((s[k]).toNat : Int) == 91) = false := sign_not (c := 91) (F4.out hks) rfl
        clear F4
        by_cases hd : 3 < k - a
        · go_wp2_with fail
          go_ret
          exact ⟨ret_i64 (by rw [HN.out, if_neg (by omega)]), rfl⟩
        · have HC := Lib.hid (core_at s k hks)
          by_cases hI : s[k] = 73
          · have hfin : Hid (typeAtN s a = (k : Int) + 1) := by
              unfold Hid; rw [HN.out, HC.out, if_pos (Or.inl hI), if_pos (by omega)]; rfl
            have h1 := sign_is hI (n := 73) rfl
            clear hI HC HN
            go_wp2_with fail
            go_ret
            exact ⟨ret_i64 (by rw [hfin.out]), rfl⟩
          · have h1 := sign_not hI (n := 73) rfl
            by_cases hJ : s[k] = 74
            · have hfin : Hid (typeAtN s a = (k : Int) + 1) := by
                unfold Hid; rw [HN.out, HC.out, if_pos (Or.inr hJ), if_pos (by omega)]; rfl
              have h2 := sign_is hJ (n := 74) rfl
              clear hI hJ HC HN
              go_wp2_with fail
              go_ret
              exact ⟨ret_i64 (by rw [hfin.out]), rfl⟩
            · have h2 := sign_not hJ (n := 74) rfl
              by_cases hL : s[k] = 76
              · have h3 := sign_isn hL (n := 76) rfl
                have HC2 : Hid (coreLen (s.data.toList.drop k) = if k + 1 + semiAt (s.data.toList.drop (k + 1)) < s.size ∧ nameB ((s.extract (k + 1) (k + 1 + semiAt (s.data.toList.drop (k + 1)))).data.toList) = true then semiAt (s.data.toList.drop (k + 1)) + 2 else 0) := by
                  unfold Hid; rw [HC.out, if_neg (by simp [hI, hJ]), if_pos hL]
                obtain ⟨g1, g2, g3, g4⟩ := semiFacts s (k + 1) (by omega)
                generalize hm : semiAt (s.data.toList.drop (k + 1)) = m at *
                generalize he : k + 1 + m = e at *
                have G3 := Lib.hid g3
                have G4 := Lib.hid g4
                have HE := Lib.hid he
                clear HC hI hJ hL g3 g4 hm he
                go_wp2_with fail
                go_loop [6] (fun x => ∃ j : Nat, k + 1 ≤ j ∧ j ≤ e ∧ x = .int .i64 j) (fun x => e - (intOf x).toNat)
                case atStart => exact ⟨k + 1, by omega, by omega, by go_num⟩
                case round =>
                  obtain ⟨j, hj1, hj2, rfl⟩ := hrel
                  clear hc h1 h2 h3
                  by_cases hlt : j < e
                  · have hjs : j < s.size := by omega
                    have hc := sign_isnt (G3.out j hjs hj1 hlt) (n := 59) rfl
                    go_wp2_with fail
                    go_round
                    case rel => exact ⟨j + 1, by omega, by omega, by go_num⟩
                    case measure => simp [intOf]; omega
                  · have hje : j = e := by omega
                    subst hje
                    clear hj1 hj2 hlt G3
                    by_cases hjs : j < s.size
                    · have hc := sign_isn (G4.out hjs) (n := 59) rfl
                      have hne : ((j : Int) == (s.size : Int)) = false := by simp; omega
                      cases hn : nameB ((s.extract (k + 1) j).data.toList) with
                      | true =>
                        have hfin : Hid (typeAtN s a = (j : Int) + 1) := by
                          have hcl := HC2.out; rw [if_pos ⟨hjs, hn⟩] at hcl; unfold Hid; rw [HN.out, hcl, if_pos (by omega)]; have := HE.out; omega
                        have HNm := Lib.hid hn
                        clear HC2 HN G4 hn
                        go_wp2_with (go_at_call 63; refine (isName_any _ _ ?hsz).mono ?_; (case hsz => exact extract_small HS.out); rintro e w' ⟨rfl, rfl⟩; rw [HNm.out])
                        go_ret
                        exact ⟨ret_i64 (by rw [hfin.out]), rfl⟩
                      | false =>
                        have hfin : Hid (typeAtN s a = 0) := by
                          have hcl := HC2.out; rw [if_neg (by rw [hn]; simp)] at hcl; unfold Hid; rw [HN.out, hcl, if_neg (by omega)]
                        have HNm := Lib.hid hn
                        clear HC2 HN G4 hn
                        go_wp2_with (go_at_call 63; refine (isName_any _ _ ?hsz).mono ?_; (case hsz => exact extract_small HS.out); rintro e w' ⟨rfl, rfl⟩; rw [HNm.out])
                        go_ret
                        exact ⟨ret_i64 (by rw [hfin.out]), rfl⟩
                    · have hfin : Hid (typeAtN s a = 0) := by
                        have hcl := HC2.out; rw [if_neg (by omega)] at hcl; unfold Hid; rw [HN.out, hcl, if_neg (by omega)]
                      have hje : j = s.size := by omega
                      have heq : ((j : Int) == (s.size : Int)) = true := by simp; omega
                      clear HC2 HN G4 hje
                      go_wp2_with fail
                      go_ret
                      exact ⟨ret_i64 (by rw [hfin.out]), rfl⟩
              · have h3 := sign_isnt hL (n := 76) rfl
                have hfin : Hid (typeAtN s a = 0) := by
                  have hcl := HC.out; rw [if_neg (by simp [hI, hJ]), if_neg hL] at hcl; unfold Hid; rw [HN.out, hcl, if_neg (by omega)]
                clear hI hJ hL HC HN
                go_wp2_with fail
                go_ret
                exact ⟨ret_i64 (by rw [hfin.out]), rfl⟩
      · clear F4
        by_cases hd : 3 < k - a
        · go_wp2_with fail
          go_ret
          exact ⟨ret_i64 (by rw [HN.out, if_neg (by omega)]), rfl⟩
        · go_wp2_with fail
          go_ret
          exact ⟨ret_i64 (by rw [HN.out, core_end s k (by omega), if_neg (by omega)]), rfl⟩
end Go.Proofs.YtbakcdgjibmceaaGreatDoor
