/-
  WALKS over package desc: cut. Conditions: a text as long as a string can be.
-/
import Derived.Test.YtlmfmioljeppfaaGreatDoorName
import Derived.Test.YtlmfmioljeppfaaGreatDoorTypeLaw
import Derived.Deep.QuietTactic
import Derived.BigQuiet
import Derived.WalkSmall
namespace Go.Proofs.YtlmfmioljeppfaaGreatDoor
open Go.RowKit Go.Shelf Go.Lib
theorem trimLeft_deep (l : List UInt8) : Lib.trimLeftB l 91 = l.drop (deepOf l) := by
  unfold Lib.trimLeftB
  induction l with
  | nil => rfl
  | cons c r ih =>
    unfold deepOf
    by_cases h : c = 91
    · subst h; simpa using ih
    · rw [if_neg h]; simp [h]
theorem trimLeft_any (s : ByteArray) (w : World) : Calls Tryz.prog 135 #[.string s, .string ⟨#[91]⟩] w fun e w' => e = .returned (.string (s.extract (deepOf s.data.toList) s.size)) ∧ w = w' := by
  refine (Tryz.strings_TrimLeft_one s 91 (by decide) w).mono ?_
  rintro e w' ⟨rfl, rfl⟩
  refine ⟨?_, rfl⟩
  rw [trimLeft_deep]
  congr 2
  have := Lib.extract_to_end s (deepOf s.data.toList)
  rw [← this]
def TrimTo (s r : ByteArray) : Prop := ∀ w, Calls Tryz.prog 135 #[.string s, .string ⟨#[91]⟩] w fun e w' => e = .returned (.string r) ∧ w = w'
theorem TrimTo.at {s r : ByteArray} (h : TrimTo s r) (w : World) : Calls Tryz.prog 135 #[.string s, .string ⟨#[91]⟩] w fun e w' => e = .returned (.string r) ∧ w = w' := h w
def SemiIs (t : ByteArray) (n : Int) : Prop := ∀ w, Calls Tryz.prog 134 #[.string t, .int .u8 59] w fun e w' => e = .returned (.int .i64 n) ∧ w = w'
theorem SemiIs.at {t : ByteArray} {n : Int} (h : SemiIs t n) (w : World) : Calls Tryz.prog 134 #[.string t, .int .u8 59] w fun e w' => e = .returned (.int .i64 n) ∧ w = w' := h w
def cutFail (s : ByteArray) : Value := .tuple #[.string .empty, .string s, .bool false]
def cutAt (s : ByteArray) (n : Nat) : Value := .tuple #[.string (s.extract 0 n), .string (s.extract n s.size), .bool true]
def NameIs (t : ByteArray) (k : Nat) : Prop := ∀ w, Calls Tryz.prog 97 #[.string t] w fun e w' => e = .returned (errV k) ∧ Below w.heap.size w w'
theorem NameIs.bad {t : ByteArray} (h : NameIs t 1) (w : World) : Calls Tryz.prog 97 #[.string t] w fun e w' => e = .returned (.iface 29 (.int .i64 1)) ∧ Below w.heap.size w w' := h w
theorem NameIs.good {t : ByteArray} (h : NameIs t 0) (w : World) : Calls Tryz.prog 97 #[.string t] w fun e w' => e = .returned .nilIface ∧ Below w.heap.size w w' := h w
set_option maxHeartbeats 400000 in
theorem cut_deep (s r : ByteArray) (hs : s.size ≤ 9223372036854775807) (h : 3 < (s.size : Int) - r.size) (w : World) (_h1 : r.size ≤ s.size) (hr : TrimTo s r) :
    Calls Tryz.prog 98 #[.string s] w fun e w' => e = .returned (cutFail s) ∧ Below w.heap.size w w' := by
  go_enter Tryz.func98, Tryz.ntmps98
  go_wp2_with (first | (go_at_call 135; (with_reducible refine (hr.at _).mono ?_); rintro e w' ⟨rfl, rfl⟩))
  go_ret3
  exact ⟨rfl, Below.refl _ _⟩
set_option maxHeartbeats 400000 in
theorem cut_empty (s r t : ByteArray) (_hs : s.size ≤ 9223372036854775807) (h : (s.size : Int) - r.size ≤ 3) (ht : s.extract (s.size - r.size) s.size = t) (h0 : t.toList.isEmpty = true) (w : World) (h1 : r.size ≤ s.size) (hr : TrimTo s r) :
    Calls Tryz.prog 98 #[.string s] w fun e w' => e = .returned (cutFail s) ∧ Below w.heap.size w w' := by
  go_enter Tryz.func98, Tryz.ntmps98
  go_wp2_with (first | (go_at_call 135; (with_reducible refine (hr.at _).mono ?_); rintro e w' ⟨rfl, rfl⟩))
  go_ret3
  exact ⟨rfl, Below.refl _ _⟩
set_option maxHeartbeats 400000 in
theorem cut_other (s r t : ByteArray) (_hs : s.size ≤ 9223372036854775807) (h : (s.size : Int) - r.size ≤ 3) (ht : s.extract (s.size - r.size) s.size = t) (h0 : t.toList.isEmpty = false) (hp : 0 < t.size) (c1 : ((t[0].toNat : Int) == 73) = false) (c2 : ((t[0].toNat : Int) == 74) = false) (c3 : ((t[0].toNat : Int) == 76) = false) (w : World) (h1 : r.size ≤ s.size) (hr : TrimTo s r) :
    Calls Tryz.prog 98 #[.string s] w fun e w' => e = .returned (cutFail s) ∧ Below w.heap.size w w' := by
  go_enter Tryz.func98, Tryz.ntmps98
  go_wp2_with (first | (go_at_call 135; (with_reducible refine (hr.at _).mono ?_); rintro e w' ⟨rfl, rfl⟩))
  go_ret3
  exact ⟨rfl, Below.refl _ _⟩
set_option maxHeartbeats 400000 in
theorem cut_I (s r t : ByteArray) (_hs : s.size ≤ 9223372036854775807) (h : (s.size : Int) - r.size ≤ 3) (ht : s.extract (s.size - r.size) s.size = t) (h0 : t.toList.isEmpty = false) (hp : 0 < t.size) (c1 : ((t[0].toNat : Int) == 73) = true) (_c2 : ((t[0].toNat : Int) == 74) = false) (_c3 : ((t[0].toNat : Int) == 76) = false) (hr1 : 1 ≤ r.size) (w : World) (h1 : r.size ≤ s.size) (hr : TrimTo s r) :
    Calls Tryz.prog 98 #[.string s] w fun e w' => e = .returned (cutAt s (s.size - r.size + 1)) ∧ Below w.heap.size w w' := by
  have e1 : IntKind.i64.wrap ((s.size : Int) - r.size + 1) = (s.size : Int) - r.size + 1 := IntWalk.i64_in _ (by omega)
  have e2 : 0 ≤ (s.size : Int) - r.size + 1 := by omega
  have e3 : ((s.size : Int) - r.size + 1).toNat = s.size - r.size + 1 := by omega
  have e4 : (s.size : Int) - r.size + 1 ≤ s.size := by omega
  go_enter Tryz.func98, Tryz.ntmps98
  go_wp2_with (first | (go_at_call 135; (with_reducible refine (hr.at _).mono ?_); rintro e w' ⟨rfl, rfl⟩))
  go_quiet (fail)
  clear e1 e2 e3 e4
  go_wp2_with fail
  go_ret3
  exact ⟨rfl, below_drewN (Below.refl _ _) _⟩
set_option maxHeartbeats 400000 in
theorem cut_J (s r t : ByteArray) (_hs : s.size ≤ 9223372036854775807) (h : (s.size : Int) - r.size ≤ 3) (ht : s.extract (s.size - r.size) s.size = t) (h0 : t.toList.isEmpty = false) (hp : 0 < t.size) (c1 : ((t[0].toNat : Int) == 73) = false) (c2 : ((t[0].toNat : Int) == 74) = true) (_c3 : ((t[0].toNat : Int) == 76) = false) (hr1 : 1 ≤ r.size) (w : World) (h1 : r.size ≤ s.size) (hr : TrimTo s r) :
    Calls Tryz.prog 98 #[.string s] w fun e w' => e = .returned (cutAt s (s.size - r.size + 1)) ∧ Below w.heap.size w w' := by
  have e1 : IntKind.i64.wrap ((s.size : Int) - r.size + 1) = (s.size : Int) - r.size + 1 := IntWalk.i64_in _ (by omega)
  have e2 : 0 ≤ (s.size : Int) - r.size + 1 := by omega
  have e3 : ((s.size : Int) - r.size + 1).toNat = s.size - r.size + 1 := by omega
  have e4 : (s.size : Int) - r.size + 1 ≤ s.size := by omega
  go_enter Tryz.func98, Tryz.ntmps98
  go_wp2_with (first | (go_at_call 135; (with_reducible refine (hr.at _).mono ?_); rintro e w' ⟨rfl, rfl⟩))
  go_quiet (fail)
  clear e1 e2 e3 e4
  go_wp2_with fail
  go_ret3
  exact ⟨rfl, below_drewN (Below.refl _ _) _⟩
set_option maxHeartbeats 400000 in
theorem cut_L0 (s r t : ByteArray) (_hs : s.size ≤ 9223372036854775807) (h : (s.size : Int) - r.size ≤ 3) (ht : s.extract (s.size - r.size) s.size = t) (h0 : t.toList.isEmpty = false) (hp : 0 < t.size) (c1 : ((t[0].toNat : Int) == 73) = false) (c2 : ((t[0].toNat : Int) == 74) = false) (c3 : ((t[0].toNat : Int) == 76) = true) (hn : SemiIs t (-1)) (w : World) (h1 : r.size ≤ s.size) (hr : TrimTo s r) :
    Calls Tryz.prog 98 #[.string s] w fun e w' => e = .returned (cutFail s) ∧ Below w.heap.size w w' := by
  go_enter Tryz.func98, Tryz.ntmps98
  go_wp2_with (first | (go_at_call 135; (with_reducible refine (hr.at _).mono ?_); rintro e w' ⟨rfl, rfl⟩) | (go_at_call 134; (with_reducible refine (hn.at _).mono ?_); rintro e w' ⟨rfl, rfl⟩))
  go_ret3
  exact ⟨rfl, Below.refl _ _⟩
set_option maxHeartbeats 400000 in
theorem cut_L1 (s r t : ByteArray) (_hs : s.size ≤ 9223372036854775807) (h : (s.size : Int) - r.size ≤ 3) (ht : s.extract (s.size - r.size) s.size = t) (h0 : t.toList.isEmpty = false) (hp : 0 < t.size) (c1 : ((t[0].toNat : Int) == 73) = false) (c2 : ((t[0].toNat : Int) == 74) = false) (c3 : ((t[0].toNat : Int) == 76) = true) (m : Nat) (hts : t.size ≤ 9223372036854775807) (hn : SemiIs t m) (hm1 : 1 ≤ m) (hm2 : m < t.size) (hc : NameIs (t.extract 1 m) 1) (w : World) (h1 : r.size ≤ s.size) (hr : TrimTo s r) :
    Calls Tryz.prog 98 #[.string s] w fun e w' => e = .returned (cutFail s) ∧ Below w.heap.size w w' := by
  go_enter Tryz.func98, Tryz.ntmps98
  go_wp2_with (first | (go_at_call 135; (with_reducible refine (hr.at _).mono ?_); rintro e w' ⟨rfl, rfl⟩) | (go_at_call 134; (with_reducible refine (hn.at _).mono ?_); rintro e w' ⟨rfl, rfl⟩) | (go_at_call 97; (with_reducible refine (hc.bad _).mono ?_); rintro e w' ⟨rfl, hB⟩))
  go_ret3
  exact ⟨rfl, hB⟩
set_option maxHeartbeats 400000 in
theorem cut_L2 (s r t : ByteArray) (hs : s.size ≤ 9223372036854775807) (h : (s.size : Int) - r.size ≤ 3) (ht : s.extract (s.size - r.size) s.size = t) (h0 : t.toList.isEmpty = false) (hp : 0 < t.size) (c1 : ((t[0].toNat : Int) == 73) = false) (c2 : ((t[0].toNat : Int) == 74) = false) (c3 : ((t[0].toNat : Int) == 76) = true) (m : Nat) (hts : t.size ≤ 9223372036854775807) (hr1 : m + 1 ≤ r.size) (hn : SemiIs t m) (hm1 : 1 ≤ m) (hm2 : m < t.size) (hc : NameIs (t.extract 1 m) 0) (w : World) (h1 : r.size ≤ s.size) (hr : TrimTo s r) :
    Calls Tryz.prog 98 #[.string s] w fun e w' => e = .returned (cutAt s (s.size - r.size + (m + 1))) ∧ Below w.heap.size w w' := by
  have e1 : IntKind.i64.wrap ((s.size : Int) - r.size + (m + 1)) = (s.size : Int) - r.size + (m + 1) := IntWalk.i64_in _ (by omega)
  have e2 : 0 ≤ (s.size : Int) - r.size + (m + 1) := by omega
  have e3 : ((s.size : Int) - r.size + (m + 1)).toNat = s.size - r.size + (m + 1) := by omega
  have e4 : (s.size : Int) - r.size + (m + 1) ≤ s.size := by omega
  go_enter Tryz.func98, Tryz.ntmps98
  go_wp2_with (first | (go_at_call 135; (with_reducible refine (hr.at _).mono ?_); rintro e w' ⟨rfl, rfl⟩) | (go_at_call 134; (with_reducible refine (hn.at _).mono ?_); rintro e w' ⟨rfl, rfl⟩) | (go_at_call 97; (with_reducible refine (hc.good _).mono ?_); rintro e w' ⟨rfl, hB⟩))
  go_quiet (fail)
  clear e1 e2 e3 e4
  go_wp2_with fail
  go_ret3
  exact ⟨rfl, below_drewN hB _⟩
theorem indexByte_semi (q : List UInt8) : Lib.indexByte q 59 = if semiAt q < q.length then (semiAt q : Int) else -1 := by
  induction q with
  | nil => simp [Lib.indexByte]
  | cons c q ih =>
    unfold Lib.indexByte semiAt
    by_cases h : c = 59
    · subst h; simp
    · have hb : (c == 59) = false := by simpa using h
      rw [hb, if_neg h, ih]
      simp only [List.length_cons]
      by_cases hl : semiAt q < q.length
      · have h1 : ((semiAt q : Int) == -1) = false := by rw [beq_eq_false_iff_ne]; omega
        simp [hl, h1]
      · simp [hl]
theorem semiIs_of (t : ByteArray) (n : Int) (h : Lib.indexByte t.data.toList 59 = n) : SemiIs t n := by
  intro w
  refine (Tryz.strings_IndexByte t 59 w).mono ?_
  rintro e w' ⟨rfl, rfl⟩
  exact ⟨by rw [← h]; rfl, rfl⟩
def cutV (s : ByteArray) : Value := if typeLen s.data.toList = 0 then cutFail s else cutAt s (typeLen s.data.toList)
theorem cutV_eq (s : ByteArray) (d : Nat) (hd : d = deepOf s.data.toList) : cutV s = if d ≤ 3 ∧ 0 < coreLen (s.data.toList.drop d) then cutAt s (d + coreLen (s.data.toList.drop d)) else cutFail s := by
  unfold cutV typeLen
  rw [← hd]
  by_cases h : d ≤ 3 ∧ 0 < coreLen (s.data.toList.drop d)
  · rw [if_pos h, if_pos h, if_neg (by omega)]
  · rw [if_neg h, if_neg h, if_pos rfl]
theorem cut_any (s : ByteArray) (w : World) (hs : s.size ≤ maxLen) :
    Calls Tryz.prog 98 #[.string s] w fun e w' => e = .returned (cutV s) ∧ Below w.heap.size w w' := by
  have hs' : s.size ≤ 9223372036854775807 := hs
  have hdl := deepOf_le s.data.toList
  simp only [length_eq] at hdl
  have hr : TrimTo s (s.extract (deepOf s.data.toList) s.size) := fun w => trimLeft_any s w
  have hE := cutV_eq s _ rfl
  generalize hd : deepOf s.data.toList = d at *
  have hrs : (s.extract d s.size).size = s.size - d := by simp
  have hds : s.size - (s.extract d s.size).size = d := by rw [hrs]; omega
  have ht : s.extract (s.size - (s.extract d s.size).size) s.size = s.extract d s.size := by rw [hds]
  have h1 : (s.extract d s.size).size ≤ s.size := by omega
  by_cases h3 : d ≤ 3
  · have hle : (s.size : Int) - (s.extract d s.size).size ≤ 3 := by omega
    by_cases hds2 : d < s.size
    · have hp : 0 < (s.extract d s.size).size := by omega
      have hne : (s.extract d s.size).toList.isEmpty = false := by rw [empty_iff]; simp; omega
      have h0 : (s.extract d s.size)[0] = s[d] := by
        have e1 : (s.extract d s.size).data.toList[0]'(by rw [length_eq]; omega) = (s.extract d s.size)[0] := rfl
        have e2 : s.data.toList[d]'(by simp; omega) = s[d] := rfl
        rw [← e1, ← e2]
        have e3 : (s.extract d s.size).data.toList = s.data.toList.drop d := Lib.extract_to_end s d
        rw [List.getElem_of_eq e3]; simp
      have hC := core_at s d hds2
      by_cases hI : s[d] = 73
      · have hcl : coreLen (s.data.toList.drop d) = 1 := by rw [hC, if_pos (Or.inl hI)]
        rw [hE, hcl, if_pos ⟨h3, by omega⟩]
        have := cut_I s _ _ hs' hle ht hne hp (by rw [h0, hI]; rfl) (by rw [h0, hI]; rfl) (by rw [h0, hI]; rfl) (by omega) w h1 hr
        rwa [hds] at this
      by_cases hJ : s[d] = 74
      · have hcl : coreLen (s.data.toList.drop d) = 1 := by rw [hC, if_pos (Or.inr hJ)]
        rw [hE, hcl, if_pos ⟨h3, by omega⟩]
        have := cut_J s _ _ hs' hle ht hne hp (by rw [h0, hJ]; rfl) (by rw [h0, hJ]; rfl) (by rw [h0, hJ]; rfl) (by omega) w h1 hr
        rwa [hds] at this
      by_cases hL : s[d] = 76
      · rw [if_neg (by simp [hI, hJ]), if_pos hL] at hC
        have hq : (s.extract d s.size).data.toList = 76 :: s.data.toList.drop (d + 1) := by
          rw [Lib.extract_to_end, List.drop_eq_getElem_cons (by simpa using hds2)]
          have e2 : s.data.toList[d]'(by simp; omega) = s[d] := rfl
          rw [e2, hL]
        have hql : (s.data.toList.drop (d + 1)).length = s.size - (d + 1) := by simp
        have hix : Lib.indexByte (s.extract d s.size).data.toList 59 = if semiAt (s.data.toList.drop (d + 1)) < s.size - (d + 1) then ((semiAt (s.data.toList.drop (d + 1)) + 1 : Nat) : Int) else -1 := by
          rw [hq, indexByte_semi]
          have e : semiAt (76 :: s.data.toList.drop (d + 1)) = semiAt (s.data.toList.drop (d + 1)) + 1 := by
            conv => lhs; unfold semiAt
            rw [if_neg (by decide)]
          rw [e, List.length_cons, hql]
          by_cases h : semiAt (s.data.toList.drop (d + 1)) < s.size - (d + 1)
          · rw [if_pos (by omega), if_pos h]
          · rw [if_neg (by omega), if_neg h]
        have hc1 : (((s.extract d s.size)[0].toNat : Int) == 73) = false := by rw [h0, hL]; rfl
        have hc2 : (((s.extract d s.size)[0].toNat : Int) == 74) = false := by rw [h0, hL]; rfl
        have hc3 : (((s.extract d s.size)[0].toNat : Int) == 76) = true := by rw [h0, hL]; rfl
        generalize hm : semiAt (s.data.toList.drop (d + 1)) = m at *
        have hx : (s.extract d s.size).extract 1 (m + 1) = s.extract (d + 1) (d + 1 + m) := by
          apply ByteArray.ext; apply Array.toList_inj.1
          rw [Lib.extract_data, Lib.extract_to_end, Lib.extract_data, List.drop_drop]; congr 1; omega
        have hxs : (s.extract (d + 1) (d + 1 + m)).size ≤ maxLen := extract_small hs
        by_cases hin : m < s.size - (d + 1)
        · rw [if_pos hin] at hix
          cases hn : nameB (s.extract (d + 1) (d + 1 + m)).data.toList with
          | true =>
            rw [if_pos ⟨by omega, hn⟩] at hC
            rw [hE, hC, if_pos ⟨h3, by omega⟩]
            have hN : NameIs ((s.extract d s.size).extract 1 (m + 1)) 0 := by
              intro w; rw [hx]; have := nameCheck_any _ w hxs; unfold nameFault at this; rwa [if_pos hn] at this
            have := cut_L2 s _ _ hs' hle ht hne hp hc1 hc2 hc3 (m + 1) (by omega) (by omega) (semiIs_of _ _ hix) (by omega) (by omega) hN w h1 hr
            rwa [hds] at this
          | false =>
            rw [if_neg (by rw [hn]; simp)] at hC
            rw [hE, hC, if_neg (by omega)]
            have hN : NameIs ((s.extract d s.size).extract 1 (m + 1)) 1 := by
              intro w; rw [hx]; have := nameCheck_any _ w hxs; unfold nameFault at this; rwa [if_neg (by rw [hn]; simp)] at this
            exact cut_L1 s _ _ hs' hle ht hne hp hc1 hc2 hc3 (m + 1) (by omega) (semiIs_of _ _ hix) (by omega) (by omega) hN w h1 hr
        · rw [if_neg hin] at hix
          rw [if_neg (by omega)] at hC
          rw [hE, hC, if_neg (by omega)]
          exact cut_L0 s _ _ hs' hle ht hne hp hc1 hc2 hc3 (semiIs_of _ _ hix) w h1 hr
      · rw [if_neg (by simp [hI, hJ]), if_neg hL] at hC
        rw [hE, hC, if_neg (by omega)]
        exact cut_other s _ _ hs' hle ht hne hp (sign_not (by rw [h0]; exact hI) rfl) (sign_not (by rw [h0]; exact hJ) rfl) (sign_not (by rw [h0]; exact hL) rfl) w h1 hr
    · rw [hE, core_end s d (by omega), if_neg (by omega)]
      exact cut_empty s _ _ hs' hle ht (by rw [empty_iff]; simp; omega) w h1 hr
  · rw [hE, if_neg (by omega)]
    exact cut_deep s _ hs' (by omega) w h1 hr
end Go.Proofs.YtlmfmioljeppfaaGreatDoor
