/-
  WALKS over the law's laid and the law LayTells. Conditions: as in XRead; texts of at most maxLen signs.
-/
import Derived.Test.YtpjkpmmjehnahaaGreatDoorRefLay
import Derived.Test.YtpjkpmmjehnahaaGreatDoorWalks
import Derived.Test.YtpjkpmmjehnahaaGreatDoorFaults
namespace Go.Proofs.YtpjkpmmjehnahaaGreatDoor
open Go.RowKit Go.Shelf Go.Lib
theorem walks_place : placeN walksL sCat sTail = 1 ∧ placeFaultN walksL sCat sTail = 0 := by decide +kernel
set_option maxRecDepth 100000 in
theorem laid_any (w : World) (hl : Laid w) : Calls Tryz.prog 30 #[] w fun e w' => e = .returned (.bool true) ∧ Below w.heap.size w w' := by
  have HP : Hid (∀ wx lv, Below w.heap.size w wx → ClassesAt wx lv walksL → _) := fun wx lv hb h => layPlace_any walksL lv sCat sTail wx (hl.mono hb hl.1) walks_ok h (by decide)
  rw [walks_place.1, walks_place.2, show errV 0 = .nilIface from rfl] at HP
  have HB : Hid (∀ wx, _) := fun wx => walks_any wx
  simp only [sCat, sTail] at HP
  go_enter Tryz.func30, Tryz.ntmps30
  go_wp2_with (first
    | (go_at_call 50; (with_reducible refine (HB.out _).mono ?_); rintro e w2 ⟨⟨v, rfl, hv⟩, hB2⟩; obtain ⟨pb, kb, rfl, _⟩ := hv.open)
    | (go_at_call 32; (with_reducible refine (HP.out _ _ hB2 hv).mono ?_); rintro e w3 ⟨rfl, hB3⟩))
  go_ret
  exact ⟨rfl, below_call hB2 (Nat.le_refl _) hB3⟩
/-- Error, of what is told rightly -/
theorem error_nil (w : World) : Calls Tryz.prog 16 #[.nilIface, .int .i64 0] w fun e w' => e = .returned (.bool true) ∧ w = w' := error_any 0 0 w
theorem error_is (k : Nat) (hk : k ≠ 0) (w : World) : Calls Tryz.prog 16 #[.iface 24 (.int .i64 k), .int .i64 k] w fun e w' => e = .returned (.bool true) ∧ w = w' := by
  have := error_any k k w
  rcases errV_cases k with ⟨_, h⟩ | ⟨h, _⟩
  · exact absurd h hk
  · rwa [decide_eq_true rfl, h] at this
theorem error_none (w : World) : Calls Tryz.prog 16 #[.iface 24 (.int .i64 3), .int .i64 3] w fun e w' => e = .returned (.bool true) ∧ w = w' := error_is 3 (by decide) w
theorem texts_same (w : World) (L : List Str) (va vb : Value) (h1 : StrsAt w va L) (h2 : StrsAt w vb L) : Calls Tryz.prog 35 #[va, vb] w fun e w' => e = .returned (.bool true) ∧ Below w.heap.size w w' := by
  have := texts_any L L va vb w h1 h2
  rwa [decide_eq_true rfl] at this
theorem texts_nil (w : World) : Calls Tryz.prog 35 #[.slice none 0 0, .slice none 0 0] w fun e w' => e = .returned (.bool true) ∧ Below w.heap.size w w' := texts_any [] [] _ _ w (Or.inl ⟨rfl, rfl⟩) (Or.inl ⟨rfl, rfl⟩)
set_option maxHeartbeats 2000000 in
set_option maxRecDepth 100000 in
theorem layTells_any (l : List Class) (lv : Value) (c n : Str) (w : World) (hl : Laid w) (ho : ∀ c ∈ l, ClassOk c) (hlv : ClassesAt w lv l) (hn : c.size ≤ maxLen) :
    Calls Tryz.prog 6 #[lv, .string c, .string n] w fun e w' => e = .returned (.bool true) ∧ Below w.heap.size w w' := by
  have HLi : Hid (∀ wx, Below w.heap.size w wx → _) := fun wx hb => laid_any wx (hl.mono hb hl.1)
  have HRN : Hid (∀ wx, Below w.heap.size w wx → _) := fun wx hb => refNamed_any l lv c wx ho (hlv.mono hb)
  have HFi : Hid (∀ wx, Below w.heap.size w wx → _) := fun wx hb => layFields_any l lv c wx (hl.mono hb hl.1) ho (hlv.mono hb) hn
  have HPl : Hid (∀ wx, Below w.heap.size w wx → _) := fun wx hb => layPlace_any l lv c n wx (hl.mono hb hl.1) ho (hlv.mono hb) hn
  have HLV : Hid (∀ wx, Below w.heap.size w wx → ClassesAt wx lv l) := fun wx hb => hlv.mono hb
  have HE := Lib.hid error_nil
  by_cases hz : namedFault l c = 0
  · obtain ⟨hr, hk⟩ := named_zero hz
    have hR := right_of hr
    have hcf := read_faults hr
    have HRT : Hid (∀ wx, Below w.heap.size w wx → _) := fun wx hb => refTypes_any l lv c wx hR hcf (HLV.out wx hb) hk
    have HRP : Hid (∀ wx, Below w.heap.size w wx → _) := fun wx hb => refPlace_any l lv c n wx hR hcf (HLV.out wx hb) hk
    have HT := Lib.hid texts_same
    have h1 : placeN l c n = (placeC (allC l) c n).getD 0 := by unfold placeN; rw [if_pos hz]
    have h2 : placeFaultN l c n = if (placeC (allC l) c n).isSome then 0 else 3 := by unfold placeFaultN; rw [if_pos hz]
    rw [h1, h2] at HPl
    rw [hz] at HRN HFi
    obtain ⟨pl, cap, rfl, _⟩ := hlv.open
    clear hl ho hlv hR hcf hk hr hz hn HLV h1 h2
    unfold RowPost at HRT
    generalize typesOf (layC (allC l) c) = L1 at *
    generalize placeC (allC l) c n = o at *
    cases o with
    | none =>
      simp only [Option.isSome_none, Option.getD_none, Bool.false_eq_true, if_false, idxV, show errV 3 = .iface 24 (.int .i64 3) from rfl] at HPl HRP
      have HE3 := Lib.hid error_none
      go_enter Tryz.func6, Tryz.ntmps6
      go_wp2_with (first
        | (go_at_call 30; (with_reducible refine (HLi.out _ (Below.refl _ _)).mono ?_); rintro e w2 ⟨rfl, hB2⟩)
        | (go_at_call 24; (with_reducible refine (HRN.out _ hB2).mono ?_); rintro e w3 ⟨rfl, hB3'⟩; (have hB3 := below_call hB2 (Nat.le_refl _) hB3'); clear hB3')
        | (go_at_call 31; (with_reducible refine (HFi.out _ hB3).mono ?_); rintro e w4 ⟨hB4', ⟨_, v4, rfl, hv4⟩ | ⟨hz, _⟩⟩; rotate_left; (exact absurd rfl hz); (have hB4 := below_call hB3 (Nat.le_refl _) hB4'); clear hB4')
        | (go_at_call 32; (with_reducible refine (HPl.out _ hB4).mono ?_); rintro e w5 ⟨rfl, hB5'⟩; (have hB5 := below_call hB4 (Nat.le_refl _) hB5'); (have hv5 := hv4.mono hB5'); clear hB5' hv4)
        | (go_at_call 16; (with_reducible refine (HE.out _).mono ?_); rintro e w6 ⟨rfl, rfl⟩)
        | (go_at_call 16; (with_reducible refine (HE3.out _).mono ?_); rintro e w6 ⟨rfl, rfl⟩)
        | (go_at_call 33; (with_reducible refine (HRT.out _ hB5).mono ?_); rintro e w7 ⟨⟨v7, rfl, hv7⟩, hB7'⟩; (have hB7 := below_call hB5 (Nat.le_refl _) hB7'); (have hv57 := hv5.mono hB7'); (have hv77 := strsAt_of_owns hv7); clear hB7' hv5 hv7)
        | (go_at_call 34; (with_reducible refine (HRP.out _ hB7).mono ?_); rintro e w8 ⟨rfl, hB8'⟩; (have hB8 := below_call hB7 (Nat.le_refl _) hB8'); (have hv58 := hv57.mono hB8'); (have hv78 := hv77.mono hB8'); clear hB8' hv57 hv77)
        | (go_at_call 35; (with_reducible refine (HT.out _ _ _ _ hv58 hv78).mono ?_); rintro e w9 ⟨rfl, hB9'⟩; (have hB9 := below_call hB8 (Nat.le_refl _) hB9')))
      go_ret
      exact ⟨rfl, hB9⟩
    | some k =>
      simp only [Option.isSome_some, Option.getD_some, if_true, idxV, show errV 0 = .nilIface from rfl] at HPl HRP
      have hk0 : decide ((k : Int) < 0) = false := by simp
      go_enter Tryz.func6, Tryz.ntmps6
      go_wp2_with (first
        | (go_at_call 30; (with_reducible refine (HLi.out _ (Below.refl _ _)).mono ?_); rintro e w2 ⟨rfl, hB2⟩)
        | (go_at_call 24; (with_reducible refine (HRN.out _ hB2).mono ?_); rintro e w3 ⟨rfl, hB3'⟩; (have hB3 := below_call hB2 (Nat.le_refl _) hB3'); clear hB3')
        | (go_at_call 31; (with_reducible refine (HFi.out _ hB3).mono ?_); rintro e w4 ⟨hB4', ⟨_, v4, rfl, hv4⟩ | ⟨hz, _⟩⟩; rotate_left; (exact absurd rfl hz); (have hB4 := below_call hB3 (Nat.le_refl _) hB4'); clear hB4')
        | (go_at_call 32; (with_reducible refine (HPl.out _ hB4).mono ?_); rintro e w5 ⟨rfl, hB5'⟩; (have hB5 := below_call hB4 (Nat.le_refl _) hB5'); (have hv5 := hv4.mono hB5'); clear hB5' hv4)
        | (go_at_call 16; (with_reducible refine (HE.out _).mono ?_); rintro e w6 ⟨rfl, rfl⟩)
        | (go_at_call 33; (with_reducible refine (HRT.out _ hB5).mono ?_); rintro e w7 ⟨⟨v7, rfl, hv7⟩, hB7'⟩; (have hB7 := below_call hB5 (Nat.le_refl _) hB7'); (have hv57 := hv5.mono hB7'); (have hv77 := strsAt_of_owns hv7); clear hB7' hv5 hv7)
        | (go_at_call 34; (with_reducible refine (HRP.out _ hB7).mono ?_); rintro e w8 ⟨rfl, hB8'⟩; (have hB8 := below_call hB7 (Nat.le_refl _) hB8'); (have hv58 := hv57.mono hB8'); (have hv78 := hv77.mono hB8'); clear hB8' hv57 hv77)
        | (go_at_call 35; (with_reducible refine (HT.out _ _ _ _ hv58 hv78).mono ?_); rintro e w9 ⟨rfl, hB9'⟩; (have hB9 := below_call hB8 (Nat.le_refl _) hB9')))
      go_ret
      exact ⟨rfl, hB9⟩
  · have HZ := Lib.hid hz
    have h1 : placeN l c n = 0 := by unfold placeN; rw [if_neg hz]
    have h2 : placeFaultN l c n = namedFault l c := by unfold placeFaultN; rw [if_neg hz]
    rcases errV_cases (namedFault l c) with ⟨_, h0⟩ | ⟨hv, _⟩
    · exact absurd h0 hz
    rw [h1, h2, hv] at HPl
    have hf0 : ((namedFault l c : Int) == 0) = false := by simpa using hz
    have HE2 : Hid (∀ wx, _) := fun wx => error_is (namedFault l c) hz wx
    have HT := Lib.hid texts_nil
    obtain ⟨pl, cap, rfl, _⟩ := hlv.open
    clear hl ho hlv hz hn HLV h1 h2 hv HE
    generalize namedFault l c = f at *
    go_enter Tryz.func6, Tryz.ntmps6
    go_wp2_with (first
      | (go_at_call 30; (with_reducible refine (HLi.out _ (Below.refl _ _)).mono ?_); rintro e w2 ⟨rfl, hB2⟩)
      | (go_at_call 24; (with_reducible refine (HRN.out _ hB2).mono ?_); rintro e w3 ⟨rfl, hB3'⟩; (have hB3 := below_call hB2 (Nat.le_refl _) hB3'); clear hB3')
      | (go_at_call 31; (with_reducible refine (HFi.out _ hB3).mono ?_); rintro e w4 ⟨hB4', ⟨hz, _⟩ | ⟨_, rfl⟩⟩; (exact absurd hz HZ.out); (have hB4 := below_call hB3 (Nat.le_refl _) hB4'); clear hB4')
      | (go_at_call 32; (with_reducible refine (HPl.out _ hB4).mono ?_); rintro e w5 ⟨rfl, hB5'⟩; (have hB5 := below_call hB4 (Nat.le_refl _) hB5'); clear hB5')
      | (go_at_call 16; (with_reducible refine (HE2.out _).mono ?_); rintro e w6 ⟨rfl, rfl⟩)
      | (go_at_call 35; (with_reducible refine (HT.out _).mono ?_); rintro e w9 ⟨rfl, hB9'⟩; (have hB9 := below_call hB5 (Nat.le_refl _) hB9')))
    go_ret
    exact ⟨rfl, hB9⟩
end Go.Proofs.YtpjkpmmjehnahaaGreatDoor
