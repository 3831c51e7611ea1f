/-
  WALK over the law SubArrays. Conditions: as in XRead; texts of at most 1048576 signs.
-/
import Derived.Test.YtfbobebcfpdaiaaGreatDoorSubOrder
import Derived.Test.YtfbobebcfpdaiaaGreatDoorRefMay
namespace Go.Proofs.YtfbobebcfpdaiaaGreatDoor
open Go.RowKit Go.Shelf Go.Lib
theorem thing_kind (l : List Class) : IsKd (allC l) sThing (.ty (.cl sObject)) := ⟨rfl, rfl⟩
set_option maxHeartbeats 2000000 in
set_option maxRecDepth 100000 in
theorem subArrays_any (l : List Class) (lv : Value) (a b : Str) (w : World) (hl : Laid w) (ho : ∀ c ∈ l, ClassOk c) (hlv : ClassesAt w lv l) (ha : a.size ≤ 1048576) (hb : b.size ≤ 1048576) :
    Calls Tryz.prog 10 #[lv, .string a, .string b] w fun e w' => e = .returned (.bool true) ∧ Below w.heap.size w w' := by
  have HCat : Hid (∀ wx, Below w.heap.size w wx → _) := fun wx hb => catIs_any wx (hl.mono hb hl.1)
  have HSo : Hid (∀ wx (p q : Str), Below w.heap.size w wx → p.size ≤ maxLen → q.size ≤ maxLen → _) := fun wx p q hb hp hq => fits_some l lv p q wx (hl.mono hb hl.1) ho (hlv.mono hb) hp hq
  unfold FitsSome at HSo
  have HNo : Hid (∀ (p q : Str), p.size ≤ maxLen → q.size ≤ maxLen → kindsFault l p q ≠ 0 → ∀ wx, Below w.heap.size w wx → _) := fun p q hp hq hf wx hb => fits_no l lv p q wx (hl.mono hb hl.1) ho (hlv.mono hb) hp hq hf
  have HYe : Hid (∀ (p q : Str) x y, p.size ≤ maxLen → q.size ≤ maxLen → kindsFault l p q = 0 → IsKd (allC l) p x → IsKd (allC l) q y → ∀ wx, Below w.heap.size w wx → _) := fun p q x y hp hq hf hx hy wx hb => fits_yes l lv p q wx (hl.mono hb hl.1) ho (hlv.mono hb) hp hq hf x y hx hy
  have sa : (arText a).size = a.size + 1 := by unfold arText; rw [ByteArray.size_append]; show 1 + a.size = _; omega
  have sb : (arText b).size = b.size + 1 := by unfold arText; rw [ByteArray.size_append]; show 1 + b.size = _; omega
  have ma : a.size ≤ maxLen := Nat.le_trans ha (by decide)
  have mb : b.size ≤ maxLen := Nat.le_trans hb (by decide)
  have mxa : (arText a).size ≤ maxLen := Nat.le_trans (show (arText a).size ≤ 1048577 by omega) (by decide)
  have mxb : (arText b).size ≤ maxLen := Nat.le_trans (show (arText b).size ≤ 1048577 by omega) (by decide)
  have mt : sThing.size ≤ maxLen := by decide
  have S1 : Hid (∀ wx, Below w.heap.size w wx → _) := fun wx h => HSo.out wx a b h ma mb
  have S2 : Hid (∀ wx, Below w.heap.size w wx → _) := fun wx h => HSo.out wx (arText a) (arText b) h mxa mxb
  have S3 : Hid (∀ wx, Below w.heap.size w wx → _) := fun wx h => HSo.out wx (arText a) sThing h mxa mt
  have Wa : Hid (∀ wx, _) := fun wx => refIsWord_any a wx
  have Wb : Hid (∀ wx, _) := fun wx => refIsWord_any b wx
  obtain ⟨pl, cap, rfl, _⟩ := hlv.open
  clear hl ho hlv HSo sa sb
  by_cases f1 : kindsFault l a b = 0
  · obtain ⟨hR, hr, ⟨x, hx⟩, y, hy⟩ := kinds_of f1
    have Y1 := Lib.hid (HYe.out a b x y ma mb f1 hx hy)
    by_cases f2 : kindsFault l (arText a) (arText b) = 0
    · obtain ⟨_, _, ⟨u, hu⟩, v, hv⟩ := kinds_of f2
      have Y2 := Lib.hid (HYe.out (arText a) (arText b) u v mxa mxb f2 hu hv)
      obtain ⟨ta, rfl, hta⟩ := hu.arr
      obtain ⟨tb, rfl, htb⟩ := hv.arr
      obtain rfl := hx.same hta
      obtain rfl := hy.same htb
      by_cases f3 : kindsFault l (arText a) sThing = 0
      · have Y3 := Lib.hid (HYe.out (arText a) sThing (.ty (.ar ta)) (.ty (.cl sObject)) mxa mt f3 hu (thing_kind l))
        have hw : Hid ((wordB a.data.toList || wordB b.data.toList) = true → fitsTy (allC l) ta tb = (a.toList == b.toList)) := fun h => by
          rw [kd_same hx.1 hy.1]
          rw [show a.data.toList = tyText ta from hx.1.symm, show b.data.toList = tyText tb from hy.1.symm, wordB_ty, wordB_ty] at h
          rw [Bool.or_eq_true, Bool.not_eq_true', Bool.not_eq_true'] at h
          rw [fitsTy_word h]
          rw [Bool.eq_iff_iff]; simp
        simp only [fitsKd, fitsTy, decide_true] at Y1 Y2 Y3
        simp only [arText, sThing] at Y2 Y3
        generalize fitsTy (allC l) ta tb = r at *
        generalize wordB a.data.toList = wa at *
        generalize wordB b.data.toList = wb at *
        obtain ⟨eq, heq⟩ : ∃ q, (a.toList == b.toList) = q := ⟨_, rfl⟩
        have hor : (!(wa || wb) || (r == eq)) = true := by
          have := hw.out
          rw [heq] at this
          cases wa <;> cases wb <;> cases r <;> cases eq <;> simp at *
        clear hw HYe HNo S1 S2 S3 hx hy hu hv hta htb hR hr f1 f2 f3 ma mb mxa mxb mt
        cases wa <;> cases wb <;> cases r <;> cases eq <;> first | (exact absurd hor (by decide)) | skip
        all_goals
          clear hor
          go_enter Tryz.func10, Tryz.ntmps10
          go_wp2_with (first
            | (go_at_call 42; (with_reducible refine (HCat.out _ (Below.refl _ _)).mono ?_); rintro e w2 ⟨rfl, hB2⟩)
            | (go_at_call 44; (with_reducible refine (Y1.out _ hB2).mono ?_); rintro e w3 ⟨rfl, hB3'⟩; (have hB3 := below_call hB2 (Nat.le_refl _) hB3'); clear hB3')
            | (go_at_call 44; (with_reducible refine (Y2.out _ hB3).mono ?_); rintro e w4 ⟨rfl, hB4'⟩; (have hB4 := below_call hB3 (Nat.le_refl _) hB4'); clear hB4')
            | (go_at_call 44; (with_reducible refine (Y3.out _ hB4).mono ?_); rintro e w5 ⟨rfl, hB5'⟩; (have hB5 := below_call hB4 (Nat.le_refl _) hB5'); clear hB5')
            | (go_at_call 48; (with_reducible refine (Wa.out _).mono ?_); rintro e w6 ⟨rfl, rfl⟩)
            | (go_at_call 48; (with_reducible refine (Wb.out _).mono ?_); rintro e w6 ⟨rfl, rfl⟩))
          go_ret
          exact ⟨rfl, hB5⟩
      · have N3 := Lib.hid (HNo.out (arText a) sThing mxa mt f3)
        simp only [arText, sThing] at Y2 N3
        clear HYe HNo S1 S2 S3 hx hy hu hv hta htb hR hr f1 f2 f3 ma mb mxa mxb mt Wa Wb
        generalize fitsKd (allC l) (.ty ta) (.ty tb) = r1 at *
        generalize fitsKd (allC l) (.ty (.ar ta)) (.ty (.ar tb)) = r2 at *
        generalize kindsFault l _ _ = f at *
        go_enter Tryz.func10, Tryz.ntmps10
        go_wp2_with (first
          | (go_at_call 42; (with_reducible refine (HCat.out _ (Below.refl _ _)).mono ?_); rintro e w2 ⟨rfl, hB2⟩)
          | (go_at_call 44; (with_reducible refine (Y1.out _ hB2).mono ?_); rintro e w3 ⟨rfl, hB3'⟩; (have hB3 := below_call hB2 (Nat.le_refl _) hB3'); clear hB3')
          | (go_at_call 44; (with_reducible refine (Y2.out _ hB3).mono ?_); rintro e w4 ⟨rfl, hB4'⟩; (have hB4 := below_call hB3 (Nat.le_refl _) hB4'); clear hB4')
          | (go_at_call 44; (with_reducible refine (N3.out _ hB4).mono ?_); rintro e w5 ⟨rfl, hB5'⟩; (have hB5 := below_call hB4 (Nat.le_refl _) hB5'); clear hB5'))
        go_ret
        exact ⟨rfl, hB5⟩
    · have N2 := Lib.hid (HNo.out (arText a) (arText b) mxa mxb f2)
      simp only [arText, sThing] at N2 S3
      clear HYe HNo S1 S2 hx hy hR hr f1 f2 ma mb mxa mxb mt Wa Wb
      generalize fitsKd (allC l) x y = r1 at *
      generalize kindsFault l _ _ = f at *
      go_enter Tryz.func10, Tryz.ntmps10
      go_wp2_with (first
        | (go_at_call 42; (with_reducible refine (HCat.out _ (Below.refl _ _)).mono ?_); rintro e w2 ⟨rfl, hB2⟩)
        | (go_at_call 44; (with_reducible refine (Y1.out _ hB2).mono ?_); rintro e w3 ⟨rfl, hB3'⟩; (have hB3 := below_call hB2 (Nat.le_refl _) hB3'); clear hB3')
        | (go_at_call 44; (with_reducible refine (N2.out _ hB3).mono ?_); rintro e w4 ⟨rfl, hB4'⟩; (have hB4 := below_call hB3 (Nat.le_refl _) hB4'); clear hB4')
        | (go_at_call 44; (with_reducible refine (S3.out _ hB4).mono ?_); rintro e w5 ⟨r5, v5, rfl, hB5'⟩; (have hB5 := below_call hB4 (Nat.le_refl _) hB5'); clear hB5'))
      go_ret
      exact ⟨rfl, hB5⟩
  · have N1 := Lib.hid (HNo.out a b ma mb f1)
    simp only [arText, sThing] at S2 S3
    clear HYe HNo S1 f1 ma mb mxa mxb mt Wa Wb
    generalize kindsFault l a b = f at *
    go_enter Tryz.func10, Tryz.ntmps10
    go_wp2_with (first
      | (go_at_call 42; (with_reducible refine (HCat.out _ (Below.refl _ _)).mono ?_); rintro e w2 ⟨rfl, hB2⟩)
      | (go_at_call 44; (with_reducible refine (N1.out _ hB2).mono ?_); rintro e w3 ⟨rfl, hB3'⟩; (have hB3 := below_call hB2 (Nat.le_refl _) hB3'); clear hB3')
      | (go_at_call 44; (with_reducible refine (S2.out _ hB3).mono ?_); rintro e w4 ⟨r4, v4, rfl, hB4'⟩; (have hB4 := below_call hB3 (Nat.le_refl _) hB4'); clear hB4')
      | (go_at_call 44; (with_reducible refine (S3.out _ hB4).mono ?_); rintro e w5 ⟨r5, v5, rfl, hB5'⟩; (have hB5 := below_call hB4 (Nat.le_refl _) hB5'); clear hB5'))
    go_ret
    exact ⟨rfl, hB5⟩
end Go.Proofs.YtfbobebcfpdaiaaGreatDoor
