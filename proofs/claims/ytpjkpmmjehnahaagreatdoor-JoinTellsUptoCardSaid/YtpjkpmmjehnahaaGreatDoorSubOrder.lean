/-
  WALK over the law SubOrder. Conditions: as in XRead; texts of at most maxLen signs.
-/
import Derived.Test.YtpjkpmmjehnahaaGreatDoorSubFits
namespace Go.Proofs.YtpjkpmmjehnahaaGreatDoor
open Go.RowKit Go.Shelf Go.Lib
theorem kinds_iff {l : List Class} {a b : Str} : kindsFault l a b = 0 ↔ readFault l = 0 ∧ kindR (allC l) a = 0 ∧ kindR (allC l) b = 0 := by
  unfold kindsFault
  by_cases h0 : readFault l = 0
  · rw [if_neg (by simpa using h0)]
    rcases kindR_cases (allC l) a with h | h | h <;> rcases kindR_cases (allC l) b with g | g | g <;> simp [h0, h, g]
  · rw [if_pos h0]; simp [h0]
set_option maxHeartbeats 2000000 in
set_option maxRecDepth 100000 in
theorem subOrder_any (l : List Class) (lv : Value) (a b c : Str) (w : World) (hl : Laid w) (ho : ∀ c ∈ l, ClassOk c) (hlv : ClassesAt w lv l) (ha : a.size ≤ maxLen) (hb : b.size ≤ maxLen) (hc : c.size ≤ maxLen) :
    Calls Tryz.prog 8 #[lv, .string a, .string b, .string c] w fun e w' => e = .returned (.bool true) ∧ Below w.heap.size w w' := by
  have HCat : Hid (∀ wx, Below w.heap.size w wx → _) := fun wx hb => catIs_any wx (hl.mono hb hl.1)
  have HSo : Hid (∀ wx (p q : Str), Below w.heap.size w wx → p.size ≤ maxLen → q.size ≤ maxLen → _) := fun wx p q hb hp hq => fits_some l lv p q wx (hl.mono hb hl.1) ho (hlv.mono hb) hp hq
  unfold FitsSome at HSo
  have HNo : Hid (∀ (p q : Str), p.size ≤ maxLen → q.size ≤ maxLen → kindsFault l p q ≠ 0 → ∀ wx, Below w.heap.size w wx → _) := fun p q hp hq hf wx hb => fits_no l lv p q wx (hl.mono hb hl.1) ho (hlv.mono hb) hp hq hf
  have HYe : Hid (∀ (p q : Str) x y, p.size ≤ maxLen → q.size ≤ maxLen → kindsFault l p q = 0 → IsKd (allC l) p x → IsKd (allC l) q y → ∀ wx, Below w.heap.size w wx → _) := fun p q x y hp hq hf hx hy wx hb => fits_yes l lv p q wx (hl.mono hb hl.1) ho (hlv.mono hb) hp hq hf x y hx hy
  have Saa : Hid (∀ wx, Below w.heap.size w wx → _) := fun wx h => HSo.out wx a a h ha ha
  have Sab : Hid (∀ wx, Below w.heap.size w wx → _) := fun wx h => HSo.out wx a b h ha hb
  have Sba : Hid (∀ wx, Below w.heap.size w wx → _) := fun wx h => HSo.out wx b a h hb ha
  have Sbc : Hid (∀ wx, Below w.heap.size w wx → _) := fun wx h => HSo.out wx b c h hb hc
  have Sac : Hid (∀ wx, Below w.heap.size w wx → _) := fun wx h => HSo.out wx a c h ha hc
  obtain ⟨pl, cap, rfl, _⟩ := hlv.open
  clear hl ho hlv HSo
  by_cases f1 : kindsFault l a a = 0
  · obtain ⟨hr, ka, _⟩ := kinds_iff.1 f1
    have hR := right_of hr
    obtain ⟨x, hx⟩ := kind_of ka
    have Yaa := Lib.hid (HYe.out a a x x ha ha f1 hx hx)
    rw [fits_refl hR x hx.2] at Yaa
    by_cases f2 : kindsFault l a b = 0
    · obtain ⟨_, _, kb⟩ := kinds_iff.1 f2
      obtain ⟨y, hy⟩ := kind_of kb
      have Yab := Lib.hid (HYe.out a b x y ha hb f2 hx hy)
      have Yba := Lib.hid (HYe.out b a y x hb ha (kinds_iff.2 ⟨hr, kb, ka⟩) hy hx)
      by_cases f3 : kindsFault l b c = 0
      · obtain ⟨_, _, kc⟩ := kinds_iff.1 f3
        obtain ⟨z, hz⟩ := kind_of kc
        have Ybc := Lib.hid (HYe.out b c y z hb hc f3 hy hz)
        have Yac := Lib.hid (HYe.out a c x z ha hc (kinds_iff.2 ⟨hr, ka, kc⟩) hx hz)
        have htr : Hid (fitsKd (allC l) x y = true → fitsKd (allC l) y z = true → fitsKd (allC l) x z = true) := fits_trans hR hx.2
        have han : Hid (fitsKd (allC l) x y = true → fitsKd (allC l) y x = true → (a.toList == b.toList) = true) := fun h1 h2 => by
          have := fits_anti hR hx.2 h1 h2
          subst this
          rw [kd_same hx.1 hy.1]; simp
        clear HYe HNo Saa Sab Sba Sbc Sac hx hy hz ha hb hc hR hr ka kb kc f1 f2 f3
        generalize fitsKd (allC l) x y = p1 at *
        generalize fitsKd (allC l) y x = p2 at *
        generalize fitsKd (allC l) y z = p3 at *
        generalize fitsKd (allC l) x z = p4 at *
        have hor1 : (!p1 || !p3 || p4) = true := by
          have := htr.out
          cases p1 <;> cases p3 <;> cases p4 <;> simp at *
        obtain ⟨eq, heq⟩ : ∃ q, (a.toList == b.toList) = q := ⟨_, rfl⟩
        have hor2 : (!p1 || !p2 || eq) = true := by
          have := han.out
          rw [heq] at this
          cases p1 <;> cases p2 <;> cases eq <;> simp at *
        clear htr han
        cases p1 <;> cases p2 <;> cases p3 <;> cases p4 <;> cases eq <;> first | (exact absurd hor1 (by decide)) | (exact absurd hor2 (by decide)) | skip
        all_goals
          clear hor1 hor2
          go_enter Tryz.func8, Tryz.ntmps8
          go_wp2_with (first
            | (go_at_call 36; (with_reducible refine (HCat.out _ (Below.refl _ _)).mono ?_); rintro e w2 ⟨rfl, hB2⟩)
            | (go_at_call 38; (with_reducible refine (Yaa.out _ hB2).mono ?_); rintro e w3 ⟨rfl, hB3'⟩; (have hB3 := below_call hB2 (Nat.le_refl _) hB3'); clear hB3')
            | (go_at_call 38; (with_reducible refine (Yab.out _ hB3).mono ?_); rintro e w4 ⟨rfl, hB4'⟩; (have hB4 := below_call hB3 (Nat.le_refl _) hB4'); clear hB4')
            | (go_at_call 38; (with_reducible refine (Yba.out _ hB4).mono ?_); rintro e w5 ⟨rfl, hB5'⟩; (have hB5 := below_call hB4 (Nat.le_refl _) hB5'); clear hB5')
            | (go_at_call 38; (with_reducible refine (Ybc.out _ hB5).mono ?_); rintro e w6 ⟨rfl, hB6'⟩; (have hB6 := below_call hB5 (Nat.le_refl _) hB6'); clear hB6')
            | (go_at_call 38; (with_reducible refine (Yac.out _ hB6).mono ?_); rintro e w7 ⟨rfl, hB7'⟩; (have hB7 := below_call hB6 (Nat.le_refl _) hB7'); clear hB7'))
          go_ret
          exact ⟨rfl, hB7⟩
      · have Nbc := Lib.hid (HNo.out b c hb hc f3)
        clear HYe HNo Saa Sab Sba Sbc hx hy ha hb hc hR hr ka kb f1 f2 f3
        generalize fitsKd (allC l) x y = p1 at *
        generalize fitsKd (allC l) y x = p2 at *
        generalize kindsFault l b c = f at *
        go_enter Tryz.func8, Tryz.ntmps8
        go_wp2_with (first
          | (go_at_call 36; (with_reducible refine (HCat.out _ (Below.refl _ _)).mono ?_); rintro e w2 ⟨rfl, hB2⟩)
          | (go_at_call 38; (with_reducible refine (Yaa.out _ hB2).mono ?_); rintro e w3 ⟨rfl, hB3'⟩; (have hB3 := below_call hB2 (Nat.le_refl _) hB3'); clear hB3')
          | (go_at_call 38; (with_reducible refine (Yab.out _ hB3).mono ?_); rintro e w4 ⟨rfl, hB4'⟩; (have hB4 := below_call hB3 (Nat.le_refl _) hB4'); clear hB4')
          | (go_at_call 38; (with_reducible refine (Yba.out _ hB4).mono ?_); rintro e w5 ⟨rfl, hB5'⟩; (have hB5 := below_call hB4 (Nat.le_refl _) hB5'); clear hB5')
          | (go_at_call 38; (with_reducible refine (Nbc.out _ hB5).mono ?_); rintro e w6 ⟨rfl, hB6'⟩; (have hB6 := below_call hB5 (Nat.le_refl _) hB6'); clear hB6')
          | (go_at_call 38; (with_reducible refine (Sac.out _ hB6).mono ?_); rintro e w7 ⟨r5, v5, rfl, hB7'⟩; (have hB7 := below_call hB6 (Nat.le_refl _) hB7'); clear hB7'))
        go_ret
        exact ⟨rfl, hB7⟩
    · have Nab := Lib.hid (HNo.out a b ha hb f2)
      clear HYe HNo Saa Sab hx ha hb hc hR hr ka f1 f2
      generalize kindsFault l a b = f at *
      go_enter Tryz.func8, Tryz.ntmps8
      go_wp2_with (first
        | (go_at_call 36; (with_reducible refine (HCat.out _ (Below.refl _ _)).mono ?_); rintro e w2 ⟨rfl, hB2⟩)
        | (go_at_call 38; (with_reducible refine (Yaa.out _ hB2).mono ?_); rintro e w3 ⟨rfl, hB3'⟩; (have hB3 := below_call hB2 (Nat.le_refl _) hB3'); clear hB3')
        | (go_at_call 38; (with_reducible refine (Nab.out _ hB3).mono ?_); rintro e w4 ⟨rfl, hB4'⟩; (have hB4 := below_call hB3 (Nat.le_refl _) hB4'); clear hB4')
        | (go_at_call 38; (with_reducible refine (Sba.out _ hB4).mono ?_); rintro e w5 ⟨r3, v3, rfl, hB5'⟩; (have hB5 := below_call hB4 (Nat.le_refl _) hB5'); clear hB5')
        | (go_at_call 38; (with_reducible refine (Sbc.out _ hB5).mono ?_); rintro e w6 ⟨r4, v4, rfl, hB6'⟩; (have hB6 := below_call hB5 (Nat.le_refl _) hB6'); clear hB6')
        | (go_at_call 38; (with_reducible refine (Sac.out _ hB6).mono ?_); rintro e w7 ⟨r5, v5, rfl, hB7'⟩; (have hB7 := below_call hB6 (Nat.le_refl _) hB7'); clear hB7'))
      go_ret
      exact ⟨rfl, hB7⟩
  · have Naa := Lib.hid (HNo.out a a ha ha f1)
    clear HYe HNo Saa ha hb hc f1
    generalize kindsFault l a a = f at *
    go_enter Tryz.func8, Tryz.ntmps8
    go_wp2_with (first
      | (go_at_call 36; (with_reducible refine (HCat.out _ (Below.refl _ _)).mono ?_); rintro e w2 ⟨rfl, hB2⟩)
      | (go_at_call 38; (with_reducible refine (Naa.out _ hB2).mono ?_); rintro e w3 ⟨rfl, hB3'⟩; (have hB3 := below_call hB2 (Nat.le_refl _) hB3'); clear hB3')
      | (go_at_call 38; (with_reducible refine (Sab.out _ hB3).mono ?_); rintro e w4 ⟨r2, v2, rfl, hB4'⟩; (have hB4 := below_call hB3 (Nat.le_refl _) hB4'); clear hB4')
      | (go_at_call 38; (with_reducible refine (Sba.out _ hB4).mono ?_); rintro e w5 ⟨r3, v3, rfl, hB5'⟩; (have hB5 := below_call hB4 (Nat.le_refl _) hB5'); clear hB5')
      | (go_at_call 38; (with_reducible refine (Sbc.out _ hB5).mono ?_); rintro e w6 ⟨r4, v4, rfl, hB6'⟩; (have hB6 := below_call hB5 (Nat.le_refl _) hB6'); clear hB6')
      | (go_at_call 38; (with_reducible refine (Sac.out _ hB6).mono ?_); rintro e w7 ⟨r5, v5, rfl, hB7'⟩; (have hB7 := below_call hB6 (Nat.le_refl _) hB7'); clear hB7'))
    go_ret
    exact ⟨rfl, hB7⟩
end Go.Proofs.YtpjkpmmjehnahaaGreatDoor
