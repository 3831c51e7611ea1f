/-
  WALK over the law SubTells. Conditions: as in XRead; texts of at most maxLen signs.
-/
import Derived.Test.YtpjkpmmjehnahaaGreatDoorSubFits
import Derived.Test.YtpjkpmmjehnahaaGreatDoorRefFits
namespace Go.Proofs.YtpjkpmmjehnahaaGreatDoor
open Go.RowKit Go.Shelf Go.Lib
theorem kinds_zero {l : List Class} {a b : Str} (h : kindsFault l a b = 0) : kindR (allC l) a = 0 ∧ kindR (allC l) b = 0 := by
  unfold kindsFault at h
  by_cases h0 : readFault l = 0
  · rw [if_neg (by simpa using h0)] at h
    rcases kindR_cases (allC l) a with g | g | g <;> rcases kindR_cases (allC l) b with k | k | k <;> simp [g, k] at h ⊢
  · rw [if_pos h0] at h; exact absurd h h0
/-- what is wrong with a world and two names -/
def twoNamed (l : List Class) (a b : Str) : Nat := if namedFault l a = 0 then namedFault l b else namedFault l a
/-- what Fits tells of any two kinds -/
def fitsOf (l : List Class) (a b : Str) (r : Bool) : Prop := if kindsFault l a b = 0 then ∃ x y, IsKd (allC l) a x ∧ IsKd (allC l) b y ∧ r = fitsKd (allC l) x y else r = false
theorem fits_tells (l : List Class) (lv : Value) (a b : Str) (w : World) (hl : Laid w) (ho : ∀ c ∈ l, ClassOk c) (hlv : ClassesAt w lv l) (ha : a.size ≤ maxLen) (hb : b.size ≤ maxLen) (r : Bool) (hr : fitsOf l a b r) :
    Calls Tryz.prog 38 #[lv, .string a, .string b] w fun e w' => e = .returned (.tuple #[.bool r, errV (kindsFault l a b)]) ∧ Below w.heap.size w w' := by
  unfold fitsOf at hr
  by_cases hf : kindsFault l a b = 0
  · rw [if_pos hf] at hr
    obtain ⟨x, y, hx, hy, rfl⟩ := hr
    rw [hf]
    exact fits_yes l lv a b w hl ho hlv ha hb hf x y hx hy
  · rw [if_neg hf] at hr
    subst hr
    rcases errV_cases (kindsFault l a b) with ⟨_, hz⟩ | ⟨hv, _⟩
    · exact absurd hz hf
    · rw [hv]; exact fits_no l lv a b w hl ho hlv ha hb hf
set_option maxRecDepth 100000 in
theorem is_no1 (l : List Class) (lv : Value) (a b : Str) (w : World) (hl : Laid w) (ho : ∀ c ∈ l, ClassOk c) (hlv : ClassesAt w lv l) (ha : a.size ≤ maxLen) (hf : namedFault l a ≠ 0) :
    Calls Tryz.prog 40 #[lv, .string a, .string b] w fun e w' => e = .returned (.tuple #[.bool false, .iface 24 (.int .i64 (namedFault l a))]) ∧ Below w.heap.size w w' := by
  have HW := Lib.hid (with_any l lv a w hl ho hlv ha)
  obtain ⟨pl, cap, rfl, _⟩ := hlv.open
  have HF := Lib.hid hf
  clear hl ho hlv ha hf
  unfold WithPost at HW
  generalize namedFault l a = f at *
  go_enter Tryz.func40, Tryz.ntmps40
  go_wp2_with (go_at_call 57; (with_reducible refine HW.out.mono ?_); rintro e w2 ⟨hB2, ⟨hz, _⟩ | ⟨_, rfl⟩⟩; (exact absurd hz HF.out))
  go_ret2
  exact ⟨rfl, hB2⟩
set_option maxRecDepth 100000 in
theorem is_no2 (l : List Class) (lv : Value) (a b : Str) (w : World) (hl : Laid w) (ho : ∀ c ∈ l, ClassOk c) (hlv : ClassesAt w lv l) (ha : a.size ≤ maxLen) (hb : b.size ≤ maxLen) (hf : namedFault l a = 0) (hk : (findC (allC l) b).isSome = false) :
    Calls Tryz.prog 40 #[lv, .string a, .string b] w fun e w' => e = .returned (.tuple #[.bool false, .iface 24 (.int .i64 3)]) ∧ Below w.heap.size w w' := by
  have HW := Lib.hid (with_any l lv a w hl ho hlv ha)
  obtain ⟨pl, cap, rfl, _⟩ := hlv.open
  have HF := Lib.hid hf
  have HK := Lib.hid hk
  have HB := Lib.hid hb
  clear hl ho hlv ha hb hf hk
  unfold WithPost at HW
  generalize namedFault l a = f at *
  go_enter Tryz.func40, Tryz.ntmps40
  go_upto_region 4 with (go_at_call 57; (with_reducible refine HW.out.mono ?_); rintro e w2 ⟨hB2, ⟨_, rfl, hN⟩ | ⟨hz, _⟩⟩; rotate_left; (exact absurd HF.out hz))
  obtain ⟨p1, k1, p2, k2, p3, k3, _, _, _, hlk, _⟩ := hN.map.look2 hN.right.nodup b HB.out
  rw [HK.out] at hlk
  generalize (findC (allC l) b).getD noClass = d at *
  obtain ⟨n2, s2, f2, b2, d2, m2⟩ := d
  unfold classV at hlk
  dsimp only at hlk
  clear hN
  go_wp2_with (first | fail)
  go_ret2
  exact ⟨rfl, below_call hB2 (Nat.le_refl _) ((Below.refl _ _).alloc (Nat.le_refl _) _)⟩
theorem named_three {l : List Class} {a b : Str} (h : namedFault l a = 0) (g : namedFault l b ≠ 0) : namedFault l b = 3 ∧ (findC (allC l) b).isSome = false := by
  have h0 := (named_zero h).1
  unfold namedFault at g ⊢
  rw [if_neg (by simpa using h0)] at g ⊢
  cases hk : (findC (allC l) b).isSome with
  | true => rw [hk] at g; exact absurd rfl g
  | false => exact ⟨rfl, rfl⟩
theorem is_tells (l : List Class) (lv : Value) (a b : Str) (w : World) (hl : Laid w) (ho : ∀ c ∈ l, ClassOk c) (hlv : ClassesAt w lv l) (ha : a.size ≤ maxLen) (hb : b.size ≤ maxLen) :
    Calls Tryz.prog 40 #[lv, .string a, .string b] w fun e w' => e = .returned (.tuple #[.bool (if twoNamed l a b = 0 then memB (everyC (allC l) a) b else false), errV (twoNamed l a b)]) ∧ Below w.heap.size w w' := by
  unfold twoNamed
  by_cases hf : namedFault l a = 0
  · rw [if_pos hf]
    by_cases hg : namedFault l b = 0
    · rw [hg, if_pos rfl]
      exact is_yes l lv a b w hl ho hlv ha hb hf (named_zero hg).2
    · obtain ⟨h3, hk⟩ := named_three hf hg
      rw [h3, if_neg (by decide)]
      exact is_no2 l lv a b w hl ho hlv ha hb hf hk
  · rw [if_neg hf, if_neg hf]
    rcases errV_cases (namedFault l a) with ⟨_, hz⟩ | ⟨hv, _⟩
    · exact absurd hz hf
    · rw [hv]; exact is_no1 l lv a b w hl ho hlv ha hf
set_option maxHeartbeats 4000000 in
set_option maxRecDepth 100000 in
theorem subTells_any (l : List Class) (lv : Value) (a b : Str) (w : World) (hl : Laid w) (ho : ∀ c ∈ l, ClassOk c) (hlv : ClassesAt w lv l) (ha : a.size ≤ maxLen) (hb : b.size ≤ maxLen) :
    Calls Tryz.prog 7 #[lv, .string a, .string b] w fun e w' => e = .returned (.bool true) ∧ Below w.heap.size w w' := by
  have HCat : Hid (∀ wx, Below w.heap.size w wx → _) := fun wx hb => catIs_any wx (hl.mono hb hl.1)
  have HK : Hid (∀ wx, Below w.heap.size w wx → _) := fun wx h => refKinds_any l lv a b wx ho (hlv.mono h) ha hb
  have HNa : Hid (∀ wx, Below w.heap.size w wx → _) := fun wx h => refNamed_any l lv a wx ho (hlv.mono h)
  have HNb : Hid (∀ wx, Below w.heap.size w wx → _) := fun wx h => refNamed_any l lv b wx ho (hlv.mono h)
  have HIs : Hid (∀ wx, Below w.heap.size w wx → _) := fun wx h => is_tells l lv a b wx (hl.mono h hl.1) ho (hlv.mono h) ha hb
  have HE1 : Hid (∀ wx, _) := fun wx => error_any (kindsFault l a b) (kindsFault l a b) wx
  have HE2 : Hid (∀ wx, _) := fun wx => error_any (twoNamed l a b) (twoNamed l a b) wx
  rw [decide_eq_true rfl] at HE1 HE2
  -- Fits
  have HFi : ∃ r : Bool, Hid (∀ wx, Below w.heap.size w wx → Calls Tryz.prog 38 #[lv, .string a, .string b] wx fun e w' => e = .returned (.tuple #[.bool r, errV (kindsFault l a b)]) ∧ Below wx.heap.size wx w') ∧
      Hid (kindsFault l a b = 0 → ∀ wx, Below w.heap.size w wx → Calls Tryz.prog 39 #[lv, .string a, .string b] wx fun e w' => e = .returned (.bool r) ∧ Below wx.heap.size wx w') ∧ Hid (kindsFault l a b ≠ 0 → r = false) := by
    by_cases hf : kindsFault l a b = 0
    · obtain ⟨hR, h0, ⟨x, hx⟩, y, hy⟩ := kinds_of hf
      obtain ⟨hka, hkb⟩ := kinds_zero hf
      refine ⟨fitsKd (allC l) x y, fun wx h => ?_, fun _ wx h => refFits_any l lv hR (read_faults h0) wx (hlv.mono h) a b x y hx hy (kindR_deep hx hka) (kindR_deep hy hkb) ha hb, fun h => absurd hf h⟩
      exact fits_tells l lv a b wx (hl.mono h hl.1) ho (hlv.mono h) ha hb _ (by unfold fitsOf; rw [if_pos hf]; exact ⟨x, y, hx, hy, rfl⟩)
    · exact ⟨false, fun wx h => fits_tells l lv a b wx (hl.mono h hl.1) ho (hlv.mono h) ha hb _ (by unfold fitsOf; rw [if_neg hf]), fun h => absurd h hf, fun _ => rfl⟩
  obtain ⟨r, HFi, HRF, hrf⟩ := HFi
  -- Every
  have HEv : Hid (twoNamed l a b = 0 → ∀ wx, Below w.heap.size w wx → Calls Tryz.prog 41 #[lv, .string a] wx (RowPost wx (sortS (everyC (allC l) a)))) := fun hz wx h => by
    have hfa : namedFault l a = 0 := by
      unfold twoNamed at hz; split at hz
      · assumption
      · exact hz
    obtain ⟨h0, hk⟩ := named_zero hfa
    exact refEvery_any l lv a wx (right_of h0) (read_faults h0) (hlv.mono h) hk (known_ne (read_faults h0))
  unfold RowPost at HEv
  have HIn : Hid (∀ wx v, StrsAt wx v (sortS (everyC (allC l) a)) → _) := fun wx v h => in_any (sortS (everyC (allC l) a)) v b wx h
  rw [memB_sort] at HIn
  obtain ⟨pl, cap, rfl, _⟩ := hlv.open
  have hgd : twoNamed l a b = if namedFault l a = 0 then namedFault l b else namedFault l a := rfl
  clear hl ho hlv ha hb
  generalize hm : memB (everyC (allC l) a) b = m at *
  generalize twoNamed l a b = g at *
  generalize kindsFault l a b = f at *
  generalize namedFault l a = ga at *
  generalize namedFault l b = gb at *
  clear hm
  have walk : ∀ (vf vg : Value) (df dg dga : Bool), errV f = vf → errV g = vg → ((f : Int) == 0) = df → ((g : Int) == 0) = dg → ((ga : Int) == 0) = dga →
      (df = true → f = 0) → (df = false → f ≠ 0) → (dg = true → g = 0) → (dga = true → g = gb) → (dga = false → g = ga ∧ dg = false) → (dg = false → g ≠ 0) →
      Calls Tryz.prog 7 #[.slice pl l.length cap, .string a, .string b] w fun e w' => e = .returned (.bool true) ∧ Below w.heap.size w w' := by
    intro vf vg df dg dga e1 e2 e3 e4 e5 i1 i2 i3 i4 i5 i6
    rw [e1] at HFi HE1
    rw [e2] at HIs HE2
    have HRF2 : Hid (df = true → ∀ wx, Below w.heap.size w wx → _) := fun h => HRF.out (i1 h)
    have HEv2 : Hid (dg = true → ∀ wx, Below w.heap.size w wx → _) := fun h => HEv.out (i3 h)
    have hr2 : df = false → r = false := fun h => hrf.out (i2 h)
    have hm2 : (if g = 0 then m else false) = (dg && m) := by
      cases dg with
      | true => rw [if_pos (i3 rfl)]; rfl
      | false => rw [if_neg (i6 rfl)]; rfl
    rw [hm2] at HIs
    clear hm2 HRF HEv hrf e1 e2 hgd i1 i2 i3 i6
    cases dga with
    | true =>
      have hg := i4 rfl
      subst hg
      clear i4 i5
      cases df <;> cases dg
      all_goals
        have hr3 := hr2
        simp only [Bool.false_and, Bool.true_and] at HIs
        clear hr2
        try (obtain rfl := hr3 rfl)
        clear hr3
        go_enter Tryz.func7, Tryz.ntmps7
        go_wp2_with (first
          | (go_at_call 36; (with_reducible refine (HCat.out _ (Below.refl _ _)).mono ?_); rintro e w2 ⟨rfl, hB2⟩)
          | (go_at_call 37; (with_reducible refine (HK.out _ hB2).mono ?_); rintro e w3 ⟨rfl, hB3'⟩; (have hB3 := below_call hB2 (Nat.le_refl _) hB3'); clear hB3')
          | (go_at_call 38; (with_reducible refine (HFi.out _ hB3).mono ?_); rintro e w4 ⟨rfl, hB4'⟩; (have hB4 := below_call hB3 (Nat.le_refl _) hB4'); clear hB4')
          | (go_at_call 24; (have hq := hB6); (with_reducible refine (HNb.out _ hB6).mono ?_); rintro e w7 ⟨rfl, hB7'⟩; (have hB7 := below_call hB6 (Nat.le_refl _) hB7'); clear hB7')
          | (go_at_call 16; (with_reducible refine (HE2.out _).mono ?_); rintro e w8 ⟨rfl, rfl⟩)
          | (go_at_call 16; (with_reducible refine (HE1.out _).mono ?_); rintro e w8 ⟨rfl, rfl⟩)
          | (go_at_call 39; (with_reducible refine ((HRF2.out (by trivial)) _ hB4).mono ?_); rintro e w5 ⟨rfl, hB5'⟩; (have hB5 := below_call hB4 (Nat.le_refl _) hB5'); clear hB5')
          | (go_at_call 24; (first | (with_reducible refine (HNa.out _ hB5).mono ?_); rintro e w6 ⟨rfl, hB6'⟩; (have hB6 := below_call hB5 (Nat.le_refl _) hB6'); clear hB6' | (with_reducible refine (HNa.out _ hB4).mono ?_); rintro e w6 ⟨rfl, hB6'⟩; (have hB6 := below_call hB4 (Nat.le_refl _) hB6'); clear hB6'))
          | (go_at_call 40; (with_reducible refine (HIs.out _ hB7).mono ?_); rintro e w9 ⟨rfl, hB9'⟩; (have hB9 := below_call hB7 (Nat.le_refl _) hB9'); clear hB9')
          | (go_at_call 41; (with_reducible refine ((HEv2.out (by trivial)) _ hB9).mono ?_); rintro e w10 ⟨⟨v, rfl, hv⟩, hB10'⟩; (have hB10 := below_call hB9 (Nat.le_refl _) hB10'); clear hB10'; (have hv2 := strsAt_of_owns hv); obtain ⟨pv, kv, rfl⟩ := ownsRow_shape hv)
          | (go_at_call 22; (with_reducible refine (HIn.out _ _ hv2).mono ?_); rintro e w11 ⟨rfl, rfl⟩))
        go_ret
        first
          | exact ⟨by simp, hB10⟩
          | exact ⟨by simp, hB9⟩
    | false =>
      obtain ⟨hg, hdg⟩ := i5 rfl
      subst hg hdg
      clear i4 i5
      cases df
      all_goals
        have hr3 := hr2
        simp only [Bool.false_and] at HIs
        clear hr2
        try (obtain rfl := hr3 rfl)
        clear hr3
        go_enter Tryz.func7, Tryz.ntmps7
        go_wp2_with (first
          | (go_at_call 36; (with_reducible refine (HCat.out _ (Below.refl _ _)).mono ?_); rintro e w2 ⟨rfl, hB2⟩)
          | (go_at_call 37; (with_reducible refine (HK.out _ hB2).mono ?_); rintro e w3 ⟨rfl, hB3'⟩; (have hB3 := below_call hB2 (Nat.le_refl _) hB3'); clear hB3')
          | (go_at_call 38; (with_reducible refine (HFi.out _ hB3).mono ?_); rintro e w4 ⟨rfl, hB4'⟩; (have hB4 := below_call hB3 (Nat.le_refl _) hB4'); clear hB4')
          | (go_at_call 16; (with_reducible refine (HE2.out _).mono ?_); rintro e w8 ⟨rfl, rfl⟩)
          | (go_at_call 16; (with_reducible refine (HE1.out _).mono ?_); rintro e w8 ⟨rfl, rfl⟩)
          | (go_at_call 39; (with_reducible refine ((HRF2.out (by trivial)) _ hB4).mono ?_); rintro e w5 ⟨rfl, hB5'⟩; (have hB5 := below_call hB4 (Nat.le_refl _) hB5'); clear hB5')
          | (go_at_call 24; (first | (with_reducible refine (HNa.out _ hB5).mono ?_); rintro e w6 ⟨rfl, hB6'⟩; (have hB6 := below_call hB5 (Nat.le_refl _) hB6'); clear hB6' | (with_reducible refine (HNa.out _ hB4).mono ?_); rintro e w6 ⟨rfl, hB6'⟩; (have hB6 := below_call hB4 (Nat.le_refl _) hB6'); clear hB6'))
          | (go_at_call 40; (with_reducible refine (HIs.out _ hB6).mono ?_); rintro e w9 ⟨rfl, hB9'⟩; (have hB9 := below_call hB6 (Nat.le_refl _) hB9'); clear hB9'))
        go_ret
        exact ⟨by simp, hB9⟩
  refine walk _ _ _ _ _ rfl rfl rfl rfl rfl ?_ ?_ ?_ ?_ ?_ ?_
  · intro h; simp at h; exact h
  · intro h; simp at h; exact h
  · intro h; simp at h; exact h
  · intro h; simp at h; rw [hgd, if_pos h]
  · intro h
    simp at h
    rw [if_neg h] at hgd
    exact ⟨hgd, by rw [hgd]; simpa using h⟩
  · intro h; simp at h; exact h
end Go.Proofs.YtpjkpmmjehnahaaGreatDoor
