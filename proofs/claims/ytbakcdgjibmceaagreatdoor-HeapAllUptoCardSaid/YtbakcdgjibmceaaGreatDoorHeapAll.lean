/-
  WALK over the law HeapAll. Conditions: as in XRead; texts of at most maxLen signs.
-/
import Derived.Test.YtbakcdgjibmceaaGreatDoorHeaped
namespace Go.Proofs.YtbakcdgjibmceaaGreatDoor
open Go.RowKit Go.Shelf Go.Lib
theorem holds_zero {l : List Class} {h : List Thing} {k : Str} (g : holdsF l h k = 0) : heapFault l h = 0 ∧ typeB (lst k) = true ∧ kindR (allC l) k = 0 := by
  unfold holdsF at g
  by_cases h0 : heapFault l h = 0
  · rw [if_neg (by rw [h0]; decide)] at g
    cases ht : typeB (lst k) with
    | false => rw [ht] at g; simp at g
    | true => rw [ht] at g; exact ⟨h0, rfl, by simpa using g⟩
  · rw [if_pos h0] at g; exact absurd g h0
theorem good_of {l : List Class} {k : Str} {y : Ty} (hy : TyText k y) (hk : kindR (allC l) k = 0) : goodTy (allC l) y = true := by
  obtain ⟨x, hx, hg⟩ := kind_of hk
  obtain rfl := kd_of_ty hx hy.text
  exact hg
set_option maxHeartbeats 4000000 in
set_option maxRecDepth 100000 in
theorem heapAll_any (l : List Class) (lv : Value) (h : List Thing) (hv : Value) (v : Val) (a b : Str) (w : World) (hl : Laid w) (ho : ∀ c ∈ l, ClassOk c) (hlv : ClassesAt w lv l) (hh : ThingsAt w hv h) (hS : Short h) (ha : a.size ≤ maxLen) (hb : b.size ≤ maxLen) :
    Calls Tryz.prog 3 #[lv, .agg #[hv], valV v, .string a, .string b] w fun e w' => e = .returned (.bool true) ∧ Below w.heap.size w w' := by
  have HHd : Hid (∀ wx, Below w.heap.size w wx → _) := fun wx hb => heaped_any wx (hl.mono hb hl.1)
  have HHa : Hid (∀ wx, Below w.heap.size w wx → _) := fun wx hx => heapHolds_any l lv h hv v a wx (hl.mono hx hl.1) ho (hlv.mono hx) (hh.mono hx) hS ha
  have HHb : Hid (∀ wx, Below w.heap.size w wx → _) := fun wx hx => heapHolds_any l lv h hv v b wx (hl.mono hx hl.1) ho (hlv.mono hx) (hh.mono hx) hS hb
  have HLv : Hid (∀ wx, Below w.heap.size w wx → ClassesAt wx lv l) := fun wx hb => hlv.mono hb
  obtain ⟨pl, cap, rfl, _⟩ := hlv.open
  obtain ⟨ph, kh, rfl, _⟩ := hh.open
  clear hl ho hlv hh hS
  by_cases hfa : holdsF l h a = 0
  · by_cases hfb : holdsF l h b = 0
    · obtain ⟨hf, hta, hka⟩ := holds_zero hfa
      obtain ⟨_, htb, hkb⟩ := holds_zero hfb
      obtain ⟨ya, hya⟩ := ty_of_type hta
      obtain ⟨yb, hyb⟩ := ty_of_type htb
      obtain ⟨h0, hz⟩ := heapFault_zero hf
      have hVa : holdsV l h v a = holdsTy (allC l) h v ya := by unfold holdsV; rw [hfa, if_pos rfl, hya.of]
      have hVb : holdsV l h v b = holdsTy (allC l) h v yb := by unfold holdsV; rw [hfb, if_pos rfl, hyb.of]
      have hor : fitsTy (allC l) ya yb = true → holdsTy (allC l) h v ya = true → holdsTy (allC l) h v yb = true := fun g1 g2 => holds_fits (right_of h0) (heap_zero hz).2.1 g2 g1
      rw [hVa, hfa, show errV 0 = .nilIface from rfl] at HHa
      rw [hVb, hfb, show errV 0 = .nilIface from rfl] at HHb
      have HFi : Hid (∀ wx, Below w.heap.size w wx → _) := fun wx hx => refFits_ty l _ (right_of h0) (read_faults h0) ya wx a b yb (HLv.out wx hx) hya.text hyb.text (good_of hya hka) hyb.name hya.deep hyb.deep ha hb
      generalize holdsTy (allC l) h v ya = r at *
      generalize holdsTy (allC l) h v yb = s at *
      generalize fitsTy (allC l) ya yb = q at *
      obtain ⟨v1, v2⟩ := v
      unfold valV at HHa HHb ⊢
      dsimp only at HHa HHb ⊢
      have T0 := HV.new w (.slice ph h.length kh) (.int .i64 v1) (.int .i64 v2) 25 27
      clear hVa hVb hfa hfb hf hta htb hka hkb hya hyb h0 hz HLv ha hb
      cases q <;> cases r <;> cases s <;> first | (exact absurd (hor rfl rfl) (by decide)) | skip
      all_goals
        clear hor
        go_enter Tryz.func3, Tryz.ntmps3
        go_wp2_with (first
          | (go_at_call 10; (with_reducible refine (HHd.out _ T0.below).mono ?_); rintro e w2 ⟨rfl, hB2⟩; (have T2 := T0.step hB2); obtain ⟨q0, q1, q2⟩ := T2.get)
          | (go_at_call 11; (with_reducible refine (HHa.out _ T2.below).mono ?_); rintro e w3 ⟨rfl, hB3⟩; (have T3 := T2.step hB3); obtain ⟨r0, r1, r2⟩ := T3.get)
          | (go_at_call 11; (with_reducible refine (HHb.out _ T3.below).mono ?_); rintro e w4 ⟨rfl, hB4⟩; (have T4 := T3.step hB4); obtain ⟨s0, s1, s2⟩ := T4.get)
          | (go_at_call 12; (with_reducible refine (HFi.out _ T4.below).mono ?_); rintro e w5 ⟨rfl, hB5⟩; (have T5 := T4.step hB5)))
        go_ret
        exact ⟨rfl, T5.below⟩
    · rw [hfa, show errV 0 = .nilIface from rfl] at HHa
      rcases errV_cases (holdsF l h b) with ⟨_, hz⟩ | ⟨he, _⟩
      · exact absurd hz hfb
      rw [he] at HHb
      generalize holdsV l h v a = r at *
      generalize holdsV l h v b = s at *
      generalize holdsF l h b = f at *
      obtain ⟨v1, v2⟩ := v
      unfold valV at HHa HHb ⊢
      dsimp only at HHa HHb ⊢
      have T0 := HV.new w (.slice ph h.length kh) (.int .i64 v1) (.int .i64 v2) 25 27
      clear hfa hfb HLv ha hb he
      go_enter Tryz.func3, Tryz.ntmps3
      go_wp2_with (first
        | (go_at_call 10; (with_reducible refine (HHd.out _ T0.below).mono ?_); rintro e w2 ⟨rfl, hB2⟩; (have T2 := T0.step hB2); obtain ⟨q0, q1, q2⟩ := T2.get)
        | (go_at_call 11; (with_reducible refine (HHa.out _ T2.below).mono ?_); rintro e w3 ⟨rfl, hB3⟩; (have T3 := T2.step hB3); obtain ⟨r0, r1, r2⟩ := T3.get)
        | (go_at_call 11; (with_reducible refine (HHb.out _ T3.below).mono ?_); rintro e w4 ⟨rfl, hB4⟩; (have T4 := T3.step hB4)))
      go_ret
      exact ⟨rfl, T4.below⟩
  · rcases errV_cases (holdsF l h a) with ⟨_, hz⟩ | ⟨he, _⟩
    · exact absurd hz hfa
    rw [he] at HHa
    generalize holdsV l h v a = r at *
    generalize holdsV l h v b = s at *
    generalize errV (holdsF l h b) = g at *
    generalize holdsF l h a = f at *
    obtain ⟨v1, v2⟩ := v
    unfold valV at HHa HHb ⊢
    dsimp only at HHa HHb ⊢
    have T0 := HV.new w (.slice ph h.length kh) (.int .i64 v1) (.int .i64 v2) 25 27
    clear hfa HLv ha hb he
    go_enter Tryz.func3, Tryz.ntmps3
    go_wp2_with (first
      | (go_at_call 10; (with_reducible refine (HHd.out _ T0.below).mono ?_); rintro e w2 ⟨rfl, hB2⟩; (have T2 := T0.step hB2); obtain ⟨q0, q1, q2⟩ := T2.get)
      | (go_at_call 11; (with_reducible refine (HHa.out _ T2.below).mono ?_); rintro e w3 ⟨rfl, hB3⟩; (have T3 := T2.step hB3); obtain ⟨r0, r1, r2⟩ := T3.get)
      | (go_at_call 11; (with_reducible refine (HHb.out _ T3.below).mono ?_); rintro e w4 ⟨rfl, hB4⟩; (have T4 := T3.step hB4)))
    go_ret
    exact ⟨rfl, T4.below⟩
end Go.Proofs.YtbakcdgjibmceaaGreatDoor
