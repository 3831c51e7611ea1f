/-
  WALKS over the law's catJoins and the law JoinLattice. Conditions: as in XRead; texts of at most 1048576 signs.
-/
import Derived.Test.YtpjkpmmjehnahaaGreatDoorJoinOf
import Derived.Test.YtpjkpmmjehnahaaGreatDoorSubOrder
namespace Go.Proofs.YtpjkpmmjehnahaaGreatDoor
open Go.RowKit Go.Shelf Go.Lib
def sLCat : Str := ⟨#[76, 67, 97, 116, 59]⟩
def sLBeast : Str := ⟨#[76, 66, 101, 97, 115, 116, 59]⟩
theorem cats_fault : kindsFault beastsL sLCat sLBeast = 0 := by decide +kernel
theorem cats_join : joinKd (allC beastsL) (.ty (.cl sCat)) (.ty (.cl sBeast)) = .ty (.cl sBeast) := by decide +kernel
set_option maxRecDepth 100000 in
theorem catJoins_any (w : World) (hl : Laid w) : Calls Tryz.prog 42 #[] w fun e w' => e = .returned (.bool true) ∧ Below w.heap.size w w' := by
  have HS : Hid (∀ wx lv, Below w.heap.size w wx → ClassesAt wx lv beastsL → _) := fun wx lv hb h => join_yes beastsL lv sLCat sLBeast wx (hl.mono hb hl.1) beasts_ok h (by decide) (by decide) cats_fault (.ty (.cl sCat)) (.ty (.cl sBeast)) ⟨rfl, by decide +kernel⟩ ⟨rfl, by decide +kernel⟩
  rw [cats_join] at HS
  have HB : Hid (∀ wx, _) := fun wx => beasts_any wx
  have HQ : Hid (∀ z : Str, IsKd (allC beastsL) z (.ty (.cl sBeast)) → (z.toList == [76, 66, 101, 97, 115, 116, 59]) = true) := fun z hz => by
    have := kd_is hz.1 (.ty (.cl sBeast))
    rw [decide_eq_true rfl] at this; exact this
  unfold JoinGives at HS
  simp only [sLCat, sLBeast] at HS
  go_enter Tryz.func42, Tryz.ntmps42
  go_wp2_with (first
    | (go_at_call 68; (with_reducible refine (HB.out _).mono ?_); rintro e w2 ⟨⟨v, rfl, hv⟩, hB2⟩; obtain ⟨pb, kb, rfl, _⟩ := hv.open)
    | (go_at_call 43; (with_reducible refine (HS.out _ _ hB2 hv).mono ?_); rintro e w3 ⟨z, rfl, hz, hs, hB3⟩; (have hq := HQ.out z hz)))
  go_ret
  exact ⟨rfl, below_call hB2 (Nat.le_refl _) hB3⟩
def JoinSome (w : World) (e : Ending) (w' : World) : Prop := ∃ z v, e = .returned (.tuple #[.string z, v]) ∧ Below w.heap.size w w'
theorem join_some (l : List Class) (lv : Value) (a b : Str) (w : World) (hl : Laid w) (ho : ∀ c ∈ l, ClassOk c) (hlv : ClassesAt w lv l) (ha : a.size ≤ 4194304) (hb : b.size ≤ 4194304) :
    Calls Tryz.prog 43 #[lv, .string a, .string b] w (JoinSome w) := by
  by_cases hf : kindsFault l a b = 0
  · obtain ⟨_, _, ⟨x, hx⟩, y, hy⟩ := kinds_of hf
    exact (join_yes l lv a b w hl ho hlv ha hb hf x y hx hy).mono fun e w' ⟨z, h1, _, _, h2⟩ => ⟨_, _, h1, h2⟩
  · exact (join_no l lv a b w hl ho hlv (Nat.le_trans ha (by decide)) (Nat.le_trans hb (by decide)) hf).mono fun e w' ⟨h1, h2⟩ => ⟨_, _, h1, h2⟩
theorem str_same (a : Str) : (a.toList == a.toList) = true := by simp
set_option maxHeartbeats 2000000 in
set_option maxRecDepth 100000 in
theorem joinLattice_any (l : List Class) (lv : Value) (a b c : Str) (w : World) (hl : Laid w) (ho : ∀ c ∈ l, ClassOk c) (hlv : ClassesAt w lv l) (ha : a.size ≤ 1048576) (hb : b.size ≤ 1048576) (hc : c.size ≤ 1048576) :
    Calls Tryz.prog 9 #[lv, .string a, .string b, .string c] w fun e w' => e = .returned (.bool true) ∧ Below w.heap.size w w' := by
  have HCat : Hid (∀ wx, Below w.heap.size w wx → _) := fun wx hb => catJoins_any wx (hl.mono hb hl.1)
  have HSo : Hid (∀ wx (p q : Str), Below w.heap.size w wx → p.size ≤ 4194304 → q.size ≤ 4194304 → _) := fun wx p q hb hp hq => join_some l lv p q wx (hl.mono hb hl.1) ho (hlv.mono hb) hp hq
  unfold JoinSome at HSo
  have HNo : Hid (∀ (p q : Str), p.size ≤ maxLen → q.size ≤ maxLen → kindsFault l p q ≠ 0 → ∀ wx, Below w.heap.size w wx → _) := fun p q hp hq hf wx hb => join_no l lv p q wx (hl.mono hb hl.1) ho (hlv.mono hb) hp hq hf
  have HYe : Hid (∀ (p q : Str) x y, p.size ≤ 4194304 → q.size ≤ 4194304 → kindsFault l p q = 0 → IsKd (allC l) p x → IsKd (allC l) q y → ∀ wx, Below w.heap.size w wx → _) := fun p q x y hp hq hf hx hy wx hb => join_yes l lv p q wx (hl.mono hb hl.1) ho (hlv.mono hb) hp hq hf x y hx hy
  unfold JoinGives at HYe
  have wa : a.size ≤ 4194304 := Nat.le_trans ha (by decide)
  have wb : b.size ≤ 4194304 := Nat.le_trans hb (by decide)
  have wc : c.size ≤ 4194304 := Nat.le_trans hc (by decide)
  have ma : a.size ≤ maxLen := Nat.le_trans ha (by decide)
  have mb : b.size ≤ maxLen := Nat.le_trans hb (by decide)
  have mc : c.size ≤ maxLen := Nat.le_trans hc (by decide)
  have Saa : Hid (∀ wx, Below w.heap.size w wx → _) := fun wx h => HSo.out wx a a h wa wa
  have Sab : Hid (∀ wx, Below w.heap.size w wx → _) := fun wx h => HSo.out wx a b h wa wb
  have Sba : Hid (∀ wx, Below w.heap.size w wx → _) := fun wx h => HSo.out wx b a h wb wa
  have Sbc : Hid (∀ wx, Below w.heap.size w wx → _) := fun wx h => HSo.out wx b c h wb wc
  obtain ⟨pl, cap, rfl, _⟩ := hlv.open
  clear hl ho hlv HSo
  by_cases f1 : kindsFault l a a = 0
  · obtain ⟨hr, ka, _⟩ := kinds_iff.1 f1
    have hR := right_of hr
    have hF := read_faults hr
    obtain ⟨x, hx⟩ := kind_of ka
    have Yaa := Lib.hid (HYe.out a a x x wa wa f1 hx hx)
    rw [join_idem hR.tree (object_known l) hx.2] at Yaa
    by_cases f2 : kindsFault l a b = 0
    · obtain ⟨_, _, kb⟩ := kinds_iff.1 f2
      obtain ⟨y, hy⟩ := kind_of kb
      have Yab := Lib.hid (HYe.out a b x y wa wb f2 hx hy)
      have Yba := Lib.hid (HYe.out b a y x wb wa (kinds_iff.2 ⟨hr, kb, ka⟩) hy hx)
      rw [join_comm hR.tree (object_known l) hy.2 hx.2] at Yba
      by_cases f3 : kindsFault l b c = 0
      · obtain ⟨_, _, kc⟩ := kinds_iff.1 f3
        obtain ⟨z, hz⟩ := kind_of kc
        have Ybc := Lib.hid (HYe.out b c y z wb wc f3 hy hz)
        have Yl : Hid (∀ (p : Str), IsKd (allC l) p (joinKd (allC l) x y) → p.size ≤ 30 + a.size + b.size → ∀ wx, Below w.heap.size w wx → _) := fun p hp hs =>
          HYe.out p c (joinKd (allC l) x y) z (by omega) wc (kinds_iff.2 ⟨hr, join_kind hF hx hy ka kb hp, kc⟩) hp hz
        have Yr : Hid (∀ (p : Str), IsKd (allC l) p (joinKd (allC l) y z) → p.size ≤ 30 + b.size + c.size → ∀ wx, Below w.heap.size w wx → _) := fun p hp hs =>
          HYe.out a p x (joinKd (allC l) y z) wa (by omega) (kinds_iff.2 ⟨hr, ka, join_kind hF hy hz kb kc hp⟩) hx hp
        rw [join_assoc hR.tree (object_known l) hx.2 hy.2 hz.2] at Yl
        have Q1 : Hid (∀ p : Str, IsKd (allC l) p x → (p.toList == a.toList) = true) := fun p hp => by rw [hp.text hx]; exact str_same a
        have Q2 : Hid (∀ (p q : Str) k, IsKd (allC l) p k → IsKd (allC l) q k → (p.toList == q.toList) = true) := fun p q k hp hq => by rw [hp.text hq]; exact str_same q
        clear HYe HNo Saa Sab Sba Sbc hx hy hz ha hb hc wa wb wc ma mb mc hR hF hr ka kb kc f1 f2 f3
        generalize joinKd (allC l) x (joinKd (allC l) y z) = r3 at *
        generalize joinKd (allC l) x y = r1 at *
        generalize joinKd (allC l) y z = r2 at *
        go_enter Tryz.func9, Tryz.ntmps9
        go_wp2_with (first
          | (go_at_call 42; (with_reducible refine (HCat.out _ (Below.refl _ _)).mono ?_); rintro e w2 ⟨rfl, hB2⟩)
          | (go_at_call 43; (with_reducible refine (Yaa.out _ hB2).mono ?_); rintro e w3 ⟨z3, rfl, hz3, _, hB3'⟩; (have hB3 := below_call hB2 (Nat.le_refl _) hB3'); (have q3 := Q1.out z3 hz3); clear hB3' hz3)
          | (go_at_call 43; (with_reducible refine (Yab.out _ hB3).mono ?_); rintro e w4 ⟨z4, rfl, hz4, hs4, hB4'⟩; (have hB4 := below_call hB3 (Nat.le_refl _) hB4'); (have Y4 := Lib.hid (Yl.out z4 hz4 hs4)); (have HZ4 := Lib.hid hz4); clear hB4' hz4 hs4)
          | (go_at_call 43; (with_reducible refine (Yba.out _ hB4).mono ?_); rintro e w5 ⟨z5, rfl, hz5, _, hB5'⟩; (have hB5 := below_call hB4 (Nat.le_refl _) hB5'); (have q5 := Q2.out z4 z5 _ HZ4.out hz5); clear hB5' hz5)
          | (go_at_call 43; (with_reducible refine (Ybc.out _ hB5).mono ?_); rintro e w6 ⟨z6, rfl, hz6, hs6, hB6'⟩; (have hB6 := below_call hB5 (Nat.le_refl _) hB6'); (have Y6 := Lib.hid (Yr.out z6 hz6 hs6)); clear hB6' hz6 hs6)
          | (go_at_call 43; (with_reducible refine (Y4.out _ hB6).mono ?_); rintro e w7 ⟨z7, rfl, hz7, _, hB7'⟩; (have hB7 := below_call hB6 (Nat.le_refl _) hB7'); (have HZ7 := Lib.hid hz7); clear hB7' hz7)
          | (go_at_call 43; (with_reducible refine (Y6.out _ hB7).mono ?_); rintro e w8 ⟨z8, rfl, hz8, _, hB8'⟩; (have hB8 := below_call hB7 (Nat.le_refl _) hB8'); (have q8 := Q2.out z7 z8 _ HZ7.out hz8); clear hB8' hz8))
        go_ret
        exact ⟨rfl, hB8⟩
      · have Nbc := Lib.hid (HNo.out b c mb mc f3)
        clear HYe HNo Saa Sab Sba Sbc hx hy ha hb hc wa wb wc ma mb mc hR hF hr ka kb f1 f2 f3
        generalize kindsFault l b c = f at *
        generalize joinKd (allC l) x y = r1 at *
        go_enter Tryz.func9, Tryz.ntmps9
        go_wp2_with (first
          | (go_at_call 42; (with_reducible refine (HCat.out _ (Below.refl _ _)).mono ?_); rintro e w2 ⟨rfl, hB2⟩)
          | (go_at_call 43; (with_reducible refine (Yaa.out _ hB2).mono ?_); rintro e w3 ⟨z3, rfl, _, _, hB3'⟩; (have hB3 := below_call hB2 (Nat.le_refl _) hB3'); clear hB3')
          | (go_at_call 43; (with_reducible refine (Yab.out _ hB3).mono ?_); rintro e w4 ⟨z4, rfl, _, _, hB4'⟩; (have hB4 := below_call hB3 (Nat.le_refl _) hB4'); clear hB4')
          | (go_at_call 43; (with_reducible refine (Yba.out _ hB4).mono ?_); rintro e w5 ⟨z5, rfl, _, _, hB5'⟩; (have hB5 := below_call hB4 (Nat.le_refl _) hB5'); clear hB5')
          | (go_at_call 43; (with_reducible refine (Nbc.out _ hB5).mono ?_); rintro e w6 ⟨rfl, hB6'⟩; (have hB6 := below_call hB5 (Nat.le_refl _) hB6'); clear hB6'))
        go_ret
        exact ⟨rfl, hB6⟩
    · have Nab := Lib.hid (HNo.out a b ma mb f2)
      clear HYe HNo Saa Sab hx ha hb hc wa wb wc ma mb mc hR hF hr ka f1 f2
      generalize kindsFault l a b = f at *
      go_enter Tryz.func9, Tryz.ntmps9
      go_wp2_with (first
        | (go_at_call 42; (with_reducible refine (HCat.out _ (Below.refl _ _)).mono ?_); rintro e w2 ⟨rfl, hB2⟩)
        | (go_at_call 43; (with_reducible refine (Yaa.out _ hB2).mono ?_); rintro e w3 ⟨z3, rfl, _, _, hB3'⟩; (have hB3 := below_call hB2 (Nat.le_refl _) hB3'); clear hB3')
        | (go_at_call 43; (with_reducible refine (Nab.out _ hB3).mono ?_); rintro e w4 ⟨rfl, hB4'⟩; (have hB4 := below_call hB3 (Nat.le_refl _) hB4'); clear hB4')
        | (go_at_call 43; (with_reducible refine (Sba.out _ hB4).mono ?_); rintro e w5 ⟨z5, v5, rfl, hB5'⟩; (have hB5 := below_call hB4 (Nat.le_refl _) hB5'); clear hB5')
        | (go_at_call 43; (with_reducible refine (Sbc.out _ hB5).mono ?_); rintro e w6 ⟨z6, v6, rfl, hB6'⟩; (have hB6 := below_call hB5 (Nat.le_refl _) hB6'); clear hB6'))
      go_ret
      exact ⟨rfl, hB6⟩
  · have Naa := Lib.hid (HNo.out a a ma ma f1)
    clear HYe HNo Saa ha hb hc wa wb wc ma mb mc f1
    generalize kindsFault l a a = f at *
    go_enter Tryz.func9, Tryz.ntmps9
    go_wp2_with (first
      | (go_at_call 42; (with_reducible refine (HCat.out _ (Below.refl _ _)).mono ?_); rintro e w2 ⟨rfl, hB2⟩)
      | (go_at_call 43; (with_reducible refine (Naa.out _ hB2).mono ?_); rintro e w3 ⟨rfl, hB3'⟩; (have hB3 := below_call hB2 (Nat.le_refl _) hB3'); clear hB3')
      | (go_at_call 43; (with_reducible refine (Sab.out _ hB3).mono ?_); rintro e w4 ⟨z4, v4, rfl, hB4'⟩; (have hB4 := below_call hB3 (Nat.le_refl _) hB4'); clear hB4')
      | (go_at_call 43; (with_reducible refine (Sba.out _ hB4).mono ?_); rintro e w5 ⟨z5, v5, rfl, hB5'⟩; (have hB5 := below_call hB4 (Nat.le_refl _) hB5'); clear hB5')
      | (go_at_call 43; (with_reducible refine (Sbc.out _ hB5).mono ?_); rintro e w6 ⟨z6, v6, rfl, hB6'⟩; (have hB6 := below_call hB5 (Nat.le_refl _) hB6'); clear hB6'))
    go_ret
    exact ⟨rfl, hB6⟩
end Go.Proofs.YtpjkpmmjehnahaaGreatDoor
