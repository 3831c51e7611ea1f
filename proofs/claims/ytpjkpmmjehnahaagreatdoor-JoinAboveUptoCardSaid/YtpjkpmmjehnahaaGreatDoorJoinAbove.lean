/-
  WALK over the law JoinAbove. Conditions: as in XRead; texts of at most 1048576 signs.
-/
import Derived.Test.YtpjkpmmjehnahaaGreatDoorJoinLattice
namespace Go.Proofs.YtpjkpmmjehnahaaGreatDoor
open Go.RowKit Go.Shelf Go.Lib
def BelowSome (w : World) (e : Ending) (w' : World) : Prop := ∃ r v, e = .returned (.tuple #[.bool r, v]) ∧ Below w.heap.size w w'
theorem below_some (l : List Class) (lv : Value) (a b : Str) (w : World) (hl : Laid w) (ho : ∀ c ∈ l, ClassOk c) (hlv : ClassesAt w lv l) (ha : a.size ≤ 4194304) (hb : b.size ≤ 4194304) :
    Calls Tryz.prog 44 #[lv, .string a, .string b] w (BelowSome w) := by
  by_cases hf : kindsFault l a b = 0
  · obtain ⟨_, _, ⟨x, hx⟩, y, hy⟩ := kinds_of hf
    exact (below_yes l lv a b w hl ho hlv ha hb hf x y hx hy).mono fun e w' ⟨h1, h2⟩ => ⟨_, _, h1, h2⟩
  · exact (below_no l lv a b w hl ho hlv (Nat.le_trans ha (by decide)) (Nat.le_trans hb (by decide)) hf).mono fun e w' ⟨h1, h2⟩ => ⟨_, _, h1, h2⟩
set_option maxHeartbeats 4000000 in
set_option maxRecDepth 100000 in
theorem joinAbove_any (l : List Class) (lv : Value) (a b c : Str) (w : World) (hl : Laid w) (ho : ∀ c ∈ l, ClassOk c) (hlv : ClassesAt w lv l) (ha : a.size ≤ 1048576) (hb : b.size ≤ 1048576) (hc : c.size ≤ 1048576) :
    Calls Tryz.prog 12 #[lv, .string a, .string b, .string c] w fun e w' => e = .returned (.bool true) ∧ Below w.heap.size w w' := by
  have HCat : Hid (∀ wx, Below w.heap.size w wx → _) := fun wx hb => catJoins_any wx (hl.mono hb hl.1)
  have wa : a.size ≤ 4194304 := Nat.le_trans ha (by decide)
  have wb : b.size ≤ 4194304 := Nat.le_trans hb (by decide)
  have wc : c.size ≤ 4194304 := Nat.le_trans hc (by decide)
  have ma : a.size ≤ maxLen := Nat.le_trans ha (by decide)
  have mb : b.size ≤ maxLen := Nat.le_trans hb (by decide)
  have mc : c.size ≤ maxLen := Nat.le_trans hc (by decide)
  by_cases f1 : kindsFault l a b = 0
  · obtain ⟨hr, ka, kb⟩ := kinds_iff.1 f1
    have hR := right_of hr
    have hF := read_faults hr
    obtain ⟨x, hx⟩ := kind_of ka
    obtain ⟨y, hy⟩ := kind_of kb
    obtain ⟨u1, u2, u3⟩ := joinKd_up hR.tree (object_known l) hx.2 hy.2
    have HJ : Hid (∀ wx, Below w.heap.size w wx → _) := fun wx hb => join_yes l lv a b wx (hl.mono hb hl.1) ho (hlv.mono hb) wa wb f1 x y hx hy
    unfold JoinGives at HJ
    have HFx : Hid (∀ (p : Str), IsKd (allC l) p (joinKd (allC l) x y) → p.size ≤ 30 + a.size + b.size → ∀ wx, Below w.heap.size w wx → _) := fun p hp hs wx hb =>
      fits_yes l lv a p wx (hl.mono hb hl.1) ho (hlv.mono hb) ma (Nat.le_trans (show p.size ≤ 4194304 by omega) (by decide)) (kinds_iff.2 ⟨hr, ka, join_kind hF hx hy ka kb hp⟩) x _ hx hp
    have HFy : Hid (∀ (p : Str), IsKd (allC l) p (joinKd (allC l) x y) → p.size ≤ 30 + a.size + b.size → ∀ wx, Below w.heap.size w wx → _) := fun p hp hs wx hb =>
      fits_yes l lv b p wx (hl.mono hb hl.1) ho (hlv.mono hb) mb (Nat.le_trans (show p.size ≤ 4194304 by omega) (by decide)) (kinds_iff.2 ⟨hr, kb, join_kind hF hx hy ka kb hp⟩) y _ hy hp
    rw [le_fits hR hx.2 u1] at HFx
    rw [le_fits hR hy.2 u2] at HFy
    have HSr : Hid (∀ (p : Str), p.size ≤ 30 + a.size + b.size → ∀ wx, Below w.heap.size w wx → _) := fun p hs wx hb =>
      below_some l lv p c wx (hl.mono hb hl.1) ho (hlv.mono hb) (by omega) wc
    unfold BelowSome at HSr
    by_cases f2 : kindsFault l a c = 0
    · obtain ⟨_, _, kc⟩ := kinds_iff.1 f2
      obtain ⟨z, hz⟩ := kind_of kc
      have HP : Hid (∀ wx, Below w.heap.size w wx → _) := fun wx hb => below_yes l lv a c wx (hl.mono hb hl.1) ho (hlv.mono hb) wa wc f2 x z hx hz
      have HQ : Hid (∀ wx, Below w.heap.size w wx → _) := fun wx hb' => below_yes l lv b c wx (hl.mono hb' hl.1) ho (hlv.mono hb') wb wc (kinds_iff.2 ⟨hr, kb, kc⟩) y z hy hz
      have HR : Hid (∀ (p : Str), IsKd (allC l) p (joinKd (allC l) x y) → p.size ≤ 30 + a.size + b.size → ∀ wx, Below w.heap.size w wx → _) := fun p hp hs wx hb =>
        below_yes l lv p c wx (hl.mono hb hl.1) ho (hlv.mono hb) (by omega) wc (kinds_iff.2 ⟨hr, join_kind hF hx hy ka kb hp, kc⟩) _ z hp hz
      have hlub : decide (joinKd (allC l) x z = z) = true → decide (joinKd (allC l) y z = z) = true → decide (joinKd (allC l) (joinKd (allC l) x y) z = z) = true := fun h1 h2 =>
        decide_eq_true ((join_le hR.tree (object_known l) u3 hz.2).2 (joinKd_lub hR.tree hx.2 hy.2 ((join_le hR.tree (object_known l) hx.2 hz.2).1 (of_decide_eq_true h1)) ((join_le hR.tree (object_known l) hy.2 hz.2).1 (of_decide_eq_true h2))))
      obtain ⟨pl, cap, rfl, _⟩ := hlv.open
      clear hl ho hlv HSr hx hy hz ha hb hc wa wb wc ma mb mc hR hF hr ka kb kc f1 f2 u1 u2 u3
      generalize decide (joinKd (allC l) (joinKd (allC l) x y) z = z) = r at *
      generalize decide (joinKd (allC l) x z = z) = p at *
      generalize decide (joinKd (allC l) y z = z) = q at *
      generalize joinKd (allC l) x y = k at *
      have hor : (!p || !q || r) = true := by cases p <;> cases q <;> cases r <;> simp at *
      clear hlub
      cases p <;> cases q <;> cases r <;> first | (exact absurd hor (by decide)) | skip
      all_goals
        clear hor
        go_enter Tryz.func12, Tryz.ntmps12
        go_wp2_with (first
          | (go_at_call 42; (with_reducible refine (HCat.out _ (Below.refl _ _)).mono ?_); rintro e w2 ⟨rfl, hB2⟩)
          | (go_at_call 43; (with_reducible refine (HJ.out _ hB2).mono ?_); rintro e w3 ⟨z3, rfl, hz3, hs3, hB3'⟩; (have hB3 := below_call hB2 (Nat.le_refl _) hB3'); (have X3 := Lib.hid (HFx.out z3 hz3 hs3)); (have Y3 := Lib.hid (HFy.out z3 hz3 hs3)); (have R3 := Lib.hid (HR.out z3 hz3 hs3)); clear hB3' hz3 hs3)
          | (go_at_call 38; (with_reducible refine (X3.out _ hB3).mono ?_); rintro e w4 ⟨rfl, hB4'⟩; (have hB4 := below_call hB3 (Nat.le_refl _) hB4'); clear hB4')
          | (go_at_call 38; (with_reducible refine (Y3.out _ hB4).mono ?_); rintro e w5 ⟨rfl, hB5'⟩; (have hB5 := below_call hB4 (Nat.le_refl _) hB5'); clear hB5')
          | (go_at_call 44; (with_reducible refine (HP.out _ hB5).mono ?_); rintro e w6 ⟨rfl, hB6'⟩; (have hB6 := below_call hB5 (Nat.le_refl _) hB6'); clear hB6')
          | (go_at_call 44; (with_reducible refine (HQ.out _ hB6).mono ?_); rintro e w7 ⟨rfl, hB7'⟩; (have hB7 := below_call hB6 (Nat.le_refl _) hB7'); clear hB7')
          | (go_at_call 44; (with_reducible refine (R3.out _ hB7).mono ?_); rintro e w8 ⟨rfl, hB8'⟩; (have hB8 := below_call hB7 (Nat.le_refl _) hB8'); clear hB8'))
        go_ret
        exact ⟨rfl, hB8⟩
    · have HP : Hid (∀ wx, Below w.heap.size w wx → _) := fun wx hb => below_no l lv a c wx (hl.mono hb hl.1) ho (hlv.mono hb) ma mc f2
      have HQ : Hid (∀ wx, Below w.heap.size w wx → _) := fun wx hb' => below_some l lv b c wx (hl.mono hb' hl.1) ho (hlv.mono hb') wb wc
      unfold BelowSome at HQ
      obtain ⟨pl, cap, rfl, _⟩ := hlv.open
      clear hl ho hlv hx hy ha hb hc wa wb wc ma mb mc hR hF hr ka kb f1 f2 u1 u2 u3
      generalize kindsFault l a c = f at *
      generalize joinKd (allC l) x y = k at *
      go_enter Tryz.func12, Tryz.ntmps12
      go_wp2_with (first
        | (go_at_call 42; (with_reducible refine (HCat.out _ (Below.refl _ _)).mono ?_); rintro e w2 ⟨rfl, hB2⟩)
        | (go_at_call 43; (with_reducible refine (HJ.out _ hB2).mono ?_); rintro e w3 ⟨z3, rfl, hz3, hs3, hB3'⟩; (have hB3 := below_call hB2 (Nat.le_refl _) hB3'); (have X3 := Lib.hid (HFx.out z3 hz3 hs3)); (have Y3 := Lib.hid (HFy.out z3 hz3 hs3)); (have R3 := Lib.hid (HSr.out z3 hs3)); clear hB3' hz3 hs3)
        | (go_at_call 38; (with_reducible refine (X3.out _ hB3).mono ?_); rintro e w4 ⟨rfl, hB4'⟩; (have hB4 := below_call hB3 (Nat.le_refl _) hB4'); clear hB4')
        | (go_at_call 38; (with_reducible refine (Y3.out _ hB4).mono ?_); rintro e w5 ⟨rfl, hB5'⟩; (have hB5 := below_call hB4 (Nat.le_refl _) hB5'); clear hB5')
        | (go_at_call 44; (with_reducible refine (HP.out _ hB5).mono ?_); rintro e w6 ⟨rfl, hB6'⟩; (have hB6 := below_call hB5 (Nat.le_refl _) hB6'); clear hB6')
        | (go_at_call 44; (with_reducible refine (HQ.out _ hB6).mono ?_); rintro e w7 ⟨r7, v7, rfl, hB7'⟩; (have hB7 := below_call hB6 (Nat.le_refl _) hB7'); clear hB7')
        | (go_at_call 44; (with_reducible refine (R3.out _ hB7).mono ?_); rintro e w8 ⟨r8, v8, rfl, hB8'⟩; (have hB8 := below_call hB7 (Nat.le_refl _) hB8'); clear hB8'))
      go_ret
      exact ⟨rfl, hB8⟩
  · have HJ : Hid (∀ wx, Below w.heap.size w wx → _) := fun wx hb => join_no l lv a b wx (hl.mono hb hl.1) ho (hlv.mono hb) ma mb f1
    obtain ⟨pl, cap, rfl, _⟩ := hlv.open
    clear hl ho hlv ha hb hc wa wb wc ma mb mc f1
    generalize kindsFault l a b = f at *
    go_enter Tryz.func12, Tryz.ntmps12
    go_wp2_with (first
      | (go_at_call 42; (with_reducible refine (HCat.out _ (Below.refl _ _)).mono ?_); rintro e w2 ⟨rfl, hB2⟩)
      | (go_at_call 43; (with_reducible refine (HJ.out _ hB2).mono ?_); rintro e w3 ⟨rfl, hB3'⟩; (have hB3 := below_call hB2 (Nat.le_refl _) hB3'); clear hB3'))
    go_ret
    exact ⟨rfl, hB3⟩
end Go.Proofs.YtpjkpmmjehnahaaGreatDoor
