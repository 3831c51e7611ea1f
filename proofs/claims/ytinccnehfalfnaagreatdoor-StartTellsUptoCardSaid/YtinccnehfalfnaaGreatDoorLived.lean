/-
  WALKS over the law's beasts and lived: a closed fact.
-/
import Derived.Test.YtinccnehfalfnaaGreatDoorTexts
namespace Go.Proofs.YtinccnehfalfnaaGreatDoor
open Go.RowKit Go.Shelf Go.Lib
def sCat : Str := ⟨#[67, 97, 116]⟩
def sBeast : Str := ⟨#[66, 101, 97, 115, 116]⟩
def beastsL : List Class := [⟨sCat, sBeast, [], false, [], []⟩, ⟨sBeast, sObject, [], false, [], []⟩]
theorem beasts_fault : namedFault beastsL sCat = 0 := by decide +kernel
theorem beasts_line : lineC (allC beastsL) sCat = [sCat, sBeast, sObject] := by decide +kernel
theorem beasts_ok : ∀ c ∈ beastsL, ClassOk c := by
  intro c hc
  simp only [beastsL, List.mem_cons, List.mem_nil_iff, or_false] at hc
  rcases hc with rfl | rfl
  · exact ⟨by decide, by decide, (fun x h => by cases h), (fun x h => by cases h), (fun x h => by cases h)⟩
  · exact ⟨by decide, by decide, (fun x h => by cases h), (fun x h => by cases h), (fun x h => by cases h)⟩
set_option maxRecDepth 100000 in
theorem beasts_any (w : World) : Calls Tryz.prog 22 #[] w fun e w' => (∃ v, e = .returned v ∧ ClassesAt w' v beastsL) ∧ Below w.heap.size w w' := by
  go_enter Tryz.func22, Tryz.ntmps22
  go_wp2
  go_ret
  refine ⟨⟨_, rfl, Or.inr ⟨_, 2, rfl, by decide, by decide, fun i x hi => ?_⟩⟩, (Below.refl _ _).alloc (Nat.le_refl _) _⟩
  have none2 : ∀ {α : Type} (k : Nat) (R : α → List Value → Prop) (W : World), SliceOf W k R (.slice none 0 0) [] := fun k R W => Or.inl ⟨rfl, rfl⟩
  match i, hi with
  | 0, hi => simp [beastsL] at hi; subst hi; exact ⟨_, ⟨_, _, _, rfl, none2 _ _ _, none2 _ _ _, none2 _ _ _⟩, rfl, rfl, by simp [Cells, sCat, sBeast]⟩
  | 1, hi => simp [beastsL] at hi; subst hi; exact ⟨_, ⟨_, _, _, rfl, none2 _ _ _, none2 _ _ _, none2 _ _ _⟩, rfl, rfl, by simp [Cells, sObject, sBeast]⟩
set_option maxRecDepth 100000 in
theorem lived_any (w : World) (hl : Laid w) : Calls Tryz.prog 14 #[] w fun e w' => e = .returned (.bool true) ∧ Below w.heap.size w w' := by
  have HS : Hid (∀ wx lv, Below w.heap.size w wx → ClassesAt wx lv beastsL → _) := fun wx lv hb h => supers_any beastsL lv sCat wx (hl.mono hb hl.1) beasts_ok h (by decide)
  rw [beasts_fault, beasts_line] at HS
  have HT : Hid (∀ wx va vb, StrsAt wx va [sCat, sBeast, sObject] → StrsAt wx vb [sCat, sBeast, sObject] → _) := fun wx va vb h1 h2 => texts_any _ _ va vb wx h1 h2
  have HB : Hid (∀ wx, _) := fun wx => beasts_any wx
  simp only [sCat] at HS
  go_enter Tryz.func14, Tryz.ntmps14
  go_upto_region 2 with (first
    | (go_at_call 22; (with_reducible refine (HB.out _).mono ?_); rintro e w2 ⟨⟨v, rfl, hv⟩, hB2⟩; obtain ⟨pb, kb, rfl, _⟩ := hv.open)
    | (go_at_call 17; (with_reducible refine (HS.out _ _ hB2 hv).mono ?_); rintro e w3 ⟨hB3, ⟨_, v3, rfl, hv3⟩ | ⟨hz, _⟩⟩; rotate_left; (exact absurd rfl hz)))
  obtain ⟨p3, k3, rfl, _⟩ := hv3.open
  simp only [List.length_cons, List.length_nil, Nat.zero_add, Nat.reduceAdd] at hv3 ⊢
  have hn3 : StrsAt (w3.alloc (.cells #[.string sCat, .string sBeast, .string sObject] 9)) (.slice (some ⟨w3.heap.size, 0, none⟩) 3 3) [sCat, sBeast, sObject] :=
    Or.inr ⟨_, 3, rfl, by decide, by decide, fun i x hi => by
      match i, hi with
      | 0, hi => simp at hi; subst hi; exact ⟨_, rfl, rfl, rfl, by simp [Cells]⟩
      | 1, hi => simp at hi; subst hi; exact ⟨_, rfl, rfl, rfl, by simp [Cells]⟩
      | 2, hi => simp at hi; subst hi; exact ⟨_, rfl, rfl, rfl, by simp [Cells]⟩⟩
  have ht := HT.out _ _ _ (hv3.mono ((Below.refl _ _).alloc (Nat.le_refl _) (.cells #[.string sCat, .string sBeast, .string sObject] 9))) hn3
  simp only [sCat, sBeast, sObject, decide_true] at ht
  have HT2 := Lib.hid ht
  clear ht hn3 hv3
  go_wp2_with (go_at_call 13; (with_reducible refine HT2.out.mono ?_); rintro e w4 ⟨rfl, hB4⟩)
  go_ret
  exact ⟨rfl, below_call (below_call hB2 (Nat.le_refl _) hB3) (Nat.le_refl _) (below_call ((Below.refl _ _).alloc (Nat.le_refl _) _) (Nat.le_refl _) hB4)⟩
end Go.Proofs.YtinccnehfalfnaaGreatDoor
