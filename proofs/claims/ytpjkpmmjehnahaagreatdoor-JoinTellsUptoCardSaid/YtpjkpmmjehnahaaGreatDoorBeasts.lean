/-
  WALK over the law's beasts.
-/
import Derived.Test.YtpjkpmmjehnahaaGreatDoorTexts
namespace Go.Proofs.YtpjkpmmjehnahaaGreatDoor
open Go.RowKit Go.Shelf Go.Lib
def sCat : Str := ⟨#[67, 97, 116]⟩
def sBeast : Str := ⟨#[66, 101, 97, 115, 116]⟩
def beastsL : List Class := [⟨sCat, sBeast, [], false, [], []⟩, ⟨sBeast, sObject, [], false, [], []⟩]
theorem beasts_fault : namedFault beastsL sCat = 0 := by decide +kernel
theorem beasts_line : lineC (allC beastsL) sCat = [sCat, sBeast, sObject] := by decide +kernel
theorem beasts_ok : ∀ c ∈ beastsL, ClassOk c := by
  intro c hc
  simp only [beastsL, List.mem_cons, List.mem_nil_iff, or_false] at hc
  rcases hc with rfl | rfl
  · exact ⟨by decide, by decide, (fun x h => by cases h), (fun x h => by cases h), (fun x h => by cases h)⟩
  · exact ⟨by decide, by decide, (fun x h => by cases h), (fun x h => by cases h), (fun x h => by cases h)⟩
set_option maxRecDepth 100000 in
theorem beasts_any (w : World) : Calls Tryz.prog 68 #[] w fun e w' => (∃ v, e = .returned v ∧ ClassesAt w' v beastsL) ∧ Below w.heap.size w w' := by
  go_enter Tryz.func68, Tryz.ntmps68
  go_wp2
  go_ret
  refine ⟨⟨_, rfl, Or.inr ⟨_, 2, rfl, by decide, by decide, fun i x hi => ?_⟩⟩, (Below.refl _ _).alloc (Nat.le_refl _) _⟩
  have none2 : ∀ {α : Type} (k : Nat) (R : α → List Value → Prop) (W : World), SliceOf W k R (.slice none 0 0) [] := fun k R W => Or.inl ⟨rfl, rfl⟩
  match i, hi with
  | 0, hi => simp [beastsL] at hi; subst hi; exact ⟨_, ⟨_, _, _, rfl, none2 _ _ _, none2 _ _ _, none2 _ _ _⟩, rfl, rfl, by simp [Cells, sCat, sBeast]⟩
  | 1, hi => simp [beastsL] at hi; subst hi; exact ⟨_, ⟨_, _, _, rfl, none2 _ _ _, none2 _ _ _, none2 _ _ _⟩, rfl, rfl, by simp [Cells, sObject, sBeast]⟩
end Go.Proofs.YtpjkpmmjehnahaaGreatDoor
