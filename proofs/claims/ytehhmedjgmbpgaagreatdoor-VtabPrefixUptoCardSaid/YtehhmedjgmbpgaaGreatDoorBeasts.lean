/-
  WALK over the law's beasts.
-/
import Derived.Test.YtehhmedjgmbpgaaGreatDoorTexts
namespace Go.Proofs.YtehhmedjgmbpgaaGreatDoor
open Go.RowKit Go.Shelf Go.Lib
def sCat : Str := ⟨#[67, 97, 116]⟩
def sBeast : Str := ⟨#[66, 101, 97, 115, 116]⟩
def beastsL : List Class := [⟨sCat, sBeast, [], false, [], []⟩, ⟨sBeast, sObject, [], false, [], []⟩]
theorem beasts_fault : namedFault beastsL sCat = 0 := by decide +kernel
theorem beasts_line : lineC (allC beastsL) sCat = [sCat, sBeast, sObject] := by decide +kernel
theorem beasts_ok : ∀ c ∈ beastsL, ClassOk c := by
  intro c hc
  simp only [beastsL, List.mem_cons, List.mem_nil_iff, or_false] at hc
  rcases hc with rfl | rfl
  · exact ⟨by decide, by decide, (fun x h => by cases h), (fun x h => by cases h), (fun x h => by cases h)⟩
  · exact ⟨by decide, by decide, (fun x h => by cases h), (fun x h => by cases h), (fun x h => by cases h)⟩
end Go.Proofs.YtehhmedjgmbpgaaGreatDoor
