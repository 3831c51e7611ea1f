/-
  WALK over the law's beasts.
  WALKS over sub.Read, Fits, Is and the law's catIs. Conditions: as in XRead; texts of at most maxLen signs.
-/
import Derived.Test.YtbakcdgjibmceaaGreatDoorTexts
import Derived.Test.YtbakcdgjibmceaaGreatDoorSub
import Derived.Test.YtbakcdgjibmceaaGreatDoorRow
import Derived.Test.YtbakcdgjibmceaaGreatDoorFaults
namespace Go.Proofs.YtbakcdgjibmceaaGreatDoor
open Go.RowKit Go.Shelf Go.Lib
def sCat : Str := ⟨#[67, 97, 116]⟩
def sBeast : Str := ⟨#[66, 101, 97, 115, 116]⟩
def beastsL : List Class := [⟨sCat, sBeast, [], false, [], []⟩, ⟨sBeast, sObject, [], false, [], []⟩]
theorem beasts_fault : namedFault beastsL sCat = 0 := by decide +kernel
theorem beasts_line : lineC (allC beastsL) sCat = [sCat, sBeast, sObject] := by decide +kernel
theorem beasts_ok : ∀ c ∈ beastsL, ClassOk c := by
  intro c hc
  simp only [beastsL, List.mem_cons, List.mem_nil_iff, or_false] at hc
  rcases hc with rfl | rfl
  · exact ⟨by decide, by decide, (fun x h => by cases h), (fun x h => by cases h), (fun x h => by cases h)⟩
  · exact ⟨by decide, by decide, (fun x h => by cases h), (fun x h => by cases h), (fun x h => by cases h)⟩
end Go.Proofs.YtbakcdgjibmceaaGreatDoor
namespace Go.Proofs.YtbakcdgjibmceaaGreatDoor
open Go.RowKit Go.Shelf Go.Lib
theorem cmp01 (w : World) : (binOp .eql 30 .nilIface (.iface 35 (.int .i64 1))).run Tryz.prog w = .ok (.bool false) w := by kernel_rfl
theorem cmp11 (w : World) : (binOp .eql 30 (.iface 35 (.int .i64 1)) (.iface 35 (.int .i64 1))).run Tryz.prog w = .ok (.bool true) w := by kernel_rfl
theorem cmp31 (w : World) : (binOp .eql 30 (.iface 35 (.int .i64 3)) (.iface 35 (.int .i64 1))).run Tryz.prog w = .ok (.bool false) w := by kernel_rfl
def SubPost (w : World) (l : List Class) (a b : Str) (e : Ending) (w' : World) : Prop :=
  Below w.heap.size w w' ∧
  ((kindsFault l a b = 0 ∧ e = .returned (.tuple #[.map (some w.heap.size), .nilIface]) ∧ WorldMap w w' w.heap.size l) ∨
   (kindsFault l a b ≠ 0 ∧ e = .returned (.tuple #[.map none, .iface 35 (.int .i64 (kindsFault l a b))])))
theorem sub_no {w w' : World} {l : List Class} {a b : Str} {k : Nat} (hb : Below w.heap.size w w') (h : kindsFault l a b = k) (hn : k ≠ 0) : SubPost w l a b (.returned (.tuple #[.map none, .iface 35 (.int .i64 k)])) w' := by
  subst h; exact ⟨hb, Or.inr ⟨hn, rfl⟩⟩
/-- .. whatever the kinds are -/
def FitsSome (w : World) (e : Ending) (w' : World) : Prop := ∃ r v, e = .returned (.tuple #[.bool r, v]) ∧ Below w.heap.size w w'
theorem cats_beast : namedFault beastsL sBeast = 0 ∧ memB (everyC (allC beastsL) sCat) sBeast = true ∧ memB (everyC (allC beastsL) sBeast) sCat = false := by decide +kernel
end Go.Proofs.YtbakcdgjibmceaaGreatDoor
