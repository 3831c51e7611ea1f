/-
  WALK over the law's caught: a closed fact.
-/
import Derived.Test.YtfbobebcfpdaiaaGreatDoorWhich
namespace Go.Proofs.YtfbobebcfpdaiaaGreatDoor
open Go.RowKit Go.Shelf Go.Lib
def caughtH : Handler := ⟨0, 2, 5, sObject⟩
def caughtM : Method := ⟨.empty, .empty, false, false, false, 0, [], [caughtH]⟩
theorem caught_plain : whichR [] caughtM.handlers 1 sFault = (5, 0) := by decide +kernel
set_option maxHeartbeats 1000000 in
set_option maxRecDepth 100000 in
theorem caught_any (w : World) (hl : Laid w) : Calls Tryz.prog 15 #[] w fun e w' => e = .returned (.bool true) ∧ Below w.heap.size w w' := by
  have hB := (Below.refl w.heap.size w).alloc (Nat.le_refl _) (.cells #[.int .i64 0, .int .i64 2, .int .i64 5, .string sObject] 88)
  have HW := Lib.hid (which_any [] (.slice none 0 0) caughtM (.slice none 0 0) (.slice (some ⟨w.heap.size, 0, none⟩) 1 1) 1 sFault _ (hl.mono hB hl.1) (fun c hc => by cases hc) (Or.inl ⟨rfl, rfl⟩)
    (fun h hh => by
      simp only [caughtM, List.mem_singleton] at hh; subst hh
      exact ⟨by unfold bd64; decide, by unfold bd64; decide, by unfold bd64; decide, by decide⟩)
    (Or.inr ⟨_, 1, rfl, by decide, by decide, fun i x hi => by
      simp only [caughtM] at hi
      match i, hi with
      | 0, hi => simp at hi; subst hi; exact ⟨_, rfl, rfl, rfl, by simp [Cells, caughtH]⟩⟩) (by decide) 5 0 caught_plain)
  have HB := Lib.hid hB
  clear hB
  simp only [methodV, caughtM, caughtH, sObject, sFault, show ByteArray.empty = ⟨#[]⟩ from rfl, show errV 0 = .nilIface from rfl] at HW HB
  go_enter Tryz.func15, Tryz.ntmps15
  go_wp2_with (go_at_call 19; (with_reducible refine HW.out.mono ?_); rintro e w2 ⟨rfl, hB2⟩)
  go_ret
  exact ⟨rfl, below_call HB.out (Nat.le_refl _) hB2⟩
end Go.Proofs.YtfbobebcfpdaiaaGreatDoor
