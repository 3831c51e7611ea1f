/-
  WALKS over same.Method, of a method without code and handlers; blocks that are stored to.
-/
import Derived.Test.YtehhmedjgmbpgaaGreatDoorFind
namespace Go.Proofs.YtehhmedjgmbpgaaGreatDoor
open Go.RowKit Go.Shelf Go.Lib
theorem Blk.put {w : World} {b : Nat} {t : TypeId} {vals : List Value} (h : Blk w b t vals) (j : Nat) (v : Value) : Blk (w.setCell ⟨b, j, none⟩ v) b t (vals.set j v) := by
  unfold Blk at *
  rw [heap_setCell_same w b j _ t v h]
  simp
theorem Blk.other {w : World} {b b' : Nat} {t : TypeId} {vals : List Value} (h : Blk w b t vals) (hne : b ≠ b') (j : Nat) (v : Value) : Blk (w.setCell ⟨b', j, none⟩ v) b t vals := by
  unfold Blk at *
  rw [heap_setCell_other w ⟨b', j, none⟩ b v hne]; exact h
theorem Blk.put2 {w : World} {b : Nat} {t : TypeId} {a0 a1 : Value} (h : Blk w b t [a0, a1]) (v0 v1 : Value) : Blk ((w.setCell ⟨b, 0, none⟩ v0).setCell ⟨b, 1, none⟩ v1) b t [v0, v1] := (h.put 0 v0).put 1 v1
theorem Blk.put8 {w : World} {b : Nat} {t : TypeId} {a0 a1 a2 a3 a4 a5 a6 a7 : Value} (h : Blk w b t [a0, a1, a2, a3, a4, a5, a6, a7]) (v0 v1 v2 v3 v4 v5 v6 v7 : Value) :
    Blk ((((((((w.setCell ⟨b, 0, none⟩ v0).setCell ⟨b, 1, none⟩ v1).setCell ⟨b, 2, none⟩ v2).setCell ⟨b, 3, none⟩ v3).setCell ⟨b, 4, none⟩ v4).setCell ⟨b, 5, none⟩ v5).setCell ⟨b, 6, none⟩ v6).setCell ⟨b, 7, none⟩ v7) b t [v0, v1, v2, v3, v4, v5, v6, v7] :=
  (((((((h.put 0 v0).put 1 v1).put 2 v2).put 3 v3).put 4 v4).put 5 v5).put 6 v6).put 7 v7
theorem Blk.other8 {w : World} {b b' : Nat} {t : TypeId} {vals : List Value} (h : Blk w b t vals) (hne : b ≠ b') (v0 v1 v2 v3 v4 v5 v6 v7 : Value) :
    Blk ((((((((w.setCell ⟨b', 0, none⟩ v0).setCell ⟨b', 1, none⟩ v1).setCell ⟨b', 2, none⟩ v2).setCell ⟨b', 3, none⟩ v3).setCell ⟨b', 4, none⟩ v4).setCell ⟨b', 5, none⟩ v5).setCell ⟨b', 6, none⟩ v6).setCell ⟨b', 7, none⟩ v7) b t vals :=
  (((((((h.other hne 0 v0).other hne 1 v1).other hne 2 v2).other hne 3 v3).other hne 4 v4).other hne 5 v5).other hne 6 v6).other hne 7 v7
theorem Blk.cells2 {w : World} {b : Nat} {t : TypeId} {a0 a1 : Value} (h : Blk w b t [a0, a1]) : w.cell? ⟨b, 0, none⟩ = some a0 ∧ w.cell? ⟨b, 1, none⟩ = some a1 := ⟨h.cell 0, h.cell 1⟩
theorem Blk.cells8 {w : World} {b : Nat} {t : TypeId} {a0 a1 a2 a3 a4 a5 a6 a7 : Value} (h : Blk w b t [a0, a1, a2, a3, a4, a5, a6, a7]) :
    w.cell? ⟨b, 0, none⟩ = some a0 ∧ w.cell? ⟨b, 1, none⟩ = some a1 ∧ w.cell? ⟨b, 2, none⟩ = some a2 ∧ w.cell? ⟨b, 3, none⟩ = some a3 ∧ w.cell? ⟨b, 4, none⟩ = some a4 ∧ w.cell? ⟨b, 5, none⟩ = some a5 ∧ w.cell? ⟨b, 6, none⟩ = some a6 ∧ w.cell? ⟨b, 7, none⟩ = some a7 :=
  ⟨h.cell 0, h.cell 1, h.cell 2, h.cell 3, h.cell 4, h.cell 5, h.cell 6, h.cell 7⟩
end Go.Proofs.YtehhmedjgmbpgaaGreatDoor
