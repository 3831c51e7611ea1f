/-
  WALK over the law's heaped. Conditions: the laid variables.
-/
import Derived.Test.YtbakcdgjibmceaaGreatDoorHeapNew
import Derived.Test.YtbakcdgjibmceaaGreatDoorRefHeapF
namespace Go.Proofs.YtbakcdgjibmceaaGreatDoor
open Go.RowKit Go.Shelf Go.Lib
def sI : Str := ⟨#[73]⟩
theorem heaped_arr : arrR [] [] sI 2 = 0 := by decide +kernel
theorem heaped_thing : (freshA sI (2 : Int).toNat).has.length = 2 := by decide +kernel
/-- a heap and a value, boxed -/
structure HV (w wx : World) (a b c : Value) : Prop where
  below : Below w.heap.size w wx
  c0 : wx.cell? ⟨w.heap.size, 0, none⟩ = some a
  c1 : wx.cell? ⟨w.heap.size + 1, 0, none⟩ = some b
  c2 : wx.cell? ⟨w.heap.size + 1, 1, none⟩ = some c
theorem HV.get {w wx : World} {a b c : Value} (h : HV w wx a b c) : wx.cell? ⟨w.heap.size, 0, none⟩ = some a ∧ wx.cell? ⟨w.heap.size + 1, 0, none⟩ = some b ∧ wx.cell? ⟨w.heap.size + 1, 1, none⟩ = some c := ⟨h.c0, h.c1, h.c2⟩
theorem HV.step {w wx wy : World} {a b c : Value} (h : HV w wx a b c) (hb : Below wx.heap.size wx wy) : HV w wy a b c :=
  ⟨below_call h.below (Nat.le_refl _) hb, (hb.cell (p := ⟨w.heap.size, 0, none⟩) (hcells_lt h.c0)).trans h.c0, (hb.cell (p := ⟨w.heap.size + 1, 0, none⟩) (hcells_lt h.c1)).trans h.c1, (hb.cell (p := ⟨w.heap.size + 1, 1, none⟩) (hcells_lt h.c2)).trans h.c2⟩
theorem HV.new (w : World) (a b c : Value) (t u : TypeId) : HV w ((w.alloc (.cells #[a] t)).alloc (.cells #[b, c] u)) a b c :=
  ⟨((Below.refl _ _).alloc (Nat.le_refl _) _).alloc (by simp) _, by simp, by simp, by simp⟩
set_option maxHeartbeats 1000000 in
set_option maxRecDepth 100000 in
theorem heaped_any (w : World) (hl : Laid w) : Calls Tryz.prog 10 #[] w fun e w' => e = .returned (.bool true) ∧ Below w.heap.size w w' := by
  have HA := Lib.hid (heapArray_any [] (.slice none 0 0) [] (.slice none 0 0) sI 2 w hl (fun _ h => by cases h) (Or.inl ⟨rfl, rfl⟩) (Or.inl ⟨rfl, rfl⟩) (fun _ h => by cases h) (by decide))
  rw [heaped_arr] at HA
  have hx := Lib.hid heaped_thing
  generalize freshA sI (2 : Int).toNat = x at *
  unfold MakePost at HA
  simp only [sI] at HA
  go_enter Tryz.func10, Tryz.ntmps10
  go_upto_region 2 with (go_at_call 22; (with_reducible refine HA.out.mono ?_); rintro e w2 ⟨hB2, ⟨_, v, rfl, hv⟩ | ⟨hz, _⟩⟩; rotate_left; (exact absurd rfl hz); obtain ⟨p, c, rfl, hc1, hc2, hcc⟩ := hv.open; obtain ⟨b, o, vs, rfl, ⟨xv, rfl, hvs⟩, _, hcells⟩ := hcc 0 x rfl; obtain ⟨p2, c2, rfl, _⟩ := hvs.open)
  obtain ⟨c0, c1, _⟩ := hcells
  rw [hx.out, Nat.zero_mul, Nat.add_zero] at c1
  have c2' := Lib.cell?_alloc_some (.cells #[.slice (some ⟨b, o, none⟩) 1 c] 25) c1
  have hb2 := Lib.hid (hB2.alloc hB2.size (.cells #[.slice (some ⟨b, o, none⟩) 1 c] 25))
  clear hvs hcc hv hB2 c0 c1
  go_wp2_with (first | fail)
  go_ret
  exact ⟨rfl, hb2.out⟩
end Go.Proofs.YtbakcdgjibmceaaGreatDoor
