/-
  ARGUMENTS: a list of maps that was handed in, read as data. Conditions: those of the reading.
-/
import Derived.Test.YtlmfmioljeppfaaGreatDoorAccept
import Derived.Test.YtlmfmioljeppfaaGreatDoorArgs
namespace Go.Proofs.YtlmfmioljeppfaaGreatDoor
open Go.RowKit Go.Shelf Go.Lib Go.ChangeShapes Go.WideShapes Go.Deep
theorem cellsMap : Tryz.prog.cellsOf 62 = 3 := by kernel_rfl
section
variable {H : Type} {enc : TypeId × Value → H} {w : World} {base : Nat} {sp : Nat → Bool} {held : Bool}
set_option maxRecDepth 100000 in
theorem read_map (fuel : Nat) (cs : List Value) (y : DataW H × List MemPlace) (hl : cs.length = 3) (h : DataW.trod enc Tryz.prog w base sp held fuel 62 cs = some y) : ∃ x : Int × Frm, MapCellsI w x cs ∧ Small (fun x : Int × Frm => FrmShort x.2) x y.1 := by
  obtain ⟨xs, n, _, rfl, _, hlen, hf⟩ := DataW.trod_struct Tryz.underlying62 h
  match cs, hl, xs, hlen with
  | [v0, v1, v2], _, [y0, y1], _ =>
    obtain ⟨n0, e0, r0, w0⟩ := DataW.trod_int Tryz.underlying3 (hf 0 _ rfl)
    have h1 := hf 1 _ rfl
    simp [cellsInt] at e0
    simp [cellsFrame] at h1
    obtain ⟨x, lv, sv, e1, g1, k1⟩ := read_frame _ _ _ rfl h1
    injection e1 with e1 e2
    injection e2 with e2
    subst e0 e1 e2 r0
    refine ⟨(n0, x), ⟨_, _, rfl, g1⟩, fun hb => k1 ?_⟩
    simp [Rows.uptoBulk, Rows.uptoBulkAll] at hb
    omega
theorem read_maps {fuel : Nat} {v : Value} {x : DataW H × List MemPlace} (h : DataW.trod enc Tryz.prog w base sp held fuel 56 [v] = some x) (hb : Rows.uptoBulk x.1 ≤ 1048576) : ∃ l, MapsAtI w v l ∧ ∀ c ∈ l, FrmShort c.2 := by
  obtain ⟨l, g, k⟩ := open_sl (MapCellsI w) (Small fun x : Int × Frm => FrmShort x.2) Tryz.underlying56 cellsMap (by decide) read_map h
  exact ⟨l, g, (sl_small k hb).1⟩
end
end Go.Proofs.YtlmfmioljeppfaaGreatDoor
