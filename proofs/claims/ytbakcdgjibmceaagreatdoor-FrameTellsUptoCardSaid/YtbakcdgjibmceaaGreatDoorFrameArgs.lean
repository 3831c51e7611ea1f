/-
  READING FRAMES: frames that are read as data of small bulk.
-/
import Derived.Test.YtbakcdgjibmceaaGreatDoorArgs
import Derived.Test.YtbakcdgjibmceaaGreatDoorFrameOps
namespace Go.Proofs.YtbakcdgjibmceaaGreatDoor
open Go.RowKit Go.Shelf Go.Lib Go.ChangeShapes Go.WideShapes Go.Deep
theorem cellsFrame : Tryz.prog.cellsOf 64 = 2 := by kernel_rfl
section
variable {H : Type} {enc : TypeId × Value → H} {w : World} {base : Nat} {sp : Nat → Bool} {held : Bool}
set_option maxRecDepth 100000 in
theorem read_frame (fuel : Nat) (cs : List Value) (y : DataW H × List MemPlace) (hl : cs.length = 2) (h : DataW.trod enc Tryz.prog w base sp held fuel 64 cs = some y) : ∃ (x : Frm) (lv sv : Value), cs = [lv, sv] ∧ FrameAt w lv sv x ∧ Small FrmShort x y.1 := by
  obtain ⟨xs, n, _, rfl, _, hlen, hf⟩ := DataW.trod_struct Tryz.underlying64 h
  match cs, hl, xs, hlen with
  | [v0, v1], _, [y0, y1], _ =>
    have h0 := hf 0 _ rfl
    have h1 := hf 1 _ rfl
    simp [cellsStrs] at h0 h1
    obtain ⟨l0, g0, k0⟩ := open_sl StrCells (Small fun s : ByteArray => s.size ≤ 1048576) Tryz.underlying43 cellsStr (by decide) read_str h0
    obtain ⟨l1, g1, k1⟩ := open_sl StrCells (Small fun s : ByteArray => s.size ≤ 1048576) Tryz.underlying43 cellsStr (by decide) read_str h1
    refine ⟨⟨l0, l1⟩, v0, v1, rfl, ⟨g0, g1⟩, fun hb => ?_⟩
    simp [Rows.uptoBulk, Rows.uptoBulkAll] at hb
    obtain ⟨o0, _⟩ := sl_small k0 (by omega)
    obtain ⟨o1, _⟩ := sl_small k1 (by omega)
    exact ⟨fun k hk => Nat.le_trans (o0 k hk) (by decide), fun k hk => Nat.le_trans (o1 k hk) (by decide)⟩
end
end Go.Proofs.YtbakcdgjibmceaaGreatDoor
