/-
  READING HEAPS: values, things, heaps that are read as data of small bulk.
-/
import Derived.Test.YtbakcdgjibmceaaGreatDoorArgs
import Derived.Test.YtbakcdgjibmceaaGreatDoorHeap
namespace Go.Proofs.YtbakcdgjibmceaaGreatDoor
open Go.RowKit Go.Shelf Go.Lib Go.ChangeShapes Go.WideShapes Go.Deep
theorem cellsVal : Tryz.prog.cellsOf 27 = 2 := by kernel_rfl
theorem cellsThing : Tryz.prog.cellsOf 56 = 2 := by kernel_rfl
theorem cellsHeap : Tryz.prog.cellsOf 25 = 1 := by kernel_rfl
theorem cellsVals : Tryz.prog.cellsOf 54 = 1 := by kernel_rfl
theorem cellsThings : Tryz.prog.cellsOf 23 = 1 := by kernel_rfl
section
variable {H : Type} {enc : TypeId × Value → H} {w : World} {base : Nat} {sp : Nat → Bool} {held : Bool}
set_option maxRecDepth 100000 in
theorem read_val (fuel : Nat) (cs : List Value) (y : DataW H × List MemPlace) (hl : cs.length = 2) (h : DataW.trod enc Tryz.prog w base sp held fuel 27 cs = some y) : ∃ x, ValCells x cs ∧ Small (fun x : Val => bd64 x.kind ∧ bd64 x.n) x y.1 := by
  obtain ⟨xs, n, _, rfl, _, hlen, hf⟩ := DataW.trod_struct Tryz.underlying27 h
  match cs, hl, xs, hlen with
  | [v0, v1], _, [y0, y1], _ =>
    obtain ⟨n0, e0, r0, w0⟩ := DataW.trod_int Tryz.underlying3 (hf 0 _ rfl)
    obtain ⟨n1, e1, r1, w1⟩ := DataW.trod_int Tryz.underlying3 (hf 1 _ rfl)
    simp [cellsInt] at e0 e1
    subst e0 e1 r0 r1
    exact ⟨⟨n0, n1⟩, rfl, fun _ => ⟨bd_of w0, bd_of w1⟩⟩
set_option maxRecDepth 100000 in
theorem read_thing (fuel : Nat) (cs : List Value) (y : DataW H × List MemPlace) (hl : cs.length = 2) (h : DataW.trod enc Tryz.prog w base sp held fuel 56 cs = some y) : ∃ x, ThingCells w x cs ∧ Small (fun x : Thing => x.type.size ≤ 1048576) x y.1 := by
  obtain ⟨xs, n, _, rfl, _, hlen, hf⟩ := DataW.trod_struct Tryz.underlying56 h
  match cs, hl, xs, hlen with
  | [v0, v1], _, [y0, y1], _ =>
    obtain ⟨s0, e0, r0, _⟩ := DataW.trod_string Tryz.underlying9 (hf 0 _ rfl)
    have h1 := hf 1 _ rfl
    simp [cellsStr] at e0
    simp [cellsVals] at h1
    obtain ⟨l1, g1, k1⟩ := open_sl ValCells (Small (fun x : Val => bd64 x.kind ∧ bd64 x.n)) Tryz.underlying54 cellsVal (by decide) read_val h1
    subst e0 r0
    refine ⟨⟨s0, l1⟩, ⟨v1, rfl, g1⟩, fun hb => ?_⟩
    simp [Rows.uptoBulk, Rows.uptoBulkAll] at hb
    show s0.size ≤ _
    omega
set_option maxRecDepth 100000 in
theorem read_heap (fuel : Nat) (cs : List Value) (y : DataW H × List MemPlace) (hl : cs.length = 1) (h : DataW.trod enc Tryz.prog w base sp held fuel 25 cs = some y) : ∃ (x : List Thing) (hv : Value), cs = [hv] ∧ ThingsAt w hv x ∧ Small (fun x : List Thing => Short x ∧ x.length ≤ 1048576) x y.1 := by
  obtain ⟨xs, n, _, rfl, _, hlen, hf⟩ := DataW.trod_struct Tryz.underlying25 h
  match cs, hl, xs, hlen with
  | [v0], _, [y0], _ =>
    have h0 := hf 0 _ rfl
    simp [cellsThings] at h0
    obtain ⟨l0, g0, k0⟩ := open_sl (ThingCells w) (Small (fun x : Thing => x.type.size ≤ 1048576)) Tryz.underlying23 cellsThing (by decide) read_thing h0
    refine ⟨l0, v0, rfl, g0, fun hb => ?_⟩
    simp [Rows.uptoBulk, Rows.uptoBulkAll] at hb
    obtain ⟨o, b⟩ := sl_small k0 (by omega)
    exact ⟨fun x hx => maxLen_of (Nat.le_trans (o x hx) (by decide)), b⟩
end
end Go.Proofs.YtbakcdgjibmceaaGreatDoor
