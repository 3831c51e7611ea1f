/-
  WHAT A ROW's LIST GIVES OF THE TABLE OF FORMS: it lies as the text lays it.
-/
import Derived.Test.YtbakcdgjibmceaaGreatDoorRows
import Derived.Test.YtbakcdgjibmceaaGreatDoorInsForm
import Derived.Lib.LaidTab
namespace Go.Proofs.YtbakcdgjibmceaaGreatDoor
open Go.RowKit Go.Shelf Go.Lib
theorem gForms : Tryz.prog.globalNamed "coffeehouse/ins.forms" = some 0 := by kernel_rfl
theorem gFormsType : (Tryz.prog.globals[0]?).map (·.type) = some 175 := by kernel_rfl
theorem formsArray : Tryz.prog.underlying 175 = some (.array 29 141) := by kernel_rfl
theorem formsCells : Tryz.prog.cellsOf 175 = 29 * 2 := by kernel_rfl
theorem formCells : Tryz.prog.cellsOf 141 = 2 := by kernel_rfl
theorem laidStr : Tryz.prog.cellsOf 9 = 1 := by kernel_rfl
theorem strUnder : Tryz.prog.underlying 9 = some .string := by kernel_rfl
set_option maxRecDepth 100000 in
theorem form_reads {H : Type} {enc : TypeId × Value → H} {w : World} {base : Nat} {sp : Nat → Bool} {held : Bool} {fuel : Nat} {cs : List Value} {x : DataW H × List MemPlace} {a b : List UInt8}
    (h : DataW.trod enc Tryz.prog w base sp held fuel 141 cs = some x) (hx : x.1 = .agg [.lit (.string a), .lit (.string b)]) : cs = [.string ⟨a.toArray⟩, .string ⟨b.toArray⟩] := by
  obtain ⟨xs, n, _, rfl, hl, hlen, hf⟩ := DataW.trod_struct Tryz.underlying141 h
  rw [formCells] at hl
  match cs, hl, xs, hlen with
  | [v0, v1], _, [y0, y1], _ =>
    have h0 := hf 0 _ rfl
    have h1 := hf 1 _ rfl
    obtain ⟨s0, e0, r0, _⟩ := DataW.trod_string strUnder h0
    obtain ⟨s1, e1, r1, _⟩ := DataW.trod_string strUnder h1
    simp [laidStr] at e0 e1
    subst e0 e1 r0 r1
    simp only [List.map_cons, List.map_nil, DataW.agg.injEq, List.cons.injEq, DataW.lit.injEq, Lit.string.injEq, and_true] at hx
    obtain ⟨rfl, rfl⟩ := hx
    simp
/-- what the row lists of the table -/
theorem forms_data {H : Type} : (Rows.laid_coffeehouse_ins_forms : DataW H) = .agg ((List.range 29).map fun i => .agg [.lit (.string (formWords.getD i [])), .lit (.string (formNeeds.getD i []))]) := rfl
theorem forms_cells {H : Type} {enc : TypeId × Value → H} {w : World} {base : Nat} {sp : Nat → Bool} {held : Bool} {fuel : Nat} {cs : List Value} {p : List MemPlace}
    (h : DataW.trod enc Tryz.prog w base sp held fuel 175 cs = some (Rows.laid_coffeehouse_ins_forms, p)) : ∀ i, i < 29 → cs[i * 2]? = some (.string (wordOf i)) ∧ cs[i * 2 + 1]? = some (.string (needsOf i)) := by
  cases fuel with
  | zero => simp [DataW.trod] at h
  | succ fuel =>
    simp only [DataW.trod, formsArray, formCells, formsCells] at h
    split at h
    · obtain ⟨xs, hm, hx⟩ := Option.map_eq_some_iff.1 h
      have hxs : xs.map (·.1) = (List.range 29).map fun i => (.agg [.lit (.string (formWords.getD i [])), .lit (.string (formNeeds.getD i []))] : DataW H) := by
        have := congrArg Prod.fst hx
        rw [forms_data] at this
        simpa using this
      intro i hi
      obtain ⟨b, hb, hf⟩ := Lib.mapM_at hm i i (by simp [hi])
      have h2 : (xs.map (·.1))[i]? = some b.1 := by simp [hb]
      rw [hxs, List.getElem?_map, List.getElem?_range hi] at h2
      simp only [Option.map_some, Option.some.injEq] at h2
      have hcs := form_reads hf h2.symm
      have c0 := congrArg (·[0]?) hcs
      have c1 := congrArg (·[1]?) hcs
      simp [List.getElem?_drop] at c0 c1
      exact ⟨by rw [c0]; rfl, by rw [c1]; rfl⟩
    · cases h
theorem laid_of_vars {W : World} {a c : String × DataW Unit} (h : laidMet Tryz.prog [a, ("coffeehouse/ins.forms", Rows.laid_coffeehouse_ins_forms), c] W) : Laid W := by
  obtain ⟨ps, hv, _⟩ := h
  obtain ⟨_, _, _, _, _, _, _, _, _, _, hv2, _⟩ := hv
  obtain ⟨g, t, cs, fuel, p, q, h1, h2, h3, h4, _, _⟩ := hv2
  rw [gForms] at h1
  injection h1 with h1
  subst h1
  rw [gFormsType] at h2
  injection h2 with h2
  subst h2
  have hc := forms_cells h4
  unfold World.var? at h3
  rw [gForms] at h3
  simp only [Option.bind_some] at h3
  split at h3
  · rename_i cells ty fr hb
    injection h3 with h3
    subst h3
    refine ⟨(Array.getElem?_eq_some_iff.1 hb).1, fun i hi => ?_⟩
    obtain ⟨k1, k2⟩ := hc i hi
    constructor
    · simp only [World.cell?, hb]; simpa using k1
    · simp only [World.cell?, hb]; simpa using k2
  · cases h3
theorem laid_of {W : World} {a c : String × DataW Unit} (ha : a.2.handleName?.isSome = false) (hc : c.2.handleName?.isSome = false) (h : laidMetH Tryz.prog [a, ("coffeehouse/ins.forms", Rows.laid_coffeehouse_ins_forms), c] W) : Laid W := by
  unfold laidMetH at h
  have hf : ([a, ("coffeehouse/ins.forms", Rows.laid_coffeehouse_ins_forms), c].filter fun x => x.2.handleName?.isSome) = [] := by
    rw [List.filter_eq_nil_iff]
    intro x hx
    simp only [List.mem_cons, List.mem_nil_iff, or_false] at hx
    rcases hx with rfl | rfl | rfl
    · simp [ha]
    · decide
    · simp [hc]
  rw [hf] at h
  exact laid_of_vars h
end Go.Proofs.YtbakcdgjibmceaaGreatDoor
