/-
  THE MAP OF CLASSES: what a look-up and a store in it answer. Conditions: names of at most maxLen signs.
-/
import Derived.Test.YtinccnehfalfnaaGreatDoorClassCheck
import Derived.Maps.Keyed
import Derived.Carry
namespace Go.Proofs.YtinccnehfalfnaaGreatDoor
open Go.RowKit Go.Shelf Go.Lib
open Go.ChangeMaps (setBlock heap_setBlock_same heap_setBlock_other)
open Go.WideMaps (keyOf_string_mk string_law)
def noClassV : Value := .agg #[.string .empty, .string .empty, .slice none 0 0, .bool false, .slice none 0 0, .slice none 0 0]
theorem zeroClass (w : World) : (zeroValue 30).run Tryz.prog w = .ok noClassV w := by kernel_rfl
theorem mapType : Tryz.prog.underlying 54 = some (.map 9 30) := by kernel_rfl
theorem strType : Tryz.prog.underlying 9 = some .string := by kernel_rfl
/-- an entry of the map: a class by its name; its parts lie in w0 -/
def EntryOf (w0 : World) (e : MapEntry) (c : Class) : Prop :=
  e.key = .string c.name ∧ c.name.size ≤ maxLen ∧ ∃ fv dv mv, e.val = classV c fv dv mv ∧ StrsAt w0 fv c.faces ∧ SliceOf w0 2 FieldCells dv c.fields ∧ SliceOf w0 8 (MethodCells w0) mv c.methods
/-- block B is the map of the classes cs -/
structure ClassMap (w0 w : World) (B : Nat) (cs : List Class) : Prop where
  below : Below w0.heap.size w0 w
  ge : w0.heap.size ≤ B
  lt : B < w.heap.size
  map : ∃ es clock, w.heap[B]? = some (.map es clock) ∧ es.toList.length = cs.length ∧ ∀ (i : Nat) (e : MapEntry) (c : Class), es.toList[i]? = some e → cs[i]? = some c → EntryOf w0 e c
theorem ClassMap.step {w0 w w' : World} {B : Nat} {cs : List Class} (h : ClassMap w0 w B cs) (hb : Below w.heap.size w w') : ClassMap w0 w' B cs := by
  obtain ⟨h1, h2, h3, es, clock, h4, h5⟩ := h
  exact ⟨below_call h1 (Nat.le_refl _) hb, h2, Nat.lt_of_lt_of_le h3 hb.size, es, clock, (hb.block B h3).trans h4, h5⟩
def findC (cs : List Class) (n : Str) : Option Class := cs.find? fun c => decide (c.name = n)
theorem findC_find (l : List Class) (n : Str) : findC (cObject :: cFault :: l) n = find? l n := by
  unfold findC find?
  by_cases h1 : n = sObject
  · subst h1; simp [cObject]
  · by_cases h2 : n = sFault
    · subst h2; rw [List.find?_cons_of_neg (fun h => h1 (of_decide_eq_true h).symm)]; simp [cFault, h1]
    · rw [List.find?_cons_of_neg (fun h => h1 (of_decide_eq_true h).symm), List.find?_cons_of_neg (fun h => h2 (of_decide_eq_true h).symm), if_neg h1, if_neg h2]
/-- what a look-up answers -/
theorem ClassMap.look {w0 w : World} {B : Nat} {cs : List Class} (h : ClassMap w0 w B cs) (hn : (cs.map (·.name)).Nodup) (n : Str) (hs : n.size ≤ maxLen) :
    ∃ fv dv mv, StrsAt w0 fv ((findC cs n).getD noClass).faces ∧ SliceOf w0 2 FieldCells dv ((findC cs n).getD noClass).fields ∧ SliceOf w0 8 (MethodCells w0) mv ((findC cs n).getD noClass).methods ∧
      ∀ ok : Bool, (Instr.lookup 54 (.map (some B)) (.string n) ok).run Tryz.prog w = .ok (if ok then .tuple #[classV ((findC cs n).getD noClass) fv dv mv, .bool (findC cs n).isSome] else classV ((findC cs n).getD noClass) fv dv mv) w := by
  obtain ⟨_, _, _, es, clock, hb, hlen, hget⟩ := h
  have K := string_law (P := Tryz.prog) strType
  have hkey := keyOf_string_mk (P := Tryz.prog) strType hs
  have hks : ∀ e ∈ es.toList, ∃ l, keyOf Tryz.prog 9 e.key = some l := fun e he => by
    obtain ⟨i, hi, rfl⟩ := List.getElem_of_mem he
    obtain ⟨h1, h2, _⟩ := hget i _ (cs[i]'(by omega)) (List.getElem?_eq_getElem hi) (List.getElem?_eq_getElem (by omega))
    exact ⟨_, by rw [h1]; exact keyOf_string_mk strType h2⟩
  rcases K.find w hkey es.toList hks with ⟨h1, h2⟩ | ⟨j, e0, h1, h2, h3⟩
  · have hno : findC cs n = none := by
      unfold findC; rw [List.find?_eq_none]
      intro c hc
      obtain ⟨i, hi, rfl⟩ := List.getElem_of_mem hc
      have hie : i < es.toList.length := by omega
      obtain ⟨g1, _⟩ := hget i _ _ (List.getElem?_eq_getElem hie) (List.getElem?_eq_getElem hi)
      have := h2 _ (List.getElem_mem hie)
      rw [g1] at this
      simpa using fun h => this (by rw [h])
    refine ⟨.slice none 0 0, .slice none 0 0, .slice none 0 0, ?_, ?_, ?_, ?_⟩
    · rw [hno]; exact Or.inl ⟨rfl, rfl⟩
    · rw [hno]; exact Or.inl ⟨rfl, rfl⟩
    · rw [hno]; exact Or.inl ⟨rfl, rfl⟩
    · intro ok
      rw [hno]
      cases ok <;> simp [Instr.lookup, run_underlying mapType, MapKept.run_getObj_map hb, K.check w _ hkey, h1, Result.andThen, classV, noClass] <;> rfl
  · have hj : j < cs.length := by rw [← hlen]; exact (List.getElem?_eq_some_iff.1 h2).1
    obtain ⟨g1, g2, fv, dv, mv, g3, g4, g5, g6⟩ := hget j _ _ h2 (List.getElem?_eq_getElem hj)
    rw [h3] at g1
    injection g1 with g1
    have hyes : findC cs n = some cs[j] := by
      unfold findC
      rw [List.find?_eq_some_iff_getElem]
      refine ⟨by simp [g1], j, hj, rfl, fun i hi => ?_⟩
      have : (cs.map (·.name))[i]'(by simp; omega) ≠ (cs.map (·.name))[j]'(by simp; omega) := List.pairwise_iff_getElem.1 hn i j (by simp; omega) (by simp; omega) hi
      simp only [List.getElem_map] at this
      simpa [g1] using this
    refine ⟨fv, dv, mv, by rw [hyes]; exact g4, by rw [hyes]; exact g5, by rw [hyes]; exact g6, ?_⟩
    intro ok
    rw [hyes]
    cases ok <;> simp [Instr.lookup, run_underlying mapType, MapKept.run_getObj_map hb, K.check w _ hkey, h1, g3, Result.andThen]
theorem below_setBlock {w0 w : World} {B : Nat} {es : Array MapEntry} {clock : Nat} (hB : w0.heap.size ≤ B) (hb : w.heap[B]? = some (.map es clock)) (o : Obj) (h : Below w0.heap.size w0 w) : Below w0.heap.size w0 (setBlock w B o) :=
  ⟨h.os, h.tape, h.output, by simpa [setBlock] using h.size, fun k hk => (heap_setBlock_other hb o (by omega)).trans (h.block k hk)⟩
/-- what a store of a new name answers -/
theorem ClassMap.put {w0 w : World} {B : Nat} {cs : List Class} (h : ClassMap w0 w B cs) (c : Class) (fv dv mv : Value) (hs : c.name.size ≤ maxLen) (hnew : findC cs c.name = none)
    (hf : StrsAt w0 fv c.faces) (hd : SliceOf w0 2 FieldCells dv c.fields) (hm : SliceOf w0 8 (MethodCells w0) mv c.methods) :
    ∃ w', (Instr.mapUpdate 54 (.map (some B)) (.string c.name) (classV c fv dv mv)).run Tryz.prog w = .ok () w' ∧ ClassMap w0 w' B (cs ++ [c]) ∧ w'.heap.size = w.heap.size ∧ ∀ k, k ≠ B → w'.heap[k]? = w.heap[k]? := by
  obtain ⟨hbe, hge, hlt, es, clock, hb, hlen, hget⟩ := h
  have K := string_law (P := Tryz.prog) strType
  have hkey := keyOf_string_mk (P := Tryz.prog) strType hs
  have hks : ∀ e ∈ es.toList, ∃ l, keyOf Tryz.prog 9 e.key = some l := fun e he => by
    obtain ⟨i, hi, rfl⟩ := List.getElem_of_mem he
    obtain ⟨h1, h2, _⟩ := hget i _ (cs[i]'(by omega)) (List.getElem?_eq_getElem hi) (List.getElem?_eq_getElem (by omega))
    exact ⟨_, by rw [h1]; exact keyOf_string_mk strType h2⟩
  rcases K.find w hkey es.toList hks with ⟨h1, h2⟩ | ⟨j, e0, h1, h2, h3⟩
  · refine ⟨setBlock w B (.map (es.push ⟨.string c.name, classV c fv dv mv, clock⟩) (clock + 1)), ?_, ⟨below_setBlock hge hb _ hbe, hge, by simpa [setBlock] using hlt, _, _, heap_setBlock_same hb _, by simp [hlen], ?_⟩, by simp [setBlock], fun k hk => heap_setBlock_other hb _ hk⟩
    · simp [Instr.mapUpdate, run_underlying mapType, MapKept.run_getObj_map hb, K.check w false hkey, h1, MapKept.run_setObj_map _ hb, Result.andThen, setBlock]
    · intro i e c' he hc
      rw [Array.toList_push] at he
      by_cases hi : i < cs.length
      · rw [List.getElem?_append_left (by omega)] at he
        rw [List.getElem?_append_left hi] at hc
        exact hget i e c' he hc
      · rw [List.getElem?_append_right (by omega)] at he hc
        have h0 : i - es.toList.length = 0 := by
          have := (List.getElem?_eq_some_iff.1 he).1; simpa using this
        rw [hlen] at h0
        rw [hlen, h0] at he
        rw [h0] at hc
        simp at he hc
        subst he hc
        exact ⟨rfl, hs, fv, dv, mv, rfl, hf, hd, hm⟩
  · exfalso
    have hj : j < cs.length := by rw [← hlen]; exact (List.getElem?_eq_some_iff.1 h2).1
    obtain ⟨g1, _⟩ := hget j _ _ h2 (List.getElem?_eq_getElem hj)
    rw [h3] at g1
    injection g1 with g1
    unfold findC at hnew
    rw [List.find?_eq_none] at hnew
    exact hnew cs[j] (List.getElem_mem hj) (by simp [g1])
end Go.Proofs.YtinccnehfalfnaaGreatDoor
