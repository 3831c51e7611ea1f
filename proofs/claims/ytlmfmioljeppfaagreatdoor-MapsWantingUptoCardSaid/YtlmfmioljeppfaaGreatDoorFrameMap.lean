/-
  A MAP of frames by places: what a look-up and a store answer.
-/
import Derived.Test.YtlmfmioljeppfaaGreatDoorCheckLaw
import Derived.Test.YtlmfmioljeppfaaGreatDoorQueue
import Derived.Test.YtlmfmioljeppfaaGreatDoorWorldMap
import Derived.Maps.Keyed
namespace Go.Proofs.YtlmfmioljeppfaaGreatDoor
open Go.RowKit Go.Shelf Go.Lib Go.ChangeMaps
theorem intType : Tryz.prog.underlying 3 = some (.int .i64) := by kernel_rfl
theorem fmapType : Tryz.prog.underlying 116 = some (.map 3 27) := by kernel_rfl
def frmZ : Value := .agg #[.slice none 0 0, .slice none 0 0]
theorem zeroFrame (w : World) : (zeroValue 27).run Tryz.prog w = .ok frmZ w := by kernel_rfl
theorem key_int {i : Nat} (hi : i ≤ 64) : keyOf Tryz.prog 3 (intV i) = some (.int .i64 (i : Int)) := by
  refine Go.Maps.keyOf_int_mk intType ?_
  unfold Lit.wf
  simp
  exact ⟨by have : IntKind.i64.min ≤ 0 := by decide
            omega, by have : (64 : Int) ≤ IntKind.i64.max := by decide
                      omega⟩
theorem intV_inj {i k : Nat} (h : intV i = intV k) : i = k := by
  unfold intV at h
  injection h with _ h
  omega
structure FMap (R : Value → Value → Frm → Prop) (w : World) (mb : Nat) (F : Asg Frm) : Prop where
  ex : ∃ es clock, w.heap[mb]? = some (.map es clock) ∧ (es.toList.map (·.key)).Nodup ∧ (∀ e ∈ es.toList, ∃ i f lv sv, i ≤ 64 ∧ e.key = intV i ∧ e.val = .agg #[lv, sv] ∧ F i = some f ∧ R lv sv f) ∧ (∀ i f, F i = some f → ∃ e ∈ es.toList, e.key = intV i) ∧ (es.toList.map (·.born)).Nodup ∧ ∀ e ∈ es.toList, e.born < clock
theorem FMap.lt {R : Value → Value → Frm → Prop} {w : World} {mb : Nat} {F : Asg Frm} (h : FMap R w mb F) : mb < w.heap.size := by
  obtain ⟨es, clock, h1, _⟩ := h.ex
  exact (Array.getElem?_eq_some_iff.1 h1).1
theorem FMap.keep {R R' : Value → Value → Frm → Prop} {w w' : World} {mb : Nat} {F : Asg Frm} (h : FMap R w mb F) (hb : w'.heap[mb]? = w.heap[mb]?) (hR : ∀ lv sv f, R lv sv f → R' lv sv f) : FMap R' w' mb F := by
  obtain ⟨es, clock, h1, h2, h3, h4⟩ := h.ex
  exact ⟨es, clock, hb.trans h1, h2, (fun e he => by
    obtain ⟨i, f, lv, sv, a1, a2, a3, a4, a5⟩ := h3 e he
    exact ⟨i, f, lv, sv, a1, a2, a3, a4, hR _ _ _ a5⟩), h4⟩
theorem FMap.made (R : Value → Value → Frm → Prop) (w : World) : FMap R (w.alloc (.map #[] 0)) w.heap.size (fun _ => none) :=
  ⟨#[], 0, heap_alloc_new _ _, by simp, fun e he => by simp at he, (fun i f h => by cases h), by simp, fun e he => by simp at he⟩
theorem FMap.keys {es : Array MapEntry} {R : Value → Value → Frm → Prop} {F : Asg Frm} (h3 : ∀ e ∈ es.toList, ∃ i f lv sv, i ≤ 64 ∧ e.key = intV i ∧ e.val = .agg #[lv, sv] ∧ F i = some f ∧ R lv sv f) : ∀ e ∈ es.toList, ∃ l, keyOf Tryz.prog 3 e.key = some l := fun e he => by
  obtain ⟨i, _, _, _, hi, hk, _⟩ := h3 e he
  exact ⟨_, by rw [hk]; exact key_int hi⟩
theorem keys_apart {l : List MapEntry} (h : (l.map (·.key)).Nodup) {n j : Nat} (hn : n < l.length) (hj : j < l.length) (hne : n ≠ j) : l[n].key ≠ l[j].key := by
  have h := List.pairwise_map.1 h
  rw [List.pairwise_iff_getElem] at h
  rcases Nat.lt_or_gt_of_ne hne with hlt | hlt
  · exact h n j hn hj hlt
  · exact fun e => h j n hj hn hlt e.symm
theorem one_key {l : List MapEntry} (h : (l.map (·.key)).Nodup) {a b : MapEntry} (ha : a ∈ l) (hb : b ∈ l) (e : a.key = b.key) : a = b := by
  obtain ⟨i, hi, rfl⟩ := List.getElem_of_mem ha
  obtain ⟨k, hk, rfl⟩ := List.getElem_of_mem hb
  by_cases hik : i = k
  · subst hik; rfl
  · exact absurd e (keys_apart h hi hk hik)
theorem set_same {α : Type} {l : List α} {j : Nat} {x : α} (h : l[j]? = some x) : l.set j x = l := by
  refine List.ext_getElem? fun n => ?_
  rw [List.getElem?_set]
  split
  · rename_i e
    subst e
    rw [h, if_pos (List.getElem?_eq_some_iff.1 h).1]
  · rfl
theorem FMap.look {R : Value → Value → Frm → Prop} {w : World} {mb : Nat} {F : Asg Frm} (h : FMap R w mb F) {i : Nat} (hi : i ≤ 64) :
    ∃ lv sv, (match F i with | none => lv = .slice none 0 0 ∧ sv = .slice none 0 0 | some f => R lv sv f) ∧
      ∀ (wx : World) (ok : Bool), wx.heap[mb]? = w.heap[mb]? → (Instr.lookup 116 (.map (some mb)) (intV i) ok).run Tryz.prog wx = .ok (if ok then .tuple #[.agg #[lv, sv], .bool (F i).isSome] else .agg #[lv, sv]) wx := by
  obtain ⟨es, clock, h1, h2, h3, h4, _⟩ := h.ex
  have K := Go.Maps.int_keyed (P := Tryz.prog) intType
  have hkey := key_int hi
  have hks := FMap.keys h3
  cases hF : F i with
  | none =>
    refine ⟨.slice none 0 0, .slice none 0 0, ⟨rfl, rfl⟩, fun wx ok hb => ?_⟩
    have hb' := hb.trans h1
    rcases K.find wx hkey es.toList hks with ⟨g1, _⟩ | ⟨j, e0, _, g2, g3⟩
    · have hz := zeroFrame wx
      unfold frmZ at hz
      cases ok <;> simp [Instr.lookup, run_underlying fmapType, MapKept.run_getObj_map hb', K.check wx _ hkey, g1, hz, Result.andThen]
    · obtain ⟨k, f, lv, sv, _, a2, _, a4, _⟩ := h3 e0 (List.mem_of_getElem? g2)
      have : k = i := intV_inj (a2.symm.trans g3)
      subst this
      rw [hF] at a4; cases a4
  | some f =>
    obtain ⟨e1, he1, hk1⟩ := h4 i f hF
    obtain ⟨k1, f1, lv, sv, _, b2, b3, b4, b5⟩ := h3 e1 he1
    have hki : k1 = i := intV_inj (b2.symm.trans hk1)
    subst hki
    rw [hF] at b4
    have hff : f = f1 := Option.some.inj b4
    subst hff
    refine ⟨lv, sv, b5, fun wx ok hb => ?_⟩
    have hb' := hb.trans h1
    rcases K.find wx hkey es.toList hks with ⟨_, g2⟩ | ⟨j, e0, g1, g2, g3⟩
    · exact absurd hk1 (g2 e1 he1)
    · have he0 : e0 = e1 := one_key h2 (List.mem_of_getElem? g2) he1 (g3.trans hk1.symm)
      subst he0
      rw [b3] at g1
      cases ok <;> simp [Instr.lookup, run_underlying fmapType, MapKept.run_getObj_map hb', K.check wx _ hkey, g1, Result.andThen]
theorem FMap.put {R : Value → Value → Frm → Prop} {w : World} {mb : Nat} {F : Asg Frm} (h : FMap R w mb F) {i : Nat} (hi : i ≤ 64) (f : Frm) (lv sv : Value) (hR : R lv sv f) :
    ∃ o, (Instr.mapUpdate 116 (.map (some mb)) (intV i) (.agg #[lv, sv])).run Tryz.prog w = .ok () (setBlock w mb o) ∧ FMap R (setBlock w mb o) mb (F.put i f) := by
  obtain ⟨es, clock, h1, h2, h3, h4, h5, h6⟩ := h.ex
  have K := Go.Maps.int_keyed (P := Tryz.prog) intType
  have hkey := key_int hi
  have hks := FMap.keys h3
  rcases K.find w hkey es.toList hks with ⟨g1, g2⟩ | ⟨j, e0, g1, g2, g3⟩
  · refine ⟨.map (es.push ⟨intV i, .agg #[lv, sv], clock⟩) (clock + 1), ?_, _, _, heap_setBlock_same h1 _, ?_, ?_, ?_, ?_, ?_⟩
    · simp [Instr.mapUpdate, run_underlying fmapType, MapKept.run_getObj_map h1, K.check w false hkey, g1, MapKept.run_setObj_map _ h1, Result.andThen, setBlock]
    · rw [Array.toList_push, List.map_append, List.nodup_append]
      refine ⟨h2, by simp, fun x hx y hy => ?_⟩
      rw [List.map_singleton, List.mem_singleton] at hy
      subst hy
      obtain ⟨e, he, rfl⟩ := List.mem_map.1 hx
      exact g2 e he
    · intro e he
      rw [Array.toList_push] at he
      rcases List.mem_append.1 he with he | he
      · obtain ⟨k, f1, l1, s1, a1, a2, a3, a4, a5⟩ := h3 e he
        have hne : k ≠ i := fun e' => g2 e he (by rw [a2, e'])
        exact ⟨k, f1, l1, s1, a1, a2, a3, by rw [Asg.put_other F f hne]; exact a4, a5⟩
      · rw [List.mem_singleton.1 he]
        exact ⟨i, f, lv, sv, hi, rfl, rfl, Asg.put_self F i f, hR⟩
    · intro k f1 hk
      rw [Array.toList_push]
      by_cases hki : k = i
      · exact ⟨_, List.mem_append_right _ (List.mem_singleton.2 rfl), by rw [hki]⟩
      · rw [Asg.put_other F f hki] at hk
        obtain ⟨e, he, hk'⟩ := h4 k f1 hk
        exact ⟨e, List.mem_append_left _ he, hk'⟩
    · rw [Array.toList_push, List.map_append, List.nodup_append]
      refine ⟨h5, by simp, fun x hx y hy => ?_⟩
      rw [List.map_singleton, List.mem_singleton] at hy
      subst hy
      obtain ⟨e, he, rfl⟩ := List.mem_map.1 hx
      exact Nat.ne_of_lt (h6 e he)
    · intro e he
      rw [Array.toList_push] at he
      rcases List.mem_append.1 he with he | he
      · exact Nat.lt_succ_of_lt (h6 e he)
      · rw [List.mem_singleton.1 he]
        exact Nat.lt_succ_self _
  · have hj : es[j]? = some e0 := by simpa using g2
    have hjl : j < es.toList.length := (List.getElem?_eq_some_iff.1 g2).1
    have hlist : (es.modify j (fun e' => { e' with key := intV i, val := .agg #[lv, sv] })).toList = es.toList.set j { e0 with key := intV i, val := .agg #[lv, sv] } := by rw [Array.toList_modify, Go.ChangeMaps.modify_eq_set _ _ _ _ g2]
    refine ⟨.map (es.modify j (fun e' => { e' with key := intV i, val := .agg #[lv, sv] })) clock, ?_, _, _, heap_setBlock_same h1 _, ?_, ?_, ?_, ?_, ?_⟩
    · simp [Instr.mapUpdate, run_underlying fmapType, MapKept.run_getObj_map h1, K.check w false hkey, g1, hj, g3, K.stays w hkey, MapKept.run_setObj_map _ h1, Result.andThen, setBlock]
    · rw [hlist, List.map_set]
      have : (es.toList.map (·.key)).set j (intV i) = es.toList.map (·.key) := by
        refine set_same ?_
        rw [List.getElem?_map, g2]
        show some e0.key = _
        rw [g3]
      rw [this]; exact h2
    · intro e he
      rw [hlist] at he
      obtain ⟨n, hn, ex⟩ := List.getElem_of_mem he
      rw [List.getElem_set] at ex
      split at ex
      · subst ex
        exact ⟨i, f, lv, sv, hi, rfl, rfl, Asg.put_self F i f, hR⟩
      · rename_i hne
        have hn' : n < es.toList.length := by simpa using hn
        have he' : e ∈ es.toList := ex ▸ List.getElem_mem hn'
        obtain ⟨k, f1, l1, s1, a1, a2, a3, a4, a5⟩ := h3 e he'
        have hki : k ≠ i := fun e' => by
          refine keys_apart h2 hn' hjl (Ne.symm hne) ?_
          rw [ex, a2, e', (List.getElem?_eq_some_iff.1 g2).2, g3]
        exact ⟨k, f1, l1, s1, a1, a2, a3, by rw [Asg.put_other F f hki]; exact a4, a5⟩
    · intro k f1 hk
      rw [hlist]
      by_cases hki : k = i
      · exact ⟨{ e0 with key := intV i, val := .agg #[lv, sv] }, List.mem_iff_getElem.2 ⟨j, by simpa using hjl, by simp⟩, by rw [hki]⟩
      · rw [Asg.put_other F f hki] at hk
        obtain ⟨e, he, hk'⟩ := h4 k f1 hk
        obtain ⟨n, hn, ex⟩ := List.getElem_of_mem he
        have hnj : j ≠ n := fun e' => by
          subst e'
          have : e = e0 := by rw [← ex]; exact (List.getElem?_eq_some_iff.1 g2).2
          rw [this, g3] at hk'
          exact hki (intV_inj hk').symm
        exact ⟨e, List.mem_iff_getElem.2 ⟨n, by simpa using hn, by rw [List.getElem_set_ne hnj, ex]⟩, hk'⟩
    · rw [hlist, List.map_set]
      have : (es.toList.map (·.born)).set j e0.born = es.toList.map (·.born) := set_same (by rw [List.getElem?_map, g2]; rfl)
      rw [this]; exact h5
    · intro e he
      rw [hlist] at he
      rcases List.mem_or_eq_of_mem_set he with he | rfl
      · exact h6 e he
      · exact h6 e0 (List.mem_of_getElem? g2)
end Go.Proofs.YtlmfmioljeppfaaGreatDoor
