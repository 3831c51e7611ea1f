/-
  PLAIN LAW: what is above a class, found in the reference's way, is what the program finds; a list is sorted by taking the least again and again.
-/
import Derived.Test.YtbakcdgjibmceaaGreatDoorLineLaw
import Derived.Sort.Walk0
namespace Go.Proofs.YtbakcdgjibmceaaGreatDoor
open Go.RowKit Go.Shelf Go.Lib
/-- all that is above a class -/
def upC (cs : List Class) (n : Str) : List Str := reachF (aboveC cs) (cs.length + 1) 0 (aboveC cs n)
theorem up_facts {cs : List Class} (hcl : Closed cs) {n : Str} (hk : (findC cs n).isSome = true) (hn : (aboveC cs n).Nodup) :
    Good cs (upC cs n) ∧ (∀ x ∈ aboveC cs n, x ∈ upC cs n) ∧ (∀ x ∈ upC cs n, ∀ a ∈ aboveC cs x, a ∈ upC cs n) ∧
      (∀ S : Str → Prop, (∀ x, S x → ∀ a ∈ aboveC cs x, S a) → (∀ x ∈ aboveC cs n, S x) → ∀ x ∈ upC cs n, S x) :=
  reach_facts hcl (cs.length + 1) 0 (aboveC cs n) ⟨hn, hcl n hk⟩ (by omega) (fun j x hj => by omega)
theorem up_mem {cs : List Class} (hcl : Closed cs) {n : Str} (hk : (findC cs n).isSome = true) (hn : (aboveC cs n).Nodup) (x : Str) : x ∈ upC cs n ↔ ∃ a ∈ aboveC cs n, x ∈ everyC cs a := by
  obtain ⟨h1, h2, h3, h4⟩ := up_facts hcl hk hn
  constructor
  · refine h4 (fun x => ∃ a ∈ aboveC cs n, x ∈ everyC cs a) ?_ ?_ x
    · rintro y ⟨a, ha, hy⟩ b hb
      exact ⟨a, ha, (every_facts hcl (hcl n hk a ha)).2.2.1 y hy b hb⟩
    · intro y hy
      exact ⟨y, hy, (every_facts hcl (hcl n hk y hy)).2.1⟩
  · rintro ⟨a, ha, hx⟩
    exact (every_facts hcl (hcl n hk a ha)).2.2.2 (fun y => y ∈ upC cs n) h3 (h2 a ha) x hx
theorem up_round {cs : List Class} (hcl : Closed cs) {n : Str} (hk : (findC cs n).isSome = true) (hn : (aboveC cs n).Nodup) : memB (upC cs n) n = roundC cs n := by
  unfold roundC
  rw [Bool.eq_iff_iff, memB_iff, up_mem hcl hk hn, List.any_eq_true]
  constructor
  · rintro ⟨a, h1, h2⟩; exact ⟨a, h1, memB_iff.2 h2⟩
  · rintro ⟨a, h1, h2⟩; exact ⟨a, h1, memB_iff.1 h2⟩
/-- a class's faces: none twice -/
theorem faces_nodup : ∀ (r a : List Str), a.Nodup → foldFault faceFault a r = 0 → (a ++ r).Nodup := by
  intro r
  induction r with
  | nil => intro a ha _; simpa using ha
  | cons x r ih =>
    intro a ha h
    rw [foldFault] at h
    by_cases h0 : faceFault x a = 0
    · rw [if_pos h0] at h
      have hx : memB a x = false := by
        unfold faceFault at h0
        split at h0
        · cases h0
        · split at h0
          · cases h0
          · rename_i h2; simpa using h2
      have := ih (a ++ [x]) (by
        rw [List.nodup_append]
        refine ⟨ha, by simp, fun y hy z hz => ?_⟩
        simp at hz; subst hz
        rintro rfl
        rw [memB_iff.2 hy] at hx; cases hx) h
      simpa using this
    · rw [if_neg h0] at h; exact absurd h h0
theorem classFault_faces {c : Class} (h : classFault c = 0) : c.faces.Nodup := by
  unfold classFault at h
  split at h
  · cases h
  · split at h
    · rename_i h1; exact absurd h h1
    · rename_i h1
      simpa using faces_nodup c.faces [] (by simp) (by simpa using h1)
theorem hasFault_face {cs : List Class} {n : Str} {f : Bool} (h : hasFault cs n f = 0) : ∃ c, findC cs n = some c ∧ c.face = f := by
  unfold hasFault at h
  split at h
  · cases h
  · rename_i c hc
    refine ⟨c, hc, ?_⟩
    split at h
    · assumption
    · cases h
theorem joined_faces {cs : List Class} {c : Class} (h : joinedC cs c = 0) : hasFault cs c.super false = 0 ∧ ∀ a ∈ c.faces, hasFault cs a true = 0 := by
  unfold joinedC at h
  split at h
  · cases h
  · split at h
    · cases h
    · split at h
      · cases h
      · split at h
        · rename_i h1; exact absurd h h1
        · rename_i h1
          split at h
          · rename_i h2; exact absurd h h2
          · rename_i h2
            exact ⟨by simpa using h1, firstFault_all (by simpa using h2)⟩
theorem above_nodup {l : List Class} (hf : ∀ c ∈ l, classFault c = 0) (hj : ∀ c ∈ l, joinedC (allC l) c = 0) {n : Str} (hk : (findC (allC l) n).isSome = true) : (aboveC (allC l) n).Nodup := by
  rw [Option.isSome_iff_exists] at hk
  obtain ⟨c, hc⟩ := hk
  have hm : c ∈ allC l := List.mem_of_find?_eq_some hc
  unfold aboveC
  rw [hc]
  simp only [Option.getD_some]
  unfold allC at hm
  rcases List.mem_cons.1 hm with rfl | hm
  · decide
  · rcases List.mem_cons.1 hm with rfl | hm
    · decide
    · have h1 := classFault_faces (hf c hm)
      obtain ⟨h2, h3⟩ := joined_faces (hj c hm)
      split
      · exact h1
      · rw [List.nodup_cons]
        refine ⟨fun hin => ?_, h1⟩
        obtain ⟨d, hd, e1⟩ := hasFault_face h2
        obtain ⟨d2, hd2, e2⟩ := hasFault_face (h3 _ hin)
        rw [hd] at hd2; injection hd2 with hd2; subst hd2
        rw [e1] at e2; cases e2
/-- the least text that is not among some, behind what was least so far (empty: none) -/
def leastStep (out : List Str) (acc x : Str) : Str := if !memB out x && (acc.toList.isEmpty || Op.bytesLess x.toList acc.toList) then x else acc
def leastF (out : List Str) (l : List Str) (acc : Str) : Str := l.foldl (leastStep out) acc
theorem leastF_cons (out : List Str) (a : Str) (l : List Str) (acc : Str) : leastF out (a :: l) acc = leastF out l (leastStep out acc a) := rfl
theorem leastF_drop (out l : List Str) (acc : Str) (k : Nat) (x : Str) (h : l[k]? = some x) : leastF out (l.drop k) acc = leastF out (l.drop (k + 1)) (leastStep out acc x) := by
  obtain ⟨hk, rfl⟩ := List.getElem?_eq_some_iff.1 h
  rw [List.drop_eq_getElem_cons hk, leastF_cons]
theorem less_iff {x y : Str} : Op.bytesLess x.toList y.toList = true ↔ x.data.toList < y.data.toList := by
  rw [bytesLess_eq, ByteArray.toList_eq, ByteArray.toList_eq]; simp
theorem least_facts (out : List Str) : ∀ (l : List Str) (acc : Str), (∀ x ∈ l, x.size ≠ 0) →
    (leastF out l acc = acc ∨ (leastF out l acc ∈ l ∧ memB out (leastF out l acc) = false)) ∧
    (∀ x ∈ l, memB out x = false → (leastF out l acc).size ≠ 0 ∧ ¬ x.data.toList < (leastF out l acc).data.toList) ∧
    (acc.size ≠ 0 → (leastF out l acc).size ≠ 0 ∧ ¬ acc.data.toList < (leastF out l acc).data.toList)
  | [], acc, _ => ⟨Or.inl rfl, (fun x hx => by cases hx), fun h => ⟨h, List.lt_irrefl _⟩⟩
  | a :: l, acc, hne => by
    rw [leastF_cons]
    have ha := hne a (by simp)
    have hne' : ∀ x ∈ l, x.size ≠ 0 := fun x hx => hne x (by simp [hx])
    obtain ⟨h1, h2, h3⟩ := least_facts out l (leastStep out acc a) hne'
    generalize leastF out l (leastStep out acc a) = r at *
    unfold leastStep at h1 h3
    by_cases hc : (!memB out a && (acc.toList.isEmpty || Op.bytesLess a.toList acc.toList)) = true
    · rw [if_pos hc] at h1 h3
      rw [Bool.and_eq_true, Bool.or_eq_true, Bool.not_eq_true', empty_iff, decide_eq_true_eq, less_iff] at hc
      obtain ⟨hm, hlt⟩ := hc
      obtain ⟨g1, g2⟩ := h3 ha
      refine ⟨Or.inr ?_, fun x hx hxm => ?_, fun hacc => ⟨g1, fun hl => ?_⟩⟩
      · rcases h1 with rfl | ⟨h1, h1'⟩
        · exact ⟨by simp, hm⟩
        · exact ⟨by simp [h1], h1'⟩
      · rcases List.mem_cons.1 hx with rfl | hx
        · exact ⟨g1, g2⟩
        · exact h2 x hx hxm
      · rcases hlt with h | h
        · exact hacc h
        · exact g2 (List.lt_trans h hl)
    · rw [if_neg hc] at h1 h3
      rw [Bool.and_eq_true, Bool.or_eq_true, Bool.not_eq_true', empty_iff, decide_eq_true_eq, less_iff] at hc
      refine ⟨?_, fun x hx hxm => ?_, h3⟩
      · rcases h1 with h1 | ⟨h1, h1'⟩
        · exact Or.inl h1
        · exact Or.inr ⟨by simp [h1], h1'⟩
      · rcases List.mem_cons.1 hx with rfl | hx
        · have h0 : acc.size ≠ 0 := fun h => hc ⟨hxm, Or.inl h⟩
          have h4 : ¬ x.data.toList < acc.data.toList := fun h => hc ⟨hxm, Or.inr h⟩
          obtain ⟨g1, g2⟩ := h3 h0
          refine ⟨g1, fun hl => g2 ?_⟩
          exact List.lt_of_le_of_lt (List.not_lt.1 h4) hl
        · exact h2 x hx hxm
theorem sortS_mem (l : List Str) (x : Str) : x ∈ sortS l ↔ x ∈ l := by
  rw [← memB_iff, memB_sort, memB_iff]
theorem sortS_pairwise (l : List Str) : (sortS l).Pairwise fun x y => ¬ y.data.toList < x.data.toList := by
  unfold sortS
  rw [List.pairwise_map]
  have h := List.pairwise_mergeSort (le := fun x y : List UInt8 => decide (x ≤ y)) (fun a b c h1 h2 => by simp at *; exact List.le_trans h1 h2) (fun a b => by simp; exact List.le_total a b) (l.map (·.data.toList))
  refine h.imp fun {a b} hab => ?_
  simpa using hab
theorem sortS_perm (l : List Str) : (sortS l).Perm l := by
  have h := (List.mergeSort_perm (l.map (·.data.toList)) fun x y => decide (x ≤ y)).map fun x : List UInt8 => (⟨x.toArray⟩ : Str)
  rw [List.map_map] at h
  have e : l.map ((fun x : List UInt8 => (⟨x.toArray⟩ : Str)) ∘ fun x => x.data.toList) = l := by
    conv => rhs; rw [← List.map_id l]
    exact List.map_congr_left fun x _ => rfl
  rw [e] at h
  exact h
theorem sortS_nodup {l : List Str} (h : l.Nodup) : (sortS l).Nodup := (sortS_perm l).nodup_iff.2 h
/-- taking the least that has not been taken yet sorts a list -/
theorem least_sort {l : List Str} (hn : l.Nodup) (hne : ∀ x ∈ l, x.size ≠ 0) (k : Nat) (x : Str) (hx : (sortS l)[k]? = some x) : leastF ((sortS l).take k) l .empty = x := by
  obtain ⟨h1, h2, _⟩ := least_facts ((sortS l).take k) l .empty hne
  obtain ⟨hk, hkx⟩ := List.getElem?_eq_some_iff.1 hx
  have hs := sortS_nodup hn
  have hp := sortS_pairwise l
  have hxm : memB ((sortS l).take k) x = false := by
    cases hm : memB ((sortS l).take k) x with
    | false => rfl
    | true =>
      exfalso
      obtain ⟨j, hj, hjx⟩ := List.getElem_of_mem (memB_iff.1 hm)
      simp at hj
      rw [List.getElem_take] at hjx
      exact List.pairwise_iff_getElem.1 hs j k (by omega) hk (by omega) (by rw [hjx, hkx])
  have hxl : x ∈ l := (sortS_mem l x).1 (List.mem_of_getElem? hx)
  obtain ⟨g1, g2⟩ := h2 x hxl hxm
  rcases h1 with h1 | ⟨h1, h1'⟩
  · rw [h1] at g1; exact absurd rfl g1
  · obtain ⟨j, hj, hjx⟩ := List.getElem_of_mem ((sortS_mem l _).2 h1)
    have hjk : k ≤ j := by
      by_cases hlt : j < k
      · exfalso
        have : leastF ((sortS l).take k) l .empty ∈ (sortS l).take k := by
          rw [List.mem_take_iff_getElem]
          exact ⟨j, by omega, hjx⟩
        rw [memB_iff.2 this] at h1'; cases h1'
      · omega
    by_cases he : j = k
    · subst he; rw [← hjx, hkx]
    · have h3 := List.pairwise_iff_getElem.1 hp k j hk hj (by omega)
      rw [hkx, hjx] at h3
      have h4 : (leastF ((sortS l).take k) l .empty).data.toList = x.data.toList := List.le_antisymm (List.not_lt.1 g2) (List.not_lt.1 h3)
      exact ByteArray.ext (Array.toList_inj.1 h4)
/-- two lists with the same members, none twice, are the same when sorted -/
theorem sortS_same {l m : List Str} (hl : l.Nodup) (hm : m.Nodup) (h : ∀ x, x ∈ l ↔ x ∈ m) : sortS l = sortS m := by
  have hp : (sortS l).Perm (sortS m) := (sortS_perm l).trans (((List.perm_ext_iff_of_nodup hl hm).2 h).trans (sortS_perm m).symm)
  refine List.Perm.eq_of_pairwise (le := fun x y : Str => ¬ y.data.toList < x.data.toList) (fun a b _ _ h1 h2 => ?_) (sortS_pairwise l) (sortS_pairwise m) hp
  exact ByteArray.ext (Array.toList_inj.1 (List.le_antisymm (List.not_lt.1 h1) (List.not_lt.1 h2)))
/-- a class and what is above it, found in the reference's way: the same classes -/
theorem every_up {l : List Class} (h : Right l) (hf : ∀ c ∈ l, classFault c = 0) {n : Str} (hk : (findC (allC l) n).isSome = true) :
    (n :: upC (allC l) n).Nodup ∧ sortS (n :: upC (allC l) n) = sortS (everyC (allC l) n) := by
  have hn := above_nodup hf h.joined hk
  obtain ⟨h1, h2, h3, h4⟩ := up_facts h.closed hk hn
  obtain ⟨e1, e2, e3, e4⟩ := every_facts h.closed hk
  have hnot : n ∉ upC (allC l) n := by
    intro hin
    obtain ⟨a, ha, hna⟩ := (up_mem h.closed hk hn n).1 hin
    have hr : roundC (allC l) n = true := by
      unfold roundC; rw [List.any_eq_true]; exact ⟨a, ha, memB_iff.2 hna⟩
    obtain ⟨c, hc, rfl⟩ := findC_mem hk
    unfold allC at hc
    rcases List.mem_cons.1 hc with rfl | hc
    · unfold aboveC at ha
      rw [show findC (allC l) cObject.name = some cObject from rfl] at ha
      simp [cObject, noClass] at ha
    · rcases List.mem_cons.1 hc with rfl | hc
      · have ha' : a = sObject := by
          unfold aboveC at ha
          rw [show findC (allC l) cFault.name = some cFault from h.find (c := cFault) (by simp [allC])] at ha
          simp [cFault, noClass] at ha
          exact ha.2
        subst ha'
        have hob := (every_facts h.closed (n := sObject) rfl).2.2.2 (fun x => x = sObject) (fun x hx b hb => by
          subst hx
          unfold aboveC at hb
          rw [show findC (allC l) sObject = some cObject from rfl] at hb
          simp [cObject, noClass] at hb) rfl _ hna
        exact absurd hob (by decide)
      · rw [h.round c hc] at hr; cases hr
  refine ⟨List.nodup_cons.2 ⟨hnot, h1.nodup⟩, sortS_same (List.nodup_cons.2 ⟨hnot, h1.nodup⟩) e1.nodup fun x => ?_⟩
  rw [List.mem_cons]
  constructor
  · rintro (rfl | hx)
    · exact e2
    · exact h4 (fun y => y ∈ everyC (allC l) n) e3 (fun y hy => e3 n e2 y hy) x hx
  · intro hx
    refine e4 (fun y => y = n ∨ y ∈ upC (allC l) n) ?_ (Or.inl rfl) x hx
    rintro y (rfl | hy) a ha
    · exact Or.inr (h2 a ha)
    · exact Or.inr (h3 y hy a ha)
/-- the reference's reading: the same fault -/
theorem any_up {l : List Class} (hf : ∀ c ∈ l, classFault c = 0) (hj : ∀ c ∈ l, joinedC (allC l) c = 0) {c : Class} (hc : c ∈ l) : memB (upC (allC l) c.name) c.name = roundC (allC l) c.name :=
  up_round (closed_of hj) (known_of hc) (above_nodup hf hj (known_of hc))
end Go.Proofs.YtbakcdgjibmceaaGreatDoor
