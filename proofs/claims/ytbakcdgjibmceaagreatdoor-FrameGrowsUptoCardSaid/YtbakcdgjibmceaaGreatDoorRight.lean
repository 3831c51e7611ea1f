/-
  PLAIN LAW: what is above a class of a right world; every class is an Object.
-/
import Derived.Test.YtbakcdgjibmceaaGreatDoorRead
namespace Go.Proofs.YtbakcdgjibmceaaGreatDoor
open Go.RowKit Go.Shelf Go.Lib
theorem addNew_app (more : List Str) : ∀ out : List Str, ∃ t, addNew out more = out ++ t ∧ (∀ x ∈ more, x ∈ out ++ t) ∧ (∀ x ∈ t, x ∈ more) := by
  induction more with
  | nil =>
    intro out
    refine ⟨[], by simp [addNew], ?_, ?_⟩
    · intro x hx; cases hx
    · intro x hx; cases hx
  | cons a r ih =>
    intro out
    rw [addNew_cons]
    cases hm : memB out a with
    | true =>
      rw [if_pos rfl]
      obtain ⟨t, h1, h2, h3⟩ := ih out
      refine ⟨t, h1, fun x hx => ?_, fun x hx => List.mem_cons_of_mem _ (h3 x hx)⟩
      rcases List.mem_cons.1 hx with rfl | hx
      · exact List.mem_append_left _ (memB_iff.1 hm)
      · exact h2 x hx
    | false =>
      rw [if_neg (by decide)]
      obtain ⟨t, h1, h2, h3⟩ := ih (out ++ [a])
      refine ⟨a :: t, by rw [h1]; simp, fun x hx => ?_, fun x hx => ?_⟩
      · rcases List.mem_cons.1 hx with rfl | hx
        · simp
        · have := h2 x hx; simpa using this
      · rcases List.mem_cons.1 hx with rfl | hx
        · simp
        · exact List.mem_cons_of_mem _ (h3 x hx)
theorem Good.addAll {cs : List Class} (more : List Str) : ∀ out : List Str, Good cs out → (∀ x ∈ more, (findC cs x).isSome = true) → Good cs (addNew out more) := by
  induction more with
  | nil => intro out h _; exact h
  | cons a r ih =>
    intro out h hk
    rw [addNew_cons]
    cases hm : memB out a with
    | true => rw [if_pos rfl]; exact ih out h (fun x hx => hk x (List.mem_cons_of_mem _ hx))
    | false => rw [if_neg (by decide)]; exact ih _ (h.add (hk a (by simp)) hm) (fun x hx => hk x (List.mem_cons_of_mem _ hx))
/-- what the search finds -/
theorem reach_facts {cs : List Class} (hcl : Closed cs) : ∀ (f i : Nat) (out : List Str), Good cs out → cs.length + 1 ≤ f + i → (∀ j x, j < i → out[j]? = some x → ∀ a ∈ aboveC cs x, a ∈ out) →
    Good cs (reachF (aboveC cs) f i out) ∧ (∀ x ∈ out, x ∈ reachF (aboveC cs) f i out) ∧ (∀ x ∈ reachF (aboveC cs) f i out, ∀ a ∈ aboveC cs x, a ∈ reachF (aboveC cs) f i out) ∧
      (∀ S : Str → Prop, (∀ x, S x → ∀ a ∈ aboveC cs x, S a) → (∀ x ∈ out, S x) → ∀ x ∈ reachF (aboveC cs) f i out, S x) := by
  intro f
  induction f with
  | zero =>
    intro i out hg hf hj
    refine ⟨hg, fun x hx => hx, fun x hx a ha => ?_, fun S _ h2 x hx => h2 x hx⟩
    replace hx : x ∈ out := hx
    obtain ⟨j, hjl, rfl⟩ := List.getElem_of_mem hx
    have := hg.length
    exact hj j _ (by omega) (List.getElem?_eq_getElem hjl) a ha
  | succ f ih =>
    intro i out hg hf hj
    cases hx : out[i]? with
    | none =>
      rw [reachF_none hx]
      refine ⟨hg, fun x hx => hx, fun x hx' a ha => ?_, fun S _ h2 x hx => h2 x hx⟩
      obtain ⟨j, hjl, rfl⟩ := List.getElem_of_mem hx'
      rw [List.getElem?_eq_none_iff] at hx
      exact hj j _ (by omega) (List.getElem?_eq_getElem hjl) a ha
    | some x =>
      rw [reachF_some hx]
      obtain ⟨t, h1, h2, h3⟩ := addNew_app (aboveC cs x) out
      have hgx := hg.known x (List.mem_of_getElem? hx)
      obtain ⟨g1, g2, g3, g4⟩ := ih (i + 1) (addNew out (aboveC cs x)) (Good.addAll _ _ hg (hcl x hgx)) (by omega) (by
        intro j y hji hy a ha
        rw [h1] at hy ⊢
        have hil := (List.getElem?_eq_some_iff.1 hx).1
        rw [List.getElem?_append_left (by omega)] at hy
        by_cases hij : j < i
        · exact List.mem_append_left _ (hj j y hij hy a ha)
        · obtain rfl : j = i := by omega
          rw [hx] at hy; injection hy with hy; subst hy
          exact h2 a ha)
      refine ⟨g1, fun y hy => g2 y (by rw [h1]; exact List.mem_append_left _ hy), g3, fun S hS hO y hy => g4 S hS (fun z hz => ?_) y hy⟩
      rw [h1] at hz
      rcases List.mem_append.1 hz with hz | hz
      · exact hO z hz
      · exact hS x (hO x (List.mem_of_getElem? hx)) z (h3 z hz)
theorem every_facts {cs : List Class} (hcl : Closed cs) {n : Str} (hk : (findC cs n).isSome = true) :
    Good cs (everyC cs n) ∧ n ∈ everyC cs n ∧ (∀ x ∈ everyC cs n, ∀ a ∈ aboveC cs x, a ∈ everyC cs n) ∧
      (∀ S : Str → Prop, (∀ x, S x → ∀ a ∈ aboveC cs x, S a) → S n → ∀ x ∈ everyC cs n, S x) := by
  obtain ⟨h1, h2, h3, h4⟩ := reach_facts hcl (cs.length + 1) 0 [n] (Good.one hk) (by omega) (fun j x hj => by omega)
  exact ⟨h1, h2 n (by simp), h3, fun S hS hn x hx => h4 S hS (fun y hy => by simp at hy; subst hy; exact hn) x hx⟩
/-- a right world: what the reading of its classes has shown -/
structure Right (l : List Class) : Prop where
  nodup : ((allC l).map (·.name)).Nodup
  closed : Closed (allC l)
  joined : ∀ c ∈ l, joinedC (allC l) c = 0
  round : ∀ c ∈ l, roundC (allC l) c.name = false
  length : l.length ≤ 10
theorem fold_nodup : ∀ (r a : List Class), ((allC a).map (·.name)).Nodup → foldFault readStep a r = 0 → ((allC (a ++ r)).map (·.name)).Nodup := by
  intro r
  induction r with
  | nil => intro a ha _; simpa using ha
  | cons c r ih =>
    intro a ha h
    rw [foldFault] at h
    by_cases h0 : readStep c a = 0
    · rw [if_pos h0] at h
      have hnone : findC (allC a) c.name = none := by
        unfold readStep at h0
        by_cases hc : classFault c ≠ 0
        · rw [if_pos hc] at h0; exact absurd h0 hc
        · rw [if_neg hc] at h0
          cases hq : findC (allC a) c.name with
          | none => rfl
          | some d => rw [hq] at h0; cases h0
      have := ih (a ++ [c]) (by
        have := findC_snoc_nodup ha hnone
        simpa [allC] using this) h
      simpa using this
    · rw [if_neg h0] at h; exact absurd h h0
theorem right_of {l : List Class} (h : readFault l = 0) : Right l := by
  unfold readFault at h
  split at h
  · cases h
  · rename_i h10
    split at h
    · rename_i h1; exact absurd h h1
    · rename_i h1
      split at h
      · rename_i h2; exact absurd h h2
      · rename_i h2
        split at h
        · cases h
        · rename_i h3
          have h1' : foldFault readStep [] l = 0 := by simpa using h1
          have h2' : firstFault (joinedC (allC l)) l = 0 := by simpa using h2
          have hj := firstFault_all h2'
          refine ⟨by simpa using fold_nodup l [] allC_nil_nodup h1', closed_of hj, hj, ?_, by omega⟩
          rw [Bool.not_eq_true, List.any_eq_false] at h3
          intro c hc
          simpa using h3 c hc
theorem Right.find {l : List Class} (h : Right l) {c : Class} (hc : c ∈ allC l) : findC (allC l) c.name = some c := by
  obtain ⟨i, hi, rfl⟩ := List.getElem_of_mem hc
  unfold findC
  rw [List.find?_eq_some_iff_getElem]
  refine ⟨by simp, i, hi, rfl, fun j hj => ?_⟩
  have := List.pairwise_iff_getElem.1 h.nodup j i (by simp; omega) (by simp; omega) hj
  simpa using this
/-- a class that is not Object is one of the given ones or Fault; its superclass is above it -/
theorem Right.super {l : List Class} (h : Right l) {n : Str} (hk : (findC (allC l) n).isSome = true) (hn : n ≠ sObject) : ∃ s, s ∈ aboveC (allC l) n ∧ (n = sFault ∧ s = sObject ∨ ∃ c ∈ l, c.name = n) := by
  obtain ⟨c, hc, rfl⟩ := findC_mem hk
  have hf := h.find hc
  unfold allC at hc
  rcases List.mem_cons.1 hc with rfl | hc
  · exact absurd rfl hn
  · rcases List.mem_cons.1 hc with rfl | hc
    · refine ⟨sObject, ?_, Or.inl ⟨rfl, rfl⟩⟩
      unfold aboveC; rw [hf]; simp [cFault, noClass, sObject]; decide
    · refine ⟨c.super, ?_, Or.inr ⟨c, hc, rfl⟩⟩
      have hj := h.joined c hc
      unfold aboveC; rw [hf]
      simp only [Option.getD_some]
      have : c.super.size ≠ 0 := by
        intro h0; unfold joinedC at hj; rw [if_pos h0] at hj; cases hj
      rw [if_neg this]; simp
theorem length_lt {α : Type} [DecidableEq α] {l m : List α} {a : α} (hl : l.Nodup) (hs : ∀ x ∈ l, x ∈ m) (ha : a ∈ m) (hn : a ∉ l) : l.length < m.length := by
  have := nodup_length (a :: l) m (List.nodup_cons.2 ⟨hn, hl⟩) (fun x hx => by
    rcases List.mem_cons.1 hx with rfl | hx
    · exact ha
    · exact hs x hx)
  simp only [List.length_cons] at this; omega
/-- every class is an Object -/
theorem Right.object {l : List Class} (h : Right l) : ∀ (k : Nat) (n : Str), (findC (allC l) n).isSome = true → (everyC (allC l) n).length ≤ k → sObject ∈ everyC (allC l) n := by
  intro k
  induction k with
  | zero =>
    intro n hk hl
    obtain ⟨_, h2, _, _⟩ := every_facts h.closed hk
    have := List.length_pos_of_mem h2; omega
  | succ k ih =>
    intro n hk hl
    by_cases hn : n = sObject
    · subst hn; exact (every_facts h.closed hk).2.1
    · obtain ⟨s, hs, hcase⟩ := h.super hk hn
      obtain ⟨g1, g2, g3, g4⟩ := every_facts h.closed hk
      have hsn : s ∈ everyC (allC l) n := g3 n g2 s hs
      rcases hcase with ⟨_, rfl⟩ | ⟨c, hc, rfl⟩
      · exact hsn
      · have hks := h.closed _ hk s hs
        obtain ⟨e1, e2, e3, e4⟩ := every_facts h.closed hks
        have hsub : ∀ x ∈ everyC (allC l) s, x ∈ everyC (allC l) c.name := e4 _ (fun x hx a ha => g3 x hx a ha) hsn
        have hnot : c.name ∉ everyC (allC l) s := by
          intro hin
          have hr := h.round c hc
          unfold roundC at hr
          rw [List.any_eq_false] at hr
          have := hr s hs
          rw [memB_iff.2 hin] at this
          exact this rfl
        have hlt := length_lt e1.nodup hsub g2 hnot
        exact hsub _ (ih s hks (by omega))
end Go.Proofs.YtbakcdgjibmceaaGreatDoor
