/-
  PLAIN LAW: the order of classes: each is listed once, behind the class that it extends.
-/
import Derived.Test.YtinccnehfalfnaaGreatDoorOrder
namespace Go.Proofs.YtinccnehfalfnaaGreatDoor
open Go.RowKit Go.Shelf Go.Lib
structure Ordered (l : List Class) (out : List Str) : Prop where
  good : Good (allC l) out
  head : ∃ t, out = sObject :: t
  up : ∀ i x, out[i]? = some x → i ≠ 0 → (classC (allC l) x).super ∈ out.take i
theorem addNew_append (out a b : List Str) : addNew out (a ++ b) = addNew (addNew out a) b := by
  unfold addNew; rw [List.foldl_append]
theorem Ordered.add {l : List Class} {out : List Str} {x : Str} (h : Ordered l out) (hk : (findC (allC l) x).isSome = true) (hs : (classC (allC l) x).super ∈ out) : Ordered l (addNew out [x]) := by
  rw [addNew_cons]
  cases hm : memB out x with
  | true => rw [if_pos rfl]; exact h
  | false =>
    rw [if_neg (by decide)]
    show Ordered l (out ++ [x])
    obtain ⟨t, ht⟩ := h.head
    refine ⟨h.good.add hk hm, ⟨t ++ [x], by rw [ht]; rfl⟩, fun i y hy hi => ?_⟩
    by_cases hil : i < out.length
    · rw [List.getElem?_append_left hil] at hy
      rw [List.take_append_of_le_length (by omega)]
      exact h.up i y hy hi
    · have h1 := (List.getElem?_eq_some_iff.1 hy).1
      simp at h1
      obtain rfl : i = out.length := by omega
      rw [List.getElem?_append_right (by omega)] at hy
      simp at hy; subst hy
      rw [List.take_append_of_le_length (by omega), List.take_length]; exact hs
theorem Ordered.line {l : List Class} (hr : Right l) : ∀ (k : Nat) (x : Str), (findC (allC l) x).isSome = true → (everyC (allC l) x).length ≤ k → ∀ out, Ordered l out → Ordered l (addNew out (lineC (allC l) x).reverse) := by
  intro k
  induction k with
  | zero =>
    intro x hk hf
    have := List.length_pos_of_mem (every_facts hr.closed hk).2.1
    omega
  | succ k ih =>
    intro x hk hf out ho
    by_cases h0 : (classC (allC l) x).super.size = 0
    · rw [Right.line_top h0, hr.top hk h0]
      obtain ⟨t, ht⟩ := ho.head
      have hm : memB out sObject = true := memB_iff.2 (by rw [ht]; simp)
      show Ordered l (addNew out [sObject])
      rw [addNew_cons, hm, if_pos rfl]; exact ho
    · obtain ⟨hks, hlt⟩ := hr.up hk h0
      have h1 := ih _ hks (by omega) out ho
      rw [hr.line_up hk h0, List.reverse_cons, addNew_append]
      refine h1.add hk ?_
      obtain ⟨t, e1, e2, _⟩ := addNew_app (lineC (allC l) (classC (allC l) x).super).reverse out
      rw [e1]
      refine e2 _ (List.mem_reverse.2 ?_)
      unfold lineC; rw [lineF_head]; simp
theorem Ordered.all {l : List Class} (hr : Right l) : ∀ (uses out : List Str), (∀ u ∈ uses, (findC (allC l) u).isSome = true) → Ordered l out → Ordered l (orderF l out uses)
  | [], _, _, h => h
  | u :: r, out, hk, h => by
    rw [orderF_cons]
    exact Ordered.all hr r _ (fun x hx => hk x (by simp [hx])) (Ordered.line hr _ u (hk u (by simp)) (Nat.le_refl _) out h)
theorem orderF_append (l : List Class) (out a b : List Str) : orderF l out (a ++ b) = orderF l (orderF l out a) b := by
  unfold orderF; rw [List.foldl_append]
theorem orderF_grows (l : List Class) : ∀ (uses out : List Str), ∃ t, orderF l out uses = out ++ t
  | [], out => ⟨[], by simp [orderF]⟩
  | u :: r, out => by
    obtain ⟨t1, h1, _⟩ := addNew_app (lineC (allC l) u).reverse out
    obtain ⟨t2, h2⟩ := orderF_grows l r (addNew out (lineC (allC l) u).reverse)
    exact ⟨t1 ++ t2, by rw [orderF_cons, h2, h1, List.append_assoc]⟩
theorem orderF_has (l : List Class) : ∀ (uses out : List Str), ∀ u ∈ uses, u ∈ orderF l out uses
  | a :: r, out, u, hu => by
    rw [orderF_cons]
    rcases List.mem_cons.1 hu with rfl | hu
    · obtain ⟨t1, h1, h2, _⟩ := addNew_app (lineC (allC l) u).reverse out
      obtain ⟨t2, h3⟩ := orderF_grows l r (addNew out (lineC (allC l) u).reverse)
      rw [h3, h1]
      refine List.mem_append_left _ (h2 u (List.mem_reverse.2 ?_))
      unfold lineC; rw [lineF_head]; simp
    · exact orderF_has l r _ u hu
theorem Ordered.first {l : List Class} : Ordered l [sObject] := by
  refine ⟨Good.one rfl, ⟨[], rfl⟩, fun i x hx hi => ?_⟩
  obtain ⟨h, _⟩ := List.getElem?_eq_some_iff.1 hx
  simp at h; exact absurd h hi
/-- what is right of a list that has been ordered -/
structure OrderFacts (l : List Class) (uses more out : List Str) : Prop where
  known : ∀ x ∈ out, (findC (allC l) x).isSome = true
  small : out.length ≤ (allC l).length
  pos : 0 < out.length
  up : ∀ i x, out[i]? = some x → i ≠ 0 → (classC (allC l) x).super.size ≠ 0 ∧ memB (out.take i) (classC (allC l) x).super = true ∧ memB (out.take i) x = false
  has : ∀ u ∈ uses, memB out u = true
  more : ∃ t, orderC l (uses ++ more) = out ++ t
theorem order_facts {l : List Class} (hr : Right l) {uses : List Str} (more : List Str) (hk : ∀ u ∈ uses, (findC (allC l) u).isSome = true) : OrderFacts l uses more (orderC l uses) := by
  have h : Ordered l (orderC l uses) := Ordered.all hr uses _ hk Ordered.first
  obtain ⟨t, ht⟩ := h.head
  refine ⟨h.good.known, h.good.length, by rw [ht]; simp, fun i x hx hi => ?_, fun u hu => memB_iff.2 (orderF_has l uses _ u hu), ?_⟩
  · have hne : memB ((orderC l uses).take i) x = false := by
      cases hm : memB ((orderC l uses).take i) x with
      | false => rfl
      | true =>
        exfalso
        have hmem := memB_iff.1 hm
        obtain ⟨j, hj, hjx⟩ := List.getElem_of_mem hmem
        simp at hj
        have hn := h.good.nodup
        obtain ⟨hil, hix⟩ := List.getElem?_eq_some_iff.1 hx
        rw [List.getElem_take] at hjx
        have := List.pairwise_iff_getElem.1 hn j i (by omega) hil (by omega)
        exact this (by rw [hjx, hix])
    refine ⟨fun h0 => ?_, memB_iff.2 (h.up i x hx hi), hne⟩
    have := hr.top (h.good.known x (List.mem_of_getElem? hx)) h0
    subst this
    have h2 : memB ((orderC l uses).take i) sObject = true := by
      rw [ht]
      obtain ⟨j, rfl⟩ : ∃ j, i = j + 1 := ⟨i - 1, by omega⟩
      rw [List.take_succ_cons]
      exact memB_iff.2 (by simp)
    rw [h2] at hne; cases hne
  · unfold orderC; rw [orderF_append]; exact orderF_grows l more _
theorem orderFault_more {l : List Class} {uses more : List Str} (h : orderFault l uses ≠ 0) : orderFault l (uses ++ more) ≠ 0 := by
  unfold orderFault at *
  by_cases h0 : readFault l ≠ 0
  · rw [if_pos h0]; exact h0
  · rw [if_neg h0] at h ⊢
    rw [List.all_append]
    by_cases h1 : (uses.all fun u => (findC (allC l) u).isSome) = true
    · rw [if_pos h1] at h; exact absurd rfl h
    · rw [Bool.not_eq_true] at h1
      rw [h1, Bool.false_and, if_neg (by decide)]; decide
theorem orderFault_zero {l : List Class} {uses : List Str} (h : orderFault l uses = 0) : Right l ∧ readFault l = 0 ∧ ∀ u ∈ uses, (findC (allC l) u).isSome = true := by
  unfold orderFault at h
  by_cases h0 : readFault l ≠ 0
  · rw [if_pos h0] at h; exact absurd h h0
  · rw [if_neg h0] at h
    have h0 : readFault l = 0 := by simpa using h0
    by_cases h1 : (uses.all fun u => (findC (allC l) u).isSome) = true
    · exact ⟨right_of h0, h0, fun u hu => List.all_eq_true.1 h1 u hu⟩
    · rw [if_neg h1] at h; cases h
end Go.Proofs.YtinccnehfalfnaaGreatDoor
