/-
  PLAIN LAW: the line of a class in a right world ends with Object and lies in what is above it.
-/
import Derived.Test.YtbakcdgjibmceaaGreatDoorTexts
namespace Go.Proofs.YtbakcdgjibmceaaGreatDoor
open Go.RowKit Go.Shelf Go.Lib
theorem lineF_step {cs : List Class} {f : Nat} {x : Str} (h : (classC cs x).super.size ≠ 0) : lineF cs (f + 1) x = x :: lineF cs f (classC cs x).super := by
  rw [lineF, if_neg h]
theorem lineF_stop {cs : List Class} {f : Nat} {x : Str} (h : (classC cs x).super.size = 0) : lineF cs f x = [x] := by
  cases f with
  | zero => rfl
  | succ f => rw [lineF, if_pos h]
theorem Right.fuel2 {l : List Class} (h : Right l) : ∀ (f g : Nat) (x : Str), (findC (allC l) x).isSome = true → (everyC (allC l) x).length ≤ f → (everyC (allC l) x).length ≤ g → lineF (allC l) f x = lineF (allC l) g x := by
  intro f
  induction f with
  | zero =>
    intro g x hk hf _
    have := List.length_pos_of_mem (every_facts h.closed hk).2.1
    omega
  | succ f ih =>
    intro g x hk hf hg
    have hpos := List.length_pos_of_mem (every_facts h.closed hk).2.1
    by_cases h0 : (classC (allC l) x).super.size = 0
    · rw [lineF_stop h0, lineF_stop h0]
    · obtain ⟨hks, hlt⟩ := h.up hk h0
      obtain ⟨g', rfl⟩ : ∃ k, g = k + 1 := ⟨g - 1, by omega⟩
      rw [lineF_step h0, lineF_step h0, ih g' _ hks (by omega) (by omega)]
theorem Right.fuel {l : List Class} (h : Right l) (f : Nat) (x : Str) (hk : (findC (allC l) x).isSome = true) (hf : (everyC (allC l) x).length ≤ f) : lineF (allC l) f x = lineC (allC l) x :=
  h.fuel2 f _ x hk hf (Nat.le_refl _)
theorem Right.line_up {l : List Class} (h : Right l) {x : Str} (hk : (findC (allC l) x).isSome = true) (h0 : (classC (allC l) x).super.size ≠ 0) : lineC (allC l) x = x :: lineC (allC l) (classC (allC l) x).super := by
  obtain ⟨hks, hlt⟩ := h.up hk h0
  obtain ⟨k, hkk⟩ : ∃ k, (everyC (allC l) x).length = k + 1 := ⟨(everyC (allC l) x).length - 1, by omega⟩
  unfold lineC
  rw [hkk, lineF_step h0]
  congr 1
  exact h.fuel k _ hks (by omega)
theorem Right.line_top {l : List Class} {x : Str} (h0 : (classC (allC l) x).super.size = 0) : lineC (allC l) x = [x] := by
  unfold lineC; rw [lineF_stop h0]
theorem Right.top {l : List Class} (h : Right l) {x : Str} (hk : (findC (allC l) x).isSome = true) (h0 : (classC (allC l) x).super.size = 0) : x = sObject := by
  by_cases hx : x = sObject
  · exact hx
  · exfalso
    obtain ⟨s, _, hc⟩ := h.super hk hx
    rcases hc with ⟨rfl, _⟩ | ⟨c, hc, rfl⟩
    · have : classC (allC l) sFault = cFault := by
        unfold classC; rw [show findC (allC l) sFault = some cFault from h.find (c := cFault) (by simp [allC])]; rfl
      rw [this] at h0
      exact absurd h0 (by decide)
    · have : classC (allC l) c.name = c := by
        unfold classC; rw [h.find (c := c) (by simp [allC, hc])]; rfl
      rw [this] at h0
      have hj := h.joined c hc
      unfold joinedC at hj; rw [if_pos h0] at hj; cases hj
theorem Right.line_facts {l : List Class} (h : Right l) : ∀ (k : Nat) (x : Str), (findC (allC l) x).isSome = true → (everyC (allC l) x).length ≤ k →
    (∀ y ∈ lineC (allC l) x, y ∈ everyC (allC l) x) ∧ ∃ t, lineC (allC l) x = t ++ [sObject] := by
  intro k
  induction k with
  | zero =>
    intro x hk hf
    have := List.length_pos_of_mem (every_facts h.closed hk).2.1
    omega
  | succ k ih =>
    intro x hk hf
    obtain ⟨g1, g2, g3, g4⟩ := every_facts h.closed hk
    by_cases h0 : (classC (allC l) x).super.size = 0
    · rw [Right.line_top h0]
      refine ⟨fun y hy => ?_, [], by rw [h.top hk h0]; rfl⟩
      simp at hy; subst hy; exact g2
    · obtain ⟨hks, hlt⟩ := h.up hk h0
      have hs : (classC (allC l) x).super ∈ aboveC (allC l) x := by unfold aboveC classC at *; rw [if_neg h0]; simp
      obtain ⟨i1, t, i2⟩ := ih _ hks (by omega)
      rw [h.line_up hk h0]
      refine ⟨fun y hy => ?_, x :: t, by rw [i2]; rfl⟩
      rcases List.mem_cons.1 hy with rfl | hy
      · exact g2
      · have hy2 := i1 y hy
        exact (every_facts h.closed hks).2.2.2 (fun z => z ∈ everyC (allC l) x) (fun z hz a ha => g3 z hz a ha) (g3 x g2 _ hs) y hy2
theorem class_face (n s : Str) (fv dv mv : Value) (b : Bool) (w : World) : (Instr.field 47 (.agg #[.string n, .string s, fv, .bool b, dv, mv]) 3).run Tryz.prog w = .ok (.bool b) w := by kernel_rfl
theorem class_fields (n s : Str) (fv mv : Value) (p : Option Addr) (k c : Nat) (b : Bool) (w : World) : (Instr.field 47 (.agg #[.string n, .string s, fv, .bool b, .slice p k c, mv]) 4).run Tryz.prog w = .ok (.slice p k c) w := by kernel_rfl
theorem class_methods (n s : Str) (fv dv : Value) (p : Option Addr) (k c : Nat) (b : Bool) (w : World) : (Instr.field 47 (.agg #[.string n, .string s, fv, .bool b, dv, .slice p k c]) 5).run Tryz.prog w = .ok (.slice p k c) w := by kernel_rfl
end Go.Proofs.YtbakcdgjibmceaaGreatDoor
