/-
  PLAIN LAW: what a right world's classes are.
-/
import Derived.Test.YtbakcdgjibmceaaGreatDoorSupers
namespace Go.Proofs.YtbakcdgjibmceaaGreatDoor
open Go.RowKit Go.Shelf Go.Lib
theorem name_ne {s : List UInt8} (h : nameB s = true) : s ≠ [] := by rintro rfl; cases h
theorem classFault_name {c : Class} (h : classFault c = 0) : c.name.size ≠ 0 := by
  unfold classFault at h
  split at h
  · cases h
  · rename_i h1
    rw [Bool.not_eq_true, Bool.or_eq_false_iff, Bool.not_eq_false'] at h1
    intro h0
    have : lst c.name = [] := by
      unfold lst; rw [← List.length_eq_zero_iff]; exact h0
    exact name_ne h1.1 this
theorem known_ne {l : List Class} (hcf : ∀ c ∈ l, classFault c = 0) (x : Str) (hx : (findC (allC l) x).isSome = true) : x.size ≠ 0 := by
  obtain ⟨c, hc, rfl⟩ := findC_mem hx
  unfold allC at hc
  rcases List.mem_cons.1 hc with rfl | hc
  · decide
  · rcases List.mem_cons.1 hc with rfl | hc
    · decide
    · exact classFault_name (hcf c hc)
theorem fold_faults {l : List Class} : ∀ a : List Class, foldFault readStep a l = 0 → ∀ c ∈ l, classFault c = 0 := by
  induction l with
  | nil => intro a _ c hc; cases hc
  | cons d r ih =>
    intro a h c hc
    rw [foldFault] at h
    by_cases h0 : readStep d a = 0
    · rw [if_pos h0] at h
      rcases List.mem_cons.1 hc with rfl | hc
      · unfold readStep at h0
        by_cases h1 : classFault c ≠ 0
        · rw [if_pos h1] at h0; exact absurd h0 h1
        · simpa using h1
      · exact ih _ h c hc
    · rw [if_neg h0] at h; exact absurd h h0
theorem read_faults {l : List Class} (h : readFault l = 0) : ∀ c ∈ l, classFault c = 0 := by
  unfold readFault at h
  split at h
  · cases h
  · split at h
    · rename_i h1; exact absurd h h1
    · rename_i h1; exact fold_faults [] (by simpa using h1)
theorem named_zero {l : List Class} {n : Str} (h : namedFault l n = 0) : readFault l = 0 ∧ (findC (allC l) n).isSome = true := by
  unfold namedFault at h
  by_cases h1 : readFault l ≠ 0
  · rw [if_pos h1] at h; exact absurd h h1
  · rw [if_neg h1] at h
    refine ⟨by simpa using h1, ?_⟩
    cases hq : (findC (allC l) n).isSome with
    | true => rfl
    | false => rw [hq] at h; cases h
end Go.Proofs.YtbakcdgjibmceaaGreatDoor
