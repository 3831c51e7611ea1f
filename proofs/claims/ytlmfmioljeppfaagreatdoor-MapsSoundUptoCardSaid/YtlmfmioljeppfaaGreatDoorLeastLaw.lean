/-
  PLAIN LAW: maps in order, the places' numbers in them; the least frames are closed. No program in sight.
-/
import Derived.Test.YtlmfmioljeppfaaGreatDoorLookLaw
namespace Go.Proofs.YtlmfmioljeppfaaGreatDoor
open Go.RowKit Go.Shelf Go.Lib
theorem maps_at {A : Asg Frm} : ∀ {n k i : Nat} {f : Frm}, (mapsL A n)[k]? = some (i, f) ↔ k = (mapsL A i).length ∧ A i = some f ∧ i < n
  | 0, k, i, f => by
    constructor
    · intro h; simp [mapsL] at h
    · rintro ⟨_, _, h⟩; exact absurd h (Nat.not_lt_zero _)
  | n + 1, k, i, f => by
    have ih := maps_at (A := A) (n := n) (k := k) (i := i) (f := f)
    cases hA : A n with
    | none =>
      rw [mapsL_none hA, ih]
      constructor
      · rintro ⟨h1, h2, h3⟩; exact ⟨h1, h2, by omega⟩
      · rintro ⟨h1, h2, h3⟩
        refine ⟨h1, h2, ?_⟩
        by_cases hi : i = n
        · rw [hi, hA] at h2; cases h2
        · omega
    | some g =>
      rw [mapsL_some hA]
      by_cases hk : k < (mapsL A n).length
      · rw [List.getElem?_append_left hk, ih]
        constructor
        · rintro ⟨h1, h2, h3⟩; exact ⟨h1, h2, by omega⟩
        · rintro ⟨h1, h2, h3⟩
          refine ⟨h1, h2, ?_⟩
          by_cases hi : i = n
          · rw [hi] at h1; omega
          · omega
      · rw [List.getElem?_append_right (by omega)]
        constructor
        · intro h
          by_cases h0 : k - (mapsL A n).length = 0
          · rw [h0] at h
            have h : (n, g) = (i, f) := by simpa using h
            injection h with h1 h2
            subst h1 h2
            exact ⟨by omega, hA, Nat.lt_succ_self _⟩
          · obtain ⟨d, hd⟩ : ∃ d, k - (mapsL A n).length = d + 1 := ⟨k - (mapsL A n).length - 1, by omega⟩
            rw [hd] at h
            simp at h
        · rintro ⟨h1, h2, h3⟩
          by_cases hi : i = n
          · subst hi
            rw [hA] at h2
            rw [h1, Nat.sub_self, Option.some.inj h2]; rfl
          · have := ih.2 ⟨h1, h2, by omega⟩
            exact absurd (List.getElem?_eq_some_iff.1 this).1 hk
end Go.Proofs.YtlmfmioljeppfaaGreatDoor
