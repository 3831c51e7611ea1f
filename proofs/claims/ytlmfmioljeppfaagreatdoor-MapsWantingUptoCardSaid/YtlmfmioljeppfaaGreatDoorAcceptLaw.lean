/-
  PLAIN LAW: a list of maps that was handed in: its fault, and what is known at places. No program in sight.
-/
import Derived.Test.YtlmfmioljeppfaaGreatDoorLeastLaw
import Derived.Test.YtlmfmioljeppfaaGreatDoorFirst
namespace Go.Proofs.YtlmfmioljeppfaaGreatDoor
open Go.RowKit Go.Shelf Go.Lib
def mapsFault (cs : List Class) (n : Nat) : Int → List (Int × Frm) → Nat
  | _, [] => 0
  | p, x :: r => if x.1 ≤ p ∨ (n : Int) ≤ x.1 then 2 else if frameR cs x.2 ≠ 0 then frameR cs x.2 else mapsFault cs n x.1 r
def asgL : List (Int × Frm) → Asg Frm → Asg Frm
  | [], F => F
  | x :: r, F => asgL r (F.put x.1.toNat x.2)
theorem mapsFault_ok {cs : List Class} {n : Nat} : ∀ {xs : List (Int × Frm)} {p : Int}, -1 ≤ p → mapsFault cs n p xs = 0 → ∀ x ∈ xs, p < x.1 ∧ x.1 < (n : Int) ∧ frameR cs x.2 = 0
  | [], _, _, _, x, hx => by cases hx
  | y :: r, p, hp, h, x, hx => by
    unfold mapsFault at h
    split at h
    · cases h
    · rename_i h1
      rw [not_or] at h1
      split at h
      · rename_i h2; exact absurd h h2
      · rename_i h2
        rcases List.mem_cons.1 hx with rfl | hx
        · exact ⟨by omega, by omega, Decidable.not_not.1 h2⟩
        · obtain ⟨k1, k2, k3⟩ := mapsFault_ok (by omega) h x hx
          exact ⟨by omega, k2, k3⟩
theorem asgL_other {i : Nat} : ∀ {xs : List (Int × Frm)} {F : Asg Frm}, (∀ x ∈ xs, x.1.toNat ≠ i) → asgL xs F i = F i
  | [], _, _ => rfl
  | y :: r, F, h => by
    unfold asgL
    rw [asgL_other fun x hx => h x (List.mem_cons_of_mem _ hx)]
    exact Asg.put_other F y.2 fun e => h y (List.mem_cons_self ..) e.symm
theorem asgL_at {cs : List Class} {n : Nat} : ∀ {xs : List (Int × Frm)} {p : Int} {F : Asg Frm}, -1 ≤ p → mapsFault cs n p xs = 0 → (∀ i : Nat, p < (i : Int) → F i = none) → ∀ {i : Nat} {f : Frm}, p < (i : Int) → (asgL xs F i = some f ↔ ((i : Int), f) ∈ xs)
  | [], p, F, _, _, hF, i, f, hi => by
    unfold asgL
    rw [hF i hi]
    simp
  | y :: r, p, F, hp, h, hF, i, f, hi => by
    have hok := mapsFault_ok hp h
    have hy := hok y (List.mem_cons_self ..)
    have h' : mapsFault cs n y.1 r = 0 := by
      unfold mapsFault at h
      split at h
      · cases h
      · split at h
        · rename_i h2; exact absurd h h2
        · exact h
    have hok' := mapsFault_ok (by omega) h'
    unfold asgL
    by_cases hlt : y.1 < (i : Int)
    · rw [asgL_at (by omega) h' (fun k hk => by rw [Asg.put_other F y.2 (by omega)]; exact hF k (by omega)) hlt, List.mem_cons]
      constructor
      · exact Or.inr
      · rintro (e | e)
        · rw [← e] at hlt
          exact absurd hlt (by simp)
        · exact e
    · rw [asgL_other fun x hx => by have := hok' x hx; omega]
      by_cases he : i = y.1.toNat
      · subst he
        rw [Asg.put_self, List.mem_cons]
        constructor
        · intro e
          injection e with e
          exact Or.inl (by rw [← e, Int.toNat_of_nonneg (by omega)])
        · rintro (e | e)
          · rw [← e]
          · have := (hok' _ e).1
            simp at this
            omega
      · rw [Asg.put_other F y.2 he, hF i hi]
        constructor
        · intro e; cases e
        · intro e
          rcases List.mem_cons.1 e with e | e
          · exact absurd (by rw [← e]; simp) he
          · have := (hok' _ e).1
            simp at this
            omega
theorem asgL_spec {cs : List Class} {n : Nat} {xs : List (Int × Frm)} (h : mapsFault cs n (-1) xs = 0) {i : Nat} {f : Frm} : asgL xs (fun _ => none) i = some f ↔ ((i : Int), f) ∈ xs :=
  asgL_at (by omega) h (fun _ _ => rfl) (by omega)
theorem asgL_right {cs : List Class} {n : Nat} {xs : List (Int × Frm)} (h : mapsFault cs n (-1) xs = 0) {i : Nat} {f : Frm} (hi : asgL xs (fun _ => none) i = some f) : i < n ∧ frameR cs f = 0 := by
  obtain ⟨k1, k2, k3⟩ := mapsFault_ok (by omega) h _ ((asgL_spec h).1 hi)
  exact ⟨by simpa using k2, k3⟩
def walkB (cs : List Class) (cls g : Str) (m : Method) (M : Asg Frm) (L : List Str) : Bool := startB cs L g && walkM cs cls g m.handlers M 0 m.code (some ⟨L, []⟩)
def acceptN (cs : List Class) (cls g : Str) (m : Method) (L : List Str) (xs : List (Int × Frm)) : Nat :=
  if 40 < xs.length then 4 else if mapsFault cs m.code.length (-1) xs ≠ 0 then mapsFault cs m.code.length (-1) xs else if walkB cs cls g m (asgL xs fun _ => none) L then 0 else 7
def AcceptIs (l : List Class) (cls : Str) (at' : Int) (xs : List (Int × Frm)) (n : Nat) : Prop :=
  (namedN l cls at' ≠ 0 ∧ n = namedN l cls at') ∨ (namedN l cls at' = 0 ∧ ∃ m args g many, namedM cls at' l = some m ∧ m.abs = false ∧ MethGood m args g many ∧ n = acceptN (allC l) cls g m (firstL cls m.static args many) xs)
end Go.Proofs.YtlmfmioljeppfaaGreatDoor
