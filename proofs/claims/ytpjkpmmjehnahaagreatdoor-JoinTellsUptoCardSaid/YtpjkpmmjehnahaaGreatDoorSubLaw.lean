/-
  PLAIN LAW: kinds of a world, as texts and as trees.
-/
import Derived.Test.YtpjkpmmjehnahaaGreatDoorLattice
namespace Go.Proofs.YtpjkpmmjehnahaaGreatDoor
open Go.RowKit Go.Shelf Go.Lib
/-- what is wrong with a world and two kinds -/
def kindsFault (l : List Class) (a b : Str) : Nat :=
  if readFault l ≠ 0 then readFault l
  else if kindR (allC l) a = 1 ∨ kindR (allC l) b = 1 then 1
  else if kindR (allC l) a ≠ 0 ∨ kindR (allC l) b ≠ 0 then 3 else 0
/-- a text is a kind's -/
def IsKd (cs : List Class) (k : Str) (x : Kd) : Prop := kdText x = lst k ∧ goodKd cs x = true
theorem IsKd.same {cs : List Class} {k : Str} {x y : Kd} (h : IsKd cs k x) (g : IsKd cs k y) : x = y := kdText_inj (h.1.trans g.1.symm)
theorem IsKd.text {cs : List Class} {k m : Str} {x : Kd} (h : IsKd cs k x) (g : IsKd cs m x) : k = m := ByteArray.ext (Array.toList_inj.1 (h.1.symm.trans g.1))
theorem kindR_cases (cs : List Class) (k : Str) : kindR cs k = 0 ∨ kindR cs k = 1 ∨ kindR cs k = 3 := by
  unfold kindR
  split
  · exact Or.inl rfl
  · split
    · exact Or.inr (Or.inl rfl)
    · split
      · exact Or.inl rfl
      · split
        · exact Or.inl rfl
        · exact Or.inr (Or.inr rfl)
theorem kinds_of {l : List Class} {a b : Str} (h : kindsFault l a b = 0) : Right l ∧ readFault l = 0 ∧ (∃ x, IsKd (allC l) a x) ∧ ∃ y, IsKd (allC l) b y := by
  unfold kindsFault at h
  by_cases h0 : readFault l ≠ 0
  · rw [if_pos h0] at h; exact absurd h h0
  · rw [if_neg h0] at h
    have h0 : readFault l = 0 := by simpa using h0
    by_cases h1 : kindR (allC l) a = 1 ∨ kindR (allC l) b = 1
    · rw [if_pos h1] at h; cases h
    · rw [if_neg h1] at h
      by_cases h2 : kindR (allC l) a ≠ 0 ∨ kindR (allC l) b ≠ 0
      · rw [if_pos h2] at h; cases h
      · simp only [ne_eq, not_or, Decidable.not_not] at h2
        exact ⟨right_of h0, h0, kind_of h2.1, kind_of h2.2⟩
-- a tree's text is right
theorem semiAt_name {c : List UInt8} (h : ∀ x ∈ c, x ≠ 59) : semiAt (c ++ [59]) = c.length := by
  induction c with
  | nil => rfl
  | cons a r ih =>
    show (if a = 59 then 0 else semiAt (r ++ [59]) + 1) = _
    rw [if_neg (h a (by simp)), ih (fun x hx => h x (by simp [hx]))]; rfl
theorem name_semi {c : List UInt8} (h : nameB c = true) : ∀ x ∈ c, x ≠ 59 := by
  intro x hx
  cases c with
  | nil => cases hx
  | cons a r =>
    unfold nameB at h
    simp only [Bool.and_eq_true, List.all_eq_true] at h
    have := h.2 x hx
    rintro rfl
    exact absurd this (by decide)
/-- how many [ -/
def deepTy : Ty → Nat
  | .ar x => deepTy x + 1
  | _ => 0
theorem deepOf_ty : ∀ x : Ty, deepOf (tyText x) = deepTy x
  | .i => rfl
  | .j => rfl
  | .cl c => by simp [tyText, deepOf, deepTy]
  | .ar x => by simp [tyText, deepOf, deepTy, deepOf_ty x]
/-- a type without its [ -/
def coreTy : Ty → Ty
  | .ar x => coreTy x
  | x => x
theorem drop_ty : ∀ x : Ty, (tyText x).drop (deepTy x) = tyText (coreTy x)
  | .i => rfl
  | .j => rfl
  | .cl _ => rfl
  | .ar x => by simp [tyText, deepTy, coreTy, drop_ty x]
theorem core_cases : ∀ x : Ty, (coreTy x = .i ∧ baseOf x = []) ∨ (coreTy x = .j ∧ baseOf x = []) ∨ ∃ c, coreTy x = .cl c ∧ baseOf x = lst c
  | .i => Or.inl ⟨rfl, rfl⟩
  | .j => Or.inr (Or.inl ⟨rfl, rfl⟩)
  | .cl c => Or.inr (Or.inr ⟨c, rfl, rfl⟩)
  | .ar x => core_cases x
/-- the text of an array -/
def arText (a : Str) : Str := ⟨#[91]⟩ ++ a
theorem lst_ar (a : Str) : lst (arText a) = 91 :: lst a := by
  unfold arText lst
  rw [ByteArray.data_append, Array.toList_append]; rfl
theorem IsKd.arr {cs : List Class} {a : Str} {x : Kd} (h : IsKd cs (arText a) x) : ∃ t : Ty, x = .ty (.ar t) ∧ IsKd cs a (.ty t) := by
  obtain ⟨h1, h2⟩ := h
  rw [lst_ar] at h1
  cases x with
  | n => simp [kdText] at h1
  | t => simp [kdText] at h1
  | ty y =>
    cases y with
    | i => simp [kdText, tyText] at h1
    | j => simp [kdText, tyText] at h1
    | cl c => simp [kdText, tyText] at h1
    | ar t =>
      simp only [kdText, tyText, List.cons.injEq, true_and] at h1
      exact ⟨t, rfl, h1, h2⟩
theorem wordB_ty (x : Ty) : wordB (tyText x) = !isRef x := by
  cases x with
  | i => rfl
  | j => rfl
  | cl c => simp [wordB, tyText, isRef]
  | ar x => simp [wordB, tyText, isRef]
/-- words fit themselves alone -/
theorem fitsTy_word {cs : List Class} {x y : Ty} (h : isRef x = false ∨ isRef y = false) : fitsTy cs x y = decide (x = y) := by
  cases x <;> cases y <;> first | rfl | (rcases h with h | h <;> cases h)
/-- is a right kind a ref? -/
def refK : Kd → Bool
  | .ty x => isRef x
  | _ => false
end Go.Proofs.YtpjkpmmjehnahaaGreatDoor
