/-
  PLAIN LAW: kinds as trees; which fits which; what both are.
-/
import Derived.Test.YtehhmedjgmbpgaaGreatDoorLineLaw
namespace Go.Proofs.YtehhmedjgmbpgaaGreatDoor
open Go.RowKit Go.Shelf Go.Lib
/-- a type: I, J, a class, an array -/
inductive Ty where
  | i : Ty
  | j : Ty
  | cl : Str → Ty
  | ar : Ty → Ty
  deriving DecidableEq
/-- a kind: N, T, a type -/
inductive Kd where
  | n : Kd
  | t : Kd
  | ty : Ty → Kd
  deriving DecidableEq
def tyText : Ty → List UInt8
  | .i => [73]
  | .j => [74]
  | .cl c => 76 :: (lst c ++ [59])
  | .ar x => 91 :: tyText x
def kdText : Kd → List UInt8
  | .n => [78]
  | .t => [84]
  | .ty x => tyText x
def goodTy (cs : List Class) : Ty → Bool
  | .i => true
  | .j => true
  | .cl c => (findC cs c).isSome
  | .ar x => goodTy cs x
def goodKd (cs : List Class) : Kd → Bool
  | .ty x => goodTy cs x
  | _ => true
def isRef : Ty → Bool
  | .i => false
  | .j => false
  | _ => true
def baseOf : Ty → List UInt8
  | .cl c => lst c
  | .ar x => baseOf x
  | _ => []
def fitsTy (cs : List Class) : Ty → Ty → Bool
  | .i, .i => true
  | .j, .j => true
  | .cl c, .cl d => memB (everyC cs c) d
  | .ar _, .cl d => decide (d = sObject)
  | .ar a, .ar b => fitsTy cs a b
  | _, _ => false
def fitsKd (cs : List Class) : Kd → Kd → Bool
  | _, .t => true
  | .n, .n => true
  | .n, .ty y => isRef y
  | .ty x, .ty y => fitsTy cs x y
  | _, _ => false
/-- the first of a class's line that is in another's -/
def lcaGo (m : List Str) : List Str → Str
  | [] => sObject
  | c :: r => if memB m c then c else lcaGo m r
def lcaC (cs : List Class) (c d : Str) : Str := lcaGo (lineC cs d) (lineC cs c)
def joinTy (cs : List Class) : Ty → Ty → Option Ty
  | .i, .i => some .i
  | .j, .j => some .j
  | .cl c, .cl d => some (.cl (lcaC cs c d))
  | .ar a, .ar b => match joinTy cs a b with
    | some x => some (.ar x)
    | none => some (.cl sObject)
  | .ar _, .cl _ => some (.cl sObject)
  | .cl _, .ar _ => some (.cl sObject)
  | _, _ => none
def joinKd (cs : List Class) : Kd → Kd → Kd
  | .n, .n => .n
  | .n, .ty y => if isRef y then .ty y else .t
  | .ty x, .n => if isRef x then .ty x else .t
  | .ty x, .ty y => match joinTy cs x y with
    | some z => .ty z
    | none => .t
  | _, _ => .t
def leTy (cs : List Class) : Ty → Ty → Prop
  | .i, .i => True
  | .j, .j => True
  | .cl c, .cl d => d ∈ lineC cs c
  | .ar _, .cl d => d = sObject
  | .ar a, .ar b => leTy cs a b
  | _, _ => False
def leKd (cs : List Class) : Kd → Kd → Prop
  | _, .t => True
  | .n, .n => True
  | .n, .ty y => isRef y = true
  | .ty x, .ty y => leTy cs x y
  | _, _ => False
-- texts of kinds
theorem tyText_ne (x : Ty) : tyText x ≠ [] := by cases x <;> simp [tyText]
theorem tyText_inj : ∀ {x y : Ty}, tyText x = tyText y → x = y
  | .i, .i, _ => rfl
  | .j, .j, _ => rfl
  | .cl c, .cl d, h => by
    simp only [tyText, List.cons.injEq, true_and, List.append_cancel_right_eq] at h
    rw [ByteArray.ext (Array.toList_inj.1 h)]
  | .ar a, .ar b, h => by
    simp only [tyText, List.cons.injEq, true_and] at h
    rw [tyText_inj h]
  | .i, .j, h => by simp [tyText] at h
  | .i, .cl _, h => by simp [tyText] at h
  | .i, .ar _, h => by simp [tyText] at h
  | .j, .i, h => by simp [tyText] at h
  | .j, .cl _, h => by simp [tyText] at h
  | .j, .ar _, h => by simp [tyText] at h
  | .cl _, .i, h => by simp [tyText] at h
  | .cl _, .j, h => by simp [tyText] at h
  | .cl _, .ar _, h => by simp [tyText] at h
  | .ar _, .i, h => by simp [tyText] at h
  | .ar _, .j, h => by simp [tyText] at h
  | .ar _, .cl _, h => by simp [tyText] at h
theorem kdText_inj {x y : Kd} (h : kdText x = kdText y) : x = y := by
  have hn : ∀ z : Ty, tyText z ≠ [78] ∧ tyText z ≠ [84] := fun z => by cases z <;> simp [tyText]
  cases x with
  | n => cases y with
    | n => rfl
    | t => simp [kdText] at h
    | ty z => exact absurd h.symm (hn z).1
  | t => cases y with
    | n => simp [kdText] at h
    | t => rfl
    | ty z => exact absurd h.symm (hn z).2
  | ty z => cases y with
    | n => exact absurd h (hn z).1
    | t => exact absurd h (hn z).2
    | ty z2 => rw [tyText_inj h]
theorem semi_split : ∀ r : List UInt8, semiAt r + 1 = r.length → r = r.take (semiAt r) ++ [59]
  | [], h => by simp [semiAt] at h
  | c :: r, h => by
    unfold semiAt at h ⊢
    by_cases hc : c = 59
    · subst hc
      simp only [if_true] at h ⊢
      simp only [List.length_cons] at h
      have : r = [] := List.length_eq_zero_iff.1 (by omega)
      subst this; rfl
    · simp only [if_neg hc] at h ⊢
      simp only [List.length_cons] at h
      rw [List.take_succ_cons, List.cons_append, ← semi_split r (by omega)]
def nameOk : Ty → Bool
  | .cl c => nameB (lst c)
  | .ar x => nameOk x
  | _ => true
theorem typeB_ty : ∀ s : List UInt8, typeB s = true → ∃ x : Ty, tyText x = s ∧ classIn s = baseOf x ∧ nameOk x = true
  | [], h => by cases h
  | c :: r, h => by
    unfold typeB at h
    rw [Bool.and_eq_true, beq_iff_eq] at h
    obtain ⟨_, h⟩ := h
    by_cases hc : c = 91
    · subst hc
      have hd : deepOf (91 :: r) = deepOf r + 1 := by simp [deepOf]
      unfold typeLen at h
      rw [hd] at h
      simp only [List.drop_succ_cons, List.length_cons] at h
      split at h
      · rename_i hh
        have hr : typeB r = true := by
          unfold typeB typeLen
          rw [if_pos ⟨by omega, hh.2⟩, Bool.and_eq_true, beq_iff_eq]
          refine ⟨?_, by omega⟩
          cases r with
          | nil => simp [deepOf, coreLen] at hh
          | cons _ _ => rfl
        obtain ⟨x, hx, hb, hno⟩ := typeB_ty r hr
        refine ⟨.ar x, by rw [tyText, hx], ?_, hno⟩
        unfold classIn at hb ⊢
        rw [hd, List.drop_succ_cons]; exact hb
      · omega
    · have hd : deepOf (c :: r) = 0 := by simp [deepOf, hc]
      unfold typeLen at h
      rw [hd] at h
      simp only [List.drop_zero, List.length_cons] at h
      split at h
      · rename_i hh
        unfold coreLen at h
        simp only at h
        by_cases h1 : c = 73 ∨ c = 74
        · rw [if_pos h1] at h
          have : r = [] := List.length_eq_zero_iff.1 (by omega)
          subst this
          rcases h1 with rfl | rfl
          · exact ⟨.i, rfl, rfl, rfl⟩
          · exact ⟨.j, rfl, rfl, rfl⟩
        · rw [if_neg h1] at h
          by_cases h2 : c = 76
          · subst h2
            rw [if_pos rfl] at h
            split at h
            · rename_i hnm
              have hs := semi_split r (by omega)
              have hlen : (r.take (semiAt r)).length = semiAt r := by rw [List.length_take]; omega
              refine ⟨.cl (str (r.take (semiAt r))), ?_, ?_, hnm.2⟩
              · show 76 :: (r.take (semiAt r) ++ [59]) = _
                rw [← hs]
              · unfold classIn
                rw [hd]
                show r.take (r.length - 1) = r.take (semiAt r)
                congr 1; omega
            · omega
          · rw [if_neg h2] at h; omega
      · omega
/-- what is wrong with a kind -/
def kindR (cs : List Class) (k : Str) : Nat :=
  if lst k = [78] ∨ lst k = [84] then 0
  else if !typeB (lst k) then 1
  else if (classIn (lst k)).isEmpty then 0
  else if (findC cs (str (classIn (lst k)))).isSome then 0 else 3
theorem goodTy_of {cs : List Class} : ∀ x : Ty, nameOk x = true → (baseOf x = [] ∨ (findC cs (str (baseOf x))).isSome = true) → goodTy cs x = true
  | .i, _, _ => rfl
  | .j, _, _ => rfl
  | .cl c, h, g => by
    rcases g with hc | hc
    · exact absurd hc (by unfold nameOk at h; intro h0; unfold baseOf at h0; rw [h0] at h; cases h)
    · exact hc
  | .ar x, h, g => goodTy_of x h g
theorem good_base {cs : List Class} : ∀ x : Ty, goodTy cs x = true → baseOf x = [] ∨ (findC cs (str (baseOf x))).isSome = true
  | .i, _ => Or.inl rfl
  | .j, _ => Or.inl rfl
  | .cl _, h => Or.inr h
  | .ar x, h => good_base x h
theorem kind_of {cs : List Class} {k : Str} (h : kindR cs k = 0) : ∃ x : Kd, kdText x = lst k ∧ goodKd cs x = true := by
  unfold kindR at h
  split at h
  · rename_i h1
    rcases h1 with h1 | h1
    · exact ⟨.n, h1.symm, rfl⟩
    · exact ⟨.t, h1.symm, rfl⟩
  · split at h
    · cases h
    · rename_i h2
      obtain ⟨x, h3, h4, h5⟩ := typeB_ty (lst k) (by simpa using h2)
      refine ⟨.ty x, h3, goodTy_of x h5 ?_⟩
      rw [h4] at h
      split at h
      · rename_i h6; exact Or.inl (List.isEmpty_iff.1 h6)
      · split at h
        · rename_i h7; exact Or.inr h7
        · cases h
-- laws of types that are there
structure Tree (cs : List Class) : Prop where
  refl : ∀ c, c ∈ lineC cs c
  trans : ∀ c d e, (findC cs c).isSome = true → d ∈ lineC cs c → e ∈ lineC cs d → e ∈ lineC cs c
  anti : ∀ c d, (findC cs c).isSome = true → (findC cs d).isSome = true → d ∈ lineC cs c → c ∈ lineC cs d → c = d
  known : ∀ c d, (findC cs c).isSome = true → d ∈ lineC cs c → (findC cs d).isSome = true
  top : ∀ c, (findC cs c).isSome = true → sObject ∈ lineC cs c
  root : ∀ d, d ∈ lineC cs sObject → d = sObject
  lub1 : ∀ c d, (findC cs c).isSome = true → (findC cs d).isSome = true → lcaC cs c d ∈ lineC cs c ∧ lcaC cs c d ∈ lineC cs d
  lub2 : ∀ c d e, (findC cs c).isSome = true → (findC cs d).isSome = true → e ∈ lineC cs c → e ∈ lineC cs d → e ∈ lineC cs (lcaC cs c d)
theorem Right.line_mem {l : List Class} (h : Right l) {x y : Str} (hk : (findC (allC l) x).isSome = true) : y ∈ lineC (allC l) x ↔ y = x ∨ ((classC (allC l) x).super.size ≠ 0 ∧ y ∈ lineC (allC l) (classC (allC l) x).super) := by
  by_cases h0 : (classC (allC l) x).super.size = 0
  · rw [Right.line_top h0]; simp [h0]
  · rw [h.line_up hk h0, List.mem_cons]; simp [h0]
theorem line_self {cs : List Class} (x : Str) : x ∈ lineC cs x := by unfold lineC; rw [lineF_head]; simp
theorem Right.line_ind {l : List Class} (h : Right l) (P : Str → Prop) (h1 : ∀ x, (findC (allC l) x).isSome = true → (classC (allC l) x).super.size = 0 → P x)
    (h2 : ∀ x, (findC (allC l) x).isSome = true → (classC (allC l) x).super.size ≠ 0 → P (classC (allC l) x).super → P x) : ∀ x, (findC (allC l) x).isSome = true → P x := by
  have : ∀ (k : Nat) (x : Str), (findC (allC l) x).isSome = true → (everyC (allC l) x).length ≤ k → P x := by
    intro k
    induction k with
    | zero =>
      intro x hk hf
      have := List.length_pos_of_mem (every_facts h.closed hk).2.1
      omega
    | succ k ih =>
      intro x hk hf
      by_cases h0 : (classC (allC l) x).super.size = 0
      · exact h1 x hk h0
      · obtain ⟨hks, hlt⟩ := h.up hk h0
        exact h2 x hk h0 (ih _ hks (by omega))
  exact fun x hk => this _ x hk (Nat.le_refl _)
theorem lcaGo_mem {m : List Str} : ∀ l : List Str, (∃ x ∈ l, x ∈ m) → lcaGo m l ∈ l ∧ lcaGo m l ∈ m
  | [], ⟨x, hx, _⟩ => by cases hx
  | c :: r, ⟨x, hx, hm⟩ => by
    unfold lcaGo
    cases hc : memB m c with
    | true => rw [if_pos rfl]; exact ⟨by simp, memB_iff.1 hc⟩
    | false =>
      rw [if_neg (by decide)]
      have hne : x ≠ c := by rintro rfl; rw [memB_iff.2 hm] at hc; cases hc
      have hxr : x ∈ r := by
        rcases List.mem_cons.1 hx with h | h
        · exact absurd h hne
        · exact h
      obtain ⟨g1, g2⟩ := lcaGo_mem r ⟨x, hxr, hm⟩
      exact ⟨by simp [g1], g2⟩
theorem Right.tree {l : List Class} (h : Right l) : Tree (allC l) := by
  have known : ∀ c d, (findC (allC l) c).isSome = true → d ∈ lineC (allC l) c → (findC (allC l) d).isSome = true := fun c d hk hd =>
    (every_facts h.closed hk).1.known d ((h.line_facts _ c hk (Nat.le_refl _)).1 d hd)
  have trans : ∀ c, (findC (allC l) c).isSome = true → ∀ d e, d ∈ lineC (allC l) c → e ∈ lineC (allC l) d → e ∈ lineC (allC l) c := by
    refine h.line_ind _ (fun x hk h0 d e hd he => ?_) (fun x hk h0 ih d e hd he => ?_)
    · rw [Right.line_top h0] at hd; simp at hd; subst hd; exact he
    · rcases (h.line_mem hk).1 hd with rfl | ⟨_, hd⟩
      · exact he
      · exact (h.line_mem hk).2 (Or.inr ⟨h0, ih d e hd he⟩)
  have anti : ∀ c d, (findC (allC l) c).isSome = true → (findC (allC l) d).isSome = true → d ∈ lineC (allC l) c → c ∈ lineC (allC l) d → c = d := by
    intro c d hc hd h1 h2
    rcases (h.line_mem hc).1 h1 with rfl | ⟨h0, h1⟩
    · rfl
    · exfalso
      obtain ⟨hks, hlt⟩ := h.up hc h0
      have h3 := trans _ hks d c h1 h2
      have h4 := (h.line_facts _ _ hks (Nat.le_refl _)).1 c h3
      have e := every_facts h.closed hks
      have g := every_facts h.closed hc
      have := nodup_length (everyC (allC l) c) (everyC (allC l) (classC (allC l) c).super) g.1.nodup (g.2.2.2 (fun x => x ∈ everyC (allC l) (classC (allC l) c).super) e.2.2.1 h4)
      omega
  have top : ∀ c, (findC (allC l) c).isSome = true → sObject ∈ lineC (allC l) c := fun c hk => by
    obtain ⟨t, ht⟩ := (h.line_facts _ c hk (Nat.le_refl _)).2
    rw [ht]; simp
  have root : ∀ d, d ∈ lineC (allC l) sObject → d = sObject := fun d hd => by
    rw [Right.line_top (show (classC (allC l) sObject).super.size = 0 from rfl)] at hd
    simpa using hd
  have lub1 : ∀ c d, (findC (allC l) c).isSome = true → (findC (allC l) d).isSome = true → lcaC (allC l) c d ∈ lineC (allC l) c ∧ lcaC (allC l) c d ∈ lineC (allC l) d := fun c d hc hd =>
    lcaGo_mem _ ⟨sObject, top c hc, top d hd⟩
  have lub2 : ∀ c, (findC (allC l) c).isSome = true → ∀ d e, (findC (allC l) d).isSome = true → e ∈ lineC (allC l) c → e ∈ lineC (allC l) d → e ∈ lineC (allC l) (lcaC (allC l) c d) := by
    refine h.line_ind _ (fun x hk h0 d e hd h1 h2 => ?_) (fun x hk h0 ih d e hd h1 h2 => ?_)
    · have hx : x = sObject := h.top hk h0
      subst hx
      rw [root e h1]
      exact top _ (known d _ hd (lub1 _ d hk hd).2)
    · unfold lcaC
      rw [h.line_up hk h0, lcaGo]
      cases hm : memB (lineC (allC l) d) x with
      | true => rw [if_pos rfl]; exact h1
      | false =>
        rw [if_neg (by decide)]
        rcases (h.line_mem hk).1 h1 with rfl | ⟨_, h1⟩
        · rw [memB_iff.2 h2] at hm; cases hm
        · exact ih d e hd h1 h2
  exact ⟨line_self, fun c d e hc hd he => trans c hc d e hd he, anti, known, top, root, lub1, fun c d e hc hd h1 h2 => lub2 c hc d e hd h1 h2⟩
end Go.Proofs.YtehhmedjgmbpgaaGreatDoor
