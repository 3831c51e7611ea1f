/-
  PLAIN LAW: kinds as trees; which fits which; what both are.
  PLAIN LAW: what both are is the least kind above both; what fits is an order.
  PLAIN LAW: kinds of a world, as texts and as trees.
  PLAIN LAW: what a right world's classes are.
  PLAIN LAW: what is above a class, found in the reference's way, is what the program finds; a list is sorted by taking the least again and again.
  PLAIN LAW: what both are, by the cases that the program looks at.
  PLAIN DEFINITIONS: whose a field or a method is.
  PLAIN LAW: where the fields of a class lie.
-/
import Derived.Test.YtlmfmioljeppfaaGreatDoorLineLaw
import Derived.Sort.Walk0
namespace Go.Proofs.YtlmfmioljeppfaaGreatDoor
open Go.RowKit Go.Shelf Go.Lib
inductive Ty where
  | i : Ty
  | j : Ty
  | cl : Str → Ty
  | ar : Ty → Ty
  deriving DecidableEq
inductive Kd where
  | n : Kd
  | t : Kd
  | ty : Ty → Kd
  deriving DecidableEq
def tyText : Ty → List UInt8
  | .i => [73]
  | .j => [74]
  | .cl c => 76 :: (lst c ++ [59])
  | .ar x => 91 :: tyText x
def kdText : Kd → List UInt8
  | .n => [78]
  | .t => [84]
  | .ty x => tyText x
def goodTy (cs : List Class) : Ty → Bool
  | .i => true
  | .j => true
  | .cl c => (findC cs c).isSome
  | .ar x => goodTy cs x
def goodKd (cs : List Class) : Kd → Bool
  | .ty x => goodTy cs x
  | _ => true
def isRef : Ty → Bool
  | .i => false
  | .j => false
  | _ => true
def baseOf : Ty → List UInt8
  | .cl c => lst c
  | .ar x => baseOf x
  | _ => []
def fitsTy (cs : List Class) : Ty → Ty → Bool
  | .i, .i => true
  | .j, .j => true
  | .cl c, .cl d => memB (everyC cs c) d
  | .ar _, .cl d => decide (d = sObject)
  | .ar a, .ar b => fitsTy cs a b
  | _, _ => false
def fitsKd (cs : List Class) : Kd → Kd → Bool
  | _, .t => true
  | .n, .n => true
  | .n, .ty y => isRef y
  | .ty x, .ty y => fitsTy cs x y
  | _, _ => false
def lcaGo (m : List Str) : List Str → Str
  | [] => sObject
  | c :: r => if memB m c then c else lcaGo m r
def lcaC (cs : List Class) (c d : Str) : Str := lcaGo (lineC cs d) (lineC cs c)
def joinTy (cs : List Class) : Ty → Ty → Option Ty
  | .i, .i => some .i
  | .j, .j => some .j
  | .cl c, .cl d => some (.cl (lcaC cs c d))
  | .ar a, .ar b => match joinTy cs a b with
    | some x => some (.ar x)
    | none => some (.cl sObject)
  | .ar _, .cl _ => some (.cl sObject)
  | .cl _, .ar _ => some (.cl sObject)
  | _, _ => none
def joinKd (cs : List Class) : Kd → Kd → Kd
  | .n, .n => .n
  | .n, .ty y => if isRef y then .ty y else .t
  | .ty x, .n => if isRef x then .ty x else .t
  | .ty x, .ty y => match joinTy cs x y with
    | some z => .ty z
    | none => .t
  | _, _ => .t
def leTy (cs : List Class) : Ty → Ty → Prop
  | .i, .i => True
  | .j, .j => True
  | .cl c, .cl d => d ∈ lineC cs c
  | .ar _, .cl d => d = sObject
  | .ar a, .ar b => leTy cs a b
  | _, _ => False
def leKd (cs : List Class) : Kd → Kd → Prop
  | _, .t => True
  | .n, .n => True
  | .n, .ty y => isRef y = true
  | .ty x, .ty y => leTy cs x y
  | _, _ => False
-- texts of kinds
theorem tyText_ne (x : Ty) : tyText x ≠ [] := by cases x <;> simp [tyText]
theorem tyText_inj : ∀ {x y : Ty}, tyText x = tyText y → x = y
  | .i, .i, _ => rfl
  | .j, .j, _ => rfl
  | .cl c, .cl d, h => by
    simp only [tyText, List.cons.injEq, true_and, List.append_cancel_right_eq] at h
    rw [ByteArray.ext (Array.toList_inj.1 h)]
  | .ar a, .ar b, h => by
    simp only [tyText, List.cons.injEq, true_and] at h
    rw [tyText_inj h]
  | .i, .j, h => by simp [tyText] at h
  | .i, .cl _, h => by simp [tyText] at h
  | .i, .ar _, h => by simp [tyText] at h
  | .j, .i, h => by simp [tyText] at h
  | .j, .cl _, h => by simp [tyText] at h
  | .j, .ar _, h => by simp [tyText] at h
  | .cl _, .i, h => by simp [tyText] at h
  | .cl _, .j, h => by simp [tyText] at h
  | .cl _, .ar _, h => by simp [tyText] at h
  | .ar _, .i, h => by simp [tyText] at h
  | .ar _, .j, h => by simp [tyText] at h
  | .ar _, .cl _, h => by simp [tyText] at h
theorem kdText_inj {x y : Kd} (h : kdText x = kdText y) : x = y := by
  have hn : ∀ z : Ty, tyText z ≠ [78] ∧ tyText z ≠ [84] := fun z => by cases z <;> simp [tyText]
  cases x with
  | n => cases y with
    | n => rfl
    | t => simp [kdText] at h
    | ty z => exact absurd h.symm (hn z).1
  | t => cases y with
    | n => simp [kdText] at h
    | t => rfl
    | ty z => exact absurd h.symm (hn z).2
  | ty z => cases y with
    | n => exact absurd h (hn z).1
    | t => exact absurd h (hn z).2
    | ty z2 => rw [tyText_inj h]
theorem semi_split : ∀ r : List UInt8, semiAt r + 1 = r.length → r = r.take (semiAt r) ++ [59]
  | [], h => by simp [semiAt] at h
  | c :: r, h => by
    unfold semiAt at h ⊢
    by_cases hc : c = 59
    · subst hc
      simp only [if_true] at h ⊢
      simp only [List.length_cons] at h
      have : r = [] := List.length_eq_zero_iff.1 (by omega)
      subst this; rfl
    · simp only [if_neg hc] at h ⊢
      simp only [List.length_cons] at h
      rw [List.take_succ_cons, List.cons_append, ← semi_split r (by omega)]
def nameOk : Ty → Bool
  | .cl c => nameB (lst c)
  | .ar x => nameOk x
  | _ => true
theorem typeB_ty : ∀ s : List UInt8, typeB s = true → ∃ x : Ty, tyText x = s ∧ classIn s = baseOf x ∧ nameOk x = true
  | [], h => by cases h
  | c :: r, h => by
    unfold typeB at h
    rw [Bool.and_eq_true, beq_iff_eq] at h
    obtain ⟨_, h⟩ := h
    by_cases hc : c = 91
    · subst hc
      have hd : deepOf (91 :: r) = deepOf r + 1 := by simp [deepOf]
      unfold typeLen at h
      rw [hd] at h
      simp only [List.drop_succ_cons, List.length_cons] at h
      split at h
      · rename_i hh
        have hr : typeB r = true := by
          unfold typeB typeLen
          rw [if_pos ⟨by omega, hh.2⟩, Bool.and_eq_true, beq_iff_eq]
          refine ⟨?_, by omega⟩
          cases r with
          | nil => simp [deepOf, coreLen] at hh
          | cons _ _ => rfl
        obtain ⟨x, hx, hb, hno⟩ := typeB_ty r hr
        refine ⟨.ar x, by rw [tyText, hx], ?_, hno⟩
        unfold classIn at hb ⊢
        rw [hd, List.drop_succ_cons]; exact hb
      · omega
    · have hd : deepOf (c :: r) = 0 := by simp [deepOf, hc]
      unfold typeLen at h
      rw [hd] at h
      simp only [List.drop_zero, List.length_cons] at h
      split at h
      · rename_i hh
        unfold coreLen at h
        simp only at h
        by_cases h1 : c = 73 ∨ c = 74
        · rw [if_pos h1] at h
          have : r = [] := List.length_eq_zero_iff.1 (by omega)
          subst this
          rcases h1 with rfl | rfl
          · exact ⟨.i, rfl, rfl, rfl⟩
          · exact ⟨.j, rfl, rfl, rfl⟩
        · rw [if_neg h1] at h
          by_cases h2 : c = 76
          · subst h2
            rw [if_pos rfl] at h
            split at h
            · rename_i hnm
              have hs := semi_split r (by omega)
              have hlen : (r.take (semiAt r)).length = semiAt r := by rw [List.length_take]; omega
              refine ⟨.cl (str (r.take (semiAt r))), ?_, ?_, hnm.2⟩
              · show 76 :: (r.take (semiAt r) ++ [59]) = _
                rw [← hs]
              · unfold classIn
                rw [hd]
                show r.take (r.length - 1) = r.take (semiAt r)
                congr 1; omega
            · omega
          · rw [if_neg h2] at h; omega
      · omega
def kindR (cs : List Class) (k : Str) : Nat :=
  if lst k = [78] ∨ lst k = [84] then 0
  else if !typeB (lst k) then 1
  else if (classIn (lst k)).isEmpty then 0
  else if (findC cs (str (classIn (lst k)))).isSome then 0 else 3
theorem goodTy_of {cs : List Class} : ∀ x : Ty, nameOk x = true → (baseOf x = [] ∨ (findC cs (str (baseOf x))).isSome = true) → goodTy cs x = true
  | .i, _, _ => rfl
  | .j, _, _ => rfl
  | .cl c, h, g => by
    rcases g with hc | hc
    · exact absurd hc (by unfold nameOk at h; intro h0; unfold baseOf at h0; rw [h0] at h; cases h)
    · exact hc
  | .ar x, h, g => goodTy_of x h g
theorem good_base {cs : List Class} : ∀ x : Ty, goodTy cs x = true → baseOf x = [] ∨ (findC cs (str (baseOf x))).isSome = true
  | .i, _ => Or.inl rfl
  | .j, _ => Or.inl rfl
  | .cl _, h => Or.inr h
  | .ar x, h => good_base x h
theorem kind_of {cs : List Class} {k : Str} (h : kindR cs k = 0) : ∃ x : Kd, kdText x = lst k ∧ goodKd cs x = true := by
  unfold kindR at h
  split at h
  · rename_i h1
    rcases h1 with h1 | h1
    · exact ⟨.n, h1.symm, rfl⟩
    · exact ⟨.t, h1.symm, rfl⟩
  · split at h
    · cases h
    · rename_i h2
      obtain ⟨x, h3, h4, h5⟩ := typeB_ty (lst k) (by simpa using h2)
      refine ⟨.ty x, h3, goodTy_of x h5 ?_⟩
      rw [h4] at h
      split at h
      · rename_i h6; exact Or.inl (List.isEmpty_iff.1 h6)
      · split at h
        · rename_i h7; exact Or.inr h7
        · cases h
-- laws of types that are there
structure Tree (cs : List Class) : Prop where
  refl : ∀ c, c ∈ lineC cs c
  trans : ∀ c d e, (findC cs c).isSome = true → d ∈ lineC cs c → e ∈ lineC cs d → e ∈ lineC cs c
  anti : ∀ c d, (findC cs c).isSome = true → (findC cs d).isSome = true → d ∈ lineC cs c → c ∈ lineC cs d → c = d
  known : ∀ c d, (findC cs c).isSome = true → d ∈ lineC cs c → (findC cs d).isSome = true
  top : ∀ c, (findC cs c).isSome = true → sObject ∈ lineC cs c
  root : ∀ d, d ∈ lineC cs sObject → d = sObject
  lub1 : ∀ c d, (findC cs c).isSome = true → (findC cs d).isSome = true → lcaC cs c d ∈ lineC cs c ∧ lcaC cs c d ∈ lineC cs d
  lub2 : ∀ c d e, (findC cs c).isSome = true → (findC cs d).isSome = true → e ∈ lineC cs c → e ∈ lineC cs d → e ∈ lineC cs (lcaC cs c d)
theorem Right.line_mem {l : List Class} (h : Right l) {x y : Str} (hk : (findC (allC l) x).isSome = true) : y ∈ lineC (allC l) x ↔ y = x ∨ ((classC (allC l) x).super.size ≠ 0 ∧ y ∈ lineC (allC l) (classC (allC l) x).super) := by
  by_cases h0 : (classC (allC l) x).super.size = 0
  · rw [Right.line_top h0]; simp [h0]
  · rw [h.line_up hk h0, List.mem_cons]; simp [h0]
theorem line_self {cs : List Class} (x : Str) : x ∈ lineC cs x := by unfold lineC; rw [lineF_head]; simp
theorem Right.line_ind {l : List Class} (h : Right l) (P : Str → Prop) (h1 : ∀ x, (findC (allC l) x).isSome = true → (classC (allC l) x).super.size = 0 → P x)
    (h2 : ∀ x, (findC (allC l) x).isSome = true → (classC (allC l) x).super.size ≠ 0 → P (classC (allC l) x).super → P x) : ∀ x, (findC (allC l) x).isSome = true → P x := by
  have : ∀ (k : Nat) (x : Str), (findC (allC l) x).isSome = true → (everyC (allC l) x).length ≤ k → P x := by
    intro k
    induction k with
    | zero =>
      intro x hk hf
      have := List.length_pos_of_mem (every_facts h.closed hk).2.1
      omega
    | succ k ih =>
      intro x hk hf
      by_cases h0 : (classC (allC l) x).super.size = 0
      · exact h1 x hk h0
      · obtain ⟨hks, hlt⟩ := h.up hk h0
        exact h2 x hk h0 (ih _ hks (by omega))
  exact fun x hk => this _ x hk (Nat.le_refl _)
theorem lcaGo_mem {m : List Str} : ∀ l : List Str, (∃ x ∈ l, x ∈ m) → lcaGo m l ∈ l ∧ lcaGo m l ∈ m
  | [], ⟨x, hx, _⟩ => by cases hx
  | c :: r, ⟨x, hx, hm⟩ => by
    unfold lcaGo
    cases hc : memB m c with
    | true => rw [if_pos rfl]; exact ⟨by simp, memB_iff.1 hc⟩
    | false =>
      rw [if_neg (by decide)]
      have hne : x ≠ c := by rintro rfl; rw [memB_iff.2 hm] at hc; cases hc
      have hxr : x ∈ r := by
        rcases List.mem_cons.1 hx with h | h
        · exact absurd h hne
        · exact h
      obtain ⟨g1, g2⟩ := lcaGo_mem r ⟨x, hxr, hm⟩
      exact ⟨by simp [g1], g2⟩
theorem Right.tree {l : List Class} (h : Right l) : Tree (allC l) := by
  have known : ∀ c d, (findC (allC l) c).isSome = true → d ∈ lineC (allC l) c → (findC (allC l) d).isSome = true := fun c d hk hd =>
    (every_facts h.closed hk).1.known d ((h.line_facts _ c hk (Nat.le_refl _)).1 d hd)
  have trans : ∀ c, (findC (allC l) c).isSome = true → ∀ d e, d ∈ lineC (allC l) c → e ∈ lineC (allC l) d → e ∈ lineC (allC l) c := by
    refine h.line_ind _ (fun x hk h0 d e hd he => ?_) (fun x hk h0 ih d e hd he => ?_)
    · rw [Right.line_top h0] at hd; simp at hd; subst hd; exact he
    · rcases (h.line_mem hk).1 hd with rfl | ⟨_, hd⟩
      · exact he
      · exact (h.line_mem hk).2 (Or.inr ⟨h0, ih d e hd he⟩)
  have anti : ∀ c d, (findC (allC l) c).isSome = true → (findC (allC l) d).isSome = true → d ∈ lineC (allC l) c → c ∈ lineC (allC l) d → c = d := by
    intro c d hc hd h1 h2
    rcases (h.line_mem hc).1 h1 with rfl | ⟨h0, h1⟩
    · rfl
    · exfalso
      obtain ⟨hks, hlt⟩ := h.up hc h0
      have h3 := trans _ hks d c h1 h2
      have h4 := (h.line_facts _ _ hks (Nat.le_refl _)).1 c h3
      have e := every_facts h.closed hks
      have g := every_facts h.closed hc
      have := nodup_length (everyC (allC l) c) (everyC (allC l) (classC (allC l) c).super) g.1.nodup (g.2.2.2 (fun x => x ∈ everyC (allC l) (classC (allC l) c).super) e.2.2.1 h4)
      omega
  have top : ∀ c, (findC (allC l) c).isSome = true → sObject ∈ lineC (allC l) c := fun c hk => by
    obtain ⟨t, ht⟩ := (h.line_facts _ c hk (Nat.le_refl _)).2
    rw [ht]; simp
  have root : ∀ d, d ∈ lineC (allC l) sObject → d = sObject := fun d hd => by
    rw [Right.line_top (show (classC (allC l) sObject).super.size = 0 from rfl)] at hd
    simpa using hd
  have lub1 : ∀ c d, (findC (allC l) c).isSome = true → (findC (allC l) d).isSome = true → lcaC (allC l) c d ∈ lineC (allC l) c ∧ lcaC (allC l) c d ∈ lineC (allC l) d := fun c d hc hd =>
    lcaGo_mem _ ⟨sObject, top c hc, top d hd⟩
  have lub2 : ∀ c, (findC (allC l) c).isSome = true → ∀ d e, (findC (allC l) d).isSome = true → e ∈ lineC (allC l) c → e ∈ lineC (allC l) d → e ∈ lineC (allC l) (lcaC (allC l) c d) := by
    refine h.line_ind _ (fun x hk h0 d e hd h1 h2 => ?_) (fun x hk h0 ih d e hd h1 h2 => ?_)
    · have hx : x = sObject := h.top hk h0
      subst hx
      rw [root e h1]
      exact top _ (known d _ hd (lub1 _ d hk hd).2)
    · unfold lcaC
      rw [h.line_up hk h0, lcaGo]
      cases hm : memB (lineC (allC l) d) x with
      | true => rw [if_pos rfl]; exact h1
      | false =>
        rw [if_neg (by decide)]
        rcases (h.line_mem hk).1 h1 with rfl | ⟨_, h1⟩
        · rw [memB_iff.2 h2] at hm; cases hm
        · exact ih d e hd h1 h2
  exact ⟨line_self, fun c d e hc hd he => trans c hc d e hd he, anti, known, top, root, lub1, fun c d e hc hd h1 h2 => lub2 c hc d e hd h1 h2⟩
end Go.Proofs.YtlmfmioljeppfaaGreatDoor
namespace Go.Proofs.YtlmfmioljeppfaaGreatDoor
open Go.RowKit Go.Shelf Go.Lib
theorem leTy_refl (cs : List Class) : ∀ x, leTy cs x x
  | .i => trivial
  | .j => trivial
  | .cl c => line_self c
  | .ar x => leTy_refl cs x
theorem leTy_ref {cs : List Class} : ∀ {x y : Ty}, leTy cs x y → isRef x = isRef y
  | .i, .i, _ => rfl
  | .j, .j, _ => rfl
  | .cl _, .cl _, _ => rfl
  | .ar _, .cl _, _ => rfl
  | .ar _, .ar _, _ => rfl
theorem leTy_trans {cs : List Class} (T : Tree cs) : ∀ {x y z : Ty}, goodTy cs x = true → leTy cs x y → leTy cs y z → leTy cs x z
  | .i, .i, .i, _, _, _ => trivial
  | .j, .j, .j, _, _, _ => trivial
  | .cl c, .cl d, .cl e, hx, h1, h2 => T.trans c d e hx h1 h2
  | .ar _, .cl _, .cl e, _, h1, h2 => by
    have h1 : _ = sObject := h1
    subst h1
    exact T.root e h2
  | .ar _, .ar _, .cl _, _, _, h2 => h2
  | .ar a, .ar b, .ar c, hx, h1, h2 => leTy_trans T (x := a) (y := b) (z := c) hx h1 h2
theorem leTy_anti {cs : List Class} (T : Tree cs) : ∀ {x y : Ty}, goodTy cs x = true → goodTy cs y = true → leTy cs x y → leTy cs y x → x = y
  | .i, .i, _, _, _, _ => rfl
  | .j, .j, _, _, _, _ => rfl
  | .cl c, .cl d, hx, hy, h1, h2 => by rw [T.anti c d hx hy h1 h2]
  | .ar a, .ar b, hx, hy, h1, h2 => by rw [leTy_anti T (x := a) (y := b) hx hy h1 h2]
theorem object_known (l : List Class) : (findC (allC l) sObject).isSome = true := rfl
theorem joinTy_up {cs : List Class} (T : Tree cs) (ho : (findC cs sObject).isSome = true) : ∀ {x y z : Ty}, goodTy cs x = true → goodTy cs y = true → joinTy cs x y = some z → leTy cs x z ∧ leTy cs y z ∧ goodTy cs z = true
  | .i, .i, _, _, _, h => by cases h; exact ⟨trivial, trivial, rfl⟩
  | .j, .j, _, _, _, h => by cases h; exact ⟨trivial, trivial, rfl⟩
  | .cl c, .cl d, _, hx, hy, h => by
    cases h
    obtain ⟨g1, g2⟩ := T.lub1 c d hx hy
    exact ⟨g1, g2, T.known c _ hx g1⟩
  | .ar a, .ar b, z, hx, hy, h => by
    unfold joinTy at h
    cases hj : joinTy cs a b with
    | some w =>
      rw [hj] at h; cases h
      obtain ⟨g1, g2, g3⟩ := joinTy_up T ho (x := a) (y := b) hx hy hj
      exact ⟨g1, g2, g3⟩
    | none => rw [hj] at h; cases h; exact ⟨rfl, rfl, ho⟩
  | .ar _, .cl d, _, _, hy, h => by cases h; exact ⟨rfl, T.top d hy, ho⟩
  | .cl c, .ar _, _, hx, _, h => by cases h; exact ⟨T.top c hx, rfl, ho⟩
  | .i, .j, _, _, _, h => by cases h
  | .i, .cl _, _, _, _, h => by cases h
  | .i, .ar _, _, _, _, h => by cases h
  | .j, .i, _, _, _, h => by cases h
  | .j, .cl _, _, _, _, h => by cases h
  | .j, .ar _, _, _, _, h => by cases h
  | .cl _, .i, _, _, _, h => by cases h
  | .cl _, .j, _, _, _, h => by cases h
  | .ar _, .i, _, _, _, h => by cases h
  | .ar _, .j, _, _, _, h => by cases h
theorem joinTy_lub {cs : List Class} (T : Tree cs) : ∀ (x y z : Ty), goodTy cs x = true → goodTy cs y = true → leTy cs x z → leTy cs y z → ∃ w, joinTy cs x y = some w ∧ leTy cs w z := by
  intro x
  induction x with
  | i => intro y z _ _ h1 h2; cases z <;> cases y <;> first | exact h1.elim | exact h2.elim | exact ⟨_, rfl, trivial⟩
  | j => intro y z _ _ h1 h2; cases z <;> cases y <;> first | exact h1.elim | exact h2.elim | exact ⟨_, rfl, trivial⟩
  | cl c =>
    intro y z hx hy h1 h2
    cases z with
    | cl e =>
      cases y with
      | cl d => exact ⟨_, rfl, T.lub2 c d e hx hy h1 h2⟩
      | ar b =>
        have h2 : e = sObject := h2
        subst h2
        exact ⟨_, rfl, line_self _⟩
      | i => exact h2.elim
      | j => exact h2.elim
    | i => exact h1.elim
    | j => exact h1.elim
    | ar _ => exact h1.elim
  | ar a ih =>
    intro y z hx hy h1 h2
    cases z with
    | cl e =>
      have h1 : e = sObject := h1
      subst h1
      cases y with
      | cl d => exact ⟨_, rfl, line_self _⟩
      | ar b =>
        unfold joinTy
        cases joinTy cs a b with
        | some w => exact ⟨_, rfl, rfl⟩
        | none => exact ⟨_, rfl, line_self _⟩
      | i => exact h2.elim
      | j => exact h2.elim
    | ar c =>
      cases y with
      | ar b =>
        obtain ⟨w, g1, g2⟩ := ih b c hx hy h1 h2
        exact ⟨.ar w, by unfold joinTy; rw [g1], g2⟩
      | cl d => exact h2.elim
      | i => exact h2.elim
      | j => exact h2.elim
    | i => exact h1.elim
    | j => exact h1.elim
theorem joinTy_ref {cs : List Class} : ∀ {x y : Ty}, isRef x = true → isRef y = true → ∃ w, joinTy cs x y = some w
  | .cl _, .cl _, _, _ => ⟨_, rfl⟩
  | .ar a, .ar b, _, _ => by
    unfold joinTy
    cases joinTy cs a b with
    | some w => exact ⟨_, rfl⟩
    | none => exact ⟨_, rfl⟩
  | .ar _, .cl _, _, _ => ⟨_, rfl⟩
  | .cl _, .ar _, _, _ => ⟨_, rfl⟩
theorem joinKd_nt (cs : List Class) (y : Ty) : joinKd cs .n (.ty y) = if isRef y then .ty y else .t := rfl
theorem joinKd_tn (cs : List Class) (x : Ty) : joinKd cs (.ty x) .n = if isRef x then .ty x else .t := rfl
theorem joinKd_tt (cs : List Class) (x y : Ty) : joinKd cs (.ty x) (.ty y) = match joinTy cs x y with
    | some z => .ty z
    | none => .t := rfl
theorem leKd_refl (cs : List Class) : ∀ x, leKd cs x x
  | .n => trivial
  | .t => trivial
  | .ty x => leTy_refl cs x
theorem leKd_trans {cs : List Class} (T : Tree cs) {x y z : Kd} (hx : goodKd cs x = true) (h1 : leKd cs x y) (h2 : leKd cs y z) : leKd cs x z := by
  cases z with
  | t => cases x <;> trivial
  | n =>
    cases y with
    | n => exact h1
    | t => exact h2.elim
    | ty _ => exact h2.elim
  | ty z =>
    cases y with
    | t => exact h2.elim
    | n =>
      cases x with
      | n => exact h2
      | t => exact h1.elim
      | ty _ => exact h1.elim
    | ty y =>
      cases x with
      | n =>
        show isRef z = true
        rw [← leTy_ref (cs := cs) (x := y) (y := z) h2]; exact h1
      | t => exact h1.elim
      | ty x => exact leTy_trans T (x := x) (y := y) (z := z) hx h1 h2
theorem leKd_anti {cs : List Class} (T : Tree cs) : ∀ {x y : Kd}, goodKd cs x = true → goodKd cs y = true → leKd cs x y → leKd cs y x → x = y
  | .n, .n, _, _, _, _ => rfl
  | .t, .t, _, _, _, _ => rfl
  | .ty _, .ty _, hx, hy, h1, h2 => by rw [leTy_anti T hx hy h1 h2]
theorem joinKd_up {cs : List Class} (T : Tree cs) (ho : (findC cs sObject).isSome = true) {x y : Kd} (hx : goodKd cs x = true) (hy : goodKd cs y = true) : leKd cs x (joinKd cs x y) ∧ leKd cs y (joinKd cs x y) ∧ goodKd cs (joinKd cs x y) = true := by
  cases x with
  | t => cases y <;> exact ⟨trivial, trivial, rfl⟩
  | n =>
    cases y with
    | n => exact ⟨trivial, trivial, rfl⟩
    | t => exact ⟨trivial, trivial, rfl⟩
    | ty y =>
      rw [joinKd_nt]
      by_cases h : isRef y = true
      · rw [if_pos h]; exact ⟨h, leTy_refl cs y, hy⟩
      · rw [if_neg h]; exact ⟨trivial, trivial, rfl⟩
  | ty x =>
    cases y with
    | n =>
      rw [joinKd_tn]
      by_cases h : isRef x = true
      · rw [if_pos h]; exact ⟨leTy_refl cs x, h, hx⟩
      · rw [if_neg h]; exact ⟨trivial, trivial, rfl⟩
    | t => exact ⟨trivial, trivial, rfl⟩
    | ty y =>
      rw [joinKd_tt]
      cases hj : joinTy cs x y with
      | some z =>
        obtain ⟨g1, g2, g3⟩ := joinTy_up T ho (x := x) (y := y) hx hy hj
        exact ⟨g1, g2, g3⟩
      | none => exact ⟨trivial, trivial, rfl⟩
theorem joinKd_lub {cs : List Class} (T : Tree cs) {x y z : Kd} (hx : goodKd cs x = true) (hy : goodKd cs y = true) (h1 : leKd cs x z) (h2 : leKd cs y z) : leKd cs (joinKd cs x y) z := by
  cases z with
  | t => cases joinKd cs x y <;> trivial
  | n =>
    cases x with
    | t => exact h1.elim
    | ty _ => exact h1.elim
    | n =>
      cases y with
      | n => trivial
      | t => exact h2.elim
      | ty _ => exact h2.elim
  | ty z =>
    cases x with
    | t => exact h1.elim
    | n =>
      cases y with
      | n => exact h1
      | t => exact h2.elim
      | ty y =>
        have hr : isRef y = true := by rw [leTy_ref (cs := cs) (x := y) (y := z) h2]; exact h1
        rw [joinKd_nt, if_pos hr]; exact h2
    | ty x =>
      cases y with
      | t => exact h2.elim
      | n =>
        have hr : isRef x = true := by rw [leTy_ref (cs := cs) (x := x) (y := z) h1]; exact h2
        rw [joinKd_tn, if_pos hr]; exact h1
      | ty y =>
        obtain ⟨w, g1, g2⟩ := joinTy_lub T x y z hx hy h1 h2
        rw [joinKd_tt, g1]; exact g2
theorem join_le {cs : List Class} (T : Tree cs) (ho : (findC cs sObject).isSome = true) {x y : Kd} (hx : goodKd cs x = true) (hy : goodKd cs y = true) : joinKd cs x y = y ↔ leKd cs x y := by
  obtain ⟨g1, g2, g3⟩ := joinKd_up T ho hx hy
  constructor
  · intro h; rw [h] at g1; exact g1
  · intro h
    exact leKd_anti T g3 hy (joinKd_lub T hx hy h (leKd_refl cs y)) g2
theorem join_idem {cs : List Class} (T : Tree cs) (ho : (findC cs sObject).isSome = true) {x : Kd} (hx : goodKd cs x = true) : joinKd cs x x = x := (join_le T ho hx hx).2 (leKd_refl cs x)
theorem line_every {l : List Class} (h : Right l) {c d : Str} (hk : (findC (allC l) c).isSome = true) (hd : d ∈ lineC (allC l) c) : d ∈ everyC (allC l) c := (h.line_facts _ c hk (Nat.le_refl _)).1 d hd
theorem le_fitsTy {l : List Class} (h : Right l) : ∀ {x y : Ty}, goodTy (allC l) x = true → leTy (allC l) x y → fitsTy (allC l) x y = true
  | .i, .i, _, _ => rfl
  | .j, .j, _, _ => rfl
  | .cl _, .cl _, hx, h1 => memB_iff.2 (line_every h hx h1)
  | .ar _, .cl _, _, h1 => decide_eq_true h1
  | .ar a, .ar b, hx, h1 => le_fitsTy h (x := a) (y := b) hx h1
theorem le_fits {l : List Class} (h : Right l) : ∀ {x y : Kd}, goodKd (allC l) x = true → leKd (allC l) x y → fitsKd (allC l) x y = true
  | .n, .t, _, _ => rfl
  | .t, .t, _, _ => rfl
  | .ty _, .t, _, _ => rfl
  | .n, .n, _, _ => rfl
  | .n, .ty _, _, h1 => h1
  | .ty _, .ty _, hx, h1 => le_fitsTy h hx h1
theorem every_trans {l : List Class} (h : Right l) {c d e : Str} (hk : (findC (allC l) c).isSome = true) (h1 : d ∈ everyC (allC l) c) (h2 : e ∈ everyC (allC l) d) : e ∈ everyC (allC l) c := by
  have g := every_facts h.closed hk
  exact (every_facts h.closed (g.1.known d h1)).2.2.2 (fun x => x ∈ everyC (allC l) c) g.2.2.1 h1 e h2
theorem every_object {l : List Class} (h : Right l) {d : Str} (h1 : d ∈ everyC (allC l) sObject) : d = sObject := by
  refine (every_facts h.closed (n := sObject) rfl).2.2.2 (fun x => x = sObject) (fun x hx a ha => ?_) rfl d h1
  subst hx
  unfold aboveC at ha
  rw [show findC (allC l) sObject = some cObject from rfl] at ha
  simp [cObject, noClass] at ha
theorem fitsTy_refl {l : List Class} (h : Right l) : ∀ x : Ty, goodTy (allC l) x = true → fitsTy (allC l) x x = true
  | .i, _ => rfl
  | .j, _ => rfl
  | .cl _, hx => memB_iff.2 (every_facts h.closed hx).2.1
  | .ar x, hx => fitsTy_refl h x hx
theorem fitsTy_ref {cs : List Class} : ∀ {x y : Ty}, fitsTy cs x y = true → isRef x = isRef y
  | .i, .i, _ => rfl
  | .j, .j, _ => rfl
  | .cl _, .cl _, _ => rfl
  | .ar _, .cl _, _ => rfl
  | .ar _, .ar _, _ => rfl
  | .i, .j, h => by cases h
  | .i, .cl _, h => by cases h
  | .i, .ar _, h => by cases h
  | .j, .i, h => by cases h
  | .j, .cl _, h => by cases h
  | .j, .ar _, h => by cases h
  | .cl _, .i, h => by cases h
  | .cl _, .j, h => by cases h
  | .ar _, .i, h => by cases h
  | .ar _, .j, h => by cases h
theorem fitsTy_trans {l : List Class} (h : Right l) : ∀ {x y z : Ty}, goodTy (allC l) x = true → fitsTy (allC l) x y = true → fitsTy (allC l) y z = true → fitsTy (allC l) x z = true
  | .i, .i, _, _, _, h2 => h2
  | .j, .j, _, _, _, h2 => h2
  | .cl _, .cl _, .cl _, hx, h1, h2 => memB_iff.2 (every_trans h hx (memB_iff.1 h1) (memB_iff.1 h2))
  | .ar _, .cl _, .cl e, _, h1, h2 => by
    have h1 : _ = sObject := of_decide_eq_true h1
    subst h1
    exact decide_eq_true (every_object h (memB_iff.1 h2))
  | .ar _, .ar _, .cl _, _, _, h2 => h2
  | .ar a, .ar b, .ar c, hx, h1, h2 => fitsTy_trans h (x := a) (y := b) (z := c) hx h1 h2
theorem fits_refl {l : List Class} (h : Right l) : ∀ x : Kd, goodKd (allC l) x = true → fitsKd (allC l) x x = true
  | .n, _ => rfl
  | .t, _ => rfl
  | .ty x, hx => fitsTy_refl h x hx
theorem fits_trans {l : List Class} (h : Right l) {x y z : Kd} (hx : goodKd (allC l) x = true) (h1 : fitsKd (allC l) x y = true) (h2 : fitsKd (allC l) y z = true) : fitsKd (allC l) x z = true := by
  cases z with
  | t => cases x <;> rfl
  | n =>
    cases y with
    | n => exact h1
    | t => cases h2
    | ty _ => cases h2
  | ty z =>
    cases y with
    | t => cases h2
    | n =>
      cases x with
      | n => exact h2
      | t => cases h1
      | ty _ => cases h1
    | ty y =>
      cases x with
      | n =>
        show isRef z = true
        rw [← fitsTy_ref (cs := allC l) (x := y) (y := z) h2]; exact h1
      | t => cases h1
      | ty x => exact fitsTy_trans h (x := x) (y := y) (z := z) hx h1 h2
end Go.Proofs.YtlmfmioljeppfaaGreatDoor
namespace Go.Proofs.YtlmfmioljeppfaaGreatDoor
open Go.RowKit Go.Shelf Go.Lib
def IsKd (cs : List Class) (k : Str) (x : Kd) : Prop := kdText x = lst k ∧ goodKd cs x = true
theorem IsKd.same {cs : List Class} {k : Str} {x y : Kd} (h : IsKd cs k x) (g : IsKd cs k y) : x = y := kdText_inj (h.1.trans g.1.symm)
theorem IsKd.text {cs : List Class} {k m : Str} {x : Kd} (h : IsKd cs k x) (g : IsKd cs m x) : k = m := ByteArray.ext (Array.toList_inj.1 (h.1.symm.trans g.1))
theorem semiAt_name {c : List UInt8} (h : ∀ x ∈ c, x ≠ 59) : semiAt (c ++ [59]) = c.length := by
  induction c with
  | nil => rfl
  | cons a r ih =>
    show (if a = 59 then 0 else semiAt (r ++ [59]) + 1) = _
    rw [if_neg (h a (by simp)), ih (fun x hx => h x (by simp [hx]))]; rfl
theorem name_semi {c : List UInt8} (h : nameB c = true) : ∀ x ∈ c, x ≠ 59 := by
  intro x hx
  cases c with
  | nil => cases hx
  | cons a r =>
    unfold nameB at h
    simp only [Bool.and_eq_true, List.all_eq_true] at h
    have := h.2 x hx
    rintro rfl
    exact absurd this (by decide)
def deepTy : Ty → Nat
  | .ar x => deepTy x + 1
  | _ => 0
theorem deepOf_ty : ∀ x : Ty, deepOf (tyText x) = deepTy x
  | .i => rfl
  | .j => rfl
  | .cl c => by simp [tyText, deepOf, deepTy]
  | .ar x => by simp [tyText, deepOf, deepTy, deepOf_ty x]
def coreTy : Ty → Ty
  | .ar x => coreTy x
  | x => x
theorem drop_ty : ∀ x : Ty, (tyText x).drop (deepTy x) = tyText (coreTy x)
  | .i => rfl
  | .j => rfl
  | .cl _ => rfl
  | .ar x => by simp [tyText, deepTy, coreTy, drop_ty x]
theorem core_cases : ∀ x : Ty, (coreTy x = .i ∧ baseOf x = []) ∨ (coreTy x = .j ∧ baseOf x = []) ∨ ∃ c, coreTy x = .cl c ∧ baseOf x = lst c
  | .i => Or.inl ⟨rfl, rfl⟩
  | .j => Or.inr (Or.inl ⟨rfl, rfl⟩)
  | .cl c => Or.inr (Or.inr ⟨c, rfl, rfl⟩)
  | .ar x => core_cases x
def arText (a : Str) : Str := ⟨#[91]⟩ ++ a
theorem lst_ar (a : Str) : lst (arText a) = 91 :: lst a := by
  unfold arText lst
  rw [ByteArray.data_append, Array.toList_append]; rfl
theorem wordB_ty (x : Ty) : wordB (tyText x) = !isRef x := by
  cases x with
  | i => rfl
  | j => rfl
  | cl c => simp [wordB, tyText, isRef]
  | ar x => simp [wordB, tyText, isRef]
theorem fitsTy_word {cs : List Class} {x y : Ty} (h : isRef x = false ∨ isRef y = false) : fitsTy cs x y = decide (x = y) := by
  cases x <;> cases y <;> first | rfl | (rcases h with h | h <;> cases h)
def refK : Kd → Bool
  | .ty x => isRef x
  | _ => false
end Go.Proofs.YtlmfmioljeppfaaGreatDoor
namespace Go.Proofs.YtlmfmioljeppfaaGreatDoor
open Go.RowKit Go.Shelf Go.Lib
theorem fold_faults {l : List Class} : ∀ a : List Class, foldFault readStep a l = 0 → ∀ c ∈ l, classFault c = 0 := by
  induction l with
  | nil => intro a _ c hc; cases hc
  | cons d r ih =>
    intro a h c hc
    rw [foldFault] at h
    by_cases h0 : readStep d a = 0
    · rw [if_pos h0] at h
      rcases List.mem_cons.1 hc with rfl | hc
      · unfold readStep at h0
        by_cases h1 : classFault c ≠ 0
        · rw [if_pos h1] at h0; exact absurd h0 h1
        · simpa using h1
      · exact ih _ h c hc
    · rw [if_neg h0] at h; exact absurd h h0
theorem read_faults {l : List Class} (h : readFault l = 0) : ∀ c ∈ l, classFault c = 0 := by
  unfold readFault at h
  split at h
  · cases h
  · split at h
    · rename_i h1; exact absurd h h1
    · rename_i h1; exact fold_faults [] (by simpa using h1)
end Go.Proofs.YtlmfmioljeppfaaGreatDoor
namespace Go.Proofs.YtlmfmioljeppfaaGreatDoor
open Go.RowKit Go.Shelf Go.Lib
theorem hasFault_face {cs : List Class} {n : Str} {f : Bool} (h : hasFault cs n f = 0) : ∃ c, findC cs n = some c ∧ c.face = f := by
  unfold hasFault at h
  split at h
  · cases h
  · rename_i c hc
    refine ⟨c, hc, ?_⟩
    split at h
    · assumption
    · cases h
theorem joined_faces {cs : List Class} {c : Class} (h : joinedC cs c = 0) : hasFault cs c.super false = 0 ∧ ∀ a ∈ c.faces, hasFault cs a true = 0 := by
  unfold joinedC at h
  split at h
  · cases h
  · split at h
    · cases h
    · split at h
      · cases h
      · split at h
        · rename_i h1; exact absurd h h1
        · rename_i h1
          split at h
          · rename_i h2; exact absurd h h2
          · rename_i h2
            exact ⟨by simpa using h1, firstFault_all (by simpa using h2)⟩
end Go.Proofs.YtlmfmioljeppfaaGreatDoor
namespace Go.Proofs.YtlmfmioljeppfaaGreatDoor
open Go.RowKit Go.Shelf Go.Lib
theorem lcaGo_drop (m l : List Str) (k : Nat) (x : Str) (h : l[k]? = some x) : lcaGo m (l.drop k) = if memB m x then x else lcaGo m (l.drop (k + 1)) := by
  obtain ⟨hk, rfl⟩ := List.getElem?_eq_some_iff.1 h
  rw [List.drop_eq_getElem_cons hk]; rfl
theorem Right.face_line {l : List Class} (h : Right l) {c : Str} (hk : (findC (allC l) c).isSome = true) (hf : (classC (allC l) c).face = true) : lineC (allC l) c = [c, sObject] := by
  rw [Option.isSome_iff_exists] at hk
  obtain ⟨d, hd⟩ := hk
  have hm : d ∈ allC l := List.mem_of_find?_eq_some hd
  have hc : classC (allC l) c = d := by unfold classC; rw [hd]; rfl
  rw [hc] at hf
  unfold allC at hm
  rcases List.mem_cons.1 hm with rfl | hm
  · cases hf
  · rcases List.mem_cons.1 hm with rfl | hm
    · cases hf
    · have hj := h.joined d hm
      have hs : d.super = sObject := by
        unfold joinedC at hj
        split at hj
        · cases hj
        · split at hj
          · cases hj
          · split at hj
            · cases hj
            · split at hj
              · rename_i h1; exact absurd hj h1
              · split at hj
                · rename_i h1; exact absurd hj h1
                · split at hj
                  · cases hj
                  · rename_i h1
                    simp [hf] at h1
                    exact h1
      rw [h.line_up (by rw [hd]; rfl) (by rw [hc, hs]; decide), hc, hs, Right.line_top (show (classC (allC l) sObject).super.size = 0 from rfl)]
theorem Right.line_noface {l : List Class} (h : Right l) : ∀ c, (findC (allC l) c).isSome = true → ∀ d ∈ lineC (allC l) c, d ≠ c → (classC (allC l) d).face = false := by
  refine h.line_ind _ (fun x hk h0 d hd hne => ?_) (fun x hk h0 ih d hd hne => ?_)
  · rw [Right.line_top h0] at hd; simp at hd; exact absurd hd hne
  · rcases (h.line_mem hk).1 hd with rfl | ⟨_, hd⟩
    · exact absurd rfl hne
    · by_cases hs : d = (classC (allC l) x).super
      · rw [Option.isSome_iff_exists] at hk
        obtain ⟨c, hc⟩ := hk
        have hm : c ∈ allC l := List.mem_of_find?_eq_some hc
        have hcc : classC (allC l) x = c := by unfold classC; rw [hc]; rfl
        rw [hs, hcc]
        unfold allC at hm
        rcases List.mem_cons.1 hm with rfl | hm
        · rw [hcc] at h0; exact absurd rfl h0
        · rcases List.mem_cons.1 hm with rfl | hm
          · rfl
          · obtain ⟨g1, _⟩ := joined_faces (h.joined c hm)
            obtain ⟨e, he, hef⟩ := hasFault_face g1
            unfold classC; rw [he]; exact hef
      · exact ih d hd hs
theorem Right.classes {l : List Class} (h : Right l) {c d : Str} (hc : (findC (allC l) c).isSome = true) (hd : (findC (allC l) d).isSome = true) (hne : c ≠ d) :
    (if ((classC (allC l) c).face || (classC (allC l) d).face) = true then sObject else lcaC (allC l) c d) = lcaC (allC l) c d := by
  by_cases hf : ((classC (allC l) c).face || (classC (allC l) d).face) = true
  · rw [if_pos hf]
    obtain ⟨g1, g2⟩ := h.tree.lub1 c d hc hd
    rw [Bool.or_eq_true] at hf
    rcases hf with hf | hf
    · rw [h.face_line hc hf] at g1
      simp at g1
      rcases g1 with g1 | g1
      · rw [g1] at g2
        have := h.line_noface d hd c g2 hne
        rw [hf] at this; cases this
      · exact g1.symm
    · rw [h.face_line hd hf] at g2
      simp at g2
      rcases g2 with g2 | g2
      · rw [g2] at g1
        have := h.line_noface c hc d g1 (fun h => hne h.symm)
        rw [hf] at this; cases this
      · exact g2.symm
  · rw [if_neg hf]
theorem joinTy_word {cs : List Class} {x y : Ty} (h2 : x ≠ y) (h : isRef x = false ∨ isRef y = false) : joinTy cs x y = none := by
  cases x <;> cases y <;> first | rfl | (exact absurd rfl h2) | (rcases h with h | h <;> cases h)
theorem join_word {cs : List Class} {x y : Kd} (h2 : x ≠ y) (h3 : ¬ (x = .n ∧ refK y = true)) (h4 : ¬ (y = .n ∧ refK x = true)) (h : refK x = false ∨ refK y = false) : joinKd cs x y = .t := by
  cases x with
  | n => cases y with
    | n => exact absurd rfl h2
    | t => rfl
    | ty z =>
      rw [joinKd_nt]
      cases hz : isRef z with
      | true => exact absurd ⟨rfl, hz⟩ h3
      | false => rfl
  | t => cases y <;> rfl
  | ty u => cases y with
    | n =>
      rw [joinKd_tn]
      cases hz : isRef u with
      | true => exact absurd ⟨rfl, hz⟩ h4
      | false => rfl
    | t => rfl
    | ty v =>
      rw [joinKd_tt, joinTy_word (fun e => h2 (by rw [e])) h]
theorem join_arr {cs : List Class} {x y : Ty} (hx : isRef x = true) (hy : isRef y = true) : ∃ z, joinKd cs (.ty x) (.ty y) = .ty z ∧ joinKd cs (.ty (.ar x)) (.ty (.ar y)) = .ty (.ar z) := by
  obtain ⟨z, hz⟩ := joinTy_ref (cs := cs) hx hy
  refine ⟨z, by rw [joinKd_tt, hz], ?_⟩
  rw [joinKd_tt]
  unfold joinTy
  rw [hz]
theorem join_arr_word {cs : List Class} {x y : Ty} (hne : x ≠ y) (h : isRef x = false ∨ isRef y = false) : joinKd cs (.ty (.ar x)) (.ty (.ar y)) = .ty (.cl sObject) := by
  rw [joinKd_tt]
  unfold joinTy
  rw [joinTy_word hne h]
-- what a tree's text must be so that it is a kind's
theorem class_nameB {l : List Class} (hf : ∀ c ∈ l, classFault c = 0) {x : Str} (hx : (findC (allC l) x).isSome = true) : nameB (lst x) = true := by
  obtain ⟨c, hc, rfl⟩ := findC_mem hx
  unfold allC at hc
  rcases List.mem_cons.1 hc with rfl | hc
  · decide
  · rcases List.mem_cons.1 hc with rfl | hc
    · decide
    · have h := hf c hc
      unfold classFault at h
      split at h
      · cases h
      · rename_i h1
        rw [Bool.not_eq_true, Bool.or_eq_false_iff, Bool.not_eq_false'] at h1
        exact h1.1
theorem good_name {l : List Class} (hf : ∀ c ∈ l, classFault c = 0) : ∀ x : Ty, goodTy (allC l) x = true → nameOk x = true
  | .i, _ => rfl
  | .j, _ => rfl
  | .cl _, h => class_nameB hf h
  | .ar x, h => good_name hf x h
theorem coreLen_core : ∀ x : Ty, nameOk x = true → coreLen (tyText (coreTy x)) = (tyText (coreTy x)).length
  | .i, _ => rfl
  | .j, _ => rfl
  | .cl c, h => by
    have hs := semiAt_name (name_semi (c := lst c) h)
    show (if (76 : UInt8) = 73 ∨ (76 : UInt8) = 74 then 1 else if (76 : UInt8) = 76 then (if semiAt (lst c ++ [59]) < (lst c ++ [59]).length ∧ nameB ((lst c ++ [59]).take (semiAt (lst c ++ [59]))) = true then semiAt (lst c ++ [59]) + 2 else 0) else 0) = (76 :: (lst c ++ [59])).length
    rw [if_neg (by decide), if_pos rfl, hs, List.take_left, if_pos ⟨by simp, h⟩]
    simp
  | .ar x, h => coreLen_core x h
theorem text_length : ∀ x : Ty, (tyText x).length = deepTy x + (tyText (coreTy x)).length
  | .i => rfl
  | .j => rfl
  | .cl c => by simp [deepTy, coreTy]
  | .ar x => by
    have := text_length x
    simp only [tyText, deepTy, coreTy, List.length_cons]
    omega
theorem typeB_text {x : Ty} (hn : nameOk x = true) (hd : deepTy x ≤ 3) : typeB (tyText x) = true := by
  have h1 := coreLen_core x hn
  have h2 := text_length x
  have hp : 0 < (tyText (coreTy x)).length := List.length_pos_iff.2 (tyText_ne _)
  unfold typeB typeLen
  rw [deepOf_ty, drop_ty, if_pos ⟨hd, by omega⟩, Bool.and_eq_true, beq_iff_eq]
  refine ⟨?_, by omega⟩
  cases h : tyText x with
  | nil => exact absurd h (tyText_ne x)
  | cons _ _ => rfl
theorem deep_of_type {x : Ty} (h : typeB (tyText x) = true) : deepTy x ≤ 3 := by
  unfold typeB typeLen at h
  rw [deepOf_ty, Bool.and_eq_true, beq_iff_eq] at h
  have hp : 0 < (tyText x).length := List.length_pos_iff.2 (tyText_ne _)
  split at h
  · rename_i h1; exact h1.1
  · omega
def deepKd : Kd → Nat
  | .ty x => deepTy x
  | _ => 0
theorem classIn_ty {x : Ty} (h : nameOk x = true) (hd : deepTy x ≤ 3) : classIn (tyText x) = baseOf x := by
  obtain ⟨y, h1, h2, _⟩ := typeB_ty (tyText x) (typeB_text h hd)
  rw [h2, tyText_inj h1]
theorem kindR_zero {l : List Class} (hf : ∀ c ∈ l, classFault c = 0) {k : Str} {x : Kd} (h : IsKd (allC l) k x) (hd : deepKd x ≤ 3) : kindR (allC l) k = 0 := by
  obtain ⟨h1, h2⟩ := h
  unfold kindR
  rw [← h1]
  cases x with
  | n => exact if_pos (Or.inl rfl)
  | t => exact if_pos (Or.inr rfl)
  | ty y =>
    have hn := good_name hf y h2
    have hne : ∀ z : Ty, tyText z ≠ [78] ∧ tyText z ≠ [84] := fun z => by cases z <;> simp [tyText]
    show (if tyText y = [78] ∨ tyText y = [84] then 0 else if !typeB (tyText y) then 1 else if (classIn (tyText y)).isEmpty then 0 else if (findC (allC l) (str (classIn (tyText y)))).isSome then 0 else 3) = 0
    rw [if_neg (fun h => by rcases h with h | h; exact (hne y).1 h; exact (hne y).2 h), typeB_text hn hd, if_neg (by decide), classIn_ty hn hd]
    rcases good_base y h2 with hb | hb
    · rw [hb]; rfl
    · rw [hb]; split <;> rfl
theorem kindR_deep {cs : List Class} {k : Str} {x : Kd} (h : IsKd cs k x) (hk : kindR cs k = 0) : deepKd x ≤ 3 := by
  cases x with
  | n => exact Nat.zero_le _
  | t => exact Nat.zero_le _
  | ty y =>
    unfold kindR at hk
    rw [← h.1] at hk
    have hne : ∀ z : Ty, tyText z ≠ [78] ∧ tyText z ≠ [84] := fun z => by cases z <;> simp [tyText]
    change (if tyText y = [78] ∨ tyText y = [84] then 0 else if !typeB (tyText y) then 1 else _) = 0 at hk
    rw [if_neg (fun h => by rcases h with h | h; exact (hne y).1 h; exact (hne y).2 h)] at hk
    cases ht : typeB (tyText y) with
    | true => exact deep_of_type ht
    | false => rw [ht] at hk; cases hk
theorem joinTy_deep {cs : List Class} : ∀ {x y z : Ty}, joinTy cs x y = some z → deepTy z ≤ max (deepTy x) (deepTy y)
  | .i, .i, _, h => by cases h; exact Nat.zero_le _
  | .j, .j, _, h => by cases h; exact Nat.zero_le _
  | .cl _, .cl _, _, h => by cases h; exact Nat.zero_le _
  | .ar a, .ar b, z, h => by
    unfold joinTy at h
    cases hj : joinTy cs a b with
    | some w =>
      rw [hj] at h; cases h
      have := joinTy_deep hj
      simp only [deepTy]; omega
    | none => rw [hj] at h; cases h; exact Nat.zero_le _
  | .ar _, .cl _, _, h => by cases h; exact Nat.zero_le _
  | .cl _, .ar _, _, h => by cases h; exact Nat.zero_le _
  | .i, .j, _, h => by cases h
  | .i, .cl _, _, h => by cases h
  | .i, .ar _, _, h => by cases h
  | .j, .i, _, h => by cases h
  | .j, .cl _, _, h => by cases h
  | .j, .ar _, _, h => by cases h
  | .cl _, .i, _, h => by cases h
  | .cl _, .j, _, h => by cases h
  | .ar _, .i, _, h => by cases h
  | .ar _, .j, _, h => by cases h
theorem joinKd_deep {cs : List Class} (x y : Kd) : deepKd (joinKd cs x y) ≤ max (deepKd x) (deepKd y) := by
  cases x with
  | n => cases y with
    | n => exact Nat.zero_le _
    | t => exact Nat.zero_le _
    | ty z =>
      rw [joinKd_nt]
      split
      · exact Nat.le_max_right _ _
      · exact Nat.zero_le _
  | t => cases y <;> exact Nat.zero_le _
  | ty u => cases y with
    | n =>
      rw [joinKd_tn]
      split
      · exact Nat.le_max_left _ _
      · exact Nat.zero_le _
    | t => exact Nat.zero_le _
    | ty v =>
      rw [joinKd_tt]
      cases hj : joinTy cs u v with
      | some z => exact joinTy_deep hj
      | none => exact Nat.zero_le _
theorem join_kind {l : List Class} (hf : ∀ c ∈ l, classFault c = 0) {a b z : Str} {x y : Kd} (hx : IsKd (allC l) a x) (hy : IsKd (allC l) b y) (ka : kindR (allC l) a = 0) (kb : kindR (allC l) b = 0) (hz : IsKd (allC l) z (joinKd (allC l) x y)) : kindR (allC l) z = 0 := by
  have h1 := kindR_deep hx ka
  have h2 := kindR_deep hy kb
  have h3 := joinKd_deep (cs := allC l) x y
  exact kindR_zero hf hz (by omega)
end Go.Proofs.YtlmfmioljeppfaaGreatDoor
namespace Go.Proofs.YtlmfmioljeppfaaGreatDoor
open Go.RowKit Go.Shelf Go.Lib
def noMethod : Method := ⟨.empty, .empty, false, false, false, 0, [], []⟩
def fieldIn (n : Str) : List Field → Option Field
  | [] => none
  | f :: r => if f.name = n then some f else fieldIn n r
theorem fieldIn_drop (n : Str) (l : List Field) (k : Nat) (x : Field) (h : l[k]? = some x) : fieldIn n (l.drop k) = if x.name = n then some x else fieldIn n (l.drop (k + 1)) := by
  obtain ⟨hk, rfl⟩ := List.getElem?_eq_some_iff.1 h
  rw [List.drop_eq_getElem_cons hk]; rfl
def fieldGo (cs : List Class) (n : Str) : List Str → Option (Str × Field)
  | [] => none
  | c :: r => match fieldIn n (classC cs c).fields with
    | some f => some (c, f)
    | none => fieldGo cs n r
theorem fieldGo_drop (cs : List Class) (n : Str) (l : List Str) (k : Nat) (x : Str) (h : l[k]? = some x) : fieldGo cs n (l.drop k) = match fieldIn n (classC cs x).fields with
    | some f => some (x, f)
    | none => fieldGo cs n (l.drop (k + 1)) := by
  obtain ⟨hk, rfl⟩ := List.getElem?_eq_some_iff.1 h
  rw [List.drop_eq_getElem_cons hk]; rfl
def ownIn (n t : Str) : List Method → Option Method
  | [] => none
  | m :: r => if m.name = n ∧ m.type = t then some m else ownIn n t r
theorem ownIn_drop (n t : Str) (l : List Method) (k : Nat) (x : Method) (h : l[k]? = some x) : ownIn n t (l.drop k) = if x.name = n ∧ x.type = t then some x else ownIn n t (l.drop (k + 1)) := by
  obtain ⟨hk, rfl⟩ := List.getElem?_eq_some_iff.1 h
  rw [List.drop_eq_getElem_cons hk]; rfl
def methodGo (cs : List Class) (n t : Str) : List Str → Option (Str × Method)
  | [] => none
  | c :: r => match ownIn n t (classC cs c).methods with
    | some m => some (c, m)
    | none => methodGo cs n t r
theorem methodGo_drop (cs : List Class) (n t : Str) (l : List Str) (k : Nat) (x : Str) (h : l[k]? = some x) : methodGo cs n t (l.drop k) = match ownIn n t (classC cs x).methods with
    | some m => some (x, m)
    | none => methodGo cs n t (l.drop (k + 1)) := by
  obtain ⟨hk, rfl⟩ := List.getElem?_eq_some_iff.1 h
  rw [List.drop_eq_getElem_cons hk]; rfl
def faceGo (cs : List Class) (n t : Str) (a : Bool) : List Str → Option (Str × Method)
  | [] => none
  | c :: r => match ownIn n t (classC cs c).methods with
    | some m => if ((classC cs c).face && (m.abs == a)) = true then some (c, m) else faceGo cs n t a r
    | none => faceGo cs n t a r
theorem faceGo_drop (cs : List Class) (n t : Str) (a : Bool) (l : List Str) (k : Nat) (x : Str) (h : l[k]? = some x) : faceGo cs n t a (l.drop k) = match ownIn n t (classC cs x).methods with
    | some m => if ((classC cs x).face && (m.abs == a)) = true then some (x, m) else faceGo cs n t a (l.drop (k + 1))
    | none => faceGo cs n t a (l.drop (k + 1)) := by
  obtain ⟨hk, rfl⟩ := List.getElem?_eq_some_iff.1 h
  rw [List.drop_eq_getElem_cons hk]; rfl
def fieldC (cs : List Class) (cls n : Str) : Option (Str × Field) := fieldGo cs n (lineC cs cls)
def methodC (cs : List Class) (cls n t : Str) : Option (Str × Method) :=
  match methodGo cs n t (lineC cs cls) with
  | some x => some x
  | none => match faceGo cs n t false (sortS (everyC cs cls)) with
    | some x => some x
    | none => faceGo cs n t true (sortS (everyC cs cls))
end Go.Proofs.YtlmfmioljeppfaaGreatDoor
namespace Go.Proofs.YtlmfmioljeppfaaGreatDoor
open Go.RowKit Go.Shelf Go.Lib
end Go.Proofs.YtlmfmioljeppfaaGreatDoor
