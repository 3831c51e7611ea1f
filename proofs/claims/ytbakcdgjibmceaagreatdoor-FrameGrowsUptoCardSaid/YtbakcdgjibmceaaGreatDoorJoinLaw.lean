/-
  PLAIN LAW: what both are, by the cases that the program looks at.
-/
import Derived.Test.YtbakcdgjibmceaaGreatDoorKinds
import Derived.Test.YtbakcdgjibmceaaGreatDoorFaults
import Derived.Test.YtbakcdgjibmceaaGreatDoorUpLaw
namespace Go.Proofs.YtbakcdgjibmceaaGreatDoor
open Go.RowKit Go.Shelf Go.Lib
theorem lcaGo_drop (m l : List Str) (k : Nat) (x : Str) (h : l[k]? = some x) : lcaGo m (l.drop k) = if memB m x then x else lcaGo m (l.drop (k + 1)) := by
  obtain ⟨hk, rfl⟩ := List.getElem?_eq_some_iff.1 h
  rw [List.drop_eq_getElem_cons hk]; rfl
/-- a face's line: it, and Object -/
theorem Right.face_line {l : List Class} (h : Right l) {c : Str} (hk : (findC (allC l) c).isSome = true) (hf : (classC (allC l) c).face = true) : lineC (allC l) c = [c, sObject] := by
  rw [Option.isSome_iff_exists] at hk
  obtain ⟨d, hd⟩ := hk
  have hm : d ∈ allC l := List.mem_of_find?_eq_some hd
  have hc : classC (allC l) c = d := by unfold classC; rw [hd]; rfl
  rw [hc] at hf
  unfold allC at hm
  rcases List.mem_cons.1 hm with rfl | hm
  · cases hf
  · rcases List.mem_cons.1 hm with rfl | hm
    · cases hf
    · have hj := h.joined d hm
      have hs : d.super = sObject := by
        unfold joinedC at hj
        split at hj
        · cases hj
        · split at hj
          · cases hj
          · split at hj
            · cases hj
            · split at hj
              · rename_i h1; exact absurd hj h1
              · split at hj
                · rename_i h1; exact absurd hj h1
                · split at hj
                  · cases hj
                  · rename_i h1
                    simp [hf] at h1
                    exact h1
      rw [h.line_up (by rw [hd]; rfl) (by rw [hc, hs]; decide), hc, hs, Right.line_top (show (classC (allC l) sObject).super.size = 0 from rfl)]
/-- what is above a class is no face -/
theorem Right.line_noface {l : List Class} (h : Right l) : ∀ c, (findC (allC l) c).isSome = true → ∀ d ∈ lineC (allC l) c, d ≠ c → (classC (allC l) d).face = false := by
  refine h.line_ind _ (fun x hk h0 d hd hne => ?_) (fun x hk h0 ih d hd hne => ?_)
  · rw [Right.line_top h0] at hd; simp at hd; exact absurd hd hne
  · rcases (h.line_mem hk).1 hd with rfl | ⟨_, hd⟩
    · exact absurd rfl hne
    · by_cases hs : d = (classC (allC l) x).super
      · rw [Option.isSome_iff_exists] at hk
        obtain ⟨c, hc⟩ := hk
        have hm : c ∈ allC l := List.mem_of_find?_eq_some hc
        have hcc : classC (allC l) x = c := by unfold classC; rw [hc]; rfl
        rw [hs, hcc]
        unfold allC at hm
        rcases List.mem_cons.1 hm with rfl | hm
        · rw [hcc] at h0; exact absurd rfl h0
        · rcases List.mem_cons.1 hm with rfl | hm
          · rfl
          · obtain ⟨g1, _⟩ := joined_faces (h.joined c hm)
            obtain ⟨e, he, hef⟩ := hasFault_face g1
            unfold classC; rw [he]; exact hef
      · exact ih d hd hs
/-- what classes tells, of two different classes, is the first of the one's line that is in the other's -/
theorem Right.classes {l : List Class} (h : Right l) {c d : Str} (hc : (findC (allC l) c).isSome = true) (hd : (findC (allC l) d).isSome = true) (hne : c ≠ d) :
    (if ((classC (allC l) c).face || (classC (allC l) d).face) = true then sObject else lcaC (allC l) c d) = lcaC (allC l) c d := by
  by_cases hf : ((classC (allC l) c).face || (classC (allC l) d).face) = true
  · rw [if_pos hf]
    obtain ⟨g1, g2⟩ := h.tree.lub1 c d hc hd
    rw [Bool.or_eq_true] at hf
    rcases hf with hf | hf
    · rw [h.face_line hc hf] at g1
      simp at g1
      rcases g1 with g1 | g1
      · rw [g1] at g2
        have := h.line_noface d hd c g2 hne
        rw [hf] at this; cases this
      · exact g1.symm
    · rw [h.face_line hd hf] at g2
      simp at g2
      rcases g2 with g2 | g2
      · rw [g2] at g1
        have := h.line_noface c hc d g1 (fun h => hne h.symm)
        rw [hf] at this; cases this
      · exact g2.symm
  · rw [if_neg hf]
theorem joinTy_word {cs : List Class} {x y : Ty} (h2 : x ≠ y) (h : isRef x = false ∨ isRef y = false) : joinTy cs x y = none := by
  cases x <;> cases y <;> first | rfl | (exact absurd rfl h2) | (rcases h with h | h <;> cases h)
theorem join_word {cs : List Class} {x y : Kd} (h2 : x ≠ y) (h3 : ¬ (x = .n ∧ refK y = true)) (h4 : ¬ (y = .n ∧ refK x = true)) (h : refK x = false ∨ refK y = false) : joinKd cs x y = .t := by
  cases x with
  | n => cases y with
    | n => exact absurd rfl h2
    | t => rfl
    | ty z =>
      rw [joinKd_nt]
      cases hz : isRef z with
      | true => exact absurd ⟨rfl, hz⟩ h3
      | false => rfl
  | t => cases y <;> rfl
  | ty u => cases y with
    | n =>
      rw [joinKd_tn]
      cases hz : isRef u with
      | true => exact absurd ⟨rfl, hz⟩ h4
      | false => rfl
    | t => rfl
    | ty v =>
      rw [joinKd_tt, joinTy_word (fun e => h2 (by rw [e])) h]
/-- what both are, of two arrays of refs -/
theorem join_arr {cs : List Class} {x y : Ty} (hx : isRef x = true) (hy : isRef y = true) : ∃ z, joinKd cs (.ty x) (.ty y) = .ty z ∧ joinKd cs (.ty (.ar x)) (.ty (.ar y)) = .ty (.ar z) := by
  obtain ⟨z, hz⟩ := joinTy_ref (cs := cs) hx hy
  refine ⟨z, by rw [joinKd_tt, hz], ?_⟩
  rw [joinKd_tt]
  unfold joinTy
  rw [hz]
theorem join_arr_word {cs : List Class} {x y : Ty} (hne : x ≠ y) (h : isRef x = false ∨ isRef y = false) : joinKd cs (.ty (.ar x)) (.ty (.ar y)) = .ty (.cl sObject) := by
  rw [joinKd_tt]
  unfold joinTy
  rw [joinTy_word hne h]
-- what a tree's text must be so that it is a kind's
theorem class_nameB {l : List Class} (hf : ∀ c ∈ l, classFault c = 0) {x : Str} (hx : (findC (allC l) x).isSome = true) : nameB (lst x) = true := by
  obtain ⟨c, hc, rfl⟩ := findC_mem hx
  unfold allC at hc
  rcases List.mem_cons.1 hc with rfl | hc
  · decide
  · rcases List.mem_cons.1 hc with rfl | hc
    · decide
    · have h := hf c hc
      unfold classFault at h
      split at h
      · cases h
      · rename_i h1
        rw [Bool.not_eq_true, Bool.or_eq_false_iff, Bool.not_eq_false'] at h1
        exact h1.1
theorem good_name {l : List Class} (hf : ∀ c ∈ l, classFault c = 0) : ∀ x : Ty, goodTy (allC l) x = true → nameOk x = true
  | .i, _ => rfl
  | .j, _ => rfl
  | .cl _, h => class_nameB hf h
  | .ar x, h => good_name hf x h
theorem coreLen_core : ∀ x : Ty, nameOk x = true → coreLen (tyText (coreTy x)) = (tyText (coreTy x)).length
  | .i, _ => rfl
  | .j, _ => rfl
  | .cl c, h => by
    have hs := semiAt_name (name_semi (c := lst c) h)
    show (if (76 : UInt8) = 73 ∨ (76 : UInt8) = 74 then 1 else if (76 : UInt8) = 76 then (if semiAt (lst c ++ [59]) < (lst c ++ [59]).length ∧ nameB ((lst c ++ [59]).take (semiAt (lst c ++ [59]))) = true then semiAt (lst c ++ [59]) + 2 else 0) else 0) = (76 :: (lst c ++ [59])).length
    rw [if_neg (by decide), if_pos rfl, hs, List.take_left, if_pos ⟨by simp, h⟩]
    simp
  | .ar x, h => coreLen_core x h
theorem text_length : ∀ x : Ty, (tyText x).length = deepTy x + (tyText (coreTy x)).length
  | .i => rfl
  | .j => rfl
  | .cl c => by simp [deepTy, coreTy]
  | .ar x => by
    have := text_length x
    simp only [tyText, deepTy, coreTy, List.length_cons]
    omega
theorem typeB_text {x : Ty} (hn : nameOk x = true) (hd : deepTy x ≤ 3) : typeB (tyText x) = true := by
  have h1 := coreLen_core x hn
  have h2 := text_length x
  have hp : 0 < (tyText (coreTy x)).length := List.length_pos_iff.2 (tyText_ne _)
  unfold typeB typeLen
  rw [deepOf_ty, drop_ty, if_pos ⟨hd, by omega⟩, Bool.and_eq_true, beq_iff_eq]
  refine ⟨?_, by omega⟩
  cases h : tyText x with
  | nil => exact absurd h (tyText_ne x)
  | cons _ _ => rfl
theorem deep_of_type {x : Ty} (h : typeB (tyText x) = true) : deepTy x ≤ 3 := by
  unfold typeB typeLen at h
  rw [deepOf_ty, Bool.and_eq_true, beq_iff_eq] at h
  have hp : 0 < (tyText x).length := List.length_pos_iff.2 (tyText_ne _)
  split at h
  · rename_i h1; exact h1.1
  · omega
def deepKd : Kd → Nat
  | .ty x => deepTy x
  | _ => 0
theorem classIn_ty {x : Ty} (h : nameOk x = true) (hd : deepTy x ≤ 3) : classIn (tyText x) = baseOf x := by
  obtain ⟨y, h1, h2, _⟩ := typeB_ty (tyText x) (typeB_text h hd)
  rw [h2, tyText_inj h1]
theorem kindR_zero {l : List Class} (hf : ∀ c ∈ l, classFault c = 0) {k : Str} {x : Kd} (h : IsKd (allC l) k x) (hd : deepKd x ≤ 3) : kindR (allC l) k = 0 := by
  obtain ⟨h1, h2⟩ := h
  unfold kindR
  rw [← h1]
  cases x with
  | n => exact if_pos (Or.inl rfl)
  | t => exact if_pos (Or.inr rfl)
  | ty y =>
    have hn := good_name hf y h2
    have hne : ∀ z : Ty, tyText z ≠ [78] ∧ tyText z ≠ [84] := fun z => by cases z <;> simp [tyText]
    show (if tyText y = [78] ∨ tyText y = [84] then 0 else if !typeB (tyText y) then 1 else if (classIn (tyText y)).isEmpty then 0 else if (findC (allC l) (str (classIn (tyText y)))).isSome then 0 else 3) = 0
    rw [if_neg (fun h => by rcases h with h | h; exact (hne y).1 h; exact (hne y).2 h), typeB_text hn hd, if_neg (by decide), classIn_ty hn hd]
    rcases good_base y h2 with hb | hb
    · rw [hb]; rfl
    · rw [hb]; split <;> rfl
theorem kindR_deep {cs : List Class} {k : Str} {x : Kd} (h : IsKd cs k x) (hk : kindR cs k = 0) : deepKd x ≤ 3 := by
  cases x with
  | n => exact Nat.zero_le _
  | t => exact Nat.zero_le _
  | ty y =>
    unfold kindR at hk
    rw [← h.1] at hk
    have hne : ∀ z : Ty, tyText z ≠ [78] ∧ tyText z ≠ [84] := fun z => by cases z <;> simp [tyText]
    change (if tyText y = [78] ∨ tyText y = [84] then 0 else if !typeB (tyText y) then 1 else _) = 0 at hk
    rw [if_neg (fun h => by rcases h with h | h; exact (hne y).1 h; exact (hne y).2 h)] at hk
    cases ht : typeB (tyText y) with
    | true => exact deep_of_type ht
    | false => rw [ht] at hk; cases hk
theorem joinTy_deep {cs : List Class} : ∀ {x y z : Ty}, joinTy cs x y = some z → deepTy z ≤ max (deepTy x) (deepTy y)
  | .i, .i, _, h => by cases h; exact Nat.zero_le _
  | .j, .j, _, h => by cases h; exact Nat.zero_le _
  | .cl _, .cl _, _, h => by cases h; exact Nat.zero_le _
  | .ar a, .ar b, z, h => by
    unfold joinTy at h
    cases hj : joinTy cs a b with
    | some w =>
      rw [hj] at h; cases h
      have := joinTy_deep hj
      simp only [deepTy]; omega
    | none => rw [hj] at h; cases h; exact Nat.zero_le _
  | .ar _, .cl _, _, h => by cases h; exact Nat.zero_le _
  | .cl _, .ar _, _, h => by cases h; exact Nat.zero_le _
  | .i, .j, _, h => by cases h
  | .i, .cl _, _, h => by cases h
  | .i, .ar _, _, h => by cases h
  | .j, .i, _, h => by cases h
  | .j, .cl _, _, h => by cases h
  | .j, .ar _, _, h => by cases h
  | .cl _, .i, _, h => by cases h
  | .cl _, .j, _, h => by cases h
  | .ar _, .i, _, h => by cases h
  | .ar _, .j, _, h => by cases h
theorem joinKd_deep {cs : List Class} (x y : Kd) : deepKd (joinKd cs x y) ≤ max (deepKd x) (deepKd y) := by
  cases x with
  | n => cases y with
    | n => exact Nat.zero_le _
    | t => exact Nat.zero_le _
    | ty z =>
      rw [joinKd_nt]
      split
      · exact Nat.le_max_right _ _
      · exact Nat.zero_le _
  | t => cases y <;> exact Nat.zero_le _
  | ty u => cases y with
    | n =>
      rw [joinKd_tn]
      split
      · exact Nat.le_max_left _ _
      · exact Nat.zero_le _
    | t => exact Nat.zero_le _
    | ty v =>
      rw [joinKd_tt]
      cases hj : joinTy cs u v with
      | some z => exact joinTy_deep hj
      | none => exact Nat.zero_le _
/-- the text of what both are is a kind's -/
theorem join_kind {l : List Class} (hf : ∀ c ∈ l, classFault c = 0) {a b z : Str} {x y : Kd} (hx : IsKd (allC l) a x) (hy : IsKd (allC l) b y) (ka : kindR (allC l) a = 0) (kb : kindR (allC l) b = 0) (hz : IsKd (allC l) z (joinKd (allC l) x y)) : kindR (allC l) z = 0 := by
  have h1 := kindR_deep hx ka
  have h2 := kindR_deep hy kb
  have h3 := joinKd_deep (cs := allC l) x y
  exact kindR_zero hf hz (by omega)
end Go.Proofs.YtbakcdgjibmceaaGreatDoor
