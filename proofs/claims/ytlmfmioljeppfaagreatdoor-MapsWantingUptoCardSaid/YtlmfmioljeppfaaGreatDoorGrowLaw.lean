/-
  PLAIN LAW: an instruction that fits a frame fits every frame below it, and the result is below.
-/
import Derived.Test.YtlmfmioljeppfaaGreatDoorDeepLaw
namespace Go.Proofs.YtlmfmioljeppfaaGreatDoor
open Go.RowKit Go.Shelf Go.Lib
def LeL (cs : List Class) : List Str → List Str → Prop
  | [], [] => True
  | x :: r, y :: s => leKd cs (kdOf x) (kdOf y) ∧ LeL cs r s
  | _, _ => False
theorem LeL.len {cs : List Class} : ∀ {A B : List Str}, LeL cs A B → A.length = B.length
  | [], [], _ => rfl
  | _ :: _, _ :: _, h => by simp [LeL.len h.2]
theorem LeL.snoc_inv {cs : List Class} {y : Str} : ∀ {A B : List Str}, LeL cs A (B ++ [y]) → ∃ A' x, A = A' ++ [x] ∧ LeL cs A' B ∧ leKd cs (kdOf x) (kdOf y)
  | [], [], h => h.elim
  | [], _ :: _, h => h.elim
  | [x], [], h => ⟨[], x, rfl, trivial, h.1⟩
  | _ :: _ :: _, [], h => h.2.elim
  | a :: r, b :: s, h => by
    obtain ⟨A', x, e, h1, h2⟩ := LeL.snoc_inv (A := r) (B := s) h.2
    exact ⟨a :: A', x, by rw [e]; rfl, ⟨h.1, h1⟩, h2⟩
theorem LeL.snoc {cs : List Class} {x y : Str} (hxy : leKd cs (kdOf x) (kdOf y)) : ∀ {A B : List Str}, LeL cs A B → LeL cs (A ++ [x]) (B ++ [y])
  | [], [], _ => ⟨hxy, trivial⟩
  | _ :: _, _ :: _, h => ⟨h.1, LeL.snoc hxy h.2⟩
theorem LeL.get {cs : List Class} {y : Str} : ∀ {A B : List Str} {i : Nat}, LeL cs A B → B[i]? = some y → ∃ x, A[i]? = some x ∧ leKd cs (kdOf x) (kdOf y)
  | [], [], i, _, h => by simp at h
  | a :: r, b :: s, 0, h, hi => by simp at hi; subst hi; exact ⟨a, by simp, h.1⟩
  | a :: r, b :: s, i + 1, h, hi => by
    obtain ⟨x, h1, h2⟩ := LeL.get (i := i) h.2 (by simpa using hi)
    exact ⟨x, by simpa using h1, h2⟩
theorem LeL.set {cs : List Class} {x y : Str} (hxy : leKd cs (kdOf x) (kdOf y)) : ∀ {A B : List Str} {i : Nat}, LeL cs A B → LeL cs (A.set i x) (B.set i y)
  | [], [], _, _ => trivial
  | _ :: _, _ :: _, 0, h => ⟨hxy, h.2⟩
  | _ :: _, _ :: _, i + 1, h => ⟨h.1, LeL.set hxy (i := i) h.2⟩
structure LeF (cs : List Class) (A B : List Str) : Prop where
  le : LeL cs A B
  ka : Known cs A
  kb : Known cs B
  sm : A.length ≤ 8
theorem known_good {cs : List Class} {k : Str} (h : kindR cs k = 0) : goodKd cs (kdOf k) = true := by
  obtain ⟨X, hX, hg⟩ := kind_of h
  rw [kdOf_text hX]; exact hg
theorem known_snoc {cs : List Class} {S : List Str} {k : Str} (h : Known cs S) (hk : kindR cs k = 0) : Known cs (S ++ [k]) := fun x hx => by
  rcases List.mem_append.1 hx with hx | hx
  · exact h x hx
  · simp at hx; subst hx; exact hk
theorem known_set {cs : List Class} {S : List Str} {k : Str} {i : Nat} (h : Known cs S) (hk : kindR cs k = 0) : Known cs (S.set i k) := fun x hx => by
  rcases List.mem_or_eq_of_mem_set hx with hx | hx
  · exact h x hx
  · rw [hx]; exact hk
variable {l : List Class}
theorem popS_mono {Sa Sb S' : List Str} {t : Str} (h : LeF (allC l) Sa Sb) (hp : popS Sb = some (t, S')) : ∃ u Sa', popS Sa = some (u, Sa') ∧ leKd (allC l) (kdOf u) (kdOf t) ∧ kindR (allC l) u = 0 ∧ kindR (allC l) t = 0 ∧ LeF (allC l) Sa' S' := by
  have hs := popS_spec hp
  have hl := h.le
  rw [hs] at hl
  obtain ⟨A', x, e, h1, h2⟩ := hl.snoc_inv
  obtain ⟨k1, k2⟩ := popS_known hp h.kb
  have hpa : popS Sa = some (x, A') := by rw [e, popS_snoc]
  obtain ⟨k3, k4⟩ := popS_known hpa h.ka
  have h8 := h.sm
  rw [e, List.length_append] at h8
  exact ⟨x, A', hpa, h2, k3, k1, h1, k4, k2, by omega⟩
theorem putS_mono {Sa Sb S' : List Str} {u t : Str} (h : LeF (allC l) Sa Sb) (hut : leKd (allC l) (kdOf u) (kdOf t)) (hu : kindR (allC l) u = 0) (ht : kindR (allC l) t = 0) (hp : putS Sb t = some S') : ∃ Sa', putS Sa u = some Sa' ∧ LeF (allC l) Sa' S' := by
  have hs := putS_spec hp
  unfold putS at hp ⊢
  split at hp
  · rename_i h8
    rw [if_pos (by rw [h.le.len]; exact h8)]
    subst hs
    exact ⟨_, rfl, h.le.snoc hut, known_snoc h.ka hu, known_snoc h.kb ht, by rw [List.length_append, h.le.len]; exact h8⟩
  · cases hp
theorem putL_mono {La Lb Sa Sb L' S' : List Str} {u t : Str} (hL : LeF (allC l) La Lb) (h : LeF (allC l) Sa Sb) (hut : leKd (allC l) (kdOf u) (kdOf t)) (hu : kindR (allC l) u = 0) (ht : kindR (allC l) t = 0) (hp : putL Lb Sb t = some (L', S')) : ∃ La' Sa', putL La Sa u = some (La', Sa') ∧ LeF (allC l) La' L' ∧ LeF (allC l) Sa' S' := by
  obtain ⟨e, hq⟩ := putL_spec hp
  subst e
  obtain ⟨Sa', h1, h2⟩ := putS_mono h hut hu ht hq
  exact ⟨La, Sa', putL_some h1, hL, h2⟩
theorem putL_same {La Lb Sa Sb L' S' : List Str} {t : Str} (hL : LeF (allC l) La Lb) (h : LeF (allC l) Sa Sb) (ht : kindR (allC l) t = 0) (hp : putL Lb Sb t = some (L', S')) : ∃ La' Sa', putL La Sa t = some (La', Sa') ∧ LeF (allC l) La' L' ∧ LeF (allC l) Sa' S' :=
  putL_mono hL h (leKd_refl _ _) ht ht hp
theorem takeS_mono (hR : Right l) : ∀ {ks Sa Sb S' : List Str}, LeF (allC l) Sa Sb → takeS (allC l) ks Sb = some S' → ∃ Sa', takeS (allC l) ks Sa = some Sa' ∧ LeF (allC l) Sa' S' ∧ ∀ k ∈ ks, kindR (allC l) k = 0
  | [], Sa, Sb, S', h, ht => by injection ht with ht; subst ht; exact ⟨Sa, rfl, h, fun k hk => by cases hk⟩
  | k :: r, Sa, Sb, S', h, ht => by
    unfold takeS at ht ⊢
    split at ht
    · cases ht
    · rename_i h0
      rw [if_neg h0]
      cases hp : popS Sb with
      | none => rw [hp] at ht; cases ht
      | some p =>
        obtain ⟨t, S1⟩ := p
        rw [hp] at ht
        obtain ⟨u, Sa1, h1, h2, h3, h4, h5⟩ := popS_mono h hp
        rw [h1]
        dsimp only at ht ⊢
        split at ht
        · rename_i hf
          have hg := fits_trans hR (known_good h3) (le_fits hR (known_good h3) h2) hf
          rw [if_pos hg]
          obtain ⟨Sa', g1, g2, g3⟩ := takeS_mono hR h5 ht
          exact ⟨Sa', g1, g2, fun x hx => by
            rcases List.mem_cons.1 hx with e | hx
            · rw [e]; exact Decidable.not_not.1 h0
            · exact g3 x hx⟩
        · cases ht
theorem refNB_le {cs : List Class} {x y : Kd} (h : leKd cs x y) (hy : refNB y = true) : refNB x = true := by
  cases y with
  | t => cases hy
  | n => cases x with
    | n => rfl
    | t => exact h.elim
    | ty x => exact h.elim
  | ty y => cases x with
    | n => rfl
    | t => exact h.elim
    | ty x =>
      have hy' : isRef y = true := hy
      cases x <;> cases y <;> first | rfl | exact h.elim | cases hy'
theorem popR_mono {Sa Sb S' : List Str} {t : Str} (h : LeF (allC l) Sa Sb) (hp : popR Sb = some (t, S')) : ∃ u Sa', popR Sa = some (u, Sa') ∧ leKd (allC l) (kdOf u) (kdOf t) ∧ kindR (allC l) u = 0 ∧ kindR (allC l) t = 0 ∧ LeF (allC l) Sa' S' := by
  obtain ⟨h1, h2⟩ := popR_spec hp
  obtain ⟨u, Sa', g1, g2, g3, g4, g5⟩ := popS_mono h h1
  refine ⟨u, Sa', ?_, g2, g3, g4, g5⟩
  unfold popR
  rw [g1, Option.bind_some]
  dsimp only
  rw [if_pos (refNB_le g2 h2)]
theorem arrOk_le (hR : Right l) {u t x : Str} (h : leKd (allC l) (kdOf u) (kdOf t)) (hu : goodKd (allC l) (kdOf u) = true) (hk : arrOk (allC l) t x = true) : arrOk (allC l) u x = true := by
  unfold arrOk at hk ⊢
  generalize kdOf u = a at *
  generalize kdOf t = b at *
  cases b with
  | t => cases hk
  | n => cases a with
    | n => rfl
    | t => exact h.elim
    | ty x => exact h.elim
  | ty y => cases y with
    | i => cases hk
    | j => cases hk
    | cl c => cases hk
    | ar e => cases a with
      | n => rfl
      | t => exact h.elim
      | ty z => cases z with
        | i => exact h.elim
        | j => exact h.elim
        | cl c => exact h.elim
        | ar d =>
          dsimp only at hk ⊢
          rw [Bool.and_eq_true] at hk
          have hle : leKd (allC l) (.ty d) (.ty e) := h
          have hgd : goodKd (allC l) (.ty d) = true := hu
          have hf := le_fits hR hgd hle
          have hrd : isRef d = isRef e := fitsTy_ref (cs := allC l) (x := d) (y := e) hf
          rw [fits_trans hR hgd hf hk.1, hrd, hk.2]
          rfl
theorem arrayF_mono (hR : Right l) {Sa Sb S' : List Str} {t : Str} (h : LeF (allC l) Sa Sb) (ha : arrayF (allC l) t Sb = some S') : ∃ Sa', arrayF (allC l) t Sa = some Sa' ∧ LeF (allC l) Sa' S' ∧ kindR (allC l) t = 0 := by
  unfold arrayF at ha ⊢
  split at ha
  · cases ha
  · rename_i h0
    rw [if_neg h0]
    obtain ⟨S1, h1, ha⟩ := bind_spec ha
    obtain ⟨⟨x, S2⟩, h2, ha⟩ := bind_spec ha
    obtain ⟨Sa1, g1, g2, _⟩ := takeS_mono hR h h1
    obtain ⟨u, Sa2, g3, g4, g5, _, g6⟩ := popR_mono g2 h2
    rw [ob_some g1, ob_some g3]
    dsimp only at ha ⊢
    split at ha
    · rename_i hk
      injection ha with ha
      subst ha
      rw [if_pos (arrOk_le hR g4 (known_good g5) hk)]
      exact ⟨Sa2, rfl, g6, Decidable.not_not.1 h0⟩
    · cases ha
theorem endS_mono {La Lb Sa Sb L' S' : List Str} {g : Str} (hL : LeF (allC l) La Lb) (h : LeF (allC l) Sa Sb) (he : endS (allC l) Lb Sb g = some (L', S')) : ∃ La' Sa', endS (allC l) La Sa g = some (La', Sa') ∧ LeF (allC l) La' L' ∧ LeF (allC l) Sa' S' := by
  unfold endS at he ⊢
  split at he
  · rename_i hv
    injection he with he
    obtain ⟨e1, e2⟩ := pair_eq he
    subst e1 e2
    rw [if_pos hv]
    exact ⟨La, Sa, rfl, hL, h⟩
  · rename_i hv
    rw [if_neg hv]
    unfold putK at he ⊢
    split at he
    · rename_i hk
      rw [if_pos hk]
      exact putL_same hL h hk he
    · cases he
theorem thisS_mono (hR : Right l) {static : Bool} {cls : Str} {Sa Sb S' : List Str} (h : LeF (allC l) Sa Sb) (ht : thisS (allC l) static cls Sb = some S') : ∃ Sa', thisS (allC l) static cls Sa = some Sa' ∧ LeF (allC l) Sa' S' := by
  unfold thisS at ht ⊢
  split at ht
  · rename_i hs
    injection ht with ht
    subst ht
    rw [if_pos hs]
    exact ⟨Sa, rfl, h⟩
  · rename_i hs
    rw [if_neg hs]
    obtain ⟨Sa', g1, g2, _⟩ := takeS_mono hR h ht
    exact ⟨Sa', g1, g2⟩
theorem callF_mono (hR : Right l) {from' cls name type : Str} {static : Bool} {La Lb Sa Sb L' S' : List Str} (hL : LeF (allC l) La Lb) (h : LeF (allC l) Sa Sb) (hc : callF (allC l) from' cls name type static Lb Sb = some (L', S')) : ∃ La' Sa', callF (allC l) from' cls name type static La Sa = some (La', Sa') ∧ LeF (allC l) La' L' ∧ LeF (allC l) Sa' S' := by
  unfold callF at hc ⊢
  split at hc
  · cases hc
  · rename_i h0
    rw [if_neg h0]
    cases hm : methodR type with
    | none => rw [hm] at hc; cases hc
    | some p =>
      obtain ⟨args, g⟩ := p
      rw [hm] at hc
      dsimp only at hc ⊢
      obtain ⟨S1, h1, hc⟩ := bind_spec hc
      obtain ⟨S2, h2, hc⟩ := bind_spec hc
      obtain ⟨Sa1, g1, g2, _⟩ := takeS_mono hR h h1
      obtain ⟨Sa2, g3, g4⟩ := thisS_mono hR g2 h2
      rw [ob_some g1, ob_some g3]
      exact endS_mono hL g4 hc
theorem kind_word {cs : List Class} {t : Str} (h : wordB (lst t) = true) : kindR cs t = 0 := by
  have h' : lst t = [73] ∨ lst t = [74] := by
    unfold wordB at h
    simpa using h
  rcases h' with e | e
  · exact kindR_ty (x := .i) (by rw [e]; rfl) rfl (by decide) rfl
  · exact kindR_ty (x := .j) (by rw [e]; rfl) rfl (by decide) rfl
theorem kind_I {cs : List Class} : kindR cs kI = 0 := kind_word (by decide)
theorem kind_N {cs : List Class} : kindR cs kN = 0 := by unfold kindR; rw [if_pos (show lst kN = [78] ∨ lst kN = [84] from Or.inl rfl)]
theorem lenOk_le {u t : Str} (hu : kindR (allC l) u = 0) (ht : kindR (allC l) t = 0) (h : leKd (allC l) (kdOf u) (kdOf t)) (hk : lenOk t = true) : lenOk u = true := by
  obtain ⟨X, hX, _⟩ := kind_of hu
  obtain ⟨Y, hY, _⟩ := kind_of ht
  rw [kdOf_text hX, kdOf_text hY] at h
  have e : ∀ (k : Str) (Z : Kd), kdText Z = lst k → lenOk k = (decide (Z = .n) || (match Z with | .ty (.ar _) => true | _ => false)) := by
    intro k Z hZ
    unfold lenOk
    have hd := kd_is hZ .n
    rw [show kdText Kd.n = [78] from rfl] at hd
    rw [hd, show k.toList = kdText Z by rw [hZ, ByteArray.toList_eq]]
    cases Z with
    | n => rfl
    | t => rfl
    | ty z => cases z <;> rfl
  rw [e u X hX]
  rw [e t Y hY] at hk
  cases Y with
  | t => cases hk
  | n => cases X with
    | n => rfl
    | t => exact h.elim
    | ty x => exact h.elim
  | ty y => cases y with
    | i => cases hk
    | j => cases hk
    | cl c => cases hk
    | ar e => cases X with
      | n => rfl
      | t => exact h.elim
      | ty x => cases x with
        | ar d => rfl
        | i => exact h.elim
        | j => exact h.elim
        | cl c => exact h.elim
theorem newF_mono {La Lb Sa Sb L' S' : List Str} {cls : Str} (hL : LeF (allC l) La Lb) (h : LeF (allC l) Sa Sb) (hk : kindR (allC l) (thText cls) = 0) (hn : newF (allC l) cls Lb Sb = some (L', S')) : ∃ La' Sa', newF (allC l) cls La Sa = some (La', Sa') ∧ LeF (allC l) La' L' ∧ LeF (allC l) Sa' S' := by
  unfold newF at hn ⊢
  split at hn
  · cases hn
  · rename_i hf
    rw [if_neg hf]
    exact putL_same hL h hk hn
theorem ins_word {op a b : Int} {type cls name : Str} (h : insFault ⟨op, a, b, type, cls, name⟩ = 0) (ho : op = 2 ∨ op = 9 ∨ op = 10) : wordB (lst type) = true := by
  unfold insFault at h
  split at h
  · cases h
  · split at h
    · cases h
    · split at h
      · cases h
      · split at h
        · cases h
        · rename_i ht
          simp only [Bool.or_eq_true, not_or, Bool.not_eq_true', Bool.not_eq_true] at ht
          have h1 := ht.1.1
          unfold typedB at h1
          rw [if_pos ho] at h1
          simpa using h1
theorem ins_arr {op a b : Int} {type cls name : Str} (h : insFault ⟨op, a, b, type, cls, name⟩ = 0) (ho : op = 18 ∨ op = 20 ∨ op = 21) : typeB (91 :: lst type) = true := by
  unfold insFault at h
  split at h
  · cases h
  · split at h
    · cases h
    · split at h
      · cases h
      · split at h
        · cases h
        · rename_i ht
          simp only [Bool.or_eq_true, not_or, Bool.not_eq_true', Bool.not_eq_true] at ht
          have h1 := ht.1.1
          unfold typedB at h1
          rw [if_neg (by dsimp only; omega), if_pos ho] at h1
          simp at h1
          exact h1.2
theorem kind_arr {t : Str} (hk : kindR (allC l) t = 0) (ht : typeB (91 :: lst t) = true) : kindR (allC l) (arText t) = 0 := by
  rw [← lst_ar] at ht
  obtain ⟨y, hy⟩ := ty_of_type ht
  have hx := hy.text
  rw [lst_ar] at hx
  cases y with
  | i => cases hx
  | j => cases hx
  | cl c => simp [tyText] at hx
  | ar e =>
    have he : tyText e = lst t := by
      simp only [tyText, List.cons.injEq] at hx
      exact hx.2
    obtain ⟨_, hg⟩ := kindR_type he hk
    exact kindR_ty hy.text hy.name hy.deep hg
end Go.Proofs.YtlmfmioljeppfaaGreatDoor
