/-
  PLAIN LAW: an instruction is monotone, whatever it is.
-/
import Derived.Test.YtlmfmioljeppfaaGreatDoorGrowLaw
namespace Go.Proofs.YtlmfmioljeppfaaGreatDoor
open Go.RowKit Go.Shelf Go.Lib
variable {l : List Class}
def MonoR (cs : List Class) (oa : Option (List Str × List Str)) (L' S' : List Str) : Prop := ∃ La' Sa', oa = some (La', Sa') ∧ LeF cs La' L' ∧ LeF cs Sa' S'
theorem notT_le {u t : Str} (hu : kindR (allC l) u = 0) (ht : kindR (allC l) t = 0) (h : leKd (allC l) (kdOf u) (kdOf t)) (hn : ¬ (t.toList == [84]) = true) : ¬ (u.toList == [84]) = true := by
  obtain ⟨X, hX, _⟩ := kind_of hu
  obtain ⟨Y, hY, _⟩ := kind_of ht
  rw [kdOf_text hX, kdOf_text hY] at h
  have h1 := kd_is hX .t
  have h2 := kd_is hY .t
  rw [show kdText Kd.t = [84] from rfl] at h1 h2
  rw [h2] at hn
  rw [h1]
  intro e
  have e1 := of_decide_eq_true e
  subst e1
  cases Y with
  | t => exact hn (decide_eq_true rfl)
  | n => exact h.elim
  | ty y => exact h.elim
theorem loadF_mono {La Lb Sa Sb L' S' : List Str} {a : Int} (hL : LeF (allC l) La Lb) (hS : LeF (allC l) Sa Sb) (h : loadF Lb Sb a = some (L', S')) : MonoR (allC l) (loadF La Sa a) L' S' := by
  unfold loadF at h ⊢
  cases hk : Lb[a.toNat]? with
  | none => rw [hk] at h; cases h
  | some t =>
    rw [hk] at h
    dsimp only at h
    split at h
    · cases h
    · rename_i ht
      obtain ⟨u, hu, hle⟩ := hL.le.get hk
      have k1 := hL.kb t (List.mem_of_getElem? hk)
      have k2 := hL.ka u (List.mem_of_getElem? hu)
      rw [hu]
      dsimp only
      rw [if_neg (notT_le k2 k1 hle ht)]
      exact putL_mono hL hS hle k2 k1 h
theorem storeF_mono {La Lb Sa Sb L' S' : List Str} {a : Int} (hL : LeF (allC l) La Lb) (hS : LeF (allC l) Sa Sb) (h : storeF Lb Sb a = some (L', S')) : MonoR (allC l) (storeF La Sa a) L' S' := by
  unfold storeF at h ⊢
  obtain ⟨⟨t, S1⟩, h1, h⟩ := bind_spec h
  obtain ⟨u, Sa1, g1, g2, g3, g4, g5⟩ := popS_mono hS h1
  rw [ob_some g1]
  dsimp only at h ⊢
  split at h
  · rename_i hl
    injection h with h
    obtain ⟨e1, e2⟩ := pair_eq h
    subst e1 e2
    rw [if_pos (by rw [hL.le.len]; exact hl)]
    exact ⟨_, _, rfl, ⟨hL.le.set g2, known_set hL.ka g3, known_set hL.kb g4, by rw [List.length_set]; exact hL.sm⟩, g5⟩
  · cases h
theorem plainF_mono (hR : Right l) {gives : Str} {x : Ins} {La Lb Sa Sb L' S' : List Str} (hi : insFault x = 0) (hL : LeF (allC l) La Lb) (hS : LeF (allC l) Sa Sb) (h : plainF (allC l) gives x Lb Sb = some (L', S')) : MonoR (allC l) (plainF (allC l) gives x La Sa) L' S' := by
  obtain ⟨op, a, b, type, cls, name⟩ := x
  obtain ⟨e2, e3, e4, e5, e6, e7, e8, e9, e10, e11, e12, e13, e26, e27, e28⟩ := plainF_at (allC l) gives a b type cls name Lb Sb
  obtain ⟨g2, g3, g4, g5, g6, g7, g8, g9, g10, g11, g12, g13, g26, g27, g28⟩ := plainF_at (allC l) gives a b type cls name La Sa
  by_cases c2 : op = 2
  · subst c2
    rw [e2] at h
    rw [g2]
    exact putL_same hL hS (kind_word (ins_word hi (Or.inl rfl))) h
  by_cases c3 : op = 3
  · subst c3
    rw [e3] at h
    rw [g3]
    exact putL_same hL hS kind_N h
  by_cases c4 : op = 4
  · subst c4
    rw [e4] at h
    rw [g4]
    exact loadF_mono hL hS h
  by_cases c5 : op = 5
  · subst c5
    rw [e5] at h
    rw [g5]
    exact storeF_mono hL hS h
  by_cases c6 : op = 6
  · subst c6
    rw [e6] at h
    rw [g6]
    obtain ⟨⟨t, S1⟩, h1, h⟩ := map_spec h
    obtain ⟨u, Sa1, p1, _, _, _, p5⟩ := popS_mono hS h1
    obtain ⟨q1, q2⟩ := pair_eq h
    subst q1 q2
    exact ⟨La, Sa1, om_some p1, hL, p5⟩
  by_cases c7 : op = 7
  · subst c7
    rw [e7] at h
    rw [g7]
    obtain ⟨⟨t, S1⟩, h1, h⟩ := bind_spec h
    obtain ⟨S2, h2, h⟩ := bind_spec h
    dsimp only at h2 h
    obtain ⟨u, Sa1, p1, p2, p3, p4, p5⟩ := popS_mono hS h1
    obtain ⟨Sa2, q1, q2⟩ := putS_mono p5 p2 p3 p4 h2
    rw [ob_some p1]
    dsimp only
    rw [ob_some q1]
    exact putL_mono hL q2 p2 p3 p4 h
  by_cases c8 : op = 8
  · subst c8
    rw [e8] at h
    rw [g8]
    obtain ⟨⟨t, S1⟩, h1, h⟩ := bind_spec h
    obtain ⟨⟨s, S2⟩, h2, h⟩ := bind_spec h
    obtain ⟨S3, h3, h⟩ := bind_spec h
    dsimp only at h2 h3 h
    obtain ⟨u, Sa1, p1, p2, p3, p4, p5⟩ := popS_mono hS h1
    obtain ⟨v, Sa2, r1, r2, r3, r4, r5⟩ := popS_mono p5 h2
    obtain ⟨Sa3, q1, q2⟩ := putS_mono r5 p2 p3 p4 h3
    rw [ob_some p1]
    dsimp only
    rw [ob_some r1]
    dsimp only
    rw [ob_some q1]
    exact putL_mono hL q2 r2 r3 r4 h
  by_cases c9 : op = 9
  · subst c9
    rw [e9] at h
    rw [g9]
    obtain ⟨S1, h1, h⟩ := bind_spec h
    obtain ⟨S2, h2, h⟩ := bind_spec h
    obtain ⟨Sa1, p1, p2, _⟩ := takeS_mono hR hS h1
    obtain ⟨Sa2, q1, q2, q3⟩ := takeS_mono hR p2 h2
    rw [ob_some p1, ob_some q1]
    exact putL_same hL q2 (q3 type (by simp)) h
  by_cases c10 : op = 10
  · subst c10
    rw [e10] at h
    rw [g10]
    obtain ⟨S1, h1, h⟩ := bind_spec h
    obtain ⟨Sa1, p1, p2, _⟩ := takeS_mono hR hS h1
    rw [ob_some p1]
    exact putL_same hL p2 (kind_word (ins_word hi (Or.inr (Or.inr rfl)))) h
  by_cases c11 : op = 11
  · subst c11
    rw [e11] at h
    rw [g11]
    obtain ⟨S1, h1, h⟩ := bind_spec h
    obtain ⟨Sa1, p1, p2, _⟩ := takeS_mono hR hS h1
    rw [ob_some p1]
    exact putL_same hL p2 kind_I h
  by_cases c12 : op = 12
  · subst c12
    rw [e12] at h
    rw [g12]
    obtain ⟨S1, h1, h⟩ := map_spec h
    obtain ⟨Sa1, p1, p2, _⟩ := takeS_mono hR hS h1
    obtain ⟨q1, q2⟩ := pair_eq h
    subst q1 q2
    exact ⟨La, Sa1, om_some p1, hL, p2⟩
  by_cases c13 : op = 13
  · subst c13
    rw [e13, refS_eq] at h
    rw [g13, refS_eq]
    obtain ⟨⟨t, S1⟩, h1, h⟩ := map_spec h
    obtain ⟨u, Sa1, p1, _, _, _, p5⟩ := popR_mono hS h1
    obtain ⟨q1, q2⟩ := pair_eq h
    subst q1 q2
    exact ⟨La, Sa1, om_some p1, hL, p5⟩
  by_cases c26 : op = 26
  · subst c26
    rw [e26] at h
    rw [g26]
    split at h
    · rename_i hv
      injection h with h
      obtain ⟨q1, q2⟩ := pair_eq h
      subst q1 q2
      rw [if_pos hv]
      exact ⟨La, Sa, rfl, hL, hS⟩
    · cases h
  by_cases c27 : op = 27
  · subst c27
    rw [e27] at h
    rw [g27]
    split at h
    · cases h
    · rename_i hv
      obtain ⟨S1, h1, h⟩ := map_spec h
      obtain ⟨Sa1, p1, p2, _⟩ := takeS_mono hR hS h1
      obtain ⟨q1, q2⟩ := pair_eq h
      subst q1 q2
      rw [if_neg hv]
      exact ⟨La, Sa1, om_some p1, hL, p2⟩
  by_cases c28 : op = 28
  · subst c28
    rw [e28] at h
    rw [g28]
    obtain ⟨S1, h1, h⟩ := map_spec h
    obtain ⟨Sa1, p1, p2, _⟩ := takeS_mono hR hS h1
    obtain ⟨q1, q2⟩ := pair_eq h
    subst q1 q2
    exact ⟨La, Sa1, om_some p1, hL, p2⟩
  rw [plainF_other ⟨c2, c3, c4, c5, c6, c7, c8, c9, c10, c11, c12, c13, c26, c27, c28⟩] at h
  rw [plainF_other ⟨c2, c3, c4, c5, c6, c7, c8, c9, c10, c11, c12, c13, c26, c27, c28⟩]
  injection h with h
  obtain ⟨q1, q2⟩ := pair_eq h
  subst q1 q2
  exact ⟨La, Sa, rfl, hL, hS⟩
theorem knK_monoR {t : Str} {oa ob : Option (List Str × List Str)} {L' S' : List Str} (h : knK (allC l) t ob = some (L', S')) (g : kindR (allC l) t = 0 → ob = some (L', S') → MonoR (allC l) oa L' S') : MonoR (allC l) (knK (allC l) t oa) L' S' := by
  unfold knK at h ⊢
  split at h
  · cases h
  · rename_i h0
    rw [if_neg h0]
    exact g (Decidable.not_not.1 h0) h
theorem heapedF_mono (hR : Right l) {from' : Str} {x : Ins} {La Lb Sa Sb L' S' : List Str} (hi : insFault x = 0) (hL : LeF (allC l) La Lb) (hS : LeF (allC l) Sa Sb) (h : heapedF (allC l) from' x Lb Sb = some (L', S')) : MonoR (allC l) (heapedF (allC l) from' x La Sa) L' S' := by
  obtain ⟨op, a, b, type, cls, name⟩ := x
  obtain ⟨e15, e16, e17, e18, e19, e20, e21, e22, e23, e24, e25⟩ := heapedF_at (allC l) from' a b type cls name Lb Sb
  obtain ⟨g15, g16, g17, g18, g19, g20, g21, g22, g23, g24, g25⟩ := heapedF_at (allC l) from' a b type cls name La Sa
  by_cases c15 : op = 15
  · subst c15
    rw [e15] at h
    rw [g15]
    exact knK_monoR h (fun hk h => newF_mono hL hS hk h)
  by_cases c16 : op = 16
  · subst c16
    rw [e16] at h
    rw [g16]
    obtain ⟨t, h1, h⟩ := bind_spec h
    obtain ⟨S1, h2, h⟩ := bind_spec h
    obtain ⟨Sa1, p1, p2, _⟩ := takeS_mono hR hS h2
    rw [ob_some h1, ob_some p1]
    exact putL_same hL p2 (fieldF_known h1).2 h
  by_cases c17 : op = 17
  · subst c17
    rw [e17] at h
    rw [g17]
    obtain ⟨t, h1, h⟩ := bind_spec h
    obtain ⟨S1, h2, h⟩ := map_spec h
    obtain ⟨Sa1, p1, p2, _⟩ := takeS_mono hR hS h2
    obtain ⟨q1, q2⟩ := pair_eq h
    subst q1 q2
    rw [ob_some h1]
    exact ⟨La, Sa1, om_some p1, hL, p2⟩
  by_cases c18 : op = 18
  · subst c18
    rw [e18] at h
    rw [g18]
    refine knK_monoR h (fun hk h => ?_)
    obtain ⟨S1, h2, h⟩ := bind_spec h
    obtain ⟨Sa1, p1, p2, _⟩ := takeS_mono hR hS h2
    rw [ob_some p1]
    exact putL_same hL p2 (kind_arr hk (ins_arr hi (Or.inl rfl))) h
  by_cases c19 : op = 19
  · subst c19
    rw [e19] at h
    rw [g19]
    obtain ⟨⟨t, S1⟩, h1, h⟩ := bind_spec h
    obtain ⟨u, Sa1, p1, p2, p3, p4, p5⟩ := popR_mono hS h1
    rw [ob_some p1]
    dsimp only at h ⊢
    split at h
    · rename_i hl
      rw [if_pos (lenOk_le p3 p4 p2 hl)]
      exact putL_same hL p5 kind_I h
    · cases h
  by_cases c20 : op = 20
  · subst c20
    rw [e20] at h
    rw [g20]
    obtain ⟨S1, h1, h⟩ := bind_spec h
    obtain ⟨Sa1, p1, p2, p3⟩ := arrayF_mono hR hS h1
    rw [ob_some p1]
    exact putL_same hL p2 p3 h
  by_cases c21 : op = 21
  · subst c21
    rw [e21] at h
    rw [g21]
    refine knK_monoR h (fun _ h => ?_)
    obtain ⟨S1, h1, h⟩ := bind_spec h
    obtain ⟨S2, h2, h⟩ := map_spec h
    obtain ⟨Sa1, p1, p2, _⟩ := takeS_mono hR hS h1
    obtain ⟨Sa2, r1, r2, _⟩ := arrayF_mono hR p2 h2
    obtain ⟨q1, q2⟩ := pair_eq h
    subst q1 q2
    rw [ob_some p1]
    exact ⟨La, Sa2, om_some r1, hL, r2⟩
  by_cases c22 : op = 22
  · subst c22
    rw [e22] at h
    rw [g22]
    refine knK_monoR h (fun hk h => ?_)
    obtain ⟨⟨t, S1⟩, h1, h⟩ := bind_spec h
    obtain ⟨u, Sa1, p1, _, _, _, p5⟩ := popR_mono hS h1
    rw [ob_some p1]
    exact putL_same hL p5 hk h
  by_cases c23 : op = 23
  · subst c23
    rw [e23] at h
    rw [g23]
    refine knK_monoR h (fun _ h => ?_)
    obtain ⟨⟨t, S1⟩, h1, h⟩ := bind_spec h
    obtain ⟨u, Sa1, p1, _, _, _, p5⟩ := popR_mono hS h1
    rw [ob_some p1]
    exact putL_same hL p5 kind_I h
  by_cases c24 : op = 24
  · subst c24
    rw [e24] at h
    rw [g24]
    exact callF_mono hR hL hS h
  by_cases c25 : op = 25
  · subst c25
    rw [e25] at h
    rw [g25]
    exact callF_mono hR hL hS h
  rw [heapedF_other ⟨c15, c16, c17, c18, c19, c20, c21, c22, c23, c24, c25⟩] at h
  rw [heapedF_other ⟨c15, c16, c17, c18, c19, c20, c21, c22, c23, c24, c25⟩]
  injection h with h
  obtain ⟨q1, q2⟩ := pair_eq h
  subst q1 q2
  exact ⟨La, Sa, rfl, hL, hS⟩
theorem stepF_mono (hR : Right l) {from' gives : Str} {x : Ins} {La Lb Sa Sb L' S' : List Str} (hi : insFault x = 0) (hL : LeF (allC l) La Lb) (hS : LeF (allC l) Sa Sb) (h : stepF (allC l) from' gives x Lb Sb = some (L', S')) : MonoR (allC l) (stepF (allC l) from' gives x La Sa) L' S' := by
  unfold stepF at h ⊢
  obtain ⟨⟨L1, S1⟩, h1, h2⟩ := bind_spec h
  obtain ⟨La1, Sa1, p1, p2, p3⟩ := plainF_mono hR hi hL hS h1
  rw [ob_some p1]
  exact heapedF_mono hR hi p2 p3 h2
theorem firstFault_of {α : Type} {f : α → Nat} : ∀ {l : List α}, (∀ x ∈ l, f x = 0) → firstFault f l = 0
  | [], _ => rfl
  | x :: r, h => by
    unfold firstFault
    rw [if_pos (h x (by simp))]
    exact firstFault_of (fun y hy => h y (List.mem_cons_of_mem _ hy))
theorem frameR_of {cs : List Class} {f : Frm} (h1 : f.locals.length ≤ 8) (h2 : f.stack.length ≤ 8) (k1 : Known cs f.locals) (k2 : Known cs f.stack) : frameR cs f = 0 := by
  unfold frameR
  rw [if_neg (by omega)]
  exact firstFault_of (fun x hx => (List.mem_append.1 hx).elim (k1 x) (k2 x))
end Go.Proofs.YtlmfmioljeppfaaGreatDoor
