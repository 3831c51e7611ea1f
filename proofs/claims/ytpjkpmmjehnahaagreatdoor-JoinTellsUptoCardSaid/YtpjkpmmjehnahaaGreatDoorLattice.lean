/-
  PLAIN LAW: what both are is the least kind above both; what fits is an order.
-/
import Derived.Test.YtpjkpmmjehnahaaGreatDoorKinds
namespace Go.Proofs.YtpjkpmmjehnahaaGreatDoor
open Go.RowKit Go.Shelf Go.Lib
theorem leTy_refl (cs : List Class) : ∀ x, leTy cs x x
  | .i => trivial
  | .j => trivial
  | .cl c => line_self c
  | .ar x => leTy_refl cs x
theorem leTy_ref {cs : List Class} : ∀ {x y : Ty}, leTy cs x y → isRef x = isRef y
  | .i, .i, _ => rfl
  | .j, .j, _ => rfl
  | .cl _, .cl _, _ => rfl
  | .ar _, .cl _, _ => rfl
  | .ar _, .ar _, _ => rfl
theorem leTy_trans {cs : List Class} (T : Tree cs) : ∀ {x y z : Ty}, goodTy cs x = true → leTy cs x y → leTy cs y z → leTy cs x z
  | .i, .i, .i, _, _, _ => trivial
  | .j, .j, .j, _, _, _ => trivial
  | .cl c, .cl d, .cl e, hx, h1, h2 => T.trans c d e hx h1 h2
  | .ar _, .cl _, .cl e, _, h1, h2 => by
    have h1 : _ = sObject := h1
    subst h1
    exact T.root e h2
  | .ar _, .ar _, .cl _, _, _, h2 => h2
  | .ar a, .ar b, .ar c, hx, h1, h2 => leTy_trans T (x := a) (y := b) (z := c) hx h1 h2
theorem leTy_anti {cs : List Class} (T : Tree cs) : ∀ {x y : Ty}, goodTy cs x = true → goodTy cs y = true → leTy cs x y → leTy cs y x → x = y
  | .i, .i, _, _, _, _ => rfl
  | .j, .j, _, _, _, _ => rfl
  | .cl c, .cl d, hx, hy, h1, h2 => by rw [T.anti c d hx hy h1 h2]
  | .ar a, .ar b, hx, hy, h1, h2 => by rw [leTy_anti T (x := a) (y := b) hx hy h1 h2]
theorem object_known (l : List Class) : (findC (allC l) sObject).isSome = true := rfl
theorem leTy_top {cs : List Class} (T : Tree cs) : ∀ {x : Ty}, goodTy cs x = true → isRef x = true → leTy cs x (.cl sObject)
  | .cl c, hx, _ => T.top c hx
  | .ar _, _, _ => rfl
theorem joinTy_up {cs : List Class} (T : Tree cs) (ho : (findC cs sObject).isSome = true) : ∀ {x y z : Ty}, goodTy cs x = true → goodTy cs y = true → joinTy cs x y = some z → leTy cs x z ∧ leTy cs y z ∧ goodTy cs z = true
  | .i, .i, _, _, _, h => by cases h; exact ⟨trivial, trivial, rfl⟩
  | .j, .j, _, _, _, h => by cases h; exact ⟨trivial, trivial, rfl⟩
  | .cl c, .cl d, _, hx, hy, h => by
    cases h
    obtain ⟨g1, g2⟩ := T.lub1 c d hx hy
    exact ⟨g1, g2, T.known c _ hx g1⟩
  | .ar a, .ar b, z, hx, hy, h => by
    unfold joinTy at h
    cases hj : joinTy cs a b with
    | some w =>
      rw [hj] at h; cases h
      obtain ⟨g1, g2, g3⟩ := joinTy_up T ho (x := a) (y := b) hx hy hj
      exact ⟨g1, g2, g3⟩
    | none => rw [hj] at h; cases h; exact ⟨rfl, rfl, ho⟩
  | .ar _, .cl d, _, _, hy, h => by cases h; exact ⟨rfl, T.top d hy, ho⟩
  | .cl c, .ar _, _, hx, _, h => by cases h; exact ⟨T.top c hx, rfl, ho⟩
  | .i, .j, _, _, _, h => by cases h
  | .i, .cl _, _, _, _, h => by cases h
  | .i, .ar _, _, _, _, h => by cases h
  | .j, .i, _, _, _, h => by cases h
  | .j, .cl _, _, _, _, h => by cases h
  | .j, .ar _, _, _, _, h => by cases h
  | .cl _, .i, _, _, _, h => by cases h
  | .cl _, .j, _, _, _, h => by cases h
  | .ar _, .i, _, _, _, h => by cases h
  | .ar _, .j, _, _, _, h => by cases h
theorem joinTy_lub {cs : List Class} (T : Tree cs) : ∀ (x y z : Ty), goodTy cs x = true → goodTy cs y = true → leTy cs x z → leTy cs y z → ∃ w, joinTy cs x y = some w ∧ leTy cs w z := by
  intro x
  induction x with
  | i => intro y z _ _ h1 h2; cases z <;> cases y <;> first | exact h1.elim | exact h2.elim | exact ⟨_, rfl, trivial⟩
  | j => intro y z _ _ h1 h2; cases z <;> cases y <;> first | exact h1.elim | exact h2.elim | exact ⟨_, rfl, trivial⟩
  | cl c =>
    intro y z hx hy h1 h2
    cases z with
    | cl e =>
      cases y with
      | cl d => exact ⟨_, rfl, T.lub2 c d e hx hy h1 h2⟩
      | ar b =>
        have h2 : e = sObject := h2
        subst h2
        exact ⟨_, rfl, line_self _⟩
      | i => exact h2.elim
      | j => exact h2.elim
    | i => exact h1.elim
    | j => exact h1.elim
    | ar _ => exact h1.elim
  | ar a ih =>
    intro y z hx hy h1 h2
    cases z with
    | cl e =>
      have h1 : e = sObject := h1
      subst h1
      cases y with
      | cl d => exact ⟨_, rfl, line_self _⟩
      | ar b =>
        unfold joinTy
        cases joinTy cs a b with
        | some w => exact ⟨_, rfl, rfl⟩
        | none => exact ⟨_, rfl, line_self _⟩
      | i => exact h2.elim
      | j => exact h2.elim
    | ar c =>
      cases y with
      | ar b =>
        obtain ⟨w, g1, g2⟩ := ih b c hx hy h1 h2
        exact ⟨.ar w, by unfold joinTy; rw [g1], g2⟩
      | cl d => exact h2.elim
      | i => exact h2.elim
      | j => exact h2.elim
    | i => exact h1.elim
    | j => exact h1.elim
theorem joinTy_ref {cs : List Class} : ∀ {x y : Ty}, isRef x = true → isRef y = true → ∃ w, joinTy cs x y = some w
  | .cl _, .cl _, _, _ => ⟨_, rfl⟩
  | .ar a, .ar b, _, _ => by
    unfold joinTy
    cases joinTy cs a b with
    | some w => exact ⟨_, rfl⟩
    | none => exact ⟨_, rfl⟩
  | .ar _, .cl _, _, _ => ⟨_, rfl⟩
  | .cl _, .ar _, _, _ => ⟨_, rfl⟩
theorem joinKd_nt (cs : List Class) (y : Ty) : joinKd cs .n (.ty y) = if isRef y then .ty y else .t := rfl
theorem joinKd_tn (cs : List Class) (x : Ty) : joinKd cs (.ty x) .n = if isRef x then .ty x else .t := rfl
theorem joinKd_tt (cs : List Class) (x y : Ty) : joinKd cs (.ty x) (.ty y) = match joinTy cs x y with
    | some z => .ty z
    | none => .t := rfl
theorem leKd_refl (cs : List Class) : ∀ x, leKd cs x x
  | .n => trivial
  | .t => trivial
  | .ty x => leTy_refl cs x
theorem leKd_trans {cs : List Class} (T : Tree cs) {x y z : Kd} (hx : goodKd cs x = true) (h1 : leKd cs x y) (h2 : leKd cs y z) : leKd cs x z := by
  cases z with
  | t => cases x <;> trivial
  | n =>
    cases y with
    | n => exact h1
    | t => exact h2.elim
    | ty _ => exact h2.elim
  | ty z =>
    cases y with
    | t => exact h2.elim
    | n =>
      cases x with
      | n => exact h2
      | t => exact h1.elim
      | ty _ => exact h1.elim
    | ty y =>
      cases x with
      | n =>
        show isRef z = true
        rw [← leTy_ref (cs := cs) (x := y) (y := z) h2]; exact h1
      | t => exact h1.elim
      | ty x => exact leTy_trans T (x := x) (y := y) (z := z) hx h1 h2
theorem leKd_anti {cs : List Class} (T : Tree cs) : ∀ {x y : Kd}, goodKd cs x = true → goodKd cs y = true → leKd cs x y → leKd cs y x → x = y
  | .n, .n, _, _, _, _ => rfl
  | .t, .t, _, _, _, _ => rfl
  | .ty _, .ty _, hx, hy, h1, h2 => by rw [leTy_anti T hx hy h1 h2]
theorem joinKd_up {cs : List Class} (T : Tree cs) (ho : (findC cs sObject).isSome = true) {x y : Kd} (hx : goodKd cs x = true) (hy : goodKd cs y = true) : leKd cs x (joinKd cs x y) ∧ leKd cs y (joinKd cs x y) ∧ goodKd cs (joinKd cs x y) = true := by
  cases x with
  | t => cases y <;> exact ⟨trivial, trivial, rfl⟩
  | n =>
    cases y with
    | n => exact ⟨trivial, trivial, rfl⟩
    | t => exact ⟨trivial, trivial, rfl⟩
    | ty y =>
      rw [joinKd_nt]
      by_cases h : isRef y = true
      · rw [if_pos h]; exact ⟨h, leTy_refl cs y, hy⟩
      · rw [if_neg h]; exact ⟨trivial, trivial, rfl⟩
  | ty x =>
    cases y with
    | n =>
      rw [joinKd_tn]
      by_cases h : isRef x = true
      · rw [if_pos h]; exact ⟨leTy_refl cs x, h, hx⟩
      · rw [if_neg h]; exact ⟨trivial, trivial, rfl⟩
    | t => exact ⟨trivial, trivial, rfl⟩
    | ty y =>
      rw [joinKd_tt]
      cases hj : joinTy cs x y with
      | some z =>
        obtain ⟨g1, g2, g3⟩ := joinTy_up T ho (x := x) (y := y) hx hy hj
        exact ⟨g1, g2, g3⟩
      | none => exact ⟨trivial, trivial, rfl⟩
theorem joinKd_lub {cs : List Class} (T : Tree cs) {x y z : Kd} (hx : goodKd cs x = true) (hy : goodKd cs y = true) (h1 : leKd cs x z) (h2 : leKd cs y z) : leKd cs (joinKd cs x y) z := by
  cases z with
  | t => cases joinKd cs x y <;> trivial
  | n =>
    cases x with
    | t => exact h1.elim
    | ty _ => exact h1.elim
    | n =>
      cases y with
      | n => trivial
      | t => exact h2.elim
      | ty _ => exact h2.elim
  | ty z =>
    cases x with
    | t => exact h1.elim
    | n =>
      cases y with
      | n => exact h1
      | t => exact h2.elim
      | ty y =>
        have hr : isRef y = true := by rw [leTy_ref (cs := cs) (x := y) (y := z) h2]; exact h1
        rw [joinKd_nt, if_pos hr]; exact h2
    | ty x =>
      cases y with
      | t => exact h2.elim
      | n =>
        have hr : isRef x = true := by rw [leTy_ref (cs := cs) (x := x) (y := z) h1]; exact h2
        rw [joinKd_tn, if_pos hr]; exact h1
      | ty y =>
        obtain ⟨w, g1, g2⟩ := joinTy_lub T x y z hx hy h1 h2
        rw [joinKd_tt, g1]; exact g2
/-- what is below is what the other one is with it -/
theorem join_le {cs : List Class} (T : Tree cs) (ho : (findC cs sObject).isSome = true) {x y : Kd} (hx : goodKd cs x = true) (hy : goodKd cs y = true) : joinKd cs x y = y ↔ leKd cs x y := by
  obtain ⟨g1, g2, g3⟩ := joinKd_up T ho hx hy
  constructor
  · intro h; rw [h] at g1; exact g1
  · intro h
    exact leKd_anti T g3 hy (joinKd_lub T hx hy h (leKd_refl cs y)) g2
theorem join_idem {cs : List Class} (T : Tree cs) (ho : (findC cs sObject).isSome = true) {x : Kd} (hx : goodKd cs x = true) : joinKd cs x x = x := (join_le T ho hx hx).2 (leKd_refl cs x)
theorem join_comm {cs : List Class} (T : Tree cs) (ho : (findC cs sObject).isSome = true) {x y : Kd} (hx : goodKd cs x = true) (hy : goodKd cs y = true) : joinKd cs x y = joinKd cs y x := by
  obtain ⟨g1, g2, g3⟩ := joinKd_up T ho hx hy
  obtain ⟨k1, k2, k3⟩ := joinKd_up T ho hy hx
  exact leKd_anti T g3 k3 (joinKd_lub T hx hy k2 k1) (joinKd_lub T hy hx g2 g1)
theorem join_assoc {cs : List Class} (T : Tree cs) (ho : (findC cs sObject).isSome = true) {x y z : Kd} (hx : goodKd cs x = true) (hy : goodKd cs y = true) (hz : goodKd cs z = true) : joinKd cs (joinKd cs x y) z = joinKd cs x (joinKd cs y z) := by
  obtain ⟨a1, a2, a3⟩ := joinKd_up T ho hx hy
  obtain ⟨b1, b2, b3⟩ := joinKd_up T ho a3 hz
  obtain ⟨c1, c2, c3⟩ := joinKd_up T ho hy hz
  obtain ⟨d1, d2, d3⟩ := joinKd_up T ho hx c3
  refine leKd_anti T b3 d3 ?_ ?_
  · exact joinKd_lub T a3 hz (joinKd_lub T hx hy d1 (leKd_trans T hy c1 d2)) (leKd_trans T hz c2 d2)
  · exact joinKd_lub T hx c3 (leKd_trans T hx a1 b1) (joinKd_lub T hy hz (leKd_trans T hy a2 b1) b2)
-- what fits
theorem line_every {l : List Class} (h : Right l) {c d : Str} (hk : (findC (allC l) c).isSome = true) (hd : d ∈ lineC (allC l) c) : d ∈ everyC (allC l) c := (h.line_facts _ c hk (Nat.le_refl _)).1 d hd
theorem le_fitsTy {l : List Class} (h : Right l) : ∀ {x y : Ty}, goodTy (allC l) x = true → leTy (allC l) x y → fitsTy (allC l) x y = true
  | .i, .i, _, _ => rfl
  | .j, .j, _, _ => rfl
  | .cl _, .cl _, hx, h1 => memB_iff.2 (line_every h hx h1)
  | .ar _, .cl _, _, h1 => decide_eq_true h1
  | .ar a, .ar b, hx, h1 => le_fitsTy h (x := a) (y := b) hx h1
theorem le_fits {l : List Class} (h : Right l) : ∀ {x y : Kd}, goodKd (allC l) x = true → leKd (allC l) x y → fitsKd (allC l) x y = true
  | .n, .t, _, _ => rfl
  | .t, .t, _, _ => rfl
  | .ty _, .t, _, _ => rfl
  | .n, .n, _, _ => rfl
  | .n, .ty _, _, h1 => h1
  | .ty _, .ty _, hx, h1 => le_fitsTy h hx h1
theorem every_trans {l : List Class} (h : Right l) {c d e : Str} (hk : (findC (allC l) c).isSome = true) (h1 : d ∈ everyC (allC l) c) (h2 : e ∈ everyC (allC l) d) : e ∈ everyC (allC l) c := by
  have g := every_facts h.closed hk
  exact (every_facts h.closed (g.1.known d h1)).2.2.2 (fun x => x ∈ everyC (allC l) c) g.2.2.1 h1 e h2
theorem every_object {l : List Class} (h : Right l) {d : Str} (h1 : d ∈ everyC (allC l) sObject) : d = sObject := by
  refine (every_facts h.closed (n := sObject) rfl).2.2.2 (fun x => x = sObject) (fun x hx a ha => ?_) rfl d h1
  subst hx
  unfold aboveC at ha
  rw [show findC (allC l) sObject = some cObject from rfl] at ha
  simp [cObject, noClass] at ha
theorem every_anti {l : List Class} (h : Right l) {c d : Str} (hc : (findC (allC l) c).isSome = true) (h1 : d ∈ everyC (allC l) c) (h2 : c ∈ everyC (allC l) d) : c = d := by
  by_cases he : c = d
  · exact he
  · exfalso
    have g := every_facts h.closed hc
    -- d is reached through one that is above c; from it c is reached
    have hstep : ∃ a ∈ aboveC (allC l) c, d ∈ everyC (allC l) a := by
      have hS := g.2.2.2 (fun x => x = c ∨ ∃ a ∈ aboveC (allC l) c, x ∈ everyC (allC l) a) (fun x hx b hb => by
        rcases hx with rfl | ⟨a, ha, hxa⟩
        · exact Or.inr ⟨b, hb, (every_facts h.closed (h.closed _ hc b hb)).2.1⟩
        · exact Or.inr ⟨a, ha, (every_facts h.closed (h.closed _ hc a ha)).2.2.1 x hxa b hb⟩) (Or.inl rfl) d h1
      rcases hS with h3 | h3
      · exact absurd h3.symm he
      · exact h3
    obtain ⟨a, ha, hda⟩ := hstep
    have hca := every_trans h (h.closed _ hc a ha) hda h2
    have hr : roundC (allC l) c = true := by unfold roundC; rw [List.any_eq_true]; exact ⟨a, ha, memB_iff.2 hca⟩
    obtain ⟨k, hk, rfl⟩ := findC_mem hc
    unfold allC at hk
    rcases List.mem_cons.1 hk with rfl | hk
    · unfold aboveC at ha
      rw [show findC (allC l) cObject.name = some cObject from rfl] at ha
      simp [cObject, noClass] at ha
    · rcases List.mem_cons.1 hk with rfl | hk
      · have ha' : a = sObject := by
          unfold aboveC at ha
          rw [show findC (allC l) cFault.name = some cFault from h.find (c := cFault) (by simp [allC])] at ha
          simp [cFault, noClass] at ha
          exact ha.2
        subst ha'
        exact absurd (every_object h hca) (by decide)
      · rw [h.round k hk] at hr; cases hr
theorem fitsTy_refl {l : List Class} (h : Right l) : ∀ x : Ty, goodTy (allC l) x = true → fitsTy (allC l) x x = true
  | .i, _ => rfl
  | .j, _ => rfl
  | .cl _, hx => memB_iff.2 (every_facts h.closed hx).2.1
  | .ar x, hx => fitsTy_refl h x hx
theorem fitsTy_ref {cs : List Class} : ∀ {x y : Ty}, fitsTy cs x y = true → isRef x = isRef y
  | .i, .i, _ => rfl
  | .j, .j, _ => rfl
  | .cl _, .cl _, _ => rfl
  | .ar _, .cl _, _ => rfl
  | .ar _, .ar _, _ => rfl
  | .i, .j, h => by cases h
  | .i, .cl _, h => by cases h
  | .i, .ar _, h => by cases h
  | .j, .i, h => by cases h
  | .j, .cl _, h => by cases h
  | .j, .ar _, h => by cases h
  | .cl _, .i, h => by cases h
  | .cl _, .j, h => by cases h
  | .ar _, .i, h => by cases h
  | .ar _, .j, h => by cases h
theorem fitsTy_trans {l : List Class} (h : Right l) : ∀ {x y z : Ty}, goodTy (allC l) x = true → fitsTy (allC l) x y = true → fitsTy (allC l) y z = true → fitsTy (allC l) x z = true
  | .i, .i, _, _, _, h2 => h2
  | .j, .j, _, _, _, h2 => h2
  | .cl _, .cl _, .cl _, hx, h1, h2 => memB_iff.2 (every_trans h hx (memB_iff.1 h1) (memB_iff.1 h2))
  | .ar _, .cl _, .cl e, _, h1, h2 => by
    have h1 : _ = sObject := of_decide_eq_true h1
    subst h1
    exact decide_eq_true (every_object h (memB_iff.1 h2))
  | .ar _, .ar _, .cl _, _, _, h2 => h2
  | .ar a, .ar b, .ar c, hx, h1, h2 => fitsTy_trans h (x := a) (y := b) (z := c) hx h1 h2
theorem fitsTy_anti {l : List Class} (h : Right l) : ∀ {x y : Ty}, goodTy (allC l) x = true → fitsTy (allC l) x y = true → fitsTy (allC l) y x = true → x = y
  | .i, .i, _, _, _ => rfl
  | .j, .j, _, _, _ => rfl
  | .cl _, .cl _, hx, h1, h2 => by rw [every_anti h hx (memB_iff.1 h1) (memB_iff.1 h2)]
  | .ar a, .ar b, hx, h1, h2 => by rw [fitsTy_anti h (x := a) (y := b) hx h1 h2]
theorem fits_refl {l : List Class} (h : Right l) : ∀ x : Kd, goodKd (allC l) x = true → fitsKd (allC l) x x = true
  | .n, _ => rfl
  | .t, _ => rfl
  | .ty x, hx => fitsTy_refl h x hx
theorem fits_trans {l : List Class} (h : Right l) {x y z : Kd} (hx : goodKd (allC l) x = true) (h1 : fitsKd (allC l) x y = true) (h2 : fitsKd (allC l) y z = true) : fitsKd (allC l) x z = true := by
  cases z with
  | t => cases x <;> rfl
  | n =>
    cases y with
    | n => exact h1
    | t => cases h2
    | ty _ => cases h2
  | ty z =>
    cases y with
    | t => cases h2
    | n =>
      cases x with
      | n => exact h2
      | t => cases h1
      | ty _ => cases h1
    | ty y =>
      cases x with
      | n =>
        show isRef z = true
        rw [← fitsTy_ref (cs := allC l) (x := y) (y := z) h2]; exact h1
      | t => cases h1
      | ty x => exact fitsTy_trans h (x := x) (y := y) (z := z) hx h1 h2
theorem fits_anti {l : List Class} (h : Right l) : ∀ {x y : Kd}, goodKd (allC l) x = true → fitsKd (allC l) x y = true → fitsKd (allC l) y x = true → x = y
  | .n, .n, _, _, _ => rfl
  | .t, .t, _, _, _ => rfl
  | .ty _, .ty _, hx, h1, h2 => by rw [fitsTy_anti h hx h1 h2]
end Go.Proofs.YtpjkpmmjehnahaaGreatDoor
