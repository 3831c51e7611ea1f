/-
  PLAIN LAW: frames are such an order as FixLaw asks for: kinds that rise have an end, edges grow with frames.
-/
import Derived.Test.YtlmfmioljeppfaaGreatDoorFixLaw
import Derived.Test.YtlmfmioljeppfaaGreatDoorGrowStep
namespace Go.Proofs.YtlmfmioljeppfaaGreatDoor
open Go.RowKit Go.Shelf Go.Lib
def tyRank (cs : List Class) : Ty → Nat
  | .cl c => (everyC cs c).length
  | .ar x => 13 + tyRank cs x
  | _ => 0
def kdRank (cs : List Class) : Kd → Nat
  | .n => 100
  | .t => 0
  | .ty x => 1 + tyRank cs x
def listRank (cs : List Class) (L : List Str) : Nat := (L.map fun k => kdRank cs (kdOf k)).sum
section
variable {l : List Class}
theorem every_len (hR : Right l) {c : Str} (hc : (findC (allC l) c).isSome = true) : (everyC (allC l) c).length ≤ 12 := by
  have h1 := (every_facts hR.closed hc).1.length
  have h2 : (allC l).length = l.length + 2 := by simp [allC]
  have := hR.length
  omega
theorem class_fall (hR : Right l) : ∀ c, (findC (allC l) c).isSome = true → ∀ d ∈ lineC (allC l) c, d ≠ c → (everyC (allC l) d).length < (everyC (allC l) c).length := by
  refine hR.line_ind _ (fun x hk h0 d hd hne => ?_) (fun x hk h0 ih d hd hne => ?_)
  · rw [Right.line_top h0] at hd; simp at hd; exact absurd hd hne
  · rcases (hR.line_mem hk).1 hd with rfl | ⟨_, hd⟩
    · exact absurd rfl hne
    · have hlt := (hR.up hk h0).2
      by_cases h2 : d = (classC (allC l) x).super
      · rw [h2]; exact hlt
      · have := ih d hd h2; omega
theorem ty_fall (hR : Right l) : ∀ {x y : Ty}, goodTy (allC l) x = true → goodTy (allC l) y = true → leTy (allC l) x y → x ≠ y → tyRank (allC l) y < tyRank (allC l) x
  | .i, .i, _, _, _, h => absurd rfl h
  | .j, .j, _, _, _, h => absurd rfl h
  | .cl c, .cl d, hx, _, hl, h => class_fall hR c hx d hl fun e => h (by rw [e])
  | .ar x, .cl d, _, hy, hl, _ => by
    show (everyC (allC l) d).length < 13 + _
    have := every_len hR (c := d) hy
    omega
  | .ar x, .ar y, hx, hy, hl, h => by
    have := ty_fall hR (x := x) (y := y) hx hy hl fun e => h (by rw [e])
    show 13 + _ < 13 + _
    omega
  | .i, .j, _, _, hl, _ => hl.elim
  | .i, .cl _, _, _, hl, _ => hl.elim
  | .i, .ar _, _, _, hl, _ => hl.elim
  | .j, .i, _, _, hl, _ => hl.elim
  | .j, .cl _, _, _, hl, _ => hl.elim
  | .j, .ar _, _, _, hl, _ => hl.elim
  | .cl _, .i, _, _, hl, _ => hl.elim
  | .cl _, .j, _, _, hl, _ => hl.elim
  | .cl _, .ar _, _, _, hl, _ => hl.elim
  | .ar _, .i, _, _, hl, _ => hl.elim
  | .ar _, .j, _, _, hl, _ => hl.elim
theorem ty_cap (hR : Right l) : ∀ {x : Ty}, goodTy (allC l) x = true → tyRank (allC l) x ≤ 13 * deepTy x + 12
  | .i, _ => Nat.zero_le _
  | .j, _ => Nat.zero_le _
  | .cl c, h => by
    have := every_len hR (c := c) h
    show (everyC (allC l) c).length ≤ _
    omega
  | .ar x, h => by
    have := ty_cap hR (x := x) h
    show 13 + tyRank (allC l) x ≤ 13 * (deepTy x + 1) + 12
    omega
theorem kd_fall (hR : Right l) {x y : Kd} (hx : goodKd (allC l) x = true) (hy : goodKd (allC l) y = true) (dy : deepKd y ≤ 3) (hl : leKd (allC l) x y) (h : x ≠ y) : kdRank (allC l) y < kdRank (allC l) x := by
  cases x with
  | n =>
    cases y with
    | n => exact absurd rfl h
    | t => show 0 < 100; decide
    | ty y =>
      have h1 := ty_cap hR (x := y) hy
      have h2 : deepTy y ≤ 3 := dy
      show 1 + tyRank (allC l) y < 100
      omega
  | t =>
    cases y with
    | n => exact hl.elim
    | t => exact absurd rfl h
    | ty y => exact hl.elim
  | ty x =>
    cases y with
    | n => exact hl.elim
    | t => show 0 < 1 + _; omega
    | ty y =>
      have := ty_fall hR (x := x) (y := y) hx hy hl fun e => h (by rw [e])
      show 1 + _ < 1 + _
      omega
theorem kd_cap (hR : Right l) {x : Kd} (hx : goodKd (allC l) x = true) (dx : deepKd x ≤ 3) : kdRank (allC l) x ≤ 100 := by
  cases x with
  | n => exact Nat.le_refl _
  | t => exact Nat.zero_le _
  | ty x =>
    have h1 := ty_cap hR (x := x) hx
    have h2 : deepTy x ≤ 3 := dx
    show 1 + tyRank (allC l) x ≤ 100
    omega
theorem list_fall (hR : Right l) : ∀ {A B : List Str}, LeL (allC l) A B → Known (allC l) A → Known (allC l) B → listRank (allC l) B ≤ listRank (allC l) A ∧ (A ≠ B → listRank (allC l) B < listRank (allC l) A)
  | [], [], _, _, _ => ⟨Nat.le_refl _, fun h => absurd rfl h⟩
  | x :: r, y :: s, h, ha, hb => by
    obtain ⟨i1, i2⟩ := list_fall hR (A := r) (B := s) h.2 (fun k hk => ha k (List.mem_cons_of_mem _ hk)) (fun k hk => hb k (List.mem_cons_of_mem _ hk))
    have hx := ha x (List.mem_cons_self ..)
    have hy := hb y (List.mem_cons_self ..)
    have e1 : listRank (allC l) (x :: r) = kdRank (allC l) (kdOf x) + listRank (allC l) r := by unfold listRank; rw [List.map_cons, List.sum_cons]
    have e2 : listRank (allC l) (y :: s) = kdRank (allC l) (kdOf y) + listRank (allC l) s := by unfold listRank; rw [List.map_cons, List.sum_cons]
    by_cases hk : kdOf x = kdOf y
    · have hxy : x = y := (known_kd hx).text (by rw [hk]; exact known_kd hy)
      subst hxy
      refine ⟨by omega, fun hne => ?_⟩
      have := i2 fun e => hne (by rw [e])
      omega
    · have := kd_fall hR (known_good hx) (known_good hy) (known_deep hy) h.1 hk
      exact ⟨by omega, fun _ => by omega⟩
theorem list_cap (hR : Right l) : ∀ {A : List Str}, Known (allC l) A → listRank (allC l) A ≤ 100 * A.length
  | [], _ => Nat.le_refl _
  | x :: r, h => by
    have i := list_cap hR (A := r) fun k hk => h k (List.mem_cons_of_mem _ hk)
    have hx := h x (List.mem_cons_self ..)
    have := kd_cap hR (known_good hx) (known_deep hx)
    have e1 : listRank (allC l) (x :: r) = kdRank (allC l) (kdOf x) + listRank (allC l) r := by unfold listRank; rw [List.map_cons, List.sum_cons]
    rw [List.length_cons]
    omega
theorem LeL.refl (cs : List Class) : ∀ A : List Str, LeL cs A A
  | [] => trivial
  | _ :: r => ⟨leKd_refl cs _, LeL.refl cs r⟩
theorem LeL.trans {cs : List Class} (T : Tree cs) : ∀ {A B C : List Str}, Known cs A → LeL cs A B → LeL cs B C → LeL cs A C
  | [], [], [], _, _, _ => trivial
  | x :: _, _ :: _, _ :: _, h, h1, h2 => ⟨leKd_trans T (known_good (h x (List.mem_cons_self ..))) h1.1 h2.1, LeL.trans T (fun k hk => h k (List.mem_cons_of_mem _ hk)) h1.2 h2.2⟩
theorem LeL.anti {cs : List Class} (T : Tree cs) : ∀ {A B : List Str}, Known cs A → Known cs B → LeL cs A B → LeL cs B A → A = B
  | [], [], _, _, _, _ => rfl
  | x :: r, y :: s, ha, hb, h1, h2 => by
    have hx := ha x (List.mem_cons_self ..)
    have hy := hb y (List.mem_cons_self ..)
    have hk := leKd_anti T (known_good hx) (known_good hy) h1.1 h2.1
    have hxy : x = y := (known_kd hx).text (by rw [hk]; exact known_kd hy)
    rw [hxy, LeL.anti T (A := r) (B := s) (fun k hk => ha k (List.mem_cons_of_mem _ hk)) (fun k hk => hb k (List.mem_cons_of_mem _ hk)) h1.2 h2.2]
theorem kdOf_join {cs : List Class} (a b : Str) : kdOf (joinS cs a b) = joinKd cs (kdOf a) (kdOf b) := kdOf_text rfl
theorem joinS_known (hR : Right l) (hcf : ∀ c ∈ l, classFault c = 0) {a b : Str} (ha : kindR (allC l) a = 0) (hb : kindR (allC l) b = 0) : kindR (allC l) (joinS (allC l) a b) = 0 :=
  join_kind hcf (known_kd ha) (known_kd hb) ha hb ⟨rfl, (joinKd_up hR.tree (object_known l) (known_good ha) (known_good hb)).2.2⟩
theorem joinL_up (hR : Right l) (hcf : ∀ c ∈ l, classFault c = 0) : ∀ {A B : List Str}, A.length = B.length → Known (allC l) A → Known (allC l) B → Known (allC l) (joinL (allC l) A B) ∧ LeL (allC l) A (joinL (allC l) A B) ∧ LeL (allC l) B (joinL (allC l) A B)
  | [], [], _, _, _ => ⟨fun _ h => (by cases h), trivial, trivial⟩
  | x :: r, y :: s, hn, ha, hb => by
    obtain ⟨i1, i2, i3⟩ := joinL_up hR hcf (A := r) (B := s) (by simpa using hn) (fun k hk => ha k (List.mem_cons_of_mem _ hk)) (fun k hk => hb k (List.mem_cons_of_mem _ hk))
    have hx := ha x (List.mem_cons_self ..)
    have hy := hb y (List.mem_cons_self ..)
    obtain ⟨u1, u2, _⟩ := joinKd_up hR.tree (object_known l) (known_good hx) (known_good hy)
    refine ⟨fun k hk => ?_, ⟨?_, i2⟩, ⟨?_, i3⟩⟩
    · rcases List.mem_cons.1 (show k ∈ joinS (allC l) x y :: joinL (allC l) r s from hk) with rfl | hk
      · exact joinS_known hR hcf hx hy
      · exact i1 k hk
    · rw [kdOf_join]; exact u1
    · rw [kdOf_join]; exact u2
theorem joinL_lub (hR : Right l) : ∀ {A B C : List Str}, Known (allC l) A → Known (allC l) B → LeL (allC l) A C → LeL (allC l) B C → LeL (allC l) (joinL (allC l) A B) C
  | [], [], [], _, _, _, _ => trivial
  | [], _ :: _, [], _, _, _, h => h.elim
  | [], _ :: _, _ :: _, _, _, h, _ => h.elim
  | _ :: _, [], [], _, _, h, _ => h.elim
  | _ :: _, [], _ :: _, _, _, _, h => h.elim
  | x :: r, y :: s, z :: t, ha, hb, h1, h2 => by
    refine ⟨?_, joinL_lub hR (A := r) (B := s) (fun k hk => ha k (List.mem_cons_of_mem _ hk)) (fun k hk => hb k (List.mem_cons_of_mem _ hk)) h1.2 h2.2⟩
    rw [kdOf_join]
    exact joinKd_lub hR.tree (known_good (ha x (List.mem_cons_self ..))) (known_good (hb y (List.mem_cons_self ..))) h1.1 h2.1
def leFrm (cs : List Class) (a b : Frm) : Prop := LeL cs a.locals b.locals ∧ LeL cs a.stack b.stack
def faultB (cs : List Class) (c : Str) : Bool := kindR cs (thText c) == 0 && fitsKd cs (kdOf (thText c)) (kdOf (thText sFault))
def handEdges (cs : List Class) (at' : Nat) (f : Frm) : List Handler → Option (List (Nat × Frm))
  | [] => some []
  | h :: r => if h.lo ≤ (at' : Int) ∧ (at' : Int) < h.hi then (if faultB cs h.cls then (handEdges cs at' f r).map fun t => (h.dest.toNat, ⟨f.locals, [thText h.cls]⟩) :: t else none) else handEdges cs at' f r
def nextL (x : Ins) (at' : Nat) : List Nat := (if endsB x.op then [] else [at' + 1]) ++ (if jumpsB x.op && (x.op == 14 || x.a != (at' : Int) + 1) then [x.a.toNat] else [])
def stepEdges (cs : List Class) (cls gives : Str) (code : List Ins) (at' : Nat) (f : Frm) : Option (List (Nat × Frm)) := match code[at']? with
  | none => none
  | some x => (stepF cs cls gives x f.locals f.stack).map fun p => (nextL x at').map fun i => (i, ⟨p.1, p.2⟩)
def edgesF (cs : List Class) (cls gives : Str) (m : Method) (at' : Nat) (f : Frm) : Option (List (Nat × Frm)) := (handEdges cs at' f m.handlers).bind fun a => (stepEdges cs cls gives m.code at' f).map fun b => a ++ b
def checkW (cs : List Class) (cls gives : Str) (m : Method) (start : Frm) : Ways Frm where
  n := m.code.length
  top := 1600
  start := start
  ok := fun f => frameR cs f = 0
  le := leFrm cs
  fit := shapedB
  join := bothF cs
  edges := edgesF cs cls gives m
  rank := fun f => listRank cs f.locals + listRank cs f.stack
structure CodeOk (code : List Ins) : Prop where
  small : code.length ≤ 40
  ins : ∀ x ∈ code, insFault x = 0
  jumps : ∀ x ∈ code, jumpsB x.op = true → 0 ≤ x.a ∧ x.a < (code.length : Int)
  last : ∀ i x, code[i]? = some x → endsB x.op = false → i + 1 < code.length
  pos : 0 < code.length
theorem codeOk_of {code : List Ins} (h : codeFault code = 0) : CodeOk code := by
  unfold codeFault at h
  split at h
  · cases h
  · rename_i h40
    split at h
    · rename_i h1; exact absurd h h1
    · rename_i h1
      have h1 := Decidable.not_not.1 h1
      have hins := firstFault_all h1
      split at h
      · cases h
      · rename_i h2
        refine ⟨by omega, hins, fun x hx hj => ?_, fun i x hi he => ?_, ?_⟩
        · have hlt : x.a < (code.length : Int) := by
            by_cases hc : (code.length : Int) ≤ x.a
            · exact absurd (List.any_eq_true.2 ⟨x, hx, by rw [hj, decide_eq_true hc]; rfl⟩) h2
            · omega
          refine ⟨?_, hlt⟩
          have hi := hins x hx
          unfold insFault at hi
          split at hi
          · cases hi
          · split at hi
            · cases hi
            · split at hi
              · cases hi
              · rename_i hr
                have hr : rangedB x = true := by cases hq : rangedB x <;> simp_all
                unfold rangedB at hr
                unfold jumpsB at hj
                have hop : x.op = 12 ∨ x.op = 13 ∨ x.op = 14 := by simpa [or_assoc] using hj
                rw [if_neg (by omega), if_neg (by omega), if_neg (by omega)] at hr
                unfold jumpsB at hr
                rw [hj] at hr
                simp at hr
                omega
        · have hlt : i < code.length := (List.getElem?_eq_some_iff.1 hi).1
          by_cases hl : i + 1 = code.length
          · have hg : code.getLast? = some x := by rw [List.getLast?_eq_getElem?, ← hl]; exact hi
            rw [hg] at h
            dsimp only at h
            rw [he] at h; cases h
          · omega
        · cases code with
          | nil => cases h
          | cons _ _ => exact Nat.succ_pos _
theorem handlersOk_of {l : List Handler} {n : Nat} (h : handlersFault l n = 0) : l.length ≤ 8 ∧ ∀ x ∈ l, 0 ≤ x.lo ∧ x.hi ≤ (n : Int) ∧ 0 ≤ x.dest ∧ x.dest < (n : Int) ∧ nameB (lst x.cls) = true := by
  unfold handlersFault at h
  split at h
  · rename_i h1; exact absurd h h1
  · rename_i h1
    have h1 := firstFault_all (Decidable.not_not.1 h1)
    split at h
    · cases h
    · refine ⟨by omega, fun x hx => ?_⟩
      have h2 := h1 x hx
      unfold handlerFault at h2
      split at h2
      · cases h2
      · rename_i h3
        split at h2
        · rename_i h4; exact ⟨by omega, by omega, by omega, by omega, h4⟩
        · cases h2
theorem handEdges_out {cs : List Class} {n at' : Nat} {f : Frm} (hf : frameR cs f = 0) : ∀ {hs : List Handler} {t : List (Nat × Frm)}, (∀ x ∈ hs, 0 ≤ x.dest ∧ x.dest < (n : Int)) → handEdges cs at' f hs = some t → ∀ p ∈ t, p.1 < n ∧ frameR cs p.2 = 0
  | [], t, _, h, p, hp => by
    injection h with h; subst h; cases hp
  | x :: r, t, hh, h, p, hp => by
    have hr : ∀ y ∈ r, 0 ≤ y.dest ∧ y.dest < (n : Int) := fun y hy => hh y (List.mem_cons_of_mem _ hy)
    unfold handEdges at h
    split at h
    · split at h
      · rename_i hb
        obtain ⟨t', h1, h2⟩ := map_spec h
        subst h2
        rcases List.mem_cons.1 hp with rfl | hp
        · obtain ⟨d1, d2⟩ := hh x (List.mem_cons_self ..)
          obtain ⟨z1, z2, z3, z4⟩ := frame_zero hf
          refine ⟨by show x.dest.toNat < n; omega, frameR_of z1 (by show [thText x.cls].length ≤ 8; simp) z3 fun k hk => ?_⟩
          rw [List.mem_singleton.1 hk]
          unfold faultB at hb
          rw [Bool.and_eq_true] at hb
          exact beq_iff_eq.1 hb.1
        · exact handEdges_out hf hr h1 p hp
      · cases h
    · exact handEdges_out hf hr h p hp
theorem handEdges_mono {cs : List Class} {at' : Nat} {a b : Frm} (hab : leFrm cs a b) : ∀ {hs : List Handler} {tb : List (Nat × Frm)}, handEdges cs at' b hs = some tb → ∃ ta, handEdges cs at' a hs = some ta ∧ ∀ p ∈ ta, ∃ q ∈ tb, p.1 = q.1 ∧ leFrm cs p.2 q.2
  | [], tb, _ => ⟨[], rfl, fun p hp => by cases hp⟩
  | x :: r, tb, h => by
    unfold handEdges at h ⊢
    split at h
    · rename_i hc
      rw [if_pos hc]
      split at h
      · rename_i hb
        rw [if_pos hb]
        obtain ⟨t', h1, h2⟩ := map_spec h
        subst h2
        obtain ⟨ta, e, ht⟩ := handEdges_mono hab h1
        refine ⟨_, by rw [e]; rfl, fun p hp => ?_⟩
        rcases List.mem_cons.1 hp with rfl | hp
        · exact ⟨_, List.mem_cons_self .., rfl, hab.1, LeL.refl cs _⟩
        · obtain ⟨q, hq, q1, q2⟩ := ht p hp
          exact ⟨q, List.mem_cons_of_mem _ hq, q1, q2⟩
      · cases h
    · rename_i hc
      rw [if_neg hc]
      exact handEdges_mono hab h
theorem nextL_in {code : List Ins} (hc : CodeOk code) {x : Ins} {at' : Nat} (hx : code[at']? = some x) : ∀ i ∈ nextL x at', i < code.length := by
  intro i hi
  unfold nextL at hi
  rcases List.mem_append.1 hi with hi | hi
  · split at hi
    · cases hi
    · rename_i he
      rw [List.mem_singleton.1 hi]
      exact hc.last at' x hx (by simpa using he)
  · split at hi
    · rename_i hj
      rw [Bool.and_eq_true] at hj
      rw [List.mem_singleton.1 hi]
      have := hc.jumps x (List.mem_of_getElem? hx) hj.1
      omega
    · cases hi
theorem frame_le {cs : List Class} {a b : Frm} (ha : frameR cs a = 0) (hb : frameR cs b = 0) (h : leFrm cs a b) : LeF cs a.locals b.locals ∧ LeF cs a.stack b.stack := by
  obtain ⟨a1, a2, a3, a4⟩ := frame_zero ha
  obtain ⟨b1, b2, b3, b4⟩ := frame_zero hb
  exact ⟨⟨h.1, a3, b3, a1⟩, ⟨h.2, a4, b4, a2⟩⟩
theorem leF_frames {cs : List Class} {L S L' S' : List Str} (h1 : LeF cs L L') (h2 : LeF cs S S') : frameR cs ⟨L, S⟩ = 0 ∧ frameR cs ⟨L', S'⟩ = 0 ∧ leFrm cs ⟨L, S⟩ ⟨L', S'⟩ :=
  ⟨frameR_of h1.sm h2.sm h1.ka h2.ka, frameR_of (by rw [← h1.le.len]; exact h1.sm) (by rw [← h2.le.len]; exact h2.sm) h1.kb h2.kb, h1.le, h2.le⟩
theorem stepEdges_mono (hR : Right l) {code : List Ins} (hc : CodeOk code) {cls gives : Str} {at' : Nat} {a b : Frm} (ha : frameR (allC l) a = 0) (hb : frameR (allC l) b = 0) (hab : leFrm (allC l) a b) {tb : List (Nat × Frm)} (h : stepEdges (allC l) cls gives code at' b = some tb) :
    ∃ ta, stepEdges (allC l) cls gives code at' a = some ta ∧ (∀ p ∈ ta, ∃ q ∈ tb, p.1 = q.1 ∧ leFrm (allC l) p.2 q.2) ∧ ∀ p ∈ ta, p.1 < code.length ∧ frameR (allC l) p.2 = 0 := by
  unfold stepEdges at h ⊢
  cases hx : code[at']? with
  | none => rw [hx] at h; cases h
  | some x =>
    rw [hx] at h
    dsimp only at h ⊢
    obtain ⟨⟨L', S'⟩, h1, h2⟩ := map_spec h
    subst h2
    obtain ⟨g1, g2⟩ := frame_le ha hb hab
    obtain ⟨La, Sa, e, m1, m2⟩ := stepF_mono hR (hc.ins x (List.mem_of_getElem? hx)) g1 g2 h1
    obtain ⟨k1, _, k3⟩ := leF_frames m1 m2
    refine ⟨_, by rw [e]; rfl, fun p hp => ?_, fun p hp => ?_⟩
    · obtain ⟨i, hi, rfl⟩ := List.mem_map.1 hp
      exact ⟨_, List.mem_map.2 ⟨i, hi, rfl⟩, rfl, k3⟩
    · obtain ⟨i, hi, rfl⟩ := List.mem_map.1 hp
      exact ⟨nextL_in hc hx i hi, k1⟩
theorem check_good (hR : Right l) (hcf : ∀ c ∈ l, classFault c = 0) {cls gives : Str} {m : Method} (hc : codeFault m.code = 0) (hh : handlersFault m.handlers m.code.length = 0) {start : Frm} (hs : frameR (allC l) start = 0) : (checkW (allC l) cls gives m start).Good where
  pos := (codeOk_of hc).pos
  sok := hs
  refl := fun a _ => ⟨LeL.refl _ _, LeL.refl _ _⟩
  trans := fun a b c ha _ _ h1 h2 => by
    obtain ⟨_, _, k1, k2⟩ := frame_zero ha
    exact ⟨LeL.trans hR.tree k1 h1.1 h2.1, LeL.trans hR.tree k2 h1.2 h2.2⟩
  anti := fun a b ha hb h1 h2 => by
    obtain ⟨_, _, a1, a2⟩ := frame_zero ha
    obtain ⟨_, _, b1, b2⟩ := frame_zero hb
    have e1 := LeL.anti hR.tree a1 b1 h1.1 h2.1
    have e2 := LeL.anti hR.tree a2 b2 h1.2 h2.2
    cases a; cases b; dsimp only at e1 e2; rw [e1, e2]
  up := fun a b ha hb hf => by
    obtain ⟨n1, n2, a1, a2⟩ := frame_zero ha
    obtain ⟨_, _, b1, b2⟩ := frame_zero hb
    have hf : shapedB a b = true := hf
    unfold shapedB at hf
    rw [Bool.and_eq_true] at hf
    have f1 := of_decide_eq_true hf.1
    have f2 := of_decide_eq_true hf.2
    obtain ⟨u1, u2, u3⟩ := joinL_up hR hcf f1 a1 b1
    obtain ⟨v1, v2, v3⟩ := joinL_up hR hcf f2 a2 b2
    exact ⟨frameR_of (by show (joinL (allC l) a.locals b.locals).length ≤ 8; rw [joinL_length f1]; exact n1) (by show (joinL (allC l) a.stack b.stack).length ≤ 8; rw [joinL_length f2]; exact n2) u1 v1, ⟨u2, v2⟩, ⟨u3, v3⟩⟩
  lub := fun a b z ha hb _ h1 h2 => by
    obtain ⟨_, _, a1, a2⟩ := frame_zero ha
    obtain ⟨_, _, b1, b2⟩ := frame_zero hb
    refine ⟨?_, joinL_lub hR a1 b1 h1.1 h2.1, joinL_lub hR a2 b2 h1.2 h2.2⟩
    show shapedB a b = true
    unfold shapedB
    rw [h1.1.len, h1.2.len, h2.1.len, h2.2.len]
    simp
  mono := fun i a b lb _ ha hb hab h => by
    have h : edgesF (allC l) cls gives m i b = some lb := h
    unfold edgesF at h
    obtain ⟨tb, h1, h2⟩ := bind_spec h
    obtain ⟨sb, h3, h4⟩ := map_spec h2
    subst h4
    obtain ⟨ta, e1, t1⟩ := handEdges_mono hab h1
    obtain ⟨sa, e2, t2, _⟩ := stepEdges_mono hR (codeOk_of hc) ha hb hab h3
    refine ⟨ta ++ sa, by show edgesF (allC l) cls gives m i a = _; unfold edgesF; rw [e1, Option.bind_some, e2]; rfl, fun p hp => ?_⟩
    rcases List.mem_append.1 hp with hp | hp
    · obtain ⟨q, hq, q1⟩ := t1 p hp; exact ⟨q, List.mem_append_left _ hq, q1⟩
    · obtain ⟨q, hq, q1⟩ := t2 p hp; exact ⟨q, List.mem_append_right _ hq, q1⟩
  out := fun i a t _ ha h p hp => by
    have h : edgesF (allC l) cls gives m i a = some t := h
    unfold edgesF at h
    obtain ⟨tb, h1, h2⟩ := bind_spec h
    obtain ⟨sb, h3, h4⟩ := map_spec h2
    subst h4
    rcases List.mem_append.1 hp with hp | hp
    · exact handEdges_out ha (fun x hx => ⟨((handlersOk_of hh).2 x hx).2.2.1, ((handlersOk_of hh).2 x hx).2.2.2.1⟩) h1 p hp
    · obtain ⟨sa, e, _, t3⟩ := stepEdges_mono hR (codeOk_of hc) ha ha ⟨LeL.refl _ _, LeL.refl _ _⟩ h3
      rw [h3] at e; injection e with e; subst e
      exact t3 p hp
  fall := fun a b ha hb h hne => by
    obtain ⟨_, _, a1, a2⟩ := frame_zero ha
    obtain ⟨_, _, b1, b2⟩ := frame_zero hb
    obtain ⟨i1, i2⟩ := list_fall hR h.1 a1 b1
    obtain ⟨j1, j2⟩ := list_fall hR h.2 a2 b2
    show listRank (allC l) b.locals + listRank (allC l) b.stack < listRank (allC l) a.locals + listRank (allC l) a.stack
    by_cases e1 : a.locals = b.locals
    · have := j2 fun e2 => hne (by cases a; cases b; dsimp only at e1 e2; rw [e1, e2])
      omega
    · have := i2 e1
      omega
  cap := fun a ha => by
    obtain ⟨n1, n2, a1, a2⟩ := frame_zero ha
    have h1 := list_cap hR a1
    have h2 := list_cap hR a2
    show listRank (allC l) a.locals + listRank (allC l) a.stack ≤ 1600
    omega
end
end Go.Proofs.YtlmfmioljeppfaaGreatDoor
