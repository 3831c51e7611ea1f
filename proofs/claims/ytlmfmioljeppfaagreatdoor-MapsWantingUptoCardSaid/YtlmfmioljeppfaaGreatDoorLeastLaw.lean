/-
  PLAIN LAW: one walk through code with maps: maps that are accepted give frames that are closed under the code's edges; the least frames, where maps are needed, are accepted; without one of these they are not. No program in sight.
  PLAIN LAW: a look at a place, part by part: the handlers one by one, then the instruction. No program in sight.
-/
import Derived.Test.YtlmfmioljeppfaaGreatDoorCheckLaw
namespace Go.Proofs.YtlmfmioljeppfaaGreatDoor
open Go.RowKit Go.Shelf Go.Lib
def meetsM (cs : List Class) (M : Asg Frm) (i : Nat) (f : Frm) : Bool := match M i with
  | none => false
  | some m => shapedB f m && decide (bothF cs f m = m)
def caughtM (cs : List Class) (M : Asg Frm) (at' : Nat) (f : Frm) : List Handler → Bool
  | [] => true
  | h :: r => if h.lo ≤ (at' : Int) ∧ (at' : Int) < h.hi then (faultB cs h.cls && meetsM cs M h.dest.toNat ⟨f.locals, [thText h.cls]⟩) && caughtM cs M at' f r else caughtM cs M at' f r
def enterM (cs : List Class) (M : Asg Frm) (at' : Nat) (s : Option Frm) : Option (Option Frm) := match M at' with
  | none => some s
  | some m => match s with
    | none => some (some m)
    | some f => if meetsM cs M at' f then some (some m) else none
def stepM (cs : List Class) (cls gives : Str) (hs : List Handler) (M : Asg Frm) (at' : Nat) (x : Ins) (f : Frm) : Option (Option Frm) :=
  if caughtM cs M at' f hs then (stepF cs cls gives x f.locals f.stack).bind fun p => if jumpsB x.op && !meetsM cs M x.a.toNat ⟨p.1, p.2⟩ then none else some (if endsB x.op then none else some ⟨p.1, p.2⟩) else none
def walkM (cs : List Class) (cls gives : Str) (hs : List Handler) (M : Asg Frm) : Nat → List Ins → Option Frm → Bool
  | _, [], _ => true
  | at', x :: r, s => match enterM cs M at' s with
    | none => false
    | some none => walkM cs cls gives hs M (at' + 1) r none
    | some (some f) => match stepM cs cls gives hs M at' x f with
      | none => false
      | some s' => walkM cs cls gives hs M (at' + 1) r s'
section
variable {l : List Class} {cls gives : Str} {m : Method} {start : Frm}
theorem meetsM_spec {cs : List Class} {M : Asg Frm} {i : Nat} {f : Frm} (h : meetsM cs M i f = true) : ∃ g, M i = some g ∧ shapedB f g = true ∧ bothF cs f g = g := by
  unfold meetsM at h
  cases hm : M i with
  | none => rw [hm] at h; cases h
  | some g =>
    rw [hm] at h
    dsimp only at h
    rw [Bool.and_eq_true] at h
    exact ⟨g, rfl, h.1, of_decide_eq_true h.2⟩
theorem meetsM_of {cs : List Class} {M : Asg Frm} {i : Nat} {f g : Frm} (hm : M i = some g) (h1 : shapedB f g = true) (h2 : bothF cs f g = g) : meetsM cs M i f = true := by
  unfold meetsM
  rw [hm]
  dsimp only
  rw [h1, decide_eq_true h2]; rfl
theorem meetsM_le (H : (checkW (allC l) cls gives m start).Good) {M : Asg Frm} {i : Nat} {f : Frm} (hf : frameR (allC l) f = 0) (hM : ∀ i g, M i = some g → frameR (allC l) g = 0) (h : meetsM (allC l) M i f = true) : ∃ g, M i = some g ∧ leFrm (allC l) f g := by
  obtain ⟨g, e, h1, h2⟩ := meetsM_spec h
  obtain ⟨_, u2, _⟩ := H.up f g hf (hM i g e) h1
  have u2 : leFrm (allC l) f (bothF (allC l) f g) := u2
  rw [h2] at u2
  exact ⟨g, e, u2⟩
theorem meetsM_ge (H : (checkW (allC l) cls gives m start).Good) {M : Asg Frm} {i : Nat} {f g : Frm} (hf : frameR (allC l) f = 0) (hg : frameR (allC l) g = 0) (e : M i = some g) (h : leFrm (allC l) f g) : meetsM (allC l) M i f = true := by
  obtain ⟨h1, h2⟩ := H.lub f g g hf hg hg h (H.refl g hg)
  obtain ⟨u1, _, u3⟩ := H.up f g hf hg h1
  exact meetsM_of e h1 (H.anti _ g u1 hg h2 u3)
theorem caughtM_edges (H : (checkW (allC l) cls gives m start).Good) {M : Asg Frm} {at' : Nat} {f : Frm} (hM : ∀ i g, M i = some g → frameR (allC l) g = 0) (hf : frameR (allC l) f = 0) : ∀ {hs : List Handler}, caughtM (allC l) M at' f hs = true →
    ∃ t, handEdges (allC l) at' f hs = some t ∧ ∀ p ∈ t, ∃ g, M p.1 = some g ∧ leFrm (allC l) p.2 g
  | [], _ => ⟨[], rfl, fun p hp => by cases hp⟩
  | x :: r, h => by
    unfold caughtM at h
    unfold handEdges
    split at h
    · rename_i hc
      rw [if_pos hc]
      rw [Bool.and_eq_true, Bool.and_eq_true] at h
      obtain ⟨⟨h1, h2⟩, h3⟩ := h
      obtain ⟨t, e, ht⟩ := caughtM_edges H hM hf h3
      rw [if_pos h1, e]
      refine ⟨_, rfl, fun p hp => ?_⟩
      rcases List.mem_cons.1 hp with rfl | hp
      · obtain ⟨z1, z2, z3, z4⟩ := frame_zero hf
        refine meetsM_le H (frameR_of z1 (by show [thText x.cls].length ≤ 8; simp) z3 fun k hk => ?_) hM h2
        rw [List.mem_singleton.1 hk]
        unfold faultB at h1
        rw [Bool.and_eq_true] at h1
        exact beq_iff_eq.1 h1.1
      · exact ht p hp
    · rename_i hc
      rw [if_neg hc]
      exact caughtM_edges H hM hf h
theorem caughtM_of (H : (checkW (allC l) cls gives m start).Good) {M F : Asg Frm} {at' : Nat} {f g : Frm} (hf : frameR (allC l) f = 0) (hg : frameR (allC l) g = 0) (hle : leFrm (allC l) f g) (hF : ∀ i g, F i = some g → frameR (allC l) g = 0) (hMF : ∀ i g, M i = some g → F i = some g) :
    ∀ {hs : List Handler}, (∀ h ∈ hs, h.lo ≤ (at' : Int) → (at' : Int) < h.hi → (M h.dest.toNat).isSome = true) → ∀ {t : List (Nat × Frm)}, handEdges (allC l) at' g hs = some t → (∀ p ∈ t, ∃ q, F p.1 = some q ∧ leFrm (allC l) p.2 q) → caughtM (allC l) M at' f hs = true
  | [], _, _, _, _ => rfl
  | x :: r, hn, t, h, ht => by
    have hr : ∀ h ∈ r, h.lo ≤ (at' : Int) → (at' : Int) < h.hi → (M h.dest.toNat).isSome = true := fun h hh => hn h (List.mem_cons_of_mem _ hh)
    unfold handEdges at h
    unfold caughtM
    split at h
    · rename_i hc
      rw [if_pos hc]
      split at h
      · rename_i hb
        obtain ⟨t', e, rfl⟩ := map_spec h
        rw [caughtM_of H hf hg hle hF hMF hr e fun p hp => ht p (List.mem_cons_of_mem _ hp), hb, Bool.and_true, Bool.true_and]
        have hs := hn x (List.mem_cons_self ..) hc.1 hc.2
        obtain ⟨q, eM⟩ := Option.isSome_iff_exists.1 hs
        obtain ⟨q', eF, hq⟩ := ht _ (List.mem_cons_self ..)
        dsimp only at eF hq
        rw [hMF _ q eM] at eF
        injection eF with eF
        subst eF
        obtain ⟨z1, z2, z3, z4⟩ := frame_zero hf
        obtain ⟨y1, y2, y3, y4⟩ := frame_zero hg
        have hk : ∀ k ∈ [thText x.cls], kindR (allC l) k = 0 := fun k hk => by
          rw [List.mem_singleton.1 hk]
          unfold faultB at hb
          rw [Bool.and_eq_true] at hb
          exact beq_iff_eq.1 hb.1
        have ok1 : frameR (allC l) ⟨f.locals, [thText x.cls]⟩ = 0 := frameR_of z1 (by show [thText x.cls].length ≤ 8; simp) z3 hk
        have ok2 : frameR (allC l) ⟨g.locals, [thText x.cls]⟩ = 0 := frameR_of y1 (by show [thText x.cls].length ≤ 8; simp) y3 hk
        exact meetsM_ge H ok1 (hF _ q (hMF _ q eM)) eM (H.trans _ _ q ok1 ok2 (hF _ q (hMF _ q eM)) ⟨hle.1, LeL.refl _ _⟩ hq)
      · cases h
    · rename_i hc
      rw [if_neg hc]
      exact caughtM_of H hf hg hle hF hMF hr h ht
theorem caughtM_needs {cs : List Class} {M : Asg Frm} {at' : Nat} {f : Frm} : ∀ {hs : List Handler}, caughtM cs M at' f hs = true → ∀ h ∈ hs, h.lo ≤ (at' : Int) → (at' : Int) < h.hi → (M h.dest.toNat).isSome = true
  | [], _, x, hx, _, _ => by cases hx
  | y :: r, h, x, hx, h1, h2 => by
    unfold caughtM at h
    split at h
    · rw [Bool.and_eq_true, Bool.and_eq_true] at h
      rcases List.mem_cons.1 hx with rfl | hx
      · obtain ⟨g, e, _⟩ := meetsM_spec h.1.2
        rw [e]; rfl
      · exact caughtM_needs h.2 x hx h1 h2
    · rename_i hc
      rcases List.mem_cons.1 hx with rfl | hx
      · exact absurd ⟨h1, h2⟩ hc
      · exact caughtM_needs h x hx h1 h2
theorem stepM_spec {cs : List Class} {hs : List Handler} {M : Asg Frm} {at' : Nat} {x : Ins} {f : Frm} {s : Option Frm} (h : stepM cs cls gives hs M at' x f = some s) : caughtM cs M at' f hs = true ∧ ∃ p, stepF cs cls gives x f.locals f.stack = some p ∧ (jumpsB x.op = true → meetsM cs M x.a.toNat ⟨p.1, p.2⟩ = true) ∧ s = if endsB x.op then none else some ⟨p.1, p.2⟩ := by
  unfold stepM at h
  split at h
  · rename_i hc
    obtain ⟨p, e, h⟩ := bind_spec h
    split at h
    · cases h
    · rename_i hj
      injection h with h
      refine ⟨hc, p, e, fun hx => ?_, h.symm⟩
      rw [hx, Bool.true_and] at hj
      cases hm : meetsM cs M x.a.toNat ⟨p.1, p.2⟩ with
      | true => rfl
      | false => rw [hm] at hj; exact absurd rfl hj
  · cases h
structure Seen (cs : List Class) (cls gives : Str) (m : Method) (M G : Asg Frm) (i : Nat) (f : Frm) : Prop where
  ok : frameR cs f = 0
  lt : i < m.code.length
  step : ∃ x s, m.code[i]? = some x ∧ stepM cs cls gives m.handlers M i x f = some s ∧ (∀ g, s = some g → ∃ h, G (i + 1) = some h ∧ leFrm cs g h)
def SeenBy (cs : List Class) (cls gives : Str) (m : Method) (M : Asg Frm) (r : List Ins) (at' : Nat) (s : Option Frm) : Prop :=
  ∃ G : Asg Frm, (∀ i, i < at' → G i = none) ∧ (∀ i f, G i = some f → Seen cs cls gives m M G i f) ∧ (∀ i g, at' ≤ i → i < m.code.length → M i = some g → G i = some g) ∧ (∀ f, s = some f → r ≠ [] → ∃ g, G at' = some g ∧ leFrm cs f g)
theorem walk_seen (hR : Right l) (hc : codeFault m.code = 0) (H : (checkW (allC l) cls gives m start).Good) {M : Asg Frm} (hM : ∀ i g, M i = some g → frameR (allC l) g = 0) : ∀ (r : List Ins) (at' : Nat) (s : Option Frm), m.code.drop at' = r → at' + r.length = m.code.length → (∀ f, s = some f → frameR (allC l) f = 0) → walkM (allC l) cls gives m.handlers M at' r s = true → SeenBy (allC l) cls gives m M r at' s := by
  intro r
  induction r with
  | nil => exact fun at' s hd hn hs _ => ⟨fun _ => none, fun _ _ => rfl, fun i f e => by (cases e), fun i g h1 h2 _ => by (exfalso; simp at hn; omega), fun _ _ h => absurd rfl h⟩
  | cons x r ih =>
    intro at' s hd hn hs h
    have hx : m.code[at']? = some x := by
      have : (m.code.drop at')[0]? = some x := by rw [hd]; rfl
      rw [List.getElem?_drop] at this
      simpa using this
    have hlt : at' < m.code.length := (List.getElem?_eq_some_iff.1 hx).1
    have hd' : m.code.drop (at' + 1) = r := by rw [← List.drop_drop, hd]; rfl
    have hn' : at' + 1 + r.length = m.code.length := by rw [← hn, List.length_cons]; omega
    unfold walkM at h
    -- the frame that is seen here
    have key : ∀ f, frameR (allC l) f = 0 → (∀ g, M at' = some g → f = g) → (∀ f0, s = some f0 → leFrm (allC l) f0 f) → (∃ s', stepM (allC l) cls gives m.handlers M at' x f = some s' ∧ walkM (allC l) cls gives m.handlers M (at' + 1) r s' = true) → SeenBy (allC l) cls gives m M (x :: r) at' s := fun f hf hmf hsf hw => by
      obtain ⟨s', e1, e2⟩ := hw
      obtain ⟨k1, p, k2, k3, k4⟩ := stepM_spec e1
      have hok' : ∀ g, s' = some g → frameR (allC l) g = 0 := fun g hg => by
        rw [k4] at hg
        split at hg
        · cases hg
        · injection hg with hg
          subst hg
          have hfr : (⟨f.locals, f.stack⟩ : Frm) = f := rfl
          have hl := frame_le hf hf ⟨LeL.refl _ _, LeL.refl _ _⟩
          obtain ⟨La, Sa, e, m1, m2⟩ := stepF_mono hR ((codeOk_of hc).ins x (List.mem_of_getElem? hx)) hl.1 hl.2 k2
          exact (leF_frames m1 m2).2.1
      obtain ⟨G, g1, g2, g3, g4⟩ := ih (at' + 1) s' hd' hn' hok' e2
      refine ⟨G.put at' f, fun i hi => ?_, fun i g hg => ?_, fun i g h1 h2 hg => ?_, fun f0 hf0 _ => ⟨f, Asg.put_self G at' f, hsf f0 hf0⟩⟩
      · rw [Asg.put_other G f (by omega)]; exact g1 i (by omega)
      · by_cases hi : i = at'
        · subst hi
          rw [Asg.put_self] at hg
          injection hg with hg
          subst hg
          refine ⟨hf, hlt, x, s', hx, e1, fun g hg => ?_⟩
          have hr : r ≠ [] := fun hr => by
            subst hr
            rw [k4] at hg
            split at hg
            · cases hg
            · rename_i he
              have := (codeOk_of hc).last i x hx (by simpa using he)
              simp at hn'
              omega
          obtain ⟨h, eh, lh⟩ := g4 g hg hr
          exact ⟨h, by rw [Asg.put_other G f (by omega)]; exact eh, lh⟩
        · rw [Asg.put_other G f hi] at hg
          have hs := g2 i g hg
          refine ⟨hs.ok, hs.lt, ?_⟩
          obtain ⟨y, t, y1, y2, y3⟩ := hs.step
          refine ⟨y, t, y1, y2, fun q hq => ?_⟩
          obtain ⟨h, eh, lh⟩ := y3 q hq
          refine ⟨h, ?_, lh⟩
          have : i + 1 ≠ at' := fun e => by
            have := g1 i (by omega)
            rw [this] at hg
            cases hg
          rw [Asg.put_other G f this]; exact eh
      · by_cases hi : i = at'
        · subst hi
          rw [Asg.put_self, hmf g hg]
        · rw [Asg.put_other G f hi]; exact g3 i g (by omega) h2 hg
    cases hm : M at' with
    | some g =>
      unfold enterM at h
      rw [hm] at h
      cases s with
      | none =>
        dsimp only at h
        refine key g (hM _ g hm) (fun g' e => by rw [hm] at e; injection e) (fun f0 e => by cases e) ?_
        cases hst : stepM (allC l) cls gives m.handlers M at' x g with
        | none => rw [hst] at h; cases h
        | some s' => rw [hst] at h; exact ⟨s', rfl, h⟩
      | some f =>
        dsimp only at h
        cases hmt : meetsM (allC l) M at' f with
        | false => rw [hmt] at h; cases h
        | true =>
          rw [hmt] at h
          simp only [if_true] at h
          obtain ⟨g', e', le'⟩ := meetsM_le H (hs f rfl) hM hmt
          rw [hm] at e'
          injection e' with e'
          subst e'
          refine key g (hM _ g hm) (fun g' e => by rw [hm] at e; injection e) (fun f0 e => by injection e with e; rw [← e]; exact le') ?_
          cases hst : stepM (allC l) cls gives m.handlers M at' x g with
          | none => rw [hst] at h; cases h
          | some s' => rw [hst] at h; exact ⟨s', rfl, h⟩
    | none =>
      unfold enterM at h
      rw [hm] at h
      cases s with
      | some f =>
        dsimp only at h
        refine key f (hs f rfl) (fun g' e => by rw [hm] at e; cases e) (fun f0 e => by injection e with e; rw [← e]; exact ⟨LeL.refl _ _, LeL.refl _ _⟩) ?_
        cases hst : stepM (allC l) cls gives m.handlers M at' x f with
        | none => rw [hst] at h; cases h
        | some s' => rw [hst] at h; exact ⟨s', rfl, h⟩
      | none =>
        dsimp only at h
        obtain ⟨G, g1, g2, g3, g4⟩ := ih (at' + 1) none hd' hn' (fun f e => by cases e) h
        refine ⟨G, fun i hi => g1 i (by omega), g2, fun i g h1 h2 hg => ?_, fun f e => by cases e⟩
        by_cases hi : i = at'
        · subst hi; rw [hm] at hg; cases hg
        · exact g3 i g (by omega) h2 hg
theorem walk_closed (hR : Right l) (hcf : ∀ c ∈ l, classFault c = 0) (hc : codeFault m.code = 0) (hh : handlersFault m.handlers m.code.length = 0) (hst : frameR (allC l) start = 0) {M : Asg Frm} (hM : ∀ i g, M i = some g → frameR (allC l) g = 0) (h : walkM (allC l) cls gives m.handlers M 0 m.code (some start) = true) :
    ∃ G, (checkW (allC l) cls gives m start).Closed G ∧ (∀ i f, G i = some f → Seen (allC l) cls gives m M G i f) ∧ (∀ i g, i < m.code.length → M i = some g → G i = some g) := by
  have H := check_good hR hcf (cls := cls) (gives := gives) hc hh hst
  obtain ⟨G, _, g2, g3, g4⟩ := walk_seen hR hc H hM m.code 0 (some start) rfl (by simp) (fun f e => by injection e with e; rw [← e]; exact hst) h
  refine ⟨G, ⟨fun i f e => ⟨(g2 i f e).lt, (g2 i f e).ok⟩, fun i f e => ?_, ?_⟩, g2, fun i g hi hg => g3 i g (Nat.zero_le _) hi hg⟩
  · obtain ⟨hf, hlt, x, s, hx, hs, hn⟩ := g2 i f e
    obtain ⟨k1, p, k2, k3, k4⟩ := stepM_spec hs
    obtain ⟨t, e1, ht⟩ := caughtM_edges H hM hf k1
    have e2 : stepEdges (allC l) cls gives m.code i f = some ((nextL x i).map fun j => (j, ⟨p.1, p.2⟩)) := by
      unfold stepEdges
      rw [hx]
      dsimp only
      rw [k2]; rfl
    have e3 : edgesF (allC l) cls gives m i f = some (t ++ (nextL x i).map fun j => (j, ⟨p.1, p.2⟩)) := by
      unfold edgesF
      rw [e1, Option.bind_some, e2]; rfl
    have ho := H.out i f _ hlt hf e3
    refine ⟨_, e3, fun q hq => ?_⟩
    obtain ⟨o1, o2⟩ := ho q hq
    rcases List.mem_append.1 hq with hq | hq
    · obtain ⟨g, eg, lg⟩ := ht q hq
      exact ⟨g, g3 q.1 g (Nat.zero_le _) o1 eg, lg⟩
    · obtain ⟨j, hj, rfl⟩ := List.mem_map.1 hq
      unfold nextL at hj
      rcases List.mem_append.1 hj with hj | hj
      · cases he : endsB x.op with
        | true => rw [he, if_pos rfl] at hj; cases hj
        | false =>
          rw [he, if_neg (by decide)] at hj
          rw [List.mem_singleton.1 hj]
          exact hn _ (by rw [k4, he, if_neg (by decide)])
      · split at hj
        · rename_i hjj
          rw [Bool.and_eq_true] at hjj
          rw [List.mem_singleton.1 hj] at o1 ⊢
          obtain ⟨g, eg, lg⟩ := meetsM_le H o2 hM (k3 hjj.1)
          exact ⟨g, g3 _ g (Nat.zero_le _) o1 eg, lg⟩
        · cases hj
  · obtain ⟨g, e, lg⟩ := g4 start rfl (fun e => absurd (codeOk_of hc).pos (by rw [e]; decide))
    exact ⟨g, e, lg⟩
def NeedsM (m : Method) (F M : Asg Frm) : Prop := ∀ i f x, F i = some f → m.code[i]? = some x → (jumpsB x.op = true → (M x.a.toNat).isSome = true) ∧ ∀ h ∈ m.handlers, h.lo ≤ (i : Int) → (i : Int) < h.hi → (M h.dest.toNat).isSome = true
theorem walk_enough (hR : Right l) (hcf : ∀ c ∈ l, classFault c = 0) (hc : codeFault m.code = 0) (hh : handlersFault m.handlers m.code.length = 0) (hst : frameR (allC l) start = 0) {M F : Asg Frm} (hF : (checkW (allC l) cls gives m start).Closed F) (hMF : ∀ i g, M i = some g → F i = some g) (hn : NeedsM m F M) :
    walkM (allC l) cls gives m.handlers M 0 m.code (some start) = true := by
  have H := check_good hR hcf (cls := cls) (gives := gives) hc hh hst
  have hok : ∀ i g, F i = some g → frameR (allC l) g = 0 := fun i g e => (hF.1 i g e).2
  have key : ∀ (r : List Ins) (at' : Nat) (s : Option Frm), m.code.drop at' = r → (∀ f, s = some f → frameR (allC l) f = 0 ∧ (r ≠ [] → ∃ g, F at' = some g ∧ leFrm (allC l) f g)) → walkM (allC l) cls gives m.handlers M at' r s = true := by
    intro r
    induction r with
    | nil => exact fun _ _ _ _ => rfl
    | cons x r ih =>
      intro at' s hd hs
      have hx : m.code[at']? = some x := by
        have : (m.code.drop at')[0]? = some x := by rw [hd]; rfl
        rw [List.getElem?_drop] at this
        simpa using this
      have hd' : m.code.drop (at' + 1) = r := by rw [← List.drop_drop, hd]; rfl
      have key : ∀ f g, frameR (allC l) f = 0 → F at' = some g → leFrm (allC l) f g → (match stepM (allC l) cls gives m.handlers M at' x f with
          | none => false
          | some s' => walkM (allC l) cls gives m.handlers M (at' + 1) r s') = true := fun f g hf hg hle => by
        have hgo := hok at' g hg
        obtain ⟨lb, hb, hsat⟩ := hF.2.1 at' g hg
        have hb' : edgesF (allC l) cls gives m at' g = some lb := hb
        unfold edgesF at hb'
        obtain ⟨tb, b1, b2⟩ := bind_spec hb'
        obtain ⟨sb, b3, b4⟩ := map_spec b2
        subst b4
        have b3' := b3
        unfold stepEdges at b3
        rw [hx] at b3
        dsimp only at b3
        obtain ⟨q, c1, c2⟩ := map_spec b3
        subst c2
        obtain ⟨n1, n2⟩ := hn at' g x hg hx
        have hct := caughtM_of H hf hgo hle hok hMF (fun h hh h1 h2 => n2 h hh h1 h2) b1 fun p hp => hsat p (List.mem_append_left _ hp)
        obtain ⟨gl, gs⟩ := frame_le hf hgo hle
        obtain ⟨La, Sa, e, m1, m2⟩ := stepF_mono hR ((codeOk_of hc).ins x (List.mem_of_getElem? hx)) gl gs c1
        obtain ⟨o1, o2, o3⟩ := leF_frames m1 m2
        have hjm : jumpsB x.op = true → meetsM (allC l) M x.a.toNat ⟨La, Sa⟩ = true := fun hj => by
          obtain ⟨k, ek⟩ := Option.isSome_iff_exists.1 (n1 hj)
          have hFk := hMF _ k ek
          refine meetsM_ge H o1 (hok _ k hFk) ek ?_
          have hin : x.a.toNat ∈ nextL x at' := by
            unfold nextL
            by_cases hc1 : (x.op == 14 || x.a != (at' : Int) + 1) = true
            · rw [hj, hc1]
              exact List.mem_append_right _ (List.mem_singleton.2 rfl)
            · have hc2 : (x.op == 14) = false ∧ (x.a != (at' : Int) + 1) = false := by
                cases h1 : (x.op == 14) <;> cases h2 : (x.a != (at' : Int) + 1) <;> simp_all
              have hxa : x.a = (at' : Int) + 1 := by simpa using hc2.2
              have he : endsB x.op = false := by
                have h14 : x.op ≠ 14 := by simpa using hc2.1
                unfold jumpsB at hj
                unfold endsB
                have hop : x.op = 12 ∨ x.op = 13 ∨ x.op = 14 := by simpa [or_assoc] using hj
                rcases hop with h | h | h
                · rw [h]; decide
                · rw [h]; decide
                · exact absurd h h14
              rw [he, if_neg (by decide)]
              exact List.mem_append_left _ (List.mem_singleton.2 (by omega))
          obtain ⟨h, eh, lh⟩ := hsat (x.a.toNat, ⟨q.1, q.2⟩) (List.mem_append_right _ (List.mem_map.2 ⟨_, hin, rfl⟩))
          dsimp only at eh lh
          rw [hFk] at eh
          injection eh with eh
          subst eh
          exact H.trans _ _ k o1 o2 (hok _ k hFk) o3 lh
        have hstep : stepM (allC l) cls gives m.handlers M at' x f = some (if endsB x.op then none else some ⟨La, Sa⟩) := by
          unfold stepM
          rw [if_pos hct, e, Option.bind_some]
          dsimp only
          cases hj : jumpsB x.op with
          | false => rfl
          | true => rw [hjm hj]; rfl
        rw [hstep]
        dsimp only
        refine ih (at' + 1) _ hd' fun f' hf' => ?_
        split at hf'
        · cases hf'
        · rename_i he
          injection hf' with hf'
          subst hf'
          refine ⟨o1, fun _ => ?_⟩
          have hin : at' + 1 ∈ nextL x at' := by
            unfold nextL
            rw [if_neg he]
            exact List.mem_append_left _ (List.mem_singleton.2 rfl)
          obtain ⟨h, eh, lh⟩ := hsat (at' + 1, ⟨q.1, q.2⟩) (List.mem_append_right _ (List.mem_map.2 ⟨_, hin, rfl⟩))
          exact ⟨h, eh, H.trans _ _ h o1 o2 (hok _ h eh) o3 lh⟩
      unfold walkM enterM
      cases hm : M at' with
      | some g =>
        have hg := hMF at' g hm
        have hrf : leFrm (allC l) g g := ⟨LeL.refl _ _, LeL.refl _ _⟩
        cases s with
        | none => exact key g g (hok _ g hg) hg hrf
        | some f =>
          obtain ⟨f1, f2⟩ := hs f rfl
          obtain ⟨g', e', l'⟩ := f2 (by simp)
          rw [hg] at e'
          injection e' with e'
          subst e'
          dsimp only
          rw [meetsM_ge H f1 (hok _ g hg) hm l']
          exact key g g (hok _ g hg) hg hrf
      | none =>
        cases s with
        | none => exact ih (at' + 1) none hd' fun f e => by cases e
        | some f =>
          obtain ⟨f1, f2⟩ := hs f rfl
          obtain ⟨g, e', l'⟩ := f2 (by simp)
          exact key f g f1 e' l'
  refine key m.code 0 (some start) rfl fun f e => ?_
  injection e with e
  subst e
  refine ⟨hst, fun _ => ?_⟩
  obtain ⟨h, eh, lh⟩ := hF.2.2
  exact ⟨h, eh, lh⟩
theorem walk_wanting (hR : Right l) (hcf : ∀ c ∈ l, classFault c = 0) (hc : codeFault m.code = 0) (hh : handlersFault m.handlers m.code.length = 0) (hst : frameR (allC l) start = 0) {M F : Asg Frm} (hM : ∀ i g, M i = some g → frameR (allC l) g = 0) (hF : (checkW (allC l) cls gives m start).Least F) (hn : ¬ NeedsM m F M) :
    walkM (allC l) cls gives m.handlers M 0 m.code (some start) = false := by
  cases h : walkM (allC l) cls gives m.handlers M 0 m.code (some start) with
  | false => rfl
  | true =>
    exfalso
    refine hn fun i f x hi hx => ?_
    obtain ⟨G, g1, g2, _⟩ := walk_closed hR hcf hc hh hst hM h
    obtain ⟨g, eg, _⟩ := hF.2 G g1 i f hi
    obtain ⟨_, _, y, s, hy, hs, _⟩ := g2 i g eg
    rw [hx] at hy
    injection hy with hy
    subst hy
    obtain ⟨k1, p, k2, k3, k4⟩ := stepM_spec hs
    refine ⟨fun hj => ?_, caughtM_needs k1⟩
    obtain ⟨q, eq, _⟩ := meetsM_spec (k3 hj)
    rw [eq]; rfl
end
end Go.Proofs.YtlmfmioljeppfaaGreatDoor
namespace Go.Proofs.YtlmfmioljeppfaaGreatDoor
open Go.RowKit Go.Shelf Go.Lib
section
variable {P : Type} [DecidableEq P] {W : Ways P}
theorem Ways.meets_cons (s : Asg P × List Nat) (p : Nat × P) (r : List (Nat × P)) : W.meets s (p :: r) = (W.meetT s p).bind fun s' => W.meets s' r := rfl
theorem Ways.meets_append : ∀ (a b : List (Nat × P)) (s : Asg P × List Nat), W.meets s (a ++ b) = (W.meets s a).bind fun s' => W.meets s' b
  | [], b, s => rfl
  | p :: r, b, s => by
    rw [List.cons_append, Ways.meets_cons, Ways.meets_cons, Option.bind_assoc]
    congr 1
    funext s'
    exact Ways.meets_append r b s'
end
def handS (W : Ways Frm) (cs : List Class) (at' : Nat) (f : Frm) : Asg Frm × List Nat → List Handler → Option (Asg Frm × List Nat)
  | s, [] => some s
  | s, h :: r => if h.lo ≤ (at' : Int) ∧ (at' : Int) < h.hi then (if faultB cs h.cls then (W.meetT s (h.dest.toNat, ⟨f.locals, [thText h.cls]⟩)).bind fun s' => handS W cs at' f s' r else none) else handS W cs at' f s r
theorem hand_meets (W : Ways Frm) (cs : List Class) (at' : Nat) (f : Frm) : ∀ (hs : List Handler) (s : Asg Frm × List Nat), (handEdges cs at' f hs).bind (W.meets s) = handS W cs at' f s hs
  | [], _ => rfl
  | h :: r, s => by
    unfold handEdges handS
    split
    · split
      · have ih := fun s' => hand_meets W cs at' f r s'
        rw [show (fun s' => handS W cs at' f s' r) = fun s' => (handEdges cs at' f r).bind (W.meets s') from funext fun s' => (ih s').symm]
        cases handEdges cs at' f r with
        | none =>
          rw [Option.map_none, Option.bind_none]
          cases W.meetT s (h.dest.toNat, ⟨f.locals, [thText h.cls]⟩) <;> rfl
        | some t => rfl
      · rfl
    · exact hand_meets W cs at' f r s
section
variable {l : List Class} {cls gives : Str} {m : Method} {start : Frm}
theorem look_parts (cs : List Class) (s : Asg Frm × List Nat) (i : Nat) (f : Frm) : (checkW cs cls gives m start).look s i f = (handS (checkW cs cls gives m start) cs i f s m.handlers).bind fun s' => (stepEdges cs cls gives m.code i f).bind fun b => (checkW cs cls gives m start).meets s' b := by
  unfold Ways.look
  show (edgesF cs cls gives m i f).bind _ = _
  unfold edgesF
  rw [← hand_meets]
  cases handEdges cs i f m.handlers with
  | none => rfl
  | some a =>
    rw [Option.bind_some, Option.bind_some]
    cases stepEdges cs cls gives m.code i f with
    | none => cases (checkW cs cls gives m start).meets s a <;> rfl
    | some b =>
      rw [Option.map_some, Option.bind_some, Ways.meets_append]
      rfl
def startB (cs : List Class) (L : List Str) (gives : Str) : Bool := L.all (fun t => kindR cs t == 0) && (decide (gives = ⟨#[86]⟩) || kindR cs gives == 0)
theorem startB_frame {cs : List Class} {L : List Str} {gives : Str} (hn : L.length ≤ 8) (h : startB cs L gives = true) : frameR cs ⟨L, []⟩ = 0 := by
  unfold startB at h
  rw [Bool.and_eq_true] at h
  exact frameR_of hn (by show ([] : List Str).length ≤ 8; decide) (fun k hk => beq_iff_eq.1 (List.all_eq_true.1 h.1 k hk)) fun k hk => by cases hk
def MethodFrames (cs : List Class) (cls gives : Str) (m : Method) (L : List Str) (F : Option (Asg Frm)) : Prop := match F with
  | some F => startB cs L gives = true ∧ (checkW cs cls gives m ⟨L, []⟩).Least F
  | none => startB cs L gives = true → ∀ G, ¬ (checkW cs cls gives m ⟨L, []⟩).Closed G
theorem methodFrames_one (hR : Right l) (hcf : ∀ c ∈ l, classFault c = 0) (hc : codeFault m.code = 0) (hh : handlersFault m.handlers m.code.length = 0) {L : List Str} (hn : L.length ≤ 8) {F G : Option (Asg Frm)} (h : MethodFrames (allC l) cls gives m L F) (k : MethodFrames (allC l) cls gives m L G) : F = G := by
  cases F with
  | none =>
    cases G with
    | none => rfl
    | some G => exact absurd k.2.1 (h k.1 G)
  | some F =>
    cases G with
    | none => exact absurd h.2.1 (k h.1 F)
    | some G => rw [Ways.least_one (check_good hR hcf hc hh (startB_frame hn h.1)) h.2 k.2]
def namedM (cls : Str) (at' : Int) : List Class → Option Method
  | [] => none
  | c :: r => if c.name = cls ∧ 0 ≤ at' ∧ at' < (c.methods.length : Int) then c.methods[at'.toNat]? else namedM cls at' r
def namedN (l : List Class) (cls : Str) (at' : Int) : Nat := if readFault l ≠ 0 then readFault l else match namedM cls at' l with
  | none => 3
  | some m => if m.abs then 1 else 0
theorem namedM_mem {cls : Str} {at' : Int} {m : Method} : ∀ {l : List Class}, namedM cls at' l = some m → ∃ c ∈ l, c.name = cls ∧ m ∈ c.methods
  | [], h => by cases h
  | c :: r, h => by
    unfold namedM at h
    split at h
    · rename_i hc
      exact ⟨c, List.mem_cons_self .., hc.1, List.mem_of_getElem? h⟩
    · obtain ⟨d, hd, h1, h2⟩ := namedM_mem h
      exact ⟨d, List.mem_cons_of_mem _ hd, h1, h2⟩
def mapsL (F : Asg Frm) (n : Nat) : List (Nat × Frm) := (List.range n).filterMap fun i => (F i).map fun f => (i, f)
theorem mapsL_some {F : Asg Frm} {n : Nat} {f : Frm} (h : F n = some f) : mapsL F (n + 1) = mapsL F n ++ [(n, f)] := by
  unfold mapsL
  rw [List.range_succ, List.filterMap_append]
  simp [h]
theorem mapsL_none {F : Asg Frm} {n : Nat} (h : F n = none) : mapsL F (n + 1) = mapsL F n := by
  unfold mapsL
  rw [List.range_succ, List.filterMap_append]
  simp [h]
theorem mapsL_mem {F : Asg Frm} {n i : Nat} {f : Frm} : (i, f) ∈ mapsL F n ↔ i < n ∧ F i = some f := by
  unfold mapsL
  rw [List.mem_filterMap]
  constructor
  · rintro ⟨k, hk, h⟩
    cases hF : F k with
    | none => rw [hF] at h; cases h
    | some g =>
      rw [hF] at h
      have h : (k, g) = (i, f) := Option.some.inj h
      injection h with h1 h2
      subst h1 h2
      exact ⟨List.mem_range.1 hk, hF⟩
  · rintro ⟨h1, h2⟩
    exact ⟨i, List.mem_range.2 h1, by rw [h2]; rfl⟩
theorem mapsL_len (F : Asg Frm) : ∀ n, (mapsL F n).length ≤ n
  | 0 => Nat.le_refl _
  | n + 1 => by
    have := mapsL_len F n
    cases hF : F n with
    | none => rw [mapsL_none hF]; omega
    | some f => rw [mapsL_some hF, List.length_append]; show _ + 1 ≤ _; omega
theorem mapsL_lt {F : Asg Frm} : ∀ {n : Nat}, (mapsL F n).Pairwise fun a b => a.1 < b.1
  | 0 => List.Pairwise.nil
  | n + 1 => by
    have ih := mapsL_lt (F := F) (n := n)
    cases hF : F n with
    | none => rw [mapsL_none hF]; exact ih
    | some f =>
      rw [mapsL_some hF, List.pairwise_append]
      refine ⟨ih, List.pairwise_singleton _ _, fun a ha b hb => ?_⟩
      rw [List.mem_singleton.1 hb]
      exact (mapsL_mem.1 (show (a.1, a.2) ∈ mapsL F n from ha)).1
theorem fold_zero {α : Type} {f : α → List α → Nat} : ∀ {r a : List α}, foldFault f a r = 0 → ∀ x ∈ r, ∃ b, f x b = 0
  | [], _, _, _, hx => by cases hx
  | y :: r, a, h, x, hx => by
    unfold foldFault at h
    split at h
    · rename_i h0
      rcases List.mem_cons.1 hx with rfl | hx
      · exact ⟨a, h0⟩
      · exact fold_zero h x hx
    · rename_i h0
      exact absurd h h0
structure MethGood (m : Method) (args : List Str) (g : Str) (many : Nat) : Prop where
  type : methodR m.type = some (args, g)
  locals : m.locals = (many : Int)
  small : many ≤ 8
  code : codeFault m.code = 0
  hands : handlersFault m.handlers m.code.length = 0
  args : argCount m ≤ many
theorem meth_good {c : Class} (hc : classFault c = 0) {m : Method} (hm : m ∈ c.methods) (ha : m.abs = false) : ∃ args g many, MethGood m args g many := by
  have h1 : foldFault methodFault [] c.methods = 0 := by
    unfold classFault at hc
    split at hc
    · cases hc
    · split at hc
      · rename_i h; exact absurd hc h
      · split at hc
        · cases hc
        · split at hc
          · rename_i h; exact absurd hc h
          · split at hc
            · rename_i h; exact absurd hc h
            · rename_i h; exact Decidable.not_not.1 h
  obtain ⟨b, h2⟩ := fold_zero h1 m hm
  unfold methodFault at h2
  split at h2
  · cases h2
  · split at h2
    · cases h2
    · rename_i ht
      split at h2
      · cases h2
      · split at h2
        · cases h2
        · rename_i hl
          unfold bodyFault at h2
          rw [ha, if_neg (by decide)] at h2
          split at h2
          · rename_i h; exact absurd h2 h
          · rename_i hcode
            split at h2
            · cases h2
            · rename_i hargs
              split at h2
              · cases h2
              · cases hr : methodR m.type with
                | none => rw [hr] at ht; exact absurd rfl ht
                | some p =>
                  obtain ⟨many, hmany⟩ := Int.eq_ofNat_of_zero_le (show 0 ≤ m.locals by omega)
                  exact ⟨p.1, p.2, many, hr, hmany, by omega, Decidable.not_not.1 hcode, h2, by omega⟩
end
end Go.Proofs.YtlmfmioljeppfaaGreatDoor
