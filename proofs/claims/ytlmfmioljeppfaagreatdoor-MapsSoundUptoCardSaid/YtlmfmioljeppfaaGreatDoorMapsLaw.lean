/-
  PLAIN LAW: one walk through code with maps: maps that are accepted give frames that are closed under the code's edges; the least frames, where maps are needed, are accepted; without one of these they are not. No program in sight.
-/
import Derived.Test.YtlmfmioljeppfaaGreatDoorCheckLaw
namespace Go.Proofs.YtlmfmioljeppfaaGreatDoor
open Go.RowKit Go.Shelf Go.Lib
def meetsM (cs : List Class) (M : Asg Frm) (i : Nat) (f : Frm) : Bool := match M i with
  | none => false
  | some m => shapedB f m && decide (bothF cs f m = m)
def caughtM (cs : List Class) (M : Asg Frm) (at' : Nat) (f : Frm) : List Handler → Bool
  | [] => true
  | h :: r => if h.lo ≤ (at' : Int) ∧ (at' : Int) < h.hi then (faultB cs h.cls && meetsM cs M h.dest.toNat ⟨f.locals, [thText h.cls]⟩) && caughtM cs M at' f r else caughtM cs M at' f r
def enterM (cs : List Class) (M : Asg Frm) (at' : Nat) (s : Option Frm) : Option (Option Frm) := match M at' with
  | none => some s
  | some m => match s with
    | none => some (some m)
    | some f => if meetsM cs M at' f then some (some m) else none
def stepM (cs : List Class) (cls gives : Str) (hs : List Handler) (M : Asg Frm) (at' : Nat) (x : Ins) (f : Frm) : Option (Option Frm) :=
  if caughtM cs M at' f hs then (stepF cs cls gives x f.locals f.stack).bind fun p => if jumpsB x.op && !meetsM cs M x.a.toNat ⟨p.1, p.2⟩ then none else some (if endsB x.op then none else some ⟨p.1, p.2⟩) else none
def walkM (cs : List Class) (cls gives : Str) (hs : List Handler) (M : Asg Frm) : Nat → List Ins → Option Frm → Bool
  | _, [], _ => true
  | at', x :: r, s => match enterM cs M at' s with
    | none => false
    | some none => walkM cs cls gives hs M (at' + 1) r none
    | some (some f) => match stepM cs cls gives hs M at' x f with
      | none => false
      | some s' => walkM cs cls gives hs M (at' + 1) r s'
section
variable {l : List Class} {cls gives : Str} {m : Method} {start : Frm}
theorem meetsM_spec {cs : List Class} {M : Asg Frm} {i : Nat} {f : Frm} (h : meetsM cs M i f = true) : ∃ g, M i = some g ∧ shapedB f g = true ∧ bothF cs f g = g := by
  unfold meetsM at h
  cases hm : M i with
  | none => rw [hm] at h; cases h
  | some g =>
    rw [hm] at h
    dsimp only at h
    rw [Bool.and_eq_true] at h
    exact ⟨g, rfl, h.1, of_decide_eq_true h.2⟩
theorem meetsM_le (H : (checkW (allC l) cls gives m start).Good) {M : Asg Frm} {i : Nat} {f : Frm} (hf : frameR (allC l) f = 0) (hM : ∀ i g, M i = some g → frameR (allC l) g = 0) (h : meetsM (allC l) M i f = true) : ∃ g, M i = some g ∧ leFrm (allC l) f g := by
  obtain ⟨g, e, h1, h2⟩ := meetsM_spec h
  obtain ⟨_, u2, _⟩ := H.up f g hf (hM i g e) h1
  have u2 : leFrm (allC l) f (bothF (allC l) f g) := u2
  rw [h2] at u2
  exact ⟨g, e, u2⟩
theorem caughtM_edges (H : (checkW (allC l) cls gives m start).Good) {M : Asg Frm} {at' : Nat} {f : Frm} (hM : ∀ i g, M i = some g → frameR (allC l) g = 0) (hf : frameR (allC l) f = 0) : ∀ {hs : List Handler}, caughtM (allC l) M at' f hs = true →
    ∃ t, handEdges (allC l) at' f hs = some t ∧ ∀ p ∈ t, ∃ g, M p.1 = some g ∧ leFrm (allC l) p.2 g
  | [], _ => ⟨[], rfl, fun p hp => by cases hp⟩
  | x :: r, h => by
    unfold caughtM at h
    unfold handEdges
    split at h
    · rename_i hc
      rw [if_pos hc]
      rw [Bool.and_eq_true, Bool.and_eq_true] at h
      obtain ⟨⟨h1, h2⟩, h3⟩ := h
      obtain ⟨t, e, ht⟩ := caughtM_edges H hM hf h3
      rw [if_pos h1, e]
      refine ⟨_, rfl, fun p hp => ?_⟩
      rcases List.mem_cons.1 hp with rfl | hp
      · obtain ⟨z1, z2, z3, z4⟩ := frame_zero hf
        refine meetsM_le H (frameR_of z1 (by show [thText x.cls].length ≤ 8; simp) z3 fun k hk => ?_) hM h2
        rw [List.mem_singleton.1 hk]
        unfold faultB at h1
        rw [Bool.and_eq_true] at h1
        exact beq_iff_eq.1 h1.1
      · exact ht p hp
    · rename_i hc
      rw [if_neg hc]
      exact caughtM_edges H hM hf h
theorem stepM_spec {cs : List Class} {hs : List Handler} {M : Asg Frm} {at' : Nat} {x : Ins} {f : Frm} {s : Option Frm} (h : stepM cs cls gives hs M at' x f = some s) : caughtM cs M at' f hs = true ∧ ∃ p, stepF cs cls gives x f.locals f.stack = some p ∧ (jumpsB x.op = true → meetsM cs M x.a.toNat ⟨p.1, p.2⟩ = true) ∧ s = if endsB x.op then none else some ⟨p.1, p.2⟩ := by
  unfold stepM at h
  split at h
  · rename_i hc
    obtain ⟨p, e, h⟩ := bind_spec h
    split at h
    · cases h
    · rename_i hj
      injection h with h
      refine ⟨hc, p, e, fun hx => ?_, h.symm⟩
      rw [hx, Bool.true_and] at hj
      cases hm : meetsM cs M x.a.toNat ⟨p.1, p.2⟩ with
      | true => rfl
      | false => rw [hm] at hj; exact absurd rfl hj
  · cases h
structure Seen (cs : List Class) (cls gives : Str) (m : Method) (M G : Asg Frm) (i : Nat) (f : Frm) : Prop where
  ok : frameR cs f = 0
  lt : i < m.code.length
  step : ∃ x s, m.code[i]? = some x ∧ stepM cs cls gives m.handlers M i x f = some s ∧ (∀ g, s = some g → ∃ h, G (i + 1) = some h ∧ leFrm cs g h)
def SeenBy (cs : List Class) (cls gives : Str) (m : Method) (M : Asg Frm) (r : List Ins) (at' : Nat) (s : Option Frm) : Prop :=
  ∃ G : Asg Frm, (∀ i, i < at' → G i = none) ∧ (∀ i f, G i = some f → Seen cs cls gives m M G i f) ∧ (∀ i g, at' ≤ i → i < m.code.length → M i = some g → G i = some g) ∧ (∀ f, s = some f → r ≠ [] → ∃ g, G at' = some g ∧ leFrm cs f g)
theorem walk_seen (hR : Right l) (hc : codeFault m.code = 0) (H : (checkW (allC l) cls gives m start).Good) {M : Asg Frm} (hM : ∀ i g, M i = some g → frameR (allC l) g = 0) : ∀ (r : List Ins) (at' : Nat) (s : Option Frm), m.code.drop at' = r → at' + r.length = m.code.length → (∀ f, s = some f → frameR (allC l) f = 0) → walkM (allC l) cls gives m.handlers M at' r s = true → SeenBy (allC l) cls gives m M r at' s := by
  intro r
  induction r with
  | nil => exact fun at' s hd hn hs _ => ⟨fun _ => none, fun _ _ => rfl, fun i f e => by (cases e), fun i g h1 h2 _ => by (exfalso; simp at hn; omega), fun _ _ h => absurd rfl h⟩
  | cons x r ih =>
    intro at' s hd hn hs h
    have hx : m.code[at']? = some x := by
      have : (m.code.drop at')[0]? = some x := by rw [hd]; rfl
      rw [List.getElem?_drop] at this
      simpa using this
    have hlt : at' < m.code.length := (List.getElem?_eq_some_iff.1 hx).1
    have hd' : m.code.drop (at' + 1) = r := by rw [← List.drop_drop, hd]; rfl
    have hn' : at' + 1 + r.length = m.code.length := by rw [← hn, List.length_cons]; omega
    unfold walkM at h
    -- the frame that is seen here
    have key : ∀ f, frameR (allC l) f = 0 → (∀ g, M at' = some g → f = g) → (∀ f0, s = some f0 → leFrm (allC l) f0 f) → (∃ s', stepM (allC l) cls gives m.handlers M at' x f = some s' ∧ walkM (allC l) cls gives m.handlers M (at' + 1) r s' = true) → SeenBy (allC l) cls gives m M (x :: r) at' s := fun f hf hmf hsf hw => by
      obtain ⟨s', e1, e2⟩ := hw
      obtain ⟨k1, p, k2, k3, k4⟩ := stepM_spec e1
      have hok' : ∀ g, s' = some g → frameR (allC l) g = 0 := fun g hg => by
        rw [k4] at hg
        split at hg
        · cases hg
        · injection hg with hg
          subst hg
          have hfr : (⟨f.locals, f.stack⟩ : Frm) = f := rfl
          have hl := frame_le hf hf ⟨LeL.refl _ _, LeL.refl _ _⟩
          obtain ⟨La, Sa, e, m1, m2⟩ := stepF_mono hR ((codeOk_of hc).ins x (List.mem_of_getElem? hx)) hl.1 hl.2 k2
          exact (leF_frames m1 m2).2.1
      obtain ⟨G, g1, g2, g3, g4⟩ := ih (at' + 1) s' hd' hn' hok' e2
      refine ⟨G.put at' f, fun i hi => ?_, fun i g hg => ?_, fun i g h1 h2 hg => ?_, fun f0 hf0 _ => ⟨f, Asg.put_self G at' f, hsf f0 hf0⟩⟩
      · rw [Asg.put_other G f (by omega)]; exact g1 i (by omega)
      · by_cases hi : i = at'
        · subst hi
          rw [Asg.put_self] at hg
          injection hg with hg
          subst hg
          refine ⟨hf, hlt, x, s', hx, e1, fun g hg => ?_⟩
          have hr : r ≠ [] := fun hr => by
            subst hr
            rw [k4] at hg
            split at hg
            · cases hg
            · rename_i he
              have := (codeOk_of hc).last i x hx (by simpa using he)
              simp at hn'
              omega
          obtain ⟨h, eh, lh⟩ := g4 g hg hr
          exact ⟨h, by rw [Asg.put_other G f (by omega)]; exact eh, lh⟩
        · rw [Asg.put_other G f hi] at hg
          have hs := g2 i g hg
          refine ⟨hs.ok, hs.lt, ?_⟩
          obtain ⟨y, t, y1, y2, y3⟩ := hs.step
          refine ⟨y, t, y1, y2, fun q hq => ?_⟩
          obtain ⟨h, eh, lh⟩ := y3 q hq
          refine ⟨h, ?_, lh⟩
          have : i + 1 ≠ at' := fun e => by
            have := g1 i (by omega)
            rw [this] at hg
            cases hg
          rw [Asg.put_other G f this]; exact eh
      · by_cases hi : i = at'
        · subst hi
          rw [Asg.put_self, hmf g hg]
        · rw [Asg.put_other G f hi]; exact g3 i g (by omega) h2 hg
    cases hm : M at' with
    | some g =>
      unfold enterM at h
      rw [hm] at h
      cases s with
      | none =>
        dsimp only at h
        refine key g (hM _ g hm) (fun g' e => by rw [hm] at e; injection e) (fun f0 e => by cases e) ?_
        cases hst : stepM (allC l) cls gives m.handlers M at' x g with
        | none => rw [hst] at h; cases h
        | some s' => rw [hst] at h; exact ⟨s', rfl, h⟩
      | some f =>
        dsimp only at h
        cases hmt : meetsM (allC l) M at' f with
        | false => rw [hmt] at h; cases h
        | true =>
          rw [hmt] at h
          simp only [if_true] at h
          obtain ⟨g', e', le'⟩ := meetsM_le H (hs f rfl) hM hmt
          rw [hm] at e'
          injection e' with e'
          subst e'
          refine key g (hM _ g hm) (fun g' e => by rw [hm] at e; injection e) (fun f0 e => by injection e with e; rw [← e]; exact le') ?_
          cases hst : stepM (allC l) cls gives m.handlers M at' x g with
          | none => rw [hst] at h; cases h
          | some s' => rw [hst] at h; exact ⟨s', rfl, h⟩
    | none =>
      unfold enterM at h
      rw [hm] at h
      cases s with
      | some f =>
        dsimp only at h
        refine key f (hs f rfl) (fun g' e => by rw [hm] at e; cases e) (fun f0 e => by injection e with e; rw [← e]; exact ⟨LeL.refl _ _, LeL.refl _ _⟩) ?_
        cases hst : stepM (allC l) cls gives m.handlers M at' x f with
        | none => rw [hst] at h; cases h
        | some s' => rw [hst] at h; exact ⟨s', rfl, h⟩
      | none =>
        dsimp only at h
        obtain ⟨G, g1, g2, g3, g4⟩ := ih (at' + 1) none hd' hn' (fun f e => by cases e) h
        refine ⟨G, fun i hi => g1 i (by omega), g2, fun i g h1 h2 hg => ?_, fun f e => by cases e⟩
        by_cases hi : i = at'
        · subst hi; rw [hm] at hg; cases hg
        · exact g3 i g (by omega) h2 hg
theorem walk_closed (hR : Right l) (hcf : ∀ c ∈ l, classFault c = 0) (hc : codeFault m.code = 0) (hh : handlersFault m.handlers m.code.length = 0) (hst : frameR (allC l) start = 0) {M : Asg Frm} (hM : ∀ i g, M i = some g → frameR (allC l) g = 0) (h : walkM (allC l) cls gives m.handlers M 0 m.code (some start) = true) :
    ∃ G, (checkW (allC l) cls gives m start).Closed G ∧ (∀ i f, G i = some f → Seen (allC l) cls gives m M G i f) ∧ (∀ i g, i < m.code.length → M i = some g → G i = some g) := by
  have H := check_good hR hcf (cls := cls) (gives := gives) hc hh hst
  obtain ⟨G, _, g2, g3, g4⟩ := walk_seen hR hc H hM m.code 0 (some start) rfl (by simp) (fun f e => by injection e with e; rw [← e]; exact hst) h
  refine ⟨G, ⟨fun i f e => ⟨(g2 i f e).lt, (g2 i f e).ok⟩, fun i f e => ?_, ?_⟩, g2, fun i g hi hg => g3 i g (Nat.zero_le _) hi hg⟩
  · obtain ⟨hf, hlt, x, s, hx, hs, hn⟩ := g2 i f e
    obtain ⟨k1, p, k2, k3, k4⟩ := stepM_spec hs
    obtain ⟨t, e1, ht⟩ := caughtM_edges H hM hf k1
    have e2 : stepEdges (allC l) cls gives m.code i f = some ((nextL x i).map fun j => (j, ⟨p.1, p.2⟩)) := by
      unfold stepEdges
      rw [hx]
      dsimp only
      rw [k2]; rfl
    have e3 : edgesF (allC l) cls gives m i f = some (t ++ (nextL x i).map fun j => (j, ⟨p.1, p.2⟩)) := by
      unfold edgesF
      rw [e1, Option.bind_some, e2]; rfl
    have ho := H.out i f _ hlt hf e3
    refine ⟨_, e3, fun q hq => ?_⟩
    obtain ⟨o1, o2⟩ := ho q hq
    rcases List.mem_append.1 hq with hq | hq
    · obtain ⟨g, eg, lg⟩ := ht q hq
      exact ⟨g, g3 q.1 g (Nat.zero_le _) o1 eg, lg⟩
    · obtain ⟨j, hj, rfl⟩ := List.mem_map.1 hq
      unfold nextL at hj
      rcases List.mem_append.1 hj with hj | hj
      · cases he : endsB x.op with
        | true => rw [he, if_pos rfl] at hj; cases hj
        | false =>
          rw [he, if_neg (by decide)] at hj
          rw [List.mem_singleton.1 hj]
          exact hn _ (by rw [k4, he, if_neg (by decide)])
      · split at hj
        · rename_i hjj
          rw [Bool.and_eq_true] at hjj
          rw [List.mem_singleton.1 hj] at o1 ⊢
          obtain ⟨g, eg, lg⟩ := meetsM_le H o2 hM (k3 hjj.1)
          exact ⟨g, g3 _ g (Nat.zero_le _) o1 eg, lg⟩
        · cases hj
  · obtain ⟨g, e, lg⟩ := g4 start rfl (fun e => absurd (codeOk_of hc).pos (by rw [e]; decide))
    exact ⟨g, e, lg⟩
theorem walk_above (hR : Right l) (hcf : ∀ c ∈ l, classFault c = 0) (hc : codeFault m.code = 0) (hh : handlersFault m.handlers m.code.length = 0) (hst : frameR (allC l) start = 0) {M : Asg Frm} (hM : ∀ i g, M i = some g → i < m.code.length ∧ frameR (allC l) g = 0) (h : walkM (allC l) cls gives m.handlers M 0 m.code (some start) = true) :
    (∃ G, (checkW (allC l) cls gives m start).Closed G) ∧ ∀ F, (checkW (allC l) cls gives m start).Least F → ∀ i f g, F i = some f → M i = some g → leFrm (allC l) f g := by
  obtain ⟨G, g1, _, g3⟩ := walk_closed hR hcf hc hh hst (fun i g e => (hM i g e).2) h
  refine ⟨⟨G, g1⟩, fun F hF i f g e1 e2 => ?_⟩
  obtain ⟨g', e', l'⟩ := hF.2 G g1 i f e1
  rw [g3 i g (hM i g e2).1 e2] at e'
  injection e' with e'
  subst e'
  exact l'
end
end Go.Proofs.YtlmfmioljeppfaaGreatDoor
