/-
  PLAIN LAW: what is above a class of a right world; every class is an Object.
  WALK over world.Line: a class and what it extends. Conditions: a right world.
  WALK over world.With: a right world and a class that is there. Conditions: as in XRead.
  WALKS over world.Supers, Check. Conditions: as in XRead.
  WALKS over the reference's In and over same.Texts.
  PLAIN LAW: the line of a class in a right world ends with Object and lies in what is above it.
-/
import Derived.Test.YtlmfmioljeppfaaGreatDoorRead
import Derived.Deep.QuietTactic
import Derived.BigQuiet
namespace Go.Proofs.YtlmfmioljeppfaaGreatDoor
open Go.RowKit Go.Shelf Go.Lib
theorem addNew_app (more : List Str) : ∀ out : List Str, ∃ t, addNew out more = out ++ t ∧ (∀ x ∈ more, x ∈ out ++ t) ∧ (∀ x ∈ t, x ∈ more) := by
  induction more with
  | nil =>
    intro out
    refine ⟨[], by simp [addNew], ?_, ?_⟩
    · intro x hx; cases hx
    · intro x hx; cases hx
  | cons a r ih =>
    intro out
    rw [addNew_cons]
    cases hm : memB out a with
    | true =>
      rw [if_pos rfl]
      obtain ⟨t, h1, h2, h3⟩ := ih out
      refine ⟨t, h1, fun x hx => ?_, fun x hx => List.mem_cons_of_mem _ (h3 x hx)⟩
      rcases List.mem_cons.1 hx with rfl | hx
      · exact List.mem_append_left _ (memB_iff.1 hm)
      · exact h2 x hx
    | false =>
      rw [if_neg (by decide)]
      obtain ⟨t, h1, h2, h3⟩ := ih (out ++ [a])
      refine ⟨a :: t, by rw [h1]; simp, fun x hx => ?_, fun x hx => ?_⟩
      · rcases List.mem_cons.1 hx with rfl | hx
        · simp
        · have := h2 x hx; simpa using this
      · rcases List.mem_cons.1 hx with rfl | hx
        · simp
        · exact List.mem_cons_of_mem _ (h3 x hx)
theorem Good.addAll {cs : List Class} (more : List Str) : ∀ out : List Str, Good cs out → (∀ x ∈ more, (findC cs x).isSome = true) → Good cs (addNew out more) := by
  induction more with
  | nil => intro out h _; exact h
  | cons a r ih =>
    intro out h hk
    rw [addNew_cons]
    cases hm : memB out a with
    | true => rw [if_pos rfl]; exact ih out h (fun x hx => hk x (List.mem_cons_of_mem _ hx))
    | false => rw [if_neg (by decide)]; exact ih _ (h.add (hk a (by simp)) hm) (fun x hx => hk x (List.mem_cons_of_mem _ hx))
theorem reach_facts {cs : List Class} (hcl : Closed cs) : ∀ (f i : Nat) (out : List Str), Good cs out → cs.length + 1 ≤ f + i → (∀ j x, j < i → out[j]? = some x → ∀ a ∈ aboveC cs x, a ∈ out) →
    Good cs (reachF (aboveC cs) f i out) ∧ (∀ x ∈ out, x ∈ reachF (aboveC cs) f i out) ∧ (∀ x ∈ reachF (aboveC cs) f i out, ∀ a ∈ aboveC cs x, a ∈ reachF (aboveC cs) f i out) ∧
      (∀ S : Str → Prop, (∀ x, S x → ∀ a ∈ aboveC cs x, S a) → (∀ x ∈ out, S x) → ∀ x ∈ reachF (aboveC cs) f i out, S x) := by
  intro f
  induction f with
  | zero =>
    intro i out hg hf hj
    refine ⟨hg, fun x hx => hx, fun x hx a ha => ?_, fun S _ h2 x hx => h2 x hx⟩
    replace hx : x ∈ out := hx
    obtain ⟨j, hjl, rfl⟩ := List.getElem_of_mem hx
    have := hg.length
    exact hj j _ (by omega) (List.getElem?_eq_getElem hjl) a ha
  | succ f ih =>
    intro i out hg hf hj
    cases hx : out[i]? with
    | none =>
      rw [reachF_none hx]
      refine ⟨hg, fun x hx => hx, fun x hx' a ha => ?_, fun S _ h2 x hx => h2 x hx⟩
      obtain ⟨j, hjl, rfl⟩ := List.getElem_of_mem hx'
      rw [List.getElem?_eq_none_iff] at hx
      exact hj j _ (by omega) (List.getElem?_eq_getElem hjl) a ha
    | some x =>
      rw [reachF_some hx]
      obtain ⟨t, h1, h2, h3⟩ := addNew_app (aboveC cs x) out
      have hgx := hg.known x (List.mem_of_getElem? hx)
      obtain ⟨g1, g2, g3, g4⟩ := ih (i + 1) (addNew out (aboveC cs x)) (Good.addAll _ _ hg (hcl x hgx)) (by omega) (by
        intro j y hji hy a ha
        rw [h1] at hy ⊢
        have hil := (List.getElem?_eq_some_iff.1 hx).1
        rw [List.getElem?_append_left (by omega)] at hy
        by_cases hij : j < i
        · exact List.mem_append_left _ (hj j y hij hy a ha)
        · obtain rfl : j = i := by omega
          rw [hx] at hy; injection hy with hy; subst hy
          exact h2 a ha)
      refine ⟨g1, fun y hy => g2 y (by rw [h1]; exact List.mem_append_left _ hy), g3, fun S hS hO y hy => g4 S hS (fun z hz => ?_) y hy⟩
      rw [h1] at hz
      rcases List.mem_append.1 hz with hz | hz
      · exact hO z hz
      · exact hS x (hO x (List.mem_of_getElem? hx)) z (h3 z hz)
theorem every_facts {cs : List Class} (hcl : Closed cs) {n : Str} (hk : (findC cs n).isSome = true) :
    Good cs (everyC cs n) ∧ n ∈ everyC cs n ∧ (∀ x ∈ everyC cs n, ∀ a ∈ aboveC cs x, a ∈ everyC cs n) ∧
      (∀ S : Str → Prop, (∀ x, S x → ∀ a ∈ aboveC cs x, S a) → S n → ∀ x ∈ everyC cs n, S x) := by
  obtain ⟨h1, h2, h3, h4⟩ := reach_facts hcl (cs.length + 1) 0 [n] (Good.one hk) (by omega) (fun j x hj => by omega)
  exact ⟨h1, h2 n (by simp), h3, fun S hS hn x hx => h4 S hS (fun y hy => by simp at hy; subst hy; exact hn) x hx⟩
structure Right (l : List Class) : Prop where
  nodup : ((allC l).map (·.name)).Nodup
  closed : Closed (allC l)
  joined : ∀ c ∈ l, joinedC (allC l) c = 0
  round : ∀ c ∈ l, roundC (allC l) c.name = false
  length : l.length ≤ 10
theorem fold_nodup : ∀ (r a : List Class), ((allC a).map (·.name)).Nodup → foldFault readStep a r = 0 → ((allC (a ++ r)).map (·.name)).Nodup := by
  intro r
  induction r with
  | nil => intro a ha _; simpa using ha
  | cons c r ih =>
    intro a ha h
    rw [foldFault] at h
    by_cases h0 : readStep c a = 0
    · rw [if_pos h0] at h
      have hnone : findC (allC a) c.name = none := by
        unfold readStep at h0
        by_cases hc : classFault c ≠ 0
        · rw [if_pos hc] at h0; exact absurd h0 hc
        · rw [if_neg hc] at h0
          cases hq : findC (allC a) c.name with
          | none => rfl
          | some d => rw [hq] at h0; cases h0
      have := ih (a ++ [c]) (by
        have := findC_snoc_nodup ha hnone
        simpa [allC] using this) h
      simpa using this
    · rw [if_neg h0] at h; exact absurd h h0
theorem right_of {l : List Class} (h : readFault l = 0) : Right l := by
  unfold readFault at h
  split at h
  · cases h
  · rename_i h10
    split at h
    · rename_i h1; exact absurd h h1
    · rename_i h1
      split at h
      · rename_i h2; exact absurd h h2
      · rename_i h2
        split at h
        · cases h
        · rename_i h3
          have h1' : foldFault readStep [] l = 0 := by simpa using h1
          have h2' : firstFault (joinedC (allC l)) l = 0 := by simpa using h2
          have hj := firstFault_all h2'
          refine ⟨by simpa using fold_nodup l [] allC_nil_nodup h1', closed_of hj, hj, ?_, by omega⟩
          rw [Bool.not_eq_true, List.any_eq_false] at h3
          intro c hc
          simpa using h3 c hc
theorem Right.find {l : List Class} (h : Right l) {c : Class} (hc : c ∈ allC l) : findC (allC l) c.name = some c := by
  obtain ⟨i, hi, rfl⟩ := List.getElem_of_mem hc
  unfold findC
  rw [List.find?_eq_some_iff_getElem]
  refine ⟨by simp, i, hi, rfl, fun j hj => ?_⟩
  have := List.pairwise_iff_getElem.1 h.nodup j i (by simp; omega) (by simp; omega) hj
  simpa using this
theorem Right.super {l : List Class} (h : Right l) {n : Str} (hk : (findC (allC l) n).isSome = true) (hn : n ≠ sObject) : ∃ s, s ∈ aboveC (allC l) n ∧ (n = sFault ∧ s = sObject ∨ ∃ c ∈ l, c.name = n) := by
  obtain ⟨c, hc, rfl⟩ := findC_mem hk
  have hf := h.find hc
  unfold allC at hc
  rcases List.mem_cons.1 hc with rfl | hc
  · exact absurd rfl hn
  · rcases List.mem_cons.1 hc with rfl | hc
    · refine ⟨sObject, ?_, Or.inl ⟨rfl, rfl⟩⟩
      unfold aboveC; rw [hf]; simp [cFault, noClass, sObject]; decide
    · refine ⟨c.super, ?_, Or.inr ⟨c, hc, rfl⟩⟩
      have hj := h.joined c hc
      unfold aboveC; rw [hf]
      simp only [Option.getD_some]
      have : c.super.size ≠ 0 := by
        intro h0; unfold joinedC at hj; rw [if_pos h0] at hj; cases hj
      rw [if_neg this]; simp
theorem length_lt {α : Type} [DecidableEq α] {l m : List α} {a : α} (hl : l.Nodup) (hs : ∀ x ∈ l, x ∈ m) (ha : a ∈ m) (hn : a ∉ l) : l.length < m.length := by
  have := nodup_length (a :: l) m (List.nodup_cons.2 ⟨hn, hl⟩) (fun x hx => by
    rcases List.mem_cons.1 hx with rfl | hx
    · exact ha
    · exact hs x hx)
  simp only [List.length_cons] at this; omega
end Go.Proofs.YtlmfmioljeppfaaGreatDoor
namespace Go.Proofs.YtlmfmioljeppfaaGreatDoor
open Go.RowKit Go.Shelf Go.Lib
def classC (cs : List Class) (n : Str) : Class := (findC cs n).getD noClass
def lineF (cs : List Class) : Nat → Str → List Str
  | 0, n => [n]
  | k + 1, n => if (classC cs n).super.size = 0 then [n] else n :: lineF cs k (classC cs n).super
def lineC (cs : List Class) (n : Str) : List Str := lineF cs (everyC cs n).length n
theorem lineF_head (cs : List Class) (k : Nat) (n : Str) : lineF cs k n = n :: (lineF cs k n).drop 1 := by
  cases k with
  | zero => rfl
  | succ k => rw [lineF]; split <;> rfl
theorem Right.up {l : List Class} (h : Right l) {n : Str} (hk : (findC (allC l) n).isSome = true) (h0 : (classC (allC l) n).super.size ≠ 0) :
    (findC (allC l) (classC (allC l) n).super).isSome = true ∧ (everyC (allC l) (classC (allC l) n).super).length < (everyC (allC l) n).length := by
  have hs : (classC (allC l) n).super ∈ aboveC (allC l) n := by unfold aboveC classC at *; rw [if_neg h0]; simp
  have hks := h.closed _ hk _ hs
  refine ⟨hks, ?_⟩
  obtain ⟨g1, g2, g3, g4⟩ := every_facts h.closed hk
  obtain ⟨e1, e2, e3, e4⟩ := every_facts h.closed hks
  have hsn := g3 n g2 _ hs
  refine length_lt e1.nodup (e4 _ (fun x hx a ha => g3 x hx a ha) hsn) g2 ?_
  intro hin
  by_cases hn : n = sObject
  · subst hn; exact h0 (by simp [classC, findC, allC, cObject, noClass])
  · obtain ⟨s, _, hc⟩ := h.super hk hn
    rcases hc with ⟨rfl, _⟩ | ⟨c, hc, rfl⟩
    · have : (classC (allC l) sFault).super = sObject := by
        unfold classC; rw [show findC (allC l) sFault = some cFault from h.find (c := cFault) (by simp [allC])]; rfl
      rw [this] at hin
      have hob := e4 (fun x => x = sObject) (fun x hx a ha => by
        subst hx
        exfalso
        unfold aboveC at ha
        rw [show findC (allC l) sObject = some cObject from h.find (c := cObject) (by simp [allC])] at ha
        simp [cObject, noClass] at ha) this
      have := hob sFault (by rw [this]; exact hin)
      exact absurd this (by decide)
    · have hr := h.round c hc
      unfold roundC at hr
      rw [List.any_eq_false] at hr
      have := hr _ hs
      rw [memB_iff.2 hin] at this
      exact this rfl
theorem cells6 {w : World} {b : Nat} {a0 a1 a2 a3 a4 a5 : Value} (h : Cells w b 0 [a0, a1, a2, a3, a4, a5]) :
    w.cell? ⟨b, 0, none⟩ = some a0 ∧ w.cell? ⟨b, 1, none⟩ = some a1 ∧ w.cell? ⟨b, 2, none⟩ = some a2 ∧ w.cell? ⟨b, 3, none⟩ = some a3 ∧ w.cell? ⟨b, 4, none⟩ = some a4 ∧ w.cell? ⟨b, 5, none⟩ = some a5 := by
  obtain ⟨c0, c1, c2, c3, c4, c5, _⟩ := h
  exact ⟨c0, c1, c2, c3, c4, c5⟩
theorem Cells.block {w w' : World} {b : Nat} (hb : w'.heap[b]? = w.heap[b]?) : ∀ {vs : List Value} {o : Nat}, Cells w b o vs → Cells w' b o vs
  | [], _, _ => trivial
  | _ :: _, o, ⟨h1, h2⟩ => ⟨(World.cell?_of_block (w := w) (a := ⟨b, o, none⟩) hb).trans h1, h2.block hb⟩
theorem lineF_up {cs : List Class} {f : Nat} {x : Str} (h : (classC cs x).super.size ≠ 0) : (lineF cs (f + 1) x).drop 1 = lineF cs f (classC cs x).super := by
  rw [lineF, if_neg h]; rfl
theorem lineF_top {cs : List Class} {f : Nat} {x : Str} (h : (classC cs x).super.size = 0) : (lineF cs f x).drop 1 = [] := by
  cases f with
  | zero => rfl
  | succ f => rw [lineF, if_pos h]; rfl
set_option maxHeartbeats 4000000 in
set_option maxRecDepth 100000 in
theorem line_any (w0 w : World) (B : Nat) (l : List Class) (hR : Right l) (hm : ClassMap w0 w B (allC l)) (n : Str) (hk : (findC (allC l) n).isSome = true) :
    Calls Tryz.prog 190 #[.map (some B), .string n] w fun e w' => (∃ v, e = .returned v ∧ w'.ownsRow w.heap.size 9 1 v (lineC (allC l) n).length ((lineC (allC l) n).map Value.string)) ∧ Below w.heap.size w w' := by
  obtain ⟨i0, hi, hz0, hz1, hz2⟩ := info_parts info_string
  have HLk : Hid (∀ n : Str, (findC (allC l) n).isSome = true → _) := fun n hn => hm.look3 hR.nodup n (hm.names hn)
  have hUp : Hid (∀ n : Str, (findC (allC l) n).isSome = true → (classC (allC l) n).super.size ≠ 0 → _) := fun n h1 h2 => hR.up h1 h2
  have h12 : (allC l).length ≤ 12 := by have := hR.length; unfold allC; simp; omega
  have hEv : Hid (∀ n : Str, (findC (allC l) n).isSome = true → (everyC (allC l) n).length ≤ 12) := fun n hn => Nat.le_trans (every_facts hR.closed hn).1.length h12
  have hone : (w.alloc (.cells #[.string n] 9)).ownsRow w.heap.size 9 1 (.slice (some ⟨w.heap.size, 0, none⟩) 1 1) 1 [.string n] := ownsRow_one w w.heap.size (.string n) (Nat.le_refl _)
  obtain ⟨pf, kf, pd, kd, pm, km, _, _, _, hlk⟩ := HLk.out n hk
  have l0 := (hlk _ ((Below.refl _ _).alloc (Nat.le_refl _) (.cells #[.string n] 9))).2
  have HK := Lib.hid hk
  clear hm hR hlk hk
  have hc0 : (findC (allC l) n).getD noClass = classC (allC l) n := rfl
  rw [hc0] at l0
  have hcn := Lib.hid (rfl : classC (allC l) n = classC (allC l) n)
  generalize hcv : classC (allC l) n = c0 at l0 hcn
  obtain ⟨n0, s0, f0, b0, d0, m0⟩ := c0
  have HCV := Lib.hid hcv
  clear hcv hc0
  unfold classV at l0
  dsimp only at l0
  go_enter Tryz.func190, Tryz.ntmps190
  go_wp2_with (first | fail)
  go_loopg [5, 6] 13 (fun gg v y wr => ∃ (x : Str) (f : Nat) (out : List Str) (bc : Nat) (pf : Option Addr) (kf : Nat) (pd : Option Addr) (kd : Nat) (pm : Option Addr) (km : Nat) (c : Class), f ≤ gg ∧ Hid (out ++ (lineF (allC l) f x).drop 1 = lineC (allC l) n) ∧ Hid ((findC (allC l) x).isSome = true) ∧ Hid ((everyC (allC l) x).length ≤ f) ∧ out.length + f ≤ 13 ∧ wr.ownsRow w.heap.size 9 1 v out.length (out.map Value.string) ∧ (∀ g, v.ownBlock = some g → g < bc) ∧ Below w.heap.size w wr ∧ bc < wr.heap.size ∧ Cells wr bc 0 [.string c.name, .string c.super, .slice pf c.faces.length kf, .bool c.face, .slice pd c.fields.length kd, .slice pm c.methods.length km] ∧ Hid (classC (allC l) x = c) ∧ y = .pointer (some ⟨bc, 0, none⟩))
  case atStart =>
    have h1 := hEv.out n HK.out
    refine ⟨n, (everyC (allC l) n).length, [n], w.heap.size + 1, pf, kf, pd, kd, pm, km, _, by omega, ?_, HK, Nat.le_refl _, by simp; omega, hone.alloc _, ?_, below_alloc2 _ _ _, by simp, by simp [Cells], HCV, by simp⟩
    · unfold lineC; rw [List.singleton_append, ← lineF_head]; rfl
    · intro g hg
      obtain rfl : w.heap.size = g := by injection hg
      exact Nat.lt_succ_self _
  case round =>
    clear hone l0 HCV HK
    obtain ⟨x, f, out, bc, pf, kf, pd, kd, pm, km, c, hfg, HR, HKx, HE, hlen, hown, hsep, hB, hbc, hcells, HC, rfl⟩ := hrel
    obtain ⟨va, vc, rfl⟩ := ownsRow_shape hown
    obtain ⟨z0, z1, z2, z3, z4, z5⟩ := cells6 hcells
    have ze : c.super.toList.isEmpty = decide (c.super.size = 0) := empty_iff c.super
    by_cases h0 : c.super.size = 0
    · rw [decide_eq_true h0] at ze
      have hfin : Hid (out = lineC (allC l) n) := by
        rw [← HR.out, lineF_top (by rw [HC.out]; exact h0), List.append_nil]; rfl
      have HO := Lib.hid hown
      clear h0 hown hcells hsep HR
      go_wp2_with (first | fail)
      go_ret
      exact ⟨⟨_, rfl, by rw [← hfin.out]; exact HO.out⟩, hB⟩
    · rw [decide_eq_false h0] at ze
      obtain ⟨hk2, hlt2⟩ := hUp.out x HKx.out (by rw [HC.out]; exact h0)
      rw [HC.out] at hk2 hlt2
      have hE := HE.out
      obtain ⟨f', rfl⟩ : ∃ f', f = f' + 1 := ⟨f - 1, by omega⟩
      have hR2 := HR.out
      rw [lineF_up (by rw [HC.out]; exact h0), HC.out, lineF_head] at hR2
      have hnext : Hid ((out ++ [c.super]) ++ (lineF (allC l) f' c.super).drop 1 = lineC (allC l) n) := by
        rw [List.append_assoc]; exact hR2
      obtain ⟨p1, k1, p2, k2, p3, k3, _, _, _, hlk⟩ := HLk.out c.super hk2
      have c2 : ∀ u ∈ [Value.string c.super], u.oneCell' = true := fun u hu => by simp at hu; subst hu; rfl
      have c3 : out.length + 1 ≤ maxLen := Nat.le_trans (show out.length + 1 ≤ 14 by omega) (by decide)
      have c4 : (out.length + 1) * 16 ≤ 140737488355328 := by omega
      have hBa := hB.alloc hB.size (.cells #[.string c.super] 9)
      have c5 := hBa.size
      have HO := Lib.hid hown
      have HS := Lib.hid hsep
      have HCe := Lib.hid hcells
      have HLK := Lib.hid hlk
      clear hlk hsep hcells h0 HR hR2
      go_upto_region 6 with (at_builtin; (refine wpList_append_own_at _ rfl _ _ 25 rfl w.heap.size 9 i0 (.string .empty) 1 16 Tryz.underlying25 hi hz0 hz1 hz2 rfl (by decide) _ _ _ rfl (hown.alloc _) ⟨wr.heap.size, 0, none⟩ 1 1 [.string c.super] rfl rfl (cell_one_new _ _ _) c2 c3 c4 c5 ?_); intro v3 w3 hown3 hgrow3 _ hat3)
      have hown4 : w3.ownsRow w.heap.size 9 1 v3 (out ++ [c.super]).length ((out ++ [c.super]).map Value.string) := by simpa using hown3
      have hB3 : Below w.heap.size w w3 := hBa.grown hgrow3 c5 (fun k hk => (HO.out.lt k hk).1)
      have hz3 : Cells w3 bc 0 [.string c.name, .string c.super, .slice pf c.faces.length kf, .bool c.face, .slice pd c.fields.length kd, .slice pm c.methods.length km] := by
        refine Cells.block (hgrow3.block bc (by simp; omega) (fun he => ?_)) (HCe.out.mono ((Below.refl _ _).alloc (Nat.le_refl _) _) hbc)
        have := HS.out bc he.symm; omega
      obtain ⟨y0, y1, y2, y3, y4, y5⟩ := cells6 hz3
      have hl4 := (HLK.out _ (hB3.alloc hB3.size (.cells #[.string c.name, .string c.super, .slice pf c.faces.length kf, .bool c.face, .slice pd c.fields.length kd, .slice pm c.methods.length km] 36))).2
      have hc2 : (findC (allC l) c.super).getD noClass = classC (allC l) c.super := rfl
      rw [hc2] at hl4
      generalize hcv2 : classC (allC l) c.super = d at hl4
      have HD := Lib.hid hcv2
      obtain ⟨n2, s2, f2, b2, d2, m2⟩ := d
      clear hcv2 hc2
      unfold classV at hl4
      dsimp only at hl4
      have hown5 := hown4.alloc (.cells #[.string n2, .string s2, .slice p1 f2.length k1, .bool b2, .slice p2 d2.length k2, .slice p3 m2.length k3] 36)
      have HB5 := Lib.hid (hB3.alloc hB3.size (.cells #[.string n2, .string s2, .slice p1 f2.length k1, .bool b2, .slice p2 d2.length k2, .slice p3 m2.length k3] 36))
      have HO5 := Lib.hid hown5
      have HO4 := Lib.hid hown4
      clear hown5 hown4 hown3 hz3 z0 z1 z2 z3 z4 z5 hown
      go_wp2_with (first | fail)
      go_roundg f'
      case measure => omega
      case rel =>
        refine ⟨c.super, f', out ++ [c.super], w3.heap.size, p1, k1, p2, k2, p3, k3, _, Nat.le_refl _, hnext, hk2, ?_, by simp; omega, HO5.out, ?_, HB5.out, by simp, by simp [Cells], HD, rfl⟩
        · show (everyC (allC l) c.super).length ≤ f'; omega
        · intro g hg; exact (HO4.out.lt g hg).2
end Go.Proofs.YtlmfmioljeppfaaGreatDoor
namespace Go.Proofs.YtlmfmioljeppfaaGreatDoor
open Go.RowKit Go.Shelf Go.Lib
structure Named (w0 : World) (l : List Class) (n : Str) (w : World) (B : Nat) : Prop where
  map : ClassMap w0 w B (allC l)
  right : Right l
  faults : ∀ c ∈ l, classFault c = 0
  known : (findC (allC l) n).isSome = true
structure WorldMap (w0 w : World) (B : Nat) (l : List Class) : Prop where
  map : ClassMap w0 w B (allC l)
  right : Right l
  faults : ∀ c ∈ l, classFault c = 0
theorem WorldMap.faces {w0 w : World} {B : Nat} {l : List Class} (h : WorldMap w0 w B l) : ∀ c ∈ allC l, c.faces.length ≤ 8 := allC_small h.faults
theorem WorldMap.step {w0 w w' : World} {B : Nat} {l : List Class} (h : WorldMap w0 w B l) (hb : Below w.heap.size w w') : WorldMap w0 w' B l := ⟨h.map.step hb, h.right, h.faults⟩
theorem Named.world {w0 w : World} {B : Nat} {l : List Class} {n : Str} (h : Named w0 l n w B) : WorldMap w0 w B l := ⟨h.map, h.right, h.faults⟩
end Go.Proofs.YtlmfmioljeppfaaGreatDoor
namespace Go.Proofs.YtlmfmioljeppfaaGreatDoor
open Go.RowKit Go.Shelf Go.Lib
theorem Right.small {l : List Class} (h : Right l) : (allC l).length ≤ 12 := by have := h.length; unfold allC; simp; omega
end Go.Proofs.YtlmfmioljeppfaaGreatDoor
namespace Go.Proofs.YtlmfmioljeppfaaGreatDoor
open Go.RowKit Go.Shelf Go.Lib
theorem texts_drop (a b : List Str) (_hl : a.length = b.length) (k : Nat) (x y : Str) (ha : a[k]? = some x) (hb : b[k]? = some y) : decide (a.drop k = b.drop k) = (decide (x = y) && decide (a.drop (k + 1) = b.drop (k + 1))) := by
  obtain ⟨hk, rfl⟩ := List.getElem?_eq_some_iff.1 ha
  obtain ⟨hk2, rfl⟩ := List.getElem?_eq_some_iff.1 hb
  rw [List.drop_eq_getElem_cons hk, List.drop_eq_getElem_cons hk2, Bool.eq_iff_iff]
  simp only [decide_eq_true_eq, Bool.and_eq_true, List.cons.injEq]
end Go.Proofs.YtlmfmioljeppfaaGreatDoor
namespace Go.Proofs.YtlmfmioljeppfaaGreatDoor
open Go.RowKit Go.Shelf Go.Lib
theorem lineF_step {cs : List Class} {f : Nat} {x : Str} (h : (classC cs x).super.size ≠ 0) : lineF cs (f + 1) x = x :: lineF cs f (classC cs x).super := by
  rw [lineF, if_neg h]
theorem lineF_stop {cs : List Class} {f : Nat} {x : Str} (h : (classC cs x).super.size = 0) : lineF cs f x = [x] := by
  cases f with
  | zero => rfl
  | succ f => rw [lineF, if_pos h]
theorem Right.fuel2 {l : List Class} (h : Right l) : ∀ (f g : Nat) (x : Str), (findC (allC l) x).isSome = true → (everyC (allC l) x).length ≤ f → (everyC (allC l) x).length ≤ g → lineF (allC l) f x = lineF (allC l) g x := by
  intro f
  induction f with
  | zero =>
    intro g x hk hf _
    have := List.length_pos_of_mem (every_facts h.closed hk).2.1
    omega
  | succ f ih =>
    intro g x hk hf hg
    have hpos := List.length_pos_of_mem (every_facts h.closed hk).2.1
    by_cases h0 : (classC (allC l) x).super.size = 0
    · rw [lineF_stop h0, lineF_stop h0]
    · obtain ⟨hks, hlt⟩ := h.up hk h0
      obtain ⟨g', rfl⟩ : ∃ k, g = k + 1 := ⟨g - 1, by omega⟩
      rw [lineF_step h0, lineF_step h0, ih g' _ hks (by omega) (by omega)]
theorem Right.fuel {l : List Class} (h : Right l) (f : Nat) (x : Str) (hk : (findC (allC l) x).isSome = true) (hf : (everyC (allC l) x).length ≤ f) : lineF (allC l) f x = lineC (allC l) x :=
  h.fuel2 f _ x hk hf (Nat.le_refl _)
theorem Right.line_up {l : List Class} (h : Right l) {x : Str} (hk : (findC (allC l) x).isSome = true) (h0 : (classC (allC l) x).super.size ≠ 0) : lineC (allC l) x = x :: lineC (allC l) (classC (allC l) x).super := by
  obtain ⟨hks, hlt⟩ := h.up hk h0
  obtain ⟨k, hkk⟩ : ∃ k, (everyC (allC l) x).length = k + 1 := ⟨(everyC (allC l) x).length - 1, by omega⟩
  unfold lineC
  rw [hkk, lineF_step h0]
  congr 1
  exact h.fuel k _ hks (by omega)
theorem Right.line_top {l : List Class} {x : Str} (h0 : (classC (allC l) x).super.size = 0) : lineC (allC l) x = [x] := by
  unfold lineC; rw [lineF_stop h0]
theorem Right.top {l : List Class} (h : Right l) {x : Str} (hk : (findC (allC l) x).isSome = true) (h0 : (classC (allC l) x).super.size = 0) : x = sObject := by
  by_cases hx : x = sObject
  · exact hx
  · exfalso
    obtain ⟨s, _, hc⟩ := h.super hk hx
    rcases hc with ⟨rfl, _⟩ | ⟨c, hc, rfl⟩
    · have : classC (allC l) sFault = cFault := by
        unfold classC; rw [show findC (allC l) sFault = some cFault from h.find (c := cFault) (by simp [allC])]; rfl
      rw [this] at h0
      exact absurd h0 (by decide)
    · have : classC (allC l) c.name = c := by
        unfold classC; rw [h.find (c := c) (by simp [allC, hc])]; rfl
      rw [this] at h0
      have hj := h.joined c hc
      unfold joinedC at hj; rw [if_pos h0] at hj; cases hj
theorem Right.line_facts {l : List Class} (h : Right l) : ∀ (k : Nat) (x : Str), (findC (allC l) x).isSome = true → (everyC (allC l) x).length ≤ k →
    (∀ y ∈ lineC (allC l) x, y ∈ everyC (allC l) x) ∧ ∃ t, lineC (allC l) x = t ++ [sObject] := by
  intro k
  induction k with
  | zero =>
    intro x hk hf
    have := List.length_pos_of_mem (every_facts h.closed hk).2.1
    omega
  | succ k ih =>
    intro x hk hf
    obtain ⟨g1, g2, g3, g4⟩ := every_facts h.closed hk
    by_cases h0 : (classC (allC l) x).super.size = 0
    · rw [Right.line_top h0]
      refine ⟨fun y hy => ?_, [], by rw [h.top hk h0]; rfl⟩
      simp at hy; subst hy; exact g2
    · obtain ⟨hks, hlt⟩ := h.up hk h0
      have hs : (classC (allC l) x).super ∈ aboveC (allC l) x := by unfold aboveC classC at *; rw [if_neg h0]; simp
      obtain ⟨i1, t, i2⟩ := ih _ hks (by omega)
      rw [h.line_up hk h0]
      refine ⟨fun y hy => ?_, x :: t, by rw [i2]; rfl⟩
      rcases List.mem_cons.1 hy with rfl | hy
      · exact g2
      · have hy2 := i1 y hy
        exact (every_facts h.closed hks).2.2.2 (fun z => z ∈ everyC (allC l) x) (fun z hz a ha => g3 z hz a ha) (g3 x g2 _ hs) y hy2
theorem class_face (n s : Str) (fv dv mv : Value) (b : Bool) (w : World) : (Instr.field 36 (.agg #[.string n, .string s, fv, .bool b, dv, mv]) 3).run Tryz.prog w = .ok (.bool b) w := by kernel_rfl
theorem class_fields (n s : Str) (fv mv : Value) (p : Option Addr) (k c : Nat) (b : Bool) (w : World) : (Instr.field 36 (.agg #[.string n, .string s, fv, .bool b, .slice p k c, mv]) 4).run Tryz.prog w = .ok (.slice p k c) w := by kernel_rfl
end Go.Proofs.YtlmfmioljeppfaaGreatDoor
