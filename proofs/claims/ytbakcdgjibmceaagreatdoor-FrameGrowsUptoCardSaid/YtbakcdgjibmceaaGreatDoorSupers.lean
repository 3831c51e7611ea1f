/-
  WALK over world.Line: a class and what it extends. Conditions: a right world.
  WALK over world.With: a right world and a class that is there. Conditions: as in XRead.
  WALKS over world.Supers, Check. Conditions: as in XRead.
-/
import Derived.Test.YtbakcdgjibmceaaGreatDoorRight
namespace Go.Proofs.YtbakcdgjibmceaaGreatDoor
open Go.RowKit Go.Shelf Go.Lib
def classC (cs : List Class) (n : Str) : Class := (findC cs n).getD noClass
/-- a class and what it extends, and so on -/
def lineF (cs : List Class) : Nat → Str → List Str
  | 0, n => [n]
  | k + 1, n => if (classC cs n).super.size = 0 then [n] else n :: lineF cs k (classC cs n).super
def lineC (cs : List Class) (n : Str) : List Str := lineF cs (everyC cs n).length n
theorem lineF_head (cs : List Class) (k : Nat) (n : Str) : lineF cs k n = n :: (lineF cs k n).drop 1 := by
  cases k with
  | zero => rfl
  | succ k => rw [lineF]; split <;> rfl
/-- the superclass of a class that has one: it is there, and less is above it -/
theorem Right.up {l : List Class} (h : Right l) {n : Str} (hk : (findC (allC l) n).isSome = true) (h0 : (classC (allC l) n).super.size ≠ 0) :
    (findC (allC l) (classC (allC l) n).super).isSome = true ∧ (everyC (allC l) (classC (allC l) n).super).length < (everyC (allC l) n).length := by
  have hs : (classC (allC l) n).super ∈ aboveC (allC l) n := by unfold aboveC classC at *; rw [if_neg h0]; simp
  have hks := h.closed _ hk _ hs
  refine ⟨hks, ?_⟩
  obtain ⟨g1, g2, g3, g4⟩ := every_facts h.closed hk
  obtain ⟨e1, e2, e3, e4⟩ := every_facts h.closed hks
  have hsn := g3 n g2 _ hs
  refine length_lt e1.nodup (e4 _ (fun x hx a ha => g3 x hx a ha) hsn) g2 ?_
  intro hin
  by_cases hn : n = sObject
  · subst hn; exact h0 (by simp [classC, findC, allC, cObject, noClass])
  · obtain ⟨s, _, hc⟩ := h.super hk hn
    rcases hc with ⟨rfl, _⟩ | ⟨c, hc, rfl⟩
    · have : (classC (allC l) sFault).super = sObject := by
        unfold classC; rw [show findC (allC l) sFault = some cFault from h.find (c := cFault) (by simp [allC])]; rfl
      rw [this] at hin
      have hob := e4 (fun x => x = sObject) (fun x hx a ha => by
        subst hx
        exfalso
        unfold aboveC at ha
        rw [show findC (allC l) sObject = some cObject from h.find (c := cObject) (by simp [allC])] at ha
        simp [cObject, noClass] at ha) this
      have := hob sFault (by rw [this]; exact hin)
      exact absurd this (by decide)
    · have hr := h.round c hc
      unfold roundC at hr
      rw [List.any_eq_false] at hr
      have := hr _ hs
      rw [memB_iff.2 hin] at this
      exact this rfl
theorem cells6 {w : World} {b : Nat} {a0 a1 a2 a3 a4 a5 : Value} (h : Cells w b 0 [a0, a1, a2, a3, a4, a5]) :
    w.cell? ⟨b, 0, none⟩ = some a0 ∧ w.cell? ⟨b, 1, none⟩ = some a1 ∧ w.cell? ⟨b, 2, none⟩ = some a2 ∧ w.cell? ⟨b, 3, none⟩ = some a3 ∧ w.cell? ⟨b, 4, none⟩ = some a4 ∧ w.cell? ⟨b, 5, none⟩ = some a5 := by
  obtain ⟨c0, c1, c2, c3, c4, c5, _⟩ := h
  exact ⟨c0, c1, c2, c3, c4, c5⟩
theorem Cells.block {w w' : World} {b : Nat} (hb : w'.heap[b]? = w.heap[b]?) : ∀ {vs : List Value} {o : Nat}, Cells w b o vs → Cells w' b o vs
  | [], _, _ => trivial
  | _ :: _, o, ⟨h1, h2⟩ => ⟨(World.cell?_of_block (w := w) (a := ⟨b, o, none⟩) hb).trans h1, h2.block hb⟩
theorem lineF_up {cs : List Class} {f : Nat} {x : Str} (h : (classC cs x).super.size ≠ 0) : (lineF cs (f + 1) x).drop 1 = lineF cs f (classC cs x).super := by
  rw [lineF, if_neg h]; rfl
theorem lineF_top {cs : List Class} {f : Nat} {x : Str} (h : (classC cs x).super.size = 0) : (lineF cs f x).drop 1 = [] := by
  cases f with
  | zero => rfl
  | succ f => rw [lineF, if_pos h]; rfl
set_option maxHeartbeats 4000000 in
set_option maxRecDepth 100000 in
theorem line_any (w0 w : World) (B : Nat) (l : List Class) (hR : Right l) (hm : ClassMap w0 w B (allC l)) (n : Str) (hk : (findC (allC l) n).isSome = true) :
    Calls Tryz.prog 160 #[.map (some B), .string n] w fun e w' => (∃ v, e = .returned v ∧ w'.ownsRow w.heap.size 9 1 v (lineC (allC l) n).length ((lineC (allC l) n).map Value.string)) ∧ Below w.heap.size w w' := by
  obtain ⟨i0, hi, hz0, hz1, hz2⟩ := info_parts info_string
  have HLk : Hid (∀ n : Str, (findC (allC l) n).isSome = true → _) := fun n hn => hm.look3 hR.nodup n (hm.names hn)
  have hUp : Hid (∀ n : Str, (findC (allC l) n).isSome = true → (classC (allC l) n).super.size ≠ 0 → _) := fun n h1 h2 => hR.up h1 h2
  have h12 : (allC l).length ≤ 12 := by have := hR.length; unfold allC; simp; omega
  have hEv : Hid (∀ n : Str, (findC (allC l) n).isSome = true → (everyC (allC l) n).length ≤ 12) := fun n hn => Nat.le_trans (every_facts hR.closed hn).1.length h12
  have hone : (w.alloc (.cells #[.string n] 9)).ownsRow w.heap.size 9 1 (.slice (some ⟨w.heap.size, 0, none⟩) 1 1) 1 [.string n] := ownsRow_one w w.heap.size (.string n) (Nat.le_refl _)
  obtain ⟨pf, kf, pd, kd, pm, km, _, _, _, hlk⟩ := HLk.out n hk
  have l0 := (hlk _ ((Below.refl _ _).alloc (Nat.le_refl _) (.cells #[.string n] 9))).2
  have HK := Lib.hid hk
  clear hm hR hlk hk
  have hc0 : (findC (allC l) n).getD noClass = classC (allC l) n := rfl
  rw [hc0] at l0
  have hcn := Lib.hid (rfl : classC (allC l) n = classC (allC l) n)
  generalize hcv : classC (allC l) n = c0 at l0 hcn
  obtain ⟨n0, s0, f0, b0, d0, m0⟩ := c0
  have HCV := Lib.hid hcv
  clear hcv hc0
  unfold classV at l0
  dsimp only at l0
  go_enter Tryz.func160, Tryz.ntmps160
  go_wp2_with (first | fail)
  go_loopg [5, 6] 13 (fun gg v y wr => ∃ (x : Str) (f : Nat) (out : List Str) (bc : Nat) (pf : Option Addr) (kf : Nat) (pd : Option Addr) (kd : Nat) (pm : Option Addr) (km : Nat) (c : Class), f ≤ gg ∧ Hid (out ++ (lineF (allC l) f x).drop 1 = lineC (allC l) n) ∧ Hid ((findC (allC l) x).isSome = true) ∧ Hid ((everyC (allC l) x).length ≤ f) ∧ out.length + f ≤ 13 ∧ wr.ownsRow w.heap.size 9 1 v out.length (out.map Value.string) ∧ (∀ g, v.ownBlock = some g → g < bc) ∧ Below w.heap.size w wr ∧ bc < wr.heap.size ∧ Cells wr bc 0 [.string c.name, .string c.super, .slice pf c.faces.length kf, .bool c.face, .slice pd c.fields.length kd, .slice pm c.methods.length km] ∧ Hid (classC (allC l) x = c) ∧ y = .pointer (some ⟨bc, 0, none⟩))
  case atStart =>
    have h1 := hEv.out n HK.out
    refine ⟨n, (everyC (allC l) n).length, [n], w.heap.size + 1, pf, kf, pd, kd, pm, km, _, by omega, ?_, HK, Nat.le_refl _, by simp; omega, hone.alloc _, ?_, below_alloc2 _ _ _, by simp, by simp [Cells], HCV, by simp⟩
    · unfold lineC; rw [List.singleton_append, ← lineF_head]; rfl
    · intro g hg
      obtain rfl : w.heap.size = g := by injection hg
      exact Nat.lt_succ_self _
  case round =>
    clear hone l0 HCV HK
    obtain ⟨x, f, out, bc, pf, kf, pd, kd, pm, km, c, hfg, HR, HKx, HE, hlen, hown, hsep, hB, hbc, hcells, HC, rfl⟩ := hrel
    obtain ⟨va, vc, rfl⟩ := ownsRow_shape hown
    obtain ⟨z0, z1, z2, z3, z4, z5⟩ := cells6 hcells
    have ze : c.super.toList.isEmpty = decide (c.super.size = 0) := empty_iff c.super
    by_cases h0 : c.super.size = 0
    · rw [decide_eq_true h0] at ze
      have hfin : Hid (out = lineC (allC l) n) := by
        rw [← HR.out, lineF_top (by rw [HC.out]; exact h0), List.append_nil]; rfl
      have HO := Lib.hid hown
      clear h0 hown hcells hsep HR
      go_wp2_with (first | fail)
      go_ret
      exact ⟨⟨_, rfl, by rw [← hfin.out]; exact HO.out⟩, hB⟩
    · rw [decide_eq_false h0] at ze
      obtain ⟨hk2, hlt2⟩ := hUp.out x HKx.out (by rw [HC.out]; exact h0)
      rw [HC.out] at hk2 hlt2
      have hE := HE.out
      obtain ⟨f', rfl⟩ : ∃ f', f = f' + 1 := ⟨f - 1, by omega⟩
      have hR2 := HR.out
      rw [lineF_up (by rw [HC.out]; exact h0), HC.out, lineF_head] at hR2
      have hnext : Hid ((out ++ [c.super]) ++ (lineF (allC l) f' c.super).drop 1 = lineC (allC l) n) := by
        rw [List.append_assoc]; exact hR2
      obtain ⟨p1, k1, p2, k2, p3, k3, _, _, _, hlk⟩ := HLk.out c.super hk2
      have c2 : ∀ u ∈ [Value.string c.super], u.oneCell' = true := fun u hu => by simp at hu; subst hu; rfl
      have c3 : out.length + 1 ≤ maxLen := Nat.le_trans (show out.length + 1 ≤ 14 by omega) (by decide)
      have c4 : (out.length + 1) * 16 ≤ 140737488355328 := by omega
      have hBa := hB.alloc hB.size (.cells #[.string c.super] 9)
      have c5 := hBa.size
      have HO := Lib.hid hown
      have HS := Lib.hid hsep
      have HCe := Lib.hid hcells
      have HLK := Lib.hid hlk
      clear hlk hsep hcells h0 HR hR2
      go_upto_region 6 with (at_builtin; (refine wpList_append_own_at _ rfl _ _ 43 rfl w.heap.size 9 i0 (.string .empty) 1 16 Tryz.underlying43 hi hz0 hz1 hz2 rfl (by decide) _ _ _ rfl (hown.alloc _) ⟨wr.heap.size, 0, none⟩ 1 1 [.string c.super] rfl rfl (cell_one_new _ _ _) c2 c3 c4 c5 ?_); intro v3 w3 hown3 hgrow3 _ hat3)
      have hown4 : w3.ownsRow w.heap.size 9 1 v3 (out ++ [c.super]).length ((out ++ [c.super]).map Value.string) := by simpa using hown3
      have hB3 : Below w.heap.size w w3 := hBa.grown hgrow3 c5 (fun k hk => (HO.out.lt k hk).1)
      have hz3 : Cells w3 bc 0 [.string c.name, .string c.super, .slice pf c.faces.length kf, .bool c.face, .slice pd c.fields.length kd, .slice pm c.methods.length km] := by
        refine Cells.block (hgrow3.block bc (by simp; omega) (fun he => ?_)) (HCe.out.mono ((Below.refl _ _).alloc (Nat.le_refl _) _) hbc)
        have := HS.out bc he.symm; omega
      obtain ⟨y0, y1, y2, y3, y4, y5⟩ := cells6 hz3
      have hl4 := (HLK.out _ (hB3.alloc hB3.size (.cells #[.string c.name, .string c.super, .slice pf c.faces.length kf, .bool c.face, .slice pd c.fields.length kd, .slice pm c.methods.length km] 47))).2
      have hc2 : (findC (allC l) c.super).getD noClass = classC (allC l) c.super := rfl
      rw [hc2] at hl4
      generalize hcv2 : classC (allC l) c.super = d at hl4
      have HD := Lib.hid hcv2
      obtain ⟨n2, s2, f2, b2, d2, m2⟩ := d
      clear hcv2 hc2
      unfold classV at hl4
      dsimp only at hl4
      have hown5 := hown4.alloc (.cells #[.string n2, .string s2, .slice p1 f2.length k1, .bool b2, .slice p2 d2.length k2, .slice p3 m2.length k3] 47)
      have HB5 := Lib.hid (hB3.alloc hB3.size (.cells #[.string n2, .string s2, .slice p1 f2.length k1, .bool b2, .slice p2 d2.length k2, .slice p3 m2.length k3] 47))
      have HO5 := Lib.hid hown5
      have HO4 := Lib.hid hown4
      clear hown5 hown4 hown3 hz3 z0 z1 z2 z3 z4 z5 hown
      go_wp2_with (first | fail)
      go_roundg f'
      case measure => omega
      case rel =>
        refine ⟨c.super, f', out ++ [c.super], w3.heap.size, p1, k1, p2, k2, p3, k3, _, Nat.le_refl _, hnext, hk2, ?_, by simp; omega, HO5.out, ?_, HB5.out, by simp, by simp [Cells], HD, rfl⟩
        · show (everyC (allC l) c.super).length ≤ f'; omega
        · intro g hg; exact (HO4.out.lt g hg).2
end Go.Proofs.YtbakcdgjibmceaaGreatDoor
namespace Go.Proofs.YtbakcdgjibmceaaGreatDoor
open Go.RowKit Go.Shelf Go.Lib
def namedFault (l : List Class) (n : Str) : Nat := if readFault l ≠ 0 then readFault l else if (findC (allC l) n).isSome then 0 else 3
structure Named (w0 : World) (l : List Class) (n : Str) (w : World) (B : Nat) : Prop where
  map : ClassMap w0 w B (allC l)
  right : Right l
  faults : ∀ c ∈ l, classFault c = 0
  known : (findC (allC l) n).isSome = true
/-- the map of a right world's classes -/
structure WorldMap (w0 w : World) (B : Nat) (l : List Class) : Prop where
  map : ClassMap w0 w B (allC l)
  right : Right l
  faults : ∀ c ∈ l, classFault c = 0
theorem WorldMap.faces {w0 w : World} {B : Nat} {l : List Class} (h : WorldMap w0 w B l) : ∀ c ∈ allC l, c.faces.length ≤ 8 := allC_small h.faults
theorem WorldMap.step {w0 w w' : World} {B : Nat} {l : List Class} (h : WorldMap w0 w B l) (hb : Below w.heap.size w w') : WorldMap w0 w' B l := ⟨h.map.step hb, h.right, h.faults⟩
theorem Named.world {w0 w : World} {B : Nat} {l : List Class} {n : Str} (h : Named w0 l n w B) : WorldMap w0 w B l := ⟨h.map, h.right, h.faults⟩
def WithPost (w : World) (l : List Class) (n : Str) (e : Ending) (w' : World) : Prop :=
  Below w.heap.size w w' ∧
  ((namedFault l n = 0 ∧ e = .returned (.tuple #[.map (some w.heap.size), .nilIface]) ∧ Named w l n w' w.heap.size) ∨
   (namedFault l n ≠ 0 ∧ e = .returned (.tuple #[.map none, .iface 35 (.int .i64 (namedFault l n))])))
theorem with_no {w w' : World} {l : List Class} {n : Str} {k : Nat} (hb : Below w.heap.size w w') (h : namedFault l n = k) (hn : k ≠ 0) : WithPost w l n (.returned (.tuple #[.map none, .iface 35 (.int .i64 k)])) w' := by
  subst h; exact ⟨hb, Or.inr ⟨hn, rfl⟩⟩
end Go.Proofs.YtbakcdgjibmceaaGreatDoor
namespace Go.Proofs.YtbakcdgjibmceaaGreatDoor
open Go.RowKit Go.Shelf Go.Lib
/-- what a function hands back that lists texts of a class, or a fault -/
def ListPost (w : World) (k : Nat) (l : List Str) (e : Ending) (w' : World) : Prop :=
  Below w.heap.size w w' ∧ ((k = 0 ∧ ∃ v, e = .returned (.tuple #[v, .nilIface]) ∧ StrsAt w' v l) ∨ (k ≠ 0 ∧ e = .returned (.tuple #[.slice none 0 0, .iface 35 (.int .i64 k)])))
theorem list_no {w w' : World} {k : Nat} {l : List Str} (hb : Below w.heap.size w w') (hn : k ≠ 0) : ListPost w k l (.returned (.tuple #[.slice none 0 0, .iface 35 (.int .i64 k)])) w' := ⟨hb, Or.inr ⟨hn, rfl⟩⟩
theorem list_yes {w w' : World} {k : Nat} {l : List Str} {v : Value} (hb : Below w.heap.size w w') (hn : k = 0) (hv : StrsAt w' v l) : ListPost w k l (.returned (.tuple #[v, .nilIface])) w' := ⟨hb, Or.inl ⟨hn, v, rfl, hv⟩⟩
theorem Right.small {l : List Class} (h : Right l) : (allC l).length ≤ 12 := by have := h.length; unfold allC; simp; omega
end Go.Proofs.YtbakcdgjibmceaaGreatDoor
