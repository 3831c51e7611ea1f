/-
  WALK over the law's walks: three classes.
-/
import Derived.Test.YtehhmedjgmbpgaaGreatDoorBeasts
import Derived.Test.YtehhmedjgmbpgaaGreatDoorFind
import Derived.Test.YtehhmedjgmbpgaaGreatDoorRefNames
namespace Go.Proofs.YtehhmedjgmbpgaaGreatDoor
open Go.RowKit Go.Shelf Go.Lib
def sWalk : Str := ⟨#[119, 97, 108, 107]⟩
def sUnitV : Str := ⟨#[40, 41, 86]⟩
def sLegs : Str := ⟨#[108, 101, 103, 115]⟩
def sTail : Str := ⟨#[116, 97, 105, 108]⟩
def sFish : Str := ⟨#[70, 105, 115, 104]⟩
def sI : Str := ⟨#[73]⟩
def sJ : Str := ⟨#[74]⟩
def mWalk : Method := ⟨sWalk, sUnitV, false, false, false, 1, [⟨26, 0, 0, ⟨#[]⟩, ⟨#[]⟩, ⟨#[]⟩⟩], []⟩
def walksL : List Class := [⟨sBeast, sObject, [], false, [⟨sLegs, sI⟩], [mWalk]⟩, ⟨sCat, sBeast, [], false, [⟨sTail, sJ⟩], [mWalk]⟩, ⟨sFish, sBeast, [], false, [], []⟩]
theorem walks_named : namedFault walksL sCat = 0 := by decide +kernel
theorem walks_method : MethodOk mWalk := by
  refine ⟨by decide, by decide, by unfold bd64; decide, ?_, ?_⟩
  · intro x hx
    simp only [mWalk, List.mem_cons, List.mem_nil_iff, or_false] at hx
    subst hx
    exact ⟨by unfold bd64; decide, by unfold bd64; decide, by unfold bd64; decide, by decide, by decide, by decide⟩
  · intro x hx; cases hx
theorem walks_ok : ∀ c ∈ walksL, ClassOk c := by
  intro c hc
  simp only [walksL, List.mem_cons, List.mem_nil_iff, or_false] at hc
  have hm : ∀ x ∈ [mWalk], MethodOk x := fun x hx => by simp at hx; subst hx; exact walks_method
  rcases hc with rfl | rfl | rfl
  · exact ⟨by decide, by decide, (fun x h => by cases h), (fun x h => by simp at h; subst h; exact ⟨by decide, by decide⟩), hm⟩
  · exact ⟨by decide, by decide, (fun x h => by cases h), (fun x h => by simp at h; subst h; exact ⟨by decide, by decide⟩), hm⟩
  · exact ⟨by decide, by decide, (fun x h => by cases h), (fun x h => by cases h), (fun x h => by cases h)⟩
theorem slice_one {α : Type} {w : World} {k : Nat} {R : α → List Value → Prop} {b : Nat} {x : α} {vs : List Value} (hR : R x vs) (hl : vs.length = k) (hc : Cells w b 0 vs) : SliceOf w k R (.slice (some ⟨b, 0, none⟩) 1 1) [x] := by
  refine Or.inr ⟨⟨b, 0, none⟩, 1, rfl, Nat.le_refl _, by decide, fun i y hi => ?_⟩
  match i, hi with
  | 0, hi => simp at hi; subst hi; exact ⟨vs, hR, hl, rfl, by simpa using hc⟩
theorem slice_none {α : Type} (w : World) (k : Nat) (R : α → List Value → Prop) : SliceOf w k R (.slice none 0 0) [] := Or.inl ⟨rfl, rfl⟩
theorem allocs_heap : ∀ (l : List Obj) (w : World), (l.foldl World.alloc w).heap = w.heap ++ l.toArray
  | [], w => by simp
  | o :: r, w => by
    rw [List.foldl_cons, allocs_heap r]
    show (w.heap.push o) ++ r.toArray = _
    apply Array.toList_inj.1
    simp
theorem allocs_at (l : List Obj) (w : World) (i : Nat) (cs : Array Value) (t : TypeId) (h : l[i]? = some (.cells cs t (0, 0))) (j : Nat) : (l.foldl World.alloc w).cell? ⟨w.heap.size + i, j, none⟩ = cs[j]? := by
  refine cell_of_row _ _ j cs t (0, 0) ?_
  rw [allocs_heap, Array.getElem?_append_right (by omega), Nat.add_sub_cancel_left]
  simpa using h
theorem allocs_below (l : List Obj) : ∀ w : World, Below w.heap.size w (l.foldl World.alloc w) := by
  induction l with
  | nil => exact fun w => Below.refl _ _
  | cons o r ih => exact fun w => below_call ((Below.refl _ _).alloc (Nat.le_refl _) o) (Nat.le_refl _) (ih (w.alloc o))
def walksObjs (b : Nat) : List Obj :=
  [.cells #[.int .i64 26, .int .i64 0, .int .i64 0, .string ⟨#[]⟩, .string ⟨#[]⟩, .string ⟨#[]⟩] 84,
   .cells #[.string sWalk, .string sUnitV, .bool false, .bool false, .bool false, .int .i64 1, .slice (some ⟨b, 0, none⟩) 1 1, .slice none 0 0] 51,
   .cells #[.string sLegs, .string sI] 145,
   .cells #[.string sWalk, .string sUnitV, .bool false, .bool false, .bool false, .int .i64 1, .slice (some ⟨b, 0, none⟩) 1 1, .slice none 0 0] 51,
   .cells #[.string sTail, .string sJ] 145,
   .cells #[.string sWalk, .string sUnitV, .bool false, .bool false, .bool false, .int .i64 1, .slice (some ⟨b, 0, none⟩) 1 1, .slice none 0 0] 51,
   .cells #[.string sBeast, .string sObject, .slice none 0 0, .bool false, .slice (some ⟨b + 1 + 1, 0, none⟩) 1 1, .slice (some ⟨b + 1 + 1 + 1, 0, none⟩) 1 1,
     .string sCat, .string sBeast, .slice none 0 0, .bool false, .slice (some ⟨b + 1 + 1 + 1 + 1, 0, none⟩) 1 1, .slice (some ⟨b + 1 + 1 + 1 + 1 + 1, 0, none⟩) 1 1,
     .string sFish, .string sBeast, .slice none 0 0, .bool false, .slice none 0 0, .slice none 0 0] 31]
theorem walks_at (w : World) : ClassesAt ((walksObjs w.heap.size).foldl World.alloc w) (.slice (some ⟨w.heap.size + 1 + 1 + 1 + 1 + 1 + 1, 0, none⟩) 3 3) walksL := by
  have c0 := allocs_at (walksObjs w.heap.size) w 0 _ _ rfl
  have c2 := allocs_at (walksObjs w.heap.size) w 2 _ _ rfl
  have c3 := allocs_at (walksObjs w.heap.size) w 3 _ _ rfl
  have c4 := allocs_at (walksObjs w.heap.size) w 4 _ _ rfl
  have c5 := allocs_at (walksObjs w.heap.size) w 5 _ _ rfl
  have c6 := allocs_at (walksObjs w.heap.size) w 6 _ _ rfl
  generalize (walksObjs w.heap.size).foldl World.alloc w = W at *
  refine Or.inr ⟨_, 3, rfl, by decide, by decide, fun i x hi => ?_⟩
  match i, hi with
  | 0, hi =>
    simp [walksL] at hi; subst hi
    refine ⟨_, ⟨_, _, _, rfl, slice_none _ _ _, slice_one (b := w.heap.size + 2) rfl rfl ⟨c2 0, c2 1, trivial⟩, slice_one (b := w.heap.size + 3) ⟨_, _, rfl, slice_one (b := w.heap.size) rfl rfl ⟨c0 0, c0 1, c0 2, c0 3, c0 4, c0 5, trivial⟩, slice_none _ _ _⟩ rfl ⟨c3 0, c3 1, c3 2, c3 3, c3 4, c3 5, c3 6, c3 7, trivial⟩⟩, rfl, rfl, c6 0, c6 1, c6 2, c6 3, c6 4, c6 5, trivial⟩
  | 1, hi =>
    simp [walksL] at hi; subst hi
    refine ⟨_, ⟨_, _, _, rfl, slice_none _ _ _, slice_one (b := w.heap.size + 4) rfl rfl ⟨c4 0, c4 1, trivial⟩, slice_one (b := w.heap.size + 5) ⟨_, _, rfl, slice_one (b := w.heap.size) rfl rfl ⟨c0 0, c0 1, c0 2, c0 3, c0 4, c0 5, trivial⟩, slice_none _ _ _⟩ rfl ⟨c5 0, c5 1, c5 2, c5 3, c5 4, c5 5, c5 6, c5 7, trivial⟩⟩, rfl, rfl, c6 6, c6 7, c6 8, c6 9, c6 10, c6 11, trivial⟩
  | 2, hi =>
    simp [walksL] at hi; subst hi
    refine ⟨_, ⟨_, _, _, rfl, slice_none _ _ _, slice_none _ _ _, slice_none _ _ _⟩, rfl, rfl, c6 12, c6 13, c6 14, c6 15, c6 16, c6 17, trivial⟩
set_option maxHeartbeats 1000000 in
set_option maxRecDepth 100000 in
theorem walks_any (w : World) : Calls Tryz.prog 50 #[] w fun e w' => (∃ v, e = .returned v ∧ ClassesAt w' v walksL) ∧ Below w.heap.size w w' := by
  have HW := Lib.hid (walks_at w)
  have HB := Lib.hid (allocs_below (walksObjs w.heap.size) w)
  go_enter Tryz.func50, Tryz.ntmps50
  go_wp2
  go_ret
  exact ⟨⟨_, rfl, HW.out⟩, HB.out⟩
/-- Error, of what is told rightly -/
theorem error_nil (w : World) : Calls Tryz.prog 19 #[.nilIface, .int .i64 0] w fun e w' => e = .returned (.bool true) ∧ w = w' := error_any 0 0 w
theorem error_is (k : Nat) (hk : k ≠ 0) (w : World) : Calls Tryz.prog 19 #[.iface 42 (.int .i64 k), .int .i64 k] w fun e w' => e = .returned (.bool true) ∧ w = w' := by
  have := error_any k k w
  rcases errV_cases k with ⟨_, h⟩ | ⟨h, _⟩
  · exact absurd h hk
  · rwa [decide_eq_true rfl, h] at this
theorem error_none (w : World) : Calls Tryz.prog 19 #[.iface 42 (.int .i64 3), .int .i64 3] w fun e w' => e = .returned (.bool true) ∧ w = w' := error_is 3 (by decide) w
theorem texts_same (w : World) (L : List Str) (va vb : Value) (h1 : StrsAt w va L) (h2 : StrsAt w vb L) : Calls Tryz.prog 88 #[va, vb] w fun e w' => e = .returned (.bool true) ∧ Below w.heap.size w w' := by
  have := texts_any L L va vb w h1 h2
  rwa [decide_eq_true rfl] at this
theorem texts_nil (w : World) : Calls Tryz.prog 88 #[.slice none 0 0, .slice none 0 0] w fun e w' => e = .returned (.bool true) ∧ Below w.heap.size w w' := texts_any [] [] _ _ w (Or.inl ⟨rfl, rfl⟩) (Or.inl ⟨rfl, rfl⟩)
end Go.Proofs.YtehhmedjgmbpgaaGreatDoor
