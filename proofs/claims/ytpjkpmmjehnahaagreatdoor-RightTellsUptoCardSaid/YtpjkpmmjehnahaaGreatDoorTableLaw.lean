/-
  PLAIN LAW: tables of methods, as the program fills them and as the reference fills them; the method that is called.
-/
import Derived.Test.YtpjkpmmjehnahaaGreatDoorSlotsLaw
namespace Go.Proofs.YtpjkpmmjehnahaaGreatDoor
open Go.RowKit Go.Shelf Go.Lib
def isSlot (m : Method) (s : Slot) : Bool := decide (s.name = m.name) && decide (s.type = m.type)
/-- the slot that has a method's name and type -/
def slotIdx (m : Method) : List Slot → Option Nat
  | [] => none
  | s :: r => if isSlot m s then some 0 else (slotIdx m r).map (· + 1)
theorem slotIdx_none {m : Method} {c : Str} : ∀ {l : List Slot}, slotIdx m l = none → putSlot c l m = l ++ [⟨m.name, m.type, c⟩]
  | [], _ => rfl
  | s :: r, h => by
    unfold slotIdx at h
    cases hs : isSlot m s with
    | true => rw [hs, if_pos rfl] at h; cases h
    | false =>
      rw [hs, if_neg (by decide)] at h
      have hr : slotIdx m r = none := by cases hq : slotIdx m r with
        | none => rfl
        | some _ => rw [hq] at h; cases h
      unfold putSlot
      have hn : ¬ (s.name = m.name ∧ s.type = m.type) := by
        rintro ⟨h1, h2⟩; unfold isSlot at hs; rw [decide_eq_true h1, decide_eq_true h2] at hs; cases hs
      rw [if_neg hn, slotIdx_none hr]; rfl
theorem slotIdx_some {m : Method} {c : Str} : ∀ {l : List Slot} {k : Nat}, slotIdx m l = some k → k < l.length ∧ putSlot c l m = l.set k ⟨m.name, m.type, c⟩
  | [], _, h => by cases h
  | s :: r, k, h => by
    unfold slotIdx at h
    unfold putSlot
    cases hs : isSlot m s with
    | true =>
      rw [hs, if_pos rfl] at h
      injection h with h; subst h
      have hn : s.name = m.name ∧ s.type = m.type := by
        unfold isSlot at hs; rw [Bool.and_eq_true] at hs; exact ⟨of_decide_eq_true hs.1, of_decide_eq_true hs.2⟩
      rw [if_pos hn]; exact ⟨by simp, rfl⟩
    | false =>
      rw [hs, if_neg (by decide)] at h
      have hn : ¬ (s.name = m.name ∧ s.type = m.type) := by
        rintro ⟨h1, h2⟩; unfold isSlot at hs; rw [decide_eq_true h1, decide_eq_true h2] at hs; cases hs
      rw [if_neg hn]
      cases hq : slotIdx m r with
      | none => rw [hq] at h; cases h
      | some j =>
        rw [hq] at h; injection h with h; subst h
        obtain ⟨h1, h2⟩ := slotIdx_some (c := c) hq
        exact ⟨by simp; exact h1, by rw [h2]; rfl⟩
/-- one slot as the reference turns it -/
def turnSlot (c : Str) (m : Method) (s : Slot) : Slot := if isSlot m s then { s with cls := c } else s
theorem turn_none {c : Str} {m : Method} : ∀ {l : List Slot}, l.any (isSlot m) = false → l.map (turnSlot c m) = l
  | [], _ => rfl
  | s :: r, h => by
    rw [List.any_cons, Bool.or_eq_false_iff] at h
    rw [List.map_cons, turn_none h.2]
    unfold turnSlot; rw [h.1]; rfl
theorem turn_single {c : Str} {m : Method} : ∀ {l : List Slot}, Single l → l.any (isSlot m) = true → l.map (turnSlot c m) = putSlot c l m
  | [], _, h => by cases h
  | s :: r, hs, h => by
    unfold Single at hs
    rw [List.pairwise_cons] at hs
    rw [List.any_cons] at h
    rw [List.map_cons]
    unfold putSlot
    cases hm : isSlot m s with
    | true =>
      have hn : s.name = m.name ∧ s.type = m.type := by
        unfold isSlot at hm; rw [Bool.and_eq_true] at hm; exact ⟨of_decide_eq_true hm.1, of_decide_eq_true hm.2⟩
      rw [if_pos hn, turn_none]
      · unfold turnSlot; rw [hm, if_pos rfl, hn.1, hn.2]
      · rw [List.any_eq_false]
        intro x hx hxm
        unfold isSlot at hxm; rw [Bool.and_eq_true] at hxm
        exact hs.1 x hx ⟨hn.1.trans (of_decide_eq_true hxm.1).symm, hn.2.trans (of_decide_eq_true hxm.2).symm⟩
    | false =>
      rw [hm, Bool.false_or] at h
      have hn : ¬ (s.name = m.name ∧ s.type = m.type) := by
        rintro ⟨h1, h2⟩; unfold isSlot at hm; rw [decide_eq_true h1, decide_eq_true h2] at hm; cases hm
      rw [if_neg hn, turn_single hs.2 h]
      unfold turnSlot; rw [hm]; rfl
theorem put_none {c : Str} {m : Method} : ∀ {l : List Slot}, l.any (isSlot m) = false → putSlot c l m = l ++ [⟨m.name, m.type, c⟩]
  | [], _ => rfl
  | s :: r, h => by
    rw [List.any_cons, Bool.or_eq_false_iff] at h
    unfold putSlot
    have hn : ¬ (s.name = m.name ∧ s.type = m.type) := by
      rintro ⟨h1, h2⟩; have := h.1; unfold isSlot at this; rw [decide_eq_true h1, decide_eq_true h2] at this; cases this
    rw [if_neg hn, put_none h.2]; rfl
/-- the reference's way of one method more is the program's -/
theorem refPut {c : Str} {m : Method} {l : List Slot} (hs : Single l) : (if l.any (isSlot m) then l.map (turnSlot c m) else l.map (turnSlot c m) ++ [⟨m.name, m.type, c⟩]) = putSlot c l m := by
  cases h : l.any (isSlot m) with
  | true => rw [if_pos rfl, turn_single hs h]
  | false => rw [if_neg (by decide), turn_none h, put_none h]
theorem putSlot_length (c : Str) (m : Method) : ∀ l : List Slot, (putSlot c l m).length ≤ l.length + 1
  | [] => by simp [putSlot]
  | s :: r => by
    unfold putSlot
    split
    · simp
    · have := putSlot_length c m r; simp; omega
theorem slotsOf_cons (c : Str) (out : List Slot) (m : Method) (r : List Method) : slotsOf c out (m :: r) = slotsOf c (slotStep c out m) r := rfl
theorem slotsOf_drop (c : Str) (out : List Slot) (l : List Method) (k : Nat) (m : Method) (h : l[k]? = some m) : slotsOf c out (l.drop k) = slotsOf c (slotStep c out m) (l.drop (k + 1)) := by
  obtain ⟨hk, rfl⟩ := List.getElem?_eq_some_iff.1 h
  rw [List.drop_eq_getElem_cons hk]; rfl
theorem slotsF_drop (cs : List Class) (out : List Slot) (l : List Str) (k : Nat) (c : Str) (h : l[k]? = some c) : slotsF cs out (l.drop k) = slotsF cs (slotsOf c out (classC cs c).methods) (l.drop (k + 1)) := by
  obtain ⟨hk, rfl⟩ := List.getElem?_eq_some_iff.1 h
  rw [List.drop_eq_getElem_cons hk]; rfl
/-- a slot's class has the method itself -/
def SlotOk (cs : List Class) (s : Slot) : Prop := (ownIn s.name s.type (classC cs s.cls).methods).isSome = true
theorem ownIn_mem {n t : Str} : ∀ {l : List Method} {m : Method}, m ∈ l → m.name = n → m.type = t → (ownIn n t l).isSome = true
  | [], _, h, _, _ => by cases h
  | x :: r, m, h, h1, h2 => by
    unfold ownIn
    by_cases hx : x.name = n ∧ x.type = t
    · rw [if_pos hx]; rfl
    · rw [if_neg hx]
      rcases List.mem_cons.1 h with rfl | h
      · exact absurd ⟨h1, h2⟩ hx
      · exact ownIn_mem h h1 h2
theorem putSlot_ok {cs : List Class} {c : Str} {m : Method} (hm : m ∈ (classC cs c).methods) : ∀ {l : List Slot}, (∀ s ∈ l, SlotOk cs s) → ∀ s ∈ putSlot c l m, SlotOk cs s
  | [], _, s, hs => by
    simp [putSlot] at hs; subst hs
    exact ownIn_mem hm rfl rfl
  | x :: r, h, s, hs => by
    unfold putSlot at hs
    split at hs
    · rcases List.mem_cons.1 hs with rfl | hs
      · exact ownIn_mem hm rfl rfl
      · exact h s (by simp [hs])
    · rcases List.mem_cons.1 hs with rfl | hs
      · exact h _ (by simp)
      · exact putSlot_ok hm (fun s hs => h s (by simp [hs])) s hs
theorem slotsOf_ok {cs : List Class} {c : Str} : ∀ {l : List Method} {out : List Slot}, (∀ m ∈ l, m ∈ (classC cs c).methods) → (∀ s ∈ out, SlotOk cs s) → ∀ s ∈ slotsOf c out l, SlotOk cs s
  | [], _, _, h => h
  | m :: r, out, hl, h => by
    rw [slotsOf_cons]
    refine slotsOf_ok (fun x hx => hl x (by simp [hx])) ?_
    unfold slotStep
    split
    · exact h
    · exact putSlot_ok (hl m (by simp)) h
theorem slotsF_ok {cs : List Class} : ∀ {l : List Str} {out : List Slot}, (∀ s ∈ out, SlotOk cs s) → ∀ s ∈ slotsF cs out l, SlotOk cs s
  | [], _, h => h
  | c :: r, out, h => slotsF_ok (l := r) (out := slotsOf c out (classC cs c).methods) (slotsOf_ok (fun _ h => h) h)
theorem slotsC_ok (cs : List Class) (c : Str) : ∀ s ∈ slotsC cs c, SlotOk cs s := slotsF_ok (fun s hs => by cases hs)
/-- a slot's method is found in its class itself -/
theorem slot_method {cs : List Class} {s : Slot} (h : SlotOk cs s) : ∃ m, ownIn s.name s.type (classC cs s.cls).methods = some m ∧ methodC cs s.cls s.name s.type = some (s.cls, m) := by
  unfold SlotOk at h
  rw [Option.isSome_iff_exists] at h
  obtain ⟨m, hm⟩ := h
  refine ⟨m, hm, ?_⟩
  unfold methodC lineC
  rw [lineF_head]
  unfold methodGo
  rw [hm]
/-- the method that is called, as it is found: the slots of the class have the last word -/
def calledGo (cs : List Class) (n t : Str) : Option (Str × Method) → List Slot → Option (Str × Method)
  | o, [] => o
  | o, s :: r => calledGo cs n t (if s.name = n ∧ s.type = t then methodC cs s.cls n t else o) r
theorem calledGo_drop (cs : List Class) (n t : Str) (o : Option (Str × Method)) (l : List Slot) (k : Nat) (s : Slot) (h : l[k]? = some s) :
    calledGo cs n t o (l.drop k) = calledGo cs n t (if s.name = n ∧ s.type = t then methodC cs s.cls n t else o) (l.drop (k + 1)) := by
  obtain ⟨hk, rfl⟩ := List.getElem?_eq_some_iff.1 h
  rw [List.drop_eq_getElem_cons hk]; rfl
def calledC (cs : List Class) (c n t : Str) : Option (Str × Method) := calledGo cs n t (methodC cs c n t) (slotsC cs c)
def callable : Option (Str × Method) → Bool
  | some (_, m) => !m.static && !m.priv && !m.abs
  | none => false
def pickC (cs : List Class) (c n t : Str) : Option (Str × Method) := if callable (calledC cs c n t) then calledC cs c n t else none
/-- who may call what -/
def callFault (cs : List Class) (src c n t : Str) (static : Bool) : Nat :=
  if (findC cs c).isNone then 3
  else match methodC cs c n t with
    | none => 3
    | some (d, m) => if (findC cs src).isNone then 3 else if m.static ≠ static then 7 else if m.priv && decide (d ≠ src) then 9 else 0
end Go.Proofs.YtpjkpmmjehnahaaGreatDoor
