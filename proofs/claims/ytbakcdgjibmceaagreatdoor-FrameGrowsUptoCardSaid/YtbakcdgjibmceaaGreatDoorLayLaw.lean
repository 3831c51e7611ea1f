/-
  PLAIN DEFINITIONS: whose a field or a method is.
  PLAIN LAW: where the fields of a class lie.
-/
import Derived.Test.YtbakcdgjibmceaaGreatDoorLineLaw
import Derived.Test.YtbakcdgjibmceaaGreatDoorKinds
namespace Go.Proofs.YtbakcdgjibmceaaGreatDoor
open Go.RowKit Go.Shelf Go.Lib
def noField : Field := ⟨.empty, .empty⟩
def noMethod : Method := ⟨.empty, .empty, false, false, false, 0, [], []⟩
/-- the first field of a name -/
def fieldIn (n : Str) : List Field → Option Field
  | [] => none
  | f :: r => if f.name = n then some f else fieldIn n r
theorem fieldIn_drop (n : Str) (l : List Field) (k : Nat) (x : Field) (h : l[k]? = some x) : fieldIn n (l.drop k) = if x.name = n then some x else fieldIn n (l.drop (k + 1)) := by
  obtain ⟨hk, rfl⟩ := List.getElem?_eq_some_iff.1 h
  rw [List.drop_eq_getElem_cons hk]; rfl
/-- the first class of a line that has a field of a name -/
def fieldGo (cs : List Class) (n : Str) : List Str → Option (Str × Field)
  | [] => none
  | c :: r => match fieldIn n (classC cs c).fields with
    | some f => some (c, f)
    | none => fieldGo cs n r
theorem fieldGo_drop (cs : List Class) (n : Str) (l : List Str) (k : Nat) (x : Str) (h : l[k]? = some x) : fieldGo cs n (l.drop k) = match fieldIn n (classC cs x).fields with
    | some f => some (x, f)
    | none => fieldGo cs n (l.drop (k + 1)) := by
  obtain ⟨hk, rfl⟩ := List.getElem?_eq_some_iff.1 h
  rw [List.drop_eq_getElem_cons hk]; rfl
/-- the first method of a name and a type -/
def ownIn (n t : Str) : List Method → Option Method
  | [] => none
  | m :: r => if m.name = n ∧ m.type = t then some m else ownIn n t r
theorem ownIn_drop (n t : Str) (l : List Method) (k : Nat) (x : Method) (h : l[k]? = some x) : ownIn n t (l.drop k) = if x.name = n ∧ x.type = t then some x else ownIn n t (l.drop (k + 1)) := by
  obtain ⟨hk, rfl⟩ := List.getElem?_eq_some_iff.1 h
  rw [List.drop_eq_getElem_cons hk]; rfl
/-- the first class of a line that has a method of a name and a type -/
def methodGo (cs : List Class) (n t : Str) : List Str → Option (Str × Method)
  | [] => none
  | c :: r => match ownIn n t (classC cs c).methods with
    | some m => some (c, m)
    | none => methodGo cs n t r
theorem methodGo_drop (cs : List Class) (n t : Str) (l : List Str) (k : Nat) (x : Str) (h : l[k]? = some x) : methodGo cs n t (l.drop k) = match ownIn n t (classC cs x).methods with
    | some m => some (x, m)
    | none => methodGo cs n t (l.drop (k + 1)) := by
  obtain ⟨hk, rfl⟩ := List.getElem?_eq_some_iff.1 h
  rw [List.drop_eq_getElem_cons hk]; rfl
/-- the first face among some that has a method of a name and a type, abstract or not -/
def faceGo (cs : List Class) (n t : Str) (a : Bool) : List Str → Option (Str × Method)
  | [] => none
  | c :: r => match ownIn n t (classC cs c).methods with
    | some m => if ((classC cs c).face && (m.abs == a)) = true then some (c, m) else faceGo cs n t a r
    | none => faceGo cs n t a r
theorem faceGo_drop (cs : List Class) (n t : Str) (a : Bool) (l : List Str) (k : Nat) (x : Str) (h : l[k]? = some x) : faceGo cs n t a (l.drop k) = match ownIn n t (classC cs x).methods with
    | some m => if ((classC cs x).face && (m.abs == a)) = true then some (x, m) else faceGo cs n t a (l.drop (k + 1))
    | none => faceGo cs n t a (l.drop (k + 1)) := by
  obtain ⟨hk, rfl⟩ := List.getElem?_eq_some_iff.1 h
  rw [List.drop_eq_getElem_cons hk]; rfl
def fieldC (cs : List Class) (cls n : Str) : Option (Str × Field) := fieldGo cs n (lineC cs cls)
def methodC (cs : List Class) (cls n t : Str) : Option (Str × Method) :=
  match methodGo cs n t (lineC cs cls) with
  | some x => some x
  | none => match faceGo cs n t false (sortS (everyC cs cls)) with
    | some x => some x
    | none => faceGo cs n t true (sortS (everyC cs cls))
end Go.Proofs.YtbakcdgjibmceaaGreatDoor
namespace Go.Proofs.YtbakcdgjibmceaaGreatDoor
open Go.RowKit Go.Shelf Go.Lib
/-- no class stands twice in a line -/
theorem Right.line_nodup {l : List Class} (h : Right l) : ∀ c, (findC (allC l) c).isSome = true → (lineC (allC l) c).Nodup := by
  refine h.line_ind _ (fun x hk h0 => ?_) (fun x hk h0 ih => ?_)
  · rw [Right.line_top h0]; simp
  · rw [h.line_up hk h0, List.nodup_cons]
    refine ⟨fun hin => ?_, ih⟩
    obtain ⟨hks, hlt⟩ := h.up hk h0
    have hs : (classC (allC l) x).super ∈ lineC (allC l) x := (h.line_mem hk).2 (Or.inr ⟨h0, line_self _⟩)
    have he := h.tree.anti _ _ hk hks hs hin
    rw [← he] at hlt
    omega
/-- the fields of the classes of a line, each with its class -/
def ownSlots (cs : List Class) (c : Str) : List (Str × Field) := (classC cs c).fields.map fun f => (c, f)
def laySlots (cs : List Class) (line : List Str) : List (Str × Field) := line.flatMap (ownSlots cs)
/-- the slots of a class: from Object on -/
def layC (cs : List Class) (c : Str) : List (Str × Field) := laySlots cs (lineC cs c).reverse
def typesOf (l : List (Str × Field)) : List Str := l.map fun x => x.2.type
theorem laySlots_append (cs : List Class) (a b : List Str) : laySlots cs (a ++ b) = laySlots cs a ++ laySlots cs b := by
  unfold laySlots; rw [List.flatMap_append]
theorem laySlots_one (cs : List Class) (c : Str) : laySlots cs [c] = ownSlots cs c := by
  unfold laySlots; simp
theorem layC_up {l : List Class} (h : Right l) {c : Str} (hk : (findC (allC l) c).isSome = true) (h0 : (classC (allC l) c).super.size ≠ 0) :
    layC (allC l) c = layC (allC l) (classC (allC l) c).super ++ ownSlots (allC l) c := by
  unfold layC
  rw [h.line_up hk h0, List.reverse_cons, laySlots_append, laySlots_one]
theorem layC_top {l : List Class} {c : Str} (h0 : (classC (allC l) c).super.size = 0) : layC (allC l) c = ownSlots (allC l) c := by
  unfold layC
  rw [Right.line_top h0]
  exact laySlots_one _ _
theorem typesOf_own (cs : List Class) (c : Str) : typesOf (ownSlots cs c) = (classC cs c).fields.map (·.type) := by
  unfold typesOf ownSlots
  rw [List.map_map]; rfl
theorem typesOf_append (a b : List (Str × Field)) : typesOf (a ++ b) = typesOf a ++ typesOf b := by
  unfold typesOf; rw [List.map_append]
theorem typesOf_length (a : List (Str × Field)) : (typesOf a).length = a.length := by
  unfold typesOf; rw [List.length_map]
/-- where an element stands first -/
def idxIn {α : Type} [DecidableEq α] (x : α) : List α → Option Nat
  | [] => none
  | y :: r => if x = y then some 0 else (idxIn x r).map (· + 1)
def idxV : Option Nat → Int
  | some n => n
  | none => -1
theorem idxIn_left {α : Type} [DecidableEq α] {x : α} {b : List α} : ∀ {a : List α} {k : Nat}, idxIn x a = some k → idxIn x (a ++ b) = some k
  | [], _, h => by cases h
  | y :: r, k, h => by
    unfold idxIn at h
    show (if x = y then some 0 else (idxIn x (r ++ b)).map (· + 1)) = some k
    by_cases hy : x = y
    · rw [if_pos hy] at h ⊢; exact h
    · rw [if_neg hy] at h ⊢
      cases hq : idxIn x r with
      | none => rw [hq] at h; cases h
      | some j => rw [hq] at h; rw [idxIn_left hq]; exact h
theorem idxIn_right {α : Type} [DecidableEq α] {x : α} {b : List α} : ∀ {a : List α}, x ∉ a → idxIn x (a ++ b) = (idxIn x b).map (a.length + ·)
  | [], _ => by
    show idxIn x b = _
    cases idxIn x b <;> simp
  | y :: r, h => by
    show (if x = y then some 0 else (idxIn x (r ++ b)).map (· + 1)) = _
    rw [if_neg (fun he => h (by simp [he])), idxIn_right (fun hm => h (by simp [hm]))]
    cases idxIn x b with
    | none => rfl
    | some j => simp; omega
/-- where the first field of a name stands -/
def fieldIdx (n : Str) : List Field → Option Nat
  | [] => none
  | f :: r => if f.name = n then some 0 else (fieldIdx n r).map (· + 1)
theorem fieldIn_name {n : Str} : ∀ {l : List Field} {f : Field}, fieldIn n l = some f → f.name = n
  | [], _, h => by cases h
  | g :: r, f, h => by
    unfold fieldIn at h
    by_cases hg : g.name = n
    · rw [if_pos hg] at h; injection h with h; subst h; exact hg
    · rw [if_neg hg] at h; exact fieldIn_name h
theorem fieldIdx_none {n : Str} : ∀ {l : List Field}, fieldIn n l = none → fieldIdx n l = none
  | [], _ => rfl
  | g :: r, h => by
    unfold fieldIn at h
    unfold fieldIdx
    by_cases hg : g.name = n
    · rw [if_pos hg] at h; cases h
    · rw [if_neg hg] at h ⊢; rw [fieldIdx_none h]; rfl
theorem fieldIdx_own {n c : Str} : ∀ {l : List Field} {f : Field}, fieldIn n l = some f → ∃ k, fieldIdx n l = some k ∧ idxIn (c, f) (l.map fun f => (c, f)) = some k
  | [], _, h => by cases h
  | g :: r, f, h => by
    have hn := fieldIn_name h
    unfold fieldIn at h
    unfold fieldIdx
    by_cases hg : g.name = n
    · rw [if_pos hg] at h ⊢
      injection h with h; subst h
      exact ⟨0, rfl, by simp [idxIn]⟩
    · rw [if_neg hg] at h ⊢
      obtain ⟨k, h1, h2⟩ := fieldIdx_own (c := c) h
      refine ⟨k + 1, by rw [h1]; rfl, ?_⟩
      show (if (c, f) = (c, g) then some 0 else (idxIn (c, f) (r.map fun f => (c, f))).map (· + 1)) = _
      rw [if_neg (fun he => hg (by injection he with _ he; rw [← he]; exact hn)), h2]; rfl
/-- where the field of a name lies -/
def placeGo (cs : List Class) (n : Str) : List Str → Option Nat
  | [] => none
  | c :: r => match fieldIdx n (classC cs c).fields with
    | some i => some ((laySlots cs r.reverse).length + i)
    | none => placeGo cs n r
def placeC (cs : List Class) (c n : Str) : Option Nat := placeGo cs n (lineC cs c)
theorem placeC_up {l : List Class} (h : Right l) {c n : Str} (hk : (findC (allC l) c).isSome = true) (h0 : (classC (allC l) c).super.size ≠ 0) :
    placeC (allC l) c n = match fieldIdx n (classC (allC l) c).fields with
      | some i => some ((layC (allC l) (classC (allC l) c).super).length + i)
      | none => placeC (allC l) (classC (allC l) c).super n := by
  unfold placeC
  rw [h.line_up hk h0]; rfl
theorem placeC_top {l : List Class} {c n : Str} (h0 : (classC (allC l) c).super.size = 0) : placeC (allC l) c n = fieldIdx n (classC (allC l) c).fields := by
  unfold placeC
  rw [Right.line_top h0]
  unfold placeGo
  cases fieldIdx n (classC (allC l) c).fields with
  | some i => simp [laySlots]
  | none => rfl
theorem mem_laySlots {cs : List Class} {c : Str} {f : Field} {line : List Str} (h : (c, f) ∈ laySlots cs line) : c ∈ line := by
  unfold laySlots at h
  obtain ⟨d, hd, hm⟩ := List.mem_flatMap.1 h
  unfold ownSlots at hm
  obtain ⟨g, _, hg⟩ := List.mem_map.1 hm
  injection hg with hg _
  rw [← hg]; exact hd
/-- the slot of the field that is found stands where the place is told -/
theorem place_idx (cs : List Class) (n : Str) : ∀ line : List Str, line.Nodup →
    match fieldGo cs n line with
    | some x => ∃ k, placeGo cs n line = some k ∧ idxIn x (laySlots cs line.reverse) = some k
    | none => placeGo cs n line = none
  | [], _ => rfl
  | c :: r, hnd => by
    rw [List.nodup_cons] at hnd
    have ih := place_idx cs n r hnd.2
    unfold fieldGo placeGo
    rw [List.reverse_cons, laySlots_append, laySlots_one]
    cases hf : fieldIn n (classC cs c).fields with
    | some f =>
      obtain ⟨k, h1, h2⟩ := fieldIdx_own (c := c) hf
      refine ⟨_, by rw [h1], ?_⟩
      rw [idxIn_right (fun hm => hnd.1 (List.mem_reverse.1 (mem_laySlots hm)))]
      unfold ownSlots
      rw [h2]; rfl
    | none =>
      rw [fieldIdx_none hf]
      dsimp only
      cases hg : fieldGo cs n r with
      | some x =>
        rw [hg] at ih
        obtain ⟨k, h1, h2⟩ := ih
        exact ⟨k, h1, idxIn_left h2⟩
      | none => rw [hg] at ih; exact ih
theorem place_of {l : List Class} (h : Right l) {c n : Str} (hk : (findC (allC l) c).isSome = true) :
    match fieldC (allC l) c n with
    | some x => ∃ k, placeC (allC l) c n = some k ∧ idxIn x (layC (allC l) c) = some k
    | none => placeC (allC l) c n = none := place_idx (allC l) n _ (h.line_nodup c hk)
end Go.Proofs.YtbakcdgjibmceaaGreatDoor
