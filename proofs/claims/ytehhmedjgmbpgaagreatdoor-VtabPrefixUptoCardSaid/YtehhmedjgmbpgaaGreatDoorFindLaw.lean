/-
  PLAIN DEFINITIONS: whose a field or a method is.
-/
import Derived.Test.YtehhmedjgmbpgaaGreatDoorLineLaw
namespace Go.Proofs.YtehhmedjgmbpgaaGreatDoor
open Go.RowKit Go.Shelf Go.Lib
def noField : Field := ⟨.empty, .empty⟩
def noMethod : Method := ⟨.empty, .empty, false, false, false, 0, [], []⟩
/-- the first field of a name -/
def fieldIn (n : Str) : List Field → Option Field
  | [] => none
  | f :: r => if f.name = n then some f else fieldIn n r
theorem fieldIn_drop (n : Str) (l : List Field) (k : Nat) (x : Field) (h : l[k]? = some x) : fieldIn n (l.drop k) = if x.name = n then some x else fieldIn n (l.drop (k + 1)) := by
  obtain ⟨hk, rfl⟩ := List.getElem?_eq_some_iff.1 h
  rw [List.drop_eq_getElem_cons hk]; rfl
/-- the first class of a line that has a field of a name -/
def fieldGo (cs : List Class) (n : Str) : List Str → Option (Str × Field)
  | [] => none
  | c :: r => match fieldIn n (classC cs c).fields with
    | some f => some (c, f)
    | none => fieldGo cs n r
theorem fieldGo_drop (cs : List Class) (n : Str) (l : List Str) (k : Nat) (x : Str) (h : l[k]? = some x) : fieldGo cs n (l.drop k) = match fieldIn n (classC cs x).fields with
    | some f => some (x, f)
    | none => fieldGo cs n (l.drop (k + 1)) := by
  obtain ⟨hk, rfl⟩ := List.getElem?_eq_some_iff.1 h
  rw [List.drop_eq_getElem_cons hk]; rfl
/-- the first method of a name and a type -/
def ownIn (n t : Str) : List Method → Option Method
  | [] => none
  | m :: r => if m.name = n ∧ m.type = t then some m else ownIn n t r
theorem ownIn_drop (n t : Str) (l : List Method) (k : Nat) (x : Method) (h : l[k]? = some x) : ownIn n t (l.drop k) = if x.name = n ∧ x.type = t then some x else ownIn n t (l.drop (k + 1)) := by
  obtain ⟨hk, rfl⟩ := List.getElem?_eq_some_iff.1 h
  rw [List.drop_eq_getElem_cons hk]; rfl
/-- the first class of a line that has a method of a name and a type -/
def methodGo (cs : List Class) (n t : Str) : List Str → Option (Str × Method)
  | [] => none
  | c :: r => match ownIn n t (classC cs c).methods with
    | some m => some (c, m)
    | none => methodGo cs n t r
theorem methodGo_drop (cs : List Class) (n t : Str) (l : List Str) (k : Nat) (x : Str) (h : l[k]? = some x) : methodGo cs n t (l.drop k) = match ownIn n t (classC cs x).methods with
    | some m => some (x, m)
    | none => methodGo cs n t (l.drop (k + 1)) := by
  obtain ⟨hk, rfl⟩ := List.getElem?_eq_some_iff.1 h
  rw [List.drop_eq_getElem_cons hk]; rfl
/-- the first face among some that has a method of a name and a type, abstract or not -/
def faceGo (cs : List Class) (n t : Str) (a : Bool) : List Str → Option (Str × Method)
  | [] => none
  | c :: r => match ownIn n t (classC cs c).methods with
    | some m => if ((classC cs c).face && (m.abs == a)) = true then some (c, m) else faceGo cs n t a r
    | none => faceGo cs n t a r
theorem faceGo_drop (cs : List Class) (n t : Str) (a : Bool) (l : List Str) (k : Nat) (x : Str) (h : l[k]? = some x) : faceGo cs n t a (l.drop k) = match ownIn n t (classC cs x).methods with
    | some m => if ((classC cs x).face && (m.abs == a)) = true then some (x, m) else faceGo cs n t a (l.drop (k + 1))
    | none => faceGo cs n t a (l.drop (k + 1)) := by
  obtain ⟨hk, rfl⟩ := List.getElem?_eq_some_iff.1 h
  rw [List.drop_eq_getElem_cons hk]; rfl
def fieldC (cs : List Class) (cls n : Str) : Option (Str × Field) := fieldGo cs n (lineC cs cls)
def methodC (cs : List Class) (cls n t : Str) : Option (Str × Method) :=
  match methodGo cs n t (lineC cs cls) with
  | some x => some x
  | none => match faceGo cs n t false (sortS (everyC cs cls)) with
    | some x => some x
    | none => faceGo cs n t true (sortS (everyC cs cls))
end Go.Proofs.YtehhmedjgmbpgaaGreatDoor
