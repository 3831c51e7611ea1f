/-
  DATA. How the program's data read in memory: strings, slices of structs, classes. Nothing of the program is named here but the numbers of cells.
  PLAIN DEFINITIONS: what the document's names, types, instructions, code, classes and worlds are. No program in sight.
  PLAIN LAWS of the texts of types: deepOf, semiAt, coreLen, typeLen by places. No program in sight.
  PLAIN LAWS for the walks over words and types. No function of the program is named.
-/
import Derived.Test.YtlmfmioljeppfaaGreatDoorProg
import Derived.WalkKit
import Derived.Lib.Strings
import Derived.Lib.IndexLaws
import Derived.WalkSpells
import Derived.WalkLawsBesides
import Derived.Lib.Hide
namespace Go.Proofs.YtlmfmioljeppfaaGreatDoor
open Go.RowKit
structure Ins where
  op : Int
  a : Int
  b : Int
  type : ByteArray
  cls : ByteArray
  name : ByteArray
  deriving DecidableEq
structure Field where
  name : ByteArray
  type : ByteArray
  deriving DecidableEq
structure Handler where
  lo : Int
  hi : Int
  dest : Int
  cls : ByteArray
  deriving DecidableEq
structure Method where
  name : ByteArray
  type : ByteArray
  static : Bool
  abs : Bool
  priv : Bool
  locals : Int
  code : List Ins
  handlers : List Handler
  deriving DecidableEq
structure Class where
  name : ByteArray
  super : ByteArray
  faces : List ByteArray
  face : Bool
  fields : List Field
  methods : List Method
  deriving DecidableEq
def Cells (w : World) (b : Nat) : Nat → List Value → Prop
  | _, [] => True
  | o, v :: r => w.cell? ⟨b, o, none⟩ = some v ∧ Cells w b (o + 1) r
def SliceOf {α : Type} (w : World) (k : Nat) (R : α → List Value → Prop) (v : Value) (l : List α) : Prop :=
  (v = .slice none 0 0 ∧ l = []) ∨
  ∃ a cap, v = .slice (some a) l.length cap ∧ l.length ≤ cap ∧ cap ≤ maxLen ∧
    ∀ i x, l[i]? = some x → ∃ vs, R x vs ∧ vs.length = k ∧ a = ⟨a.block, a.off, none⟩ ∧ Cells w a.block (a.off + i * k) vs
def StrCells (x : ByteArray) (vs : List Value) : Prop := vs = [.string x]
def InsCells (x : Ins) (vs : List Value) : Prop := vs = [.int .i64 x.op, .int .i64 x.a, .int .i64 x.b, .string x.type, .string x.cls, .string x.name]
def FieldCells (x : Field) (vs : List Value) : Prop := vs = [.string x.name, .string x.type]
def HandlerCells (x : Handler) (vs : List Value) : Prop := vs = [.int .i64 x.lo, .int .i64 x.hi, .int .i64 x.dest, .string x.cls]
def MethodCells (w : World) (x : Method) (vs : List Value) : Prop := ∃ cv hv, vs = [.string x.name, .string x.type, .bool x.static, .bool x.abs, .bool x.priv, .int .i64 x.locals, cv, hv] ∧
  SliceOf w 6 InsCells cv x.code ∧ SliceOf w 4 HandlerCells hv x.handlers
def ClassCells (w : World) (x : Class) (vs : List Value) : Prop := ∃ fv dv mv, vs = [.string x.name, .string x.super, fv, .bool x.face, dv, mv] ∧
  SliceOf w 1 StrCells fv x.faces ∧ SliceOf w 2 FieldCells dv x.fields ∧ SliceOf w 8 (MethodCells w) mv x.methods
def ClassesAt (w : World) (v : Value) (l : List Class) : Prop := SliceOf w 6 (ClassCells w) v l
def StrsAt (w : World) (v : Value) (l : List ByteArray) : Prop := SliceOf w 1 StrCells v l
theorem Cells.mono {B : Nat} {w w' : World} (hb : Below B w w') {b : Nat} (h : b < B) : ∀ {vs : List Value} {o : Nat}, Cells w b o vs → Cells w' b o vs
  | [], _, _ => trivial
  | _ :: _, _, ⟨h1, h2⟩ => ⟨(hb.cell (p := ⟨b, _, none⟩) h).trans h1, h2.mono hb h⟩
theorem Cells.lt {w : World} {b o : Nat} {v : Value} {r : List Value} (h : Cells w b o (v :: r)) : b < w.heap.size := by
  have h1 := h.1
  unfold World.cell? at h1
  cases hb : w.heap[b]? with
  | none => simp [hb] at h1
  | some o' =>
    exact (Array.getElem?_eq_some_iff.1 hb).1
theorem SliceOf.mono {α : Type} {w w' : World} (hb : Below w.heap.size w w') {k : Nat} (hk : 0 < k) {R R' : α → List Value → Prop} (hR : ∀ x vs, R x vs → R' x vs) {v : Value} {l : List α}
    (h : SliceOf w k R v l) : SliceOf w' k R' v l := by
  rcases h with h | ⟨a, cap, h1, h2, h3, h4⟩
  · exact Or.inl h
  · refine Or.inr ⟨a, cap, h1, h2, h3, fun i x hi => ?_⟩
    obtain ⟨vs, r1, r2, r3, r4⟩ := h4 i x hi
    refine ⟨vs, hR _ _ r1, r2, r3, ?_⟩
    cases vs with
    | nil => simp at r2; omega
    | cons v r => exact r4.mono hb r4.lt
theorem MethodCells.mono {w w' : World} (hb : Below w.heap.size w w') {x : Method} {vs : List Value} : MethodCells w x vs → MethodCells w' x vs
  | ⟨cv, hv, h1, h2, h3⟩ => ⟨cv, hv, h1, h2.mono hb (by decide) (fun _ _ h => h), h3.mono hb (by decide) (fun _ _ h => h)⟩
theorem ClassCells.mono {w w' : World} (hb : Below w.heap.size w w') {x : Class} {vs : List Value} : ClassCells w x vs → ClassCells w' x vs
  | ⟨fv, dv, mv, h1, h2, h3, h4⟩ => ⟨fv, dv, mv, h1, h2.mono hb (by decide) (fun _ _ h => h), h3.mono hb (by decide) (fun _ _ h => h), h4.mono hb (by decide) (fun _ _ h => h.mono hb)⟩
theorem ClassesAt.mono {w w' : World} (hb : Below w.heap.size w w') {v : Value} {l : List Class} (h : ClassesAt w v l) : ClassesAt w' v l :=
  SliceOf.mono hb (by decide) (fun _ _ h => h.mono hb) h
theorem StrsAt.mono {w w' : World} (hb : Below w.heap.size w w') {v : Value} {l : List ByteArray} (h : StrsAt w v l) : StrsAt w' v l :=
  SliceOf.mono hb (by decide) (fun _ _ h => h) h
theorem SliceOf.at {α : Type} {w : World} {k : Nat} {R : α → List Value → Prop} {v : Value} {l : List α} (h : SliceOf w k R v l) {i : Nat} (hi : i < l.length) :
    ∃ b o cap vs, v = .slice (some ⟨b, o, none⟩) l.length cap ∧ R l[i] vs ∧ vs.length = k ∧ Cells w b (o + i * k) vs := by
  rcases h with ⟨_, h⟩ | ⟨a, cap, h1, h2, h3, h4⟩
  · subst h; simp at hi
  · obtain ⟨vs, r1, r2, r3, r4⟩ := h4 i l[i] (by simp [hi])
    exact ⟨a.block, a.off, cap, vs, by rw [h1]; congr 2, r1, r2, r4⟩
end Go.Proofs.YtlmfmioljeppfaaGreatDoor
namespace Go.Proofs.YtlmfmioljeppfaaGreatDoor
abbrev Str := ByteArray
abbrev lst (s : Str) : List UInt8 := s.data.toList
def str (l : List UInt8) : Str := ⟨l.toArray⟩
def memB (l : List Str) (s : Str) : Bool := l.any fun y => decide (y = s)
theorem memB_iff {l : List Str} {s : Str} : memB l s = true ↔ s ∈ l := by
  unfold memB
  rw [List.any_eq_true]
  constructor
  · rintro ⟨y, h1, h2⟩; rw [of_decide_eq_true h2] at h1; exact h1
  · intro h; exact ⟨s, h, by simp⟩
def isLetter (c : UInt8) : Bool := (97 ≤ c && c ≤ 122) || (65 ≤ c && c ≤ 90) || c == 95
def isDigit (c : UInt8) : Bool := 48 ≤ c && c ≤ 57
def nameB (s : List UInt8) : Bool :=
  match s with
  | [] => false
  | c :: _ => decide (s.length ≤ 20) && !isDigit c && s.all fun c => isLetter c || isDigit c
def deepOf : List UInt8 → Nat
  | [] => 0
  | c :: r => if c = 91 then deepOf r + 1 else 0
def semiAt : List UInt8 → Nat
  | [] => 0
  | c :: r => if c = 59 then 0 else semiAt r + 1
def coreLen (r : List UInt8) : Nat :=
  match r with
  | [] => 0
  | c :: q => if c = 73 ∨ c = 74 then 1 else if c = 76 then (if semiAt q < q.length ∧ nameB (q.take (semiAt q)) = true then semiAt q + 2 else 0) else 0
def typeLen (s : List UInt8) : Nat :=
  if deepOf s ≤ 3 ∧ 0 < coreLen (s.drop (deepOf s)) then deepOf s + coreLen (s.drop (deepOf s)) else 0
def typeB (s : List UInt8) : Bool := !s.isEmpty && typeLen s == s.length
def wordB (s : List UInt8) : Bool := s == [73] || s == [74]
def classIn (s : List UInt8) : List UInt8 :=
  match s.drop (deepOf s) with
  | 76 :: q => q.take (q.length - 1)
  | _ => []
def argsGo : Nat → ByteArray → List ByteArray → ByteArray × List ByteArray × Bool
  | 0, r, acc => (r, acc, false)
  | n + 1, r, acc => if Lib.hasPrefix r.data.toList [41] = true then (r, acc, true) else if typeLen r.data.toList = 0 then (r, acc, false) else argsGo n (r.extract (typeLen r.data.toList) r.size) (acc ++ [r.extract 0 (typeLen r.data.toList)])
def argsFin (r : ByteArray) (is : Bool) (acc : List ByteArray) : ByteArray × List ByteArray × Bool := if is then argsGo (r.size + 1) r acc else (r, acc, false)
def givesOf (r : ByteArray) : ByteArray := ⟨(Lib.trimPrefix r.data.toList [41]).toArray⟩
def goodGives (g : ByteArray) : Bool := g.toList == [86] || typeB g.data.toList
def methodFin (x : ByteArray × List ByteArray × Bool) : Option (List ByteArray × ByteArray) :=
  if x.2.2 = true ∧ x.2.1.length ≤ 5 ∧ goodGives (givesOf x.1) = true then some (x.2.1, givesOf x.1) else none
def methodR (s : ByteArray) : Option (List ByteArray × ByteArray) :=
  methodFin (argsFin ⟨(Lib.trimPrefix s.data.toList [40]).toArray⟩ (Lib.hasPrefix s.data.toList [40]) [])
def jumpsB (op : Int) : Bool := op == 12 || op == 13 || op == 14
def endsB (op : Int) : Bool := op == 14 || op == 26 || op == 27 || op == 28
def needA (op : Int) : Bool := op == 2 || op == 4 || op == 5 || op == 9 || jumpsB op
def needB (op : Int) : Bool := op == 12
def needT (op : Int) : Bool := op == 2 || op == 9 || op == 10 || op == 18 || op == 20 || op == 21 || op == 22 || op == 23 || op == 24 || op == 25
def needC (op : Int) : Bool := op == 15 || op == 16 || op == 17 || op == 24 || op == 25
def needN (op : Int) : Bool := op == 16 || op == 17 || op == 24 || op == 25
def rangedB (x : Ins) : Bool :=
  if x.op = 2 then !(lst x.type == [73]) || (decide (-2147483648 ≤ x.a) && decide (x.a ≤ 2147483647))
  else if x.op = 4 ∨ x.op = 5 then decide (0 ≤ x.a) && decide (x.a < 8)
  else if x.op = 9 then decide (1 ≤ x.a) && decide (x.a ≤ 12)
  else !jumpsB x.op || (decide (0 ≤ x.a) && decide (x.a ≤ 40) && decide (0 ≤ x.b) && decide (x.b ≤ 5))
def typedB (x : Ins) : Bool :=
  if x.op = 2 ∨ x.op = 9 ∨ x.op = 10 then wordB (lst x.type)
  else if x.op = 18 ∨ x.op = 20 ∨ x.op = 21 then typeB (lst x.type) && typeB (91 :: lst x.type)
  else if x.op = 22 ∨ x.op = 23 then typeB (lst x.type) && !wordB (lst x.type)
  else if x.op = 24 ∨ x.op = 25 then (methodR x.type).isSome
  else true
def insFault (x : Ins) : Nat :=
  if x.op < 1 ∨ 28 < x.op then 1
  else if (!needA x.op && x.a != 0) || (!needB x.op && x.b != 0) || (!needT x.op && x.type.size != 0) || (!needC x.op && x.cls.size != 0) || (!needN x.op && x.name.size != 0) then 1
  else if !rangedB x then 2
  else if !typedB x || (needC x.op && !nameB (lst x.cls)) || (needN x.op && !nameB (lst x.name)) then 1
  else 0
def firstFault {α : Type} (f : α → Nat) : List α → Nat
  | [] => 0
  | x :: r => if f x = 0 then firstFault f r else f x
def codeFault (l : List Ins) : Nat :=
  if 40 < l.length then 4
  else if firstFault insFault l ≠ 0 then firstFault insFault l
  else if l.any fun x => jumpsB x.op && decide ((l.length : Int) ≤ x.a) then 2
  else match l.getLast? with
    | some x => if endsB x.op then 0 else 8
    | none => 8
def handlerFault (many : Nat) (h : Handler) : Nat :=
  if h.lo < 0 ∨ h.hi ≤ h.lo ∨ (many : Int) < h.hi ∨ h.dest < 0 ∨ (many : Int) ≤ h.dest then 2
  else if nameB (lst h.cls) then 0 else 1
def handlersFault (l : List Handler) (many : Nat) : Nat :=
  if firstFault (handlerFault many) l ≠ 0 then firstFault (handlerFault many) l else if 8 < l.length then 4 else 0
def argCount (m : Method) : Nat :=
  match methodR m.type with
  | some (args, _) => if m.static then args.length else args.length + 1
  | none => 0
def bodyFault (m : Method) : Nat :=
  if m.abs then (if m.static || m.priv || !m.code.isEmpty || !m.handlers.isEmpty then 8 else 0)
  else if codeFault m.code ≠ 0 then codeFault m.code
  else if m.locals < argCount m then 2
  else if m.code.any fun x => (x.op == 4 || x.op == 5) && decide (m.locals ≤ x.a) then 2
  else handlersFault m.handlers m.code.length
def methodFault (m : Method) (ahead : List Method) : Nat :=
  if !nameB (lst m.name) then 1
  else if (methodR m.type).isNone then 1
  else if ahead.any fun x => decide (x.name = m.name) && decide (x.type = m.type) then 5
  else if m.locals < 0 ∨ 8 < m.locals then 2
  else bodyFault m
def foldFault {α : Type} (f : α → List α → Nat) : List α → List α → Nat
  | _, [] => 0
  | ahead, x :: r => if f x ahead = 0 then foldFault f (ahead ++ [x]) r else f x ahead
def faceFault (s : Str) (ahead : List Str) : Nat := if !nameB (lst s) then 1 else if memB ahead s then 5 else 0
def fieldFault (x : Field) (ahead : List Field) : Nat :=
  if !nameB (lst x.name) || !typeB (lst x.type) then 1 else if ahead.any fun y => decide (y.name = x.name) then 5 else 0
def classFault (c : Class) : Nat :=
  if !nameB (lst c.name) || (c.super.size != 0 && !nameB (lst c.super)) then 1
  else if foldFault faceFault [] c.faces ≠ 0 then foldFault faceFault [] c.faces
  else if 8 < c.faces.length ∨ 8 < c.fields.length ∨ 8 < c.methods.length then 4
  else if foldFault fieldFault [] c.fields ≠ 0 then foldFault fieldFault [] c.fields
  else if foldFault methodFault [] c.methods ≠ 0 then foldFault methodFault [] c.methods
  else if c.face && !c.fields.isEmpty then 8 else 0
def sObject : Str := ⟨#[79, 98, 106, 101, 99, 116]⟩
def sFault : Str := ⟨#[70, 97, 117, 108, 116]⟩
def noClass : Class := ⟨.empty, .empty, [], false, [], []⟩
def cObject : Class := { noClass with name := sObject }
def cFault : Class := { noClass with name := sFault, super := sObject }
def find? (w : List Class) (n : Str) : Option Class :=
  if n = sObject then some cObject else if n = sFault then some cFault else w.find? fun c => decide (c.name = n)
def names (w : List Class) : List Str := sObject :: sFault :: w.map (·.name)
end Go.Proofs.YtlmfmioljeppfaaGreatDoor
namespace Go.Proofs.YtlmfmioljeppfaaGreatDoor
theorem deepOf_le (l : List UInt8) : deepOf l ≤ l.length := by
  induction l with
  | nil => simp [deepOf]
  | cons c r ih => unfold deepOf; split <;> simp <;> omega
theorem length_eq (s : ByteArray) : s.data.toList.length = s.size := by simp
end Go.Proofs.YtlmfmioljeppfaaGreatDoor
namespace Go.Proofs.YtlmfmioljeppfaaGreatDoor
open Go.RowKit
theorem ret_bool {a b : Bool} (h : a = b) : Ending.returned (.bool a) = Ending.returned (.bool b) := by rw [h]
def signB (c : UInt8) : Bool := isLetter c || isDigit c
theorem nameB_eq (s : ByteArray) : nameB s.data.toList = (decide (0 < s.size) && decide (s.size ≤ 20) && (match s.data.toList with | [] => false | c :: _ => !isDigit c) && s.data.toList.all signB) := by
  have hs : s.data.toList.length = s.size := by simp
  unfold nameB
  cases h : s.data.toList with
  | nil => rw [h] at hs; simp at hs; simp [← hs]
  | cons c r =>
    rw [h] at hs
    have h0 : 0 < s.size := by rw [← hs]; simp
    rw [hs]
    have e : signB = fun c => isLetter c || isDigit c := rfl
    simp [h0, e]
theorem head_match {s : ByteArray} (h : 0 < s.size) : (match s.data.toList with | [] => false | c :: _ => !isDigit c) = !isDigit s[0] := by
  have e : s.data.toList[0]'(by simpa using h) = s[0] := rfl
  cases h2 : s.data.toList with
  | nil =>
    have : s.data.toList.length = s.size := by simp
    rw [h2] at this; simp at this; omega
  | cons c r =>
    have h3 := List.getElem_of_eq h2 (i := 0) (by simpa using h)
    rw [e] at h3
    rw [h3]; rfl
end Go.Proofs.YtlmfmioljeppfaaGreatDoor
namespace Go.Proofs.YtlmfmioljeppfaaGreatDoor
open Go.RowKit
theorem sign_not {s : ByteArray} {i : Nat} {h : i < s.size} {c : UInt8} {n : Int} (e : s[i]'h ≠ c) (hn : (c.toNat : Int) = n) : (((s[i]'h).toNat : Int) == n) = false := by
  rw [beq_eq_false_iff_ne, ← hn]
  intro h2
  exact e (UInt8.toNat_inj.1 (by omega))
theorem core_at (s : ByteArray) (i : Nat) (h : i < s.size) : coreLen (s.data.toList.drop i) =
    if s[i] = 73 ∨ s[i] = 74 then 1 else if s[i] = 76 then (if i + 1 + semiAt (s.data.toList.drop (i + 1)) < s.size ∧ nameB ((s.extract (i + 1) (i + 1 + semiAt (s.data.toList.drop (i + 1)))).data.toList) = true then semiAt (s.data.toList.drop (i + 1)) + 2 else 0) else 0 := by
  have e : s.data.toList.drop i = s[i] :: s.data.toList.drop (i + 1) := by
    rw [List.drop_eq_getElem_cons (by simpa using h)]; rfl
  have hl : (s.data.toList.drop (i + 1)).length = s.size - (i + 1) := by simp
  have hx : (s.extract (i + 1) (i + 1 + semiAt (s.data.toList.drop (i + 1)))).data.toList = (s.data.toList.drop (i + 1)).take (semiAt (s.data.toList.drop (i + 1))) := by
    rw [Lib.extract_data]; congr 1; omega
  rw [hx, e]
  unfold coreLen
  simp only [hl]
  have : (semiAt (s.data.toList.drop (i + 1)) < s.size - (i + 1)) ↔ (i + 1 + semiAt (s.data.toList.drop (i + 1)) < s.size) := by omega
  simp only [this]
theorem core_end (s : ByteArray) (i : Nat) (h : s.size ≤ i) : coreLen (s.data.toList.drop i) = 0 := by
  rw [List.drop_of_length_le (by simpa using h)]; rfl
theorem extract_small {s : ByteArray} {a b : Nat} (h : s.size ≤ maxLen) : (s.extract a b).size ≤ maxLen := by
  have : (s.extract a b).size ≤ s.size := by simp; omega
  omega
end Go.Proofs.YtlmfmioljeppfaaGreatDoor
