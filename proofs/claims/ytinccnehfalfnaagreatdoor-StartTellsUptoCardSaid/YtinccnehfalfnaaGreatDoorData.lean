/-
  DATA. How the program's data read in memory: strings, slices of structs, classes. Nothing of the program is named here but the numbers of cells.
-/
import Derived.WalkKit
namespace Go.Proofs.YtinccnehfalfnaaGreatDoor
open Go.RowKit

structure Ins where
  op : Int
  a : Int
  b : Int
  type : ByteArray
  cls : ByteArray
  name : ByteArray
  deriving DecidableEq
structure Field where
  name : ByteArray
  type : ByteArray
  deriving DecidableEq
structure Handler where
  lo : Int
  hi : Int
  dest : Int
  cls : ByteArray
  deriving DecidableEq
structure Method where
  name : ByteArray
  type : ByteArray
  static : Bool
  abs : Bool
  priv : Bool
  locals : Int
  code : List Ins
  handlers : List Handler
  deriving DecidableEq
structure Class where
  name : ByteArray
  super : ByteArray
  faces : List ByteArray
  face : Bool
  fields : List Field
  methods : List Method
  deriving DecidableEq

/-- the cells vs lie at ⟨b, o, none⟩ and on -/
def Cells (w : World) (b : Nat) : Nat → List Value → Prop
  | _, [] => True
  | o, v :: r => w.cell? ⟨b, o, none⟩ = some v ∧ Cells w b (o + 1) r

/-- v is a slice of the list l: each element x takes k cells, which are one of those that R names. -/
def SliceOf {α : Type} (w : World) (k : Nat) (R : α → List Value → Prop) (v : Value) (l : List α) : Prop :=
  (v = .slice none 0 0 ∧ l = []) ∨
  ∃ a cap, v = .slice (some a) l.length cap ∧ l.length ≤ cap ∧ cap ≤ maxLen ∧
    ∀ i x, l[i]? = some x → ∃ vs, R x vs ∧ vs.length = k ∧ a = ⟨a.block, a.off, none⟩ ∧ Cells w a.block (a.off + i * k) vs

def StrCells (x : ByteArray) (vs : List Value) : Prop := vs = [.string x]
def InsCells (x : Ins) (vs : List Value) : Prop := vs = [.int .i64 x.op, .int .i64 x.a, .int .i64 x.b, .string x.type, .string x.cls, .string x.name]
def FieldCells (x : Field) (vs : List Value) : Prop := vs = [.string x.name, .string x.type]
def HandlerCells (x : Handler) (vs : List Value) : Prop := vs = [.int .i64 x.lo, .int .i64 x.hi, .int .i64 x.dest, .string x.cls]
def MethodCells (w : World) (x : Method) (vs : List Value) : Prop := ∃ cv hv, vs = [.string x.name, .string x.type, .bool x.static, .bool x.abs, .bool x.priv, .int .i64 x.locals, cv, hv] ∧
  SliceOf w 6 InsCells cv x.code ∧ SliceOf w 4 HandlerCells hv x.handlers
def ClassCells (w : World) (x : Class) (vs : List Value) : Prop := ∃ fv dv mv, vs = [.string x.name, .string x.super, fv, .bool x.face, dv, mv] ∧
  SliceOf w 1 StrCells fv x.faces ∧ SliceOf w 2 FieldCells dv x.fields ∧ SliceOf w 8 (MethodCells w) mv x.methods
def ClassesAt (w : World) (v : Value) (l : List Class) : Prop := SliceOf w 6 (ClassCells w) v l
def StrsAt (w : World) (v : Value) (l : List ByteArray) : Prop := SliceOf w 1 StrCells v l

theorem Cells.mono {B : Nat} {w w' : World} (hb : Below B w w') {b : Nat} (h : b < B) : ∀ {vs : List Value} {o : Nat}, Cells w b o vs → Cells w' b o vs
  | [], _, _ => trivial
  | _ :: _, _, ⟨h1, h2⟩ => ⟨(hb.cell (p := ⟨b, _, none⟩) h).trans h1, h2.mono hb h⟩

theorem Cells.lt {w : World} {b o : Nat} {v : Value} {r : List Value} (h : Cells w b o (v :: r)) : b < w.heap.size := by
  have h1 := h.1
  unfold World.cell? at h1
  cases hb : w.heap[b]? with
  | none => simp [hb] at h1
  | some o' =>
    exact (Array.getElem?_eq_some_iff.1 hb).1

theorem SliceOf.mono {α : Type} {w w' : World} (hb : Below w.heap.size w w') {k : Nat} (hk : 0 < k) {R R' : α → List Value → Prop} (hR : ∀ x vs, R x vs → R' x vs) {v : Value} {l : List α}
    (h : SliceOf w k R v l) : SliceOf w' k R' v l := by
  rcases h with h | ⟨a, cap, h1, h2, h3, h4⟩
  · exact Or.inl h
  · refine Or.inr ⟨a, cap, h1, h2, h3, fun i x hi => ?_⟩
    obtain ⟨vs, r1, r2, r3, r4⟩ := h4 i x hi
    refine ⟨vs, hR _ _ r1, r2, r3, ?_⟩
    cases vs with
    | nil => simp at r2; omega
    | cons v r => exact r4.mono hb r4.lt

theorem MethodCells.mono {w w' : World} (hb : Below w.heap.size w w') {x : Method} {vs : List Value} : MethodCells w x vs → MethodCells w' x vs
  | ⟨cv, hv, h1, h2, h3⟩ => ⟨cv, hv, h1, h2.mono hb (by decide) (fun _ _ h => h), h3.mono hb (by decide) (fun _ _ h => h)⟩
theorem ClassCells.mono {w w' : World} (hb : Below w.heap.size w w') {x : Class} {vs : List Value} : ClassCells w x vs → ClassCells w' x vs
  | ⟨fv, dv, mv, h1, h2, h3, h4⟩ => ⟨fv, dv, mv, h1, h2.mono hb (by decide) (fun _ _ h => h), h3.mono hb (by decide) (fun _ _ h => h), h4.mono hb (by decide) (fun _ _ h => h.mono hb)⟩
theorem ClassesAt.mono {w w' : World} (hb : Below w.heap.size w w') {v : Value} {l : List Class} (h : ClassesAt w v l) : ClassesAt w' v l :=
  SliceOf.mono hb (by decide) (fun _ _ h => h.mono hb) h
theorem StrsAt.mono {w w' : World} (hb : Below w.heap.size w w') {v : Value} {l : List ByteArray} (h : StrsAt w v l) : StrsAt w' v l :=
  SliceOf.mono hb (by decide) (fun _ _ h => h) h

/-- what a slice holds at an index, laid open -/
theorem SliceOf.at {α : Type} {w : World} {k : Nat} {R : α → List Value → Prop} {v : Value} {l : List α} (h : SliceOf w k R v l) {i : Nat} (hi : i < l.length) :
    ∃ b o cap vs, v = .slice (some ⟨b, o, none⟩) l.length cap ∧ R l[i] vs ∧ vs.length = k ∧ Cells w b (o + i * k) vs := by
  rcases h with ⟨_, h⟩ | ⟨a, cap, h1, h2, h3, h4⟩
  · subst h; simp at hi
  · obtain ⟨vs, r1, r2, r3, r4⟩ := h4 i l[i] (by simp [hi])
    exact ⟨a.block, a.off, cap, vs, by rw [h1]; congr 2, r1, r2, r4⟩
end Go.Proofs.YtinccnehfalfnaaGreatDoor
