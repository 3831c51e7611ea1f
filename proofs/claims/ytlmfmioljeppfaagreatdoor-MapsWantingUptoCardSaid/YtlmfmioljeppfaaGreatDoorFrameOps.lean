/-
  WALKS over same.Method, of a method without code and handlers; blocks that are stored to.
  ROWS of structs of three texts (lay's slots, tables' slots): append of one element on a row of the call's own.
  EQUALITY of structs of texts: fields, lay's slots, tables' slots.
  ROWS of texts: where they point, append of a list of texts on a row of the call's own.
  slices.Reverse on a row of texts that the call owns.
  WALKS over lay.slots, Types. Conditions: a right world, a class that is there.
  WALKS over the reference's FieldTypes, FieldPlace. Conditions: a right world, a class that is there.
  PLAIN LAW: heaps; what is wrong with one; which value holds which type; new things.
  HEAPS in memory; WALKS over heap.Does, Zero, num.Word. Conditions: a right world; things with right types.
  WALKS over bits.Mul64, Mul, slices.Repeat of one text at most ten times. Conditions: so many.
  WALKS over heap.types, formed. Conditions: a right world; a type's text of at most maxLen signs.
  PLAIN LAW: the types of what right things have are types.
  WALKS over heap.Right, read, Check. Conditions: a right world; types' texts of at most maxLen signs.
  WALK over the law's beasts.
  WALKS over sub.Read, Fits, Is and the law's catIs. Conditions: as in XRead; texts of at most maxLen signs.
  WALKS over join.classes. Conditions: a right world, classes that are there.
  WALKS over join.Of, Join, Below. Conditions: a right world, kinds that are there; texts of at most 4194304 signs.
  WALKS over heap.read, Check, Holds. Conditions: as in XRead; types' texts of at most maxLen signs.
  ROWS of values and of things: append of one, what lies at an index, slices.Clone of values. Conditions: lists of at most 4194304 elements.
  WALKS over heap.Zero, Copy, Fresh, More. Conditions: things of right types; rows of at most 4194304 elements.
  PLAIN LAW: frames; what is wrong with one; two joined.
  WALKS over slices.Grow of nil, slices.Concat of two lists of texts, slices.Equal. Conditions: at most sixteen texts in all (Concat).
  WALKS over frame.check, Check, Both, Same, Join, Below. Conditions: as in XRead; kinds' texts of at most maxLen signs.
  WALKS over frame.Join, Below. Conditions: as in XRead; kinds' texts of at most 4194304 signs.
-/
import Derived.Test.YtlmfmioljeppfaaGreatDoorFind
import Derived.Test.YtlmfmioljeppfaaGreatDoorLineLaw
import Derived.Test.YtlmfmioljeppfaaGreatDoorShelf
import Derived.Test.YtlmfmioljeppfaaGreatDoorLayLaw
import Derived.Test.YtlmfmioljeppfaaGreatDoorSub
import Derived.Deep.QuietTactic
import Derived.BigQuiet
import Derived.Lib.AppendZeros
import Derived.Sort.OwnSorted
import Derived.Lib.OwnBridge
import Derived.Laws.CopyOwn
import Derived.IntWalk
import Derived.Deep.OwnRows
import Derived.Deep.RegionLaw
import Derived.Deep.RegionHeld3
import Derived.StillTailTactics
import Derived.Lib.SliceRun
import Derived.Deep.AppendLies
import Derived.Lib.AppendZerosOnto
namespace Go.Proofs.YtlmfmioljeppfaaGreatDoor
open Go.RowKit Go.Shelf Go.Lib
theorem Blk.put {w : World} {b : Nat} {t : TypeId} {vals : List Value} (h : Blk w b t vals) (j : Nat) (v : Value) : Blk (w.setCell ⟨b, j, none⟩ v) b t (vals.set j v) := by
  unfold Blk at *
  rw [heap_setCell_same w b j _ t v h]
  simp
theorem Blk.other {w : World} {b b' : Nat} {t : TypeId} {vals : List Value} (h : Blk w b t vals) (hne : b ≠ b') (j : Nat) (v : Value) : Blk (w.setCell ⟨b', j, none⟩ v) b t vals := by
  unfold Blk at *
  rw [heap_setCell_other w ⟨b', j, none⟩ b v hne]; exact h
theorem Blk.put2 {w : World} {b : Nat} {t : TypeId} {a0 a1 : Value} (h : Blk w b t [a0, a1]) (v0 v1 : Value) : Blk ((w.setCell ⟨b, 0, none⟩ v0).setCell ⟨b, 1, none⟩ v1) b t [v0, v1] := (h.put 0 v0).put 1 v1
theorem Blk.cells2 {w : World} {b : Nat} {t : TypeId} {a0 a1 : Value} (h : Blk w b t [a0, a1]) : w.cell? ⟨b, 0, none⟩ = some a0 ∧ w.cell? ⟨b, 1, none⟩ = some a1 := ⟨h.cell 0, h.cell 1⟩
theorem Blk.cells8 {w : World} {b : Nat} {t : TypeId} {a0 a1 a2 a3 a4 a5 a6 a7 : Value} (h : Blk w b t [a0, a1, a2, a3, a4, a5, a6, a7]) :
    w.cell? ⟨b, 0, none⟩ = some a0 ∧ w.cell? ⟨b, 1, none⟩ = some a1 ∧ w.cell? ⟨b, 2, none⟩ = some a2 ∧ w.cell? ⟨b, 3, none⟩ = some a3 ∧ w.cell? ⟨b, 4, none⟩ = some a4 ∧ w.cell? ⟨b, 5, none⟩ = some a5 ∧ w.cell? ⟨b, 6, none⟩ = some a6 ∧ w.cell? ⟨b, 7, none⟩ = some a7 :=
  ⟨h.cell 0, h.cell 1, h.cell 2, h.cell 3, h.cell 4, h.cell 5, h.cell 6, h.cell 7⟩
end Go.Proofs.YtlmfmioljeppfaaGreatDoor
namespace Go.Proofs.YtlmfmioljeppfaaGreatDoor
open Go.RowKit Go.Shelf Go.Lib
end Go.Proofs.YtlmfmioljeppfaaGreatDoor
namespace Go.Proofs.YtlmfmioljeppfaaGreatDoor
open Go.RowKit Go.Shelf Go.Lib
theorem cells_blk {w : World} {b o : Nat} {v : Value} (h : w.cell? ⟨b, o, none⟩ = some v) : b < w.heap.size := Cells.lt (w := w) (b := b) (o := o) (v := v) (r := []) ⟨h, trivial⟩
theorem cells_every {w : World} {b : Nat} : ∀ {vs : List Value} {o : Nat}, (∀ i v, vs[i]? = some v → w.cell? ⟨b, o + i, none⟩ = some v) → Cells w b o vs
  | [], _, _ => trivial
  | v :: r, o, h => ⟨h 0 v rfl, cells_every fun i x hx => by
      have := h (i + 1) x (by simpa using hx)
      rwa [show o + (i + 1) = o + 1 + i by omega] at this⟩
theorem boxed_mk (w : World) (cs : Array Value) (t : TypeId) : Boxed w (w.alloc (.cells cs t)) cs.toList :=
  ⟨(Below.refl _ _).alloc (Nat.le_refl _) _, by simp, cells_every fun i v h => by
    rw [cell_of_row (w.alloc (.cells cs t)) w.heap.size (0 + i) cs t (0, 0) (heap_alloc_new _ _), Nat.zero_add]
    simpa using h⟩
end Go.Proofs.YtlmfmioljeppfaaGreatDoor
namespace Go.Proofs.YtlmfmioljeppfaaGreatDoor
open Go.RowKit Go.Shelf Go.Lib
theorem strs_one (w : World) (s : Str) : StrsAt (w.alloc (.cells #[.string s] 9)) (.slice (some ⟨w.heap.size, 0, none⟩) 1 1) [s] :=
  strsAt_of_owns (l := [s]) (ownsRow_one w w.heap.size (.string s) (Nat.le_refl _))
theorem StrsAt.ptr {w : World} {p : Option Addr} {n c : Nat} {l : List Str} (h : StrsAt w (.slice p n c) l) (hl : 0 < l.length) : (∃ b o, p = some ⟨b, o, none⟩) ∧ n = l.length ∧ n ≤ c ∧ c ≤ maxLen := by
  rcases h with ⟨_, h⟩ | ⟨a, cap, h1, h2, h3, h4⟩
  · rw [h] at hl; simp at hl
  · injection h1 with e1 e2 e3
    subst e1 e2 e3
    obtain ⟨y, r, rfl⟩ := List.exists_cons_of_ne_nil (List.ne_nil_of_length_pos hl)
    obtain ⟨_, _, _, r3, _⟩ := h4 0 y rfl
    exact ⟨⟨a.block, a.off, congrArg some r3⟩, rfl, h2, h3⟩
theorem StrsAt.cell {w : World} {b o n c : Nat} {l : List Str} (h : StrsAt w (.slice (some ⟨b, o, none⟩) n c) l) {k : Nat} {x : Str} (hx : l[k]? = some x) : w.cell? ⟨b, o + k, none⟩ = some (.string x) := by
  rcases h with ⟨h, _⟩ | ⟨a, cap, h1, h2, h3, h4⟩
  · simp at h
  · injection h1 with e1
    injection e1 with e1
    subst e1
    obtain ⟨vs, r1, _, _, r4⟩ := h4 k x hx
    unfold StrCells at r1; subst r1
    have := r4.1
    rwa [Nat.mul_one] at this
theorem wpList_append_strs {w : World} {ops : Array Oper} {rest : List Oper} {o : Oper} {a : Act} {Q : Exit → Act → World → Prop} (hgd : o.guard = none) (s x : Operand)
    (ho : o.op = .call { callee := .builtin .append, args := #[s, x], argTypes := #[25, 25] })
    (base : Nat) (v : Value) (n : Nat) (xs : List Value) (hs : a.eval s = v) (hown : w.ownsRow base 9 1 v n xs)
    (y : Value) (l : List Str) (hx : a.eval x = y) (hy : StrsAt w y l) (h63 : n + l.length ≤ maxLen) (hbytes : (n + l.length) * 16 ≤ 140737488355328) (hbase : base ≤ w.heap.size)
    (h : ∀ v' w', w'.ownsRow base 9 1 v' (n + l.length) (xs ++ l.map Value.string) → w.grownBy w' v.ownBlock → (v'.ownBlock = v.ownBlock ∨ v'.ownBlock = some w.heap.size) → wpList Tryz.prog ops Q rest (a.put o.dst v') w') :
    wpList Tryz.prog ops Q (o :: rest) a w := by
  obtain ⟨i0, hi, hz0, hz1, hz2⟩ := info_parts info_string
  rcases hy with ⟨rfl, rfl⟩ | ⟨ad, cap, rfl, _⟩
  · refine wpList_append_own_none hgd s x 25 ho base 9 i0 1 Tryz.underlying25 hi v n xs hs hown hx ?_
    exact h v w (by simpa using hown) (World.grownBy.refl w _) (Or.inl rfl)
  · have hy : StrsAt w (.slice (some ad) l.length cap) l := Or.inr ⟨ad, cap, rfl, by assumption⟩
    refine wpList_append_own_at _ hgd s x 25 ho base 9 i0 (.string .empty) 1 16 Tryz.underlying25 hi hz0 hz1 hz2 rfl (by decide) v n xs hs hown ad l.length cap (l.map Value.string) hx (by simp) (strs_news hy)
      (fun u hu => by obtain ⟨x, _, rfl⟩ := List.mem_map.1 hu; rfl) h63 hbytes hbase fun v' w' h1 h2 _ h4 => h v' w' h1 h2 h4
theorem ownsRow_none (w : World) (base : Nat) (hb : base ≤ w.heap.size) : (w.alloc (.cells #[] 9)).ownsRow base 9 1 (.slice (some ⟨w.heap.size, 0, none⟩) 0 0) 0 [] :=
  ⟨rfl, Or.inr ⟨w.heap.size, 0, #[], rfl, hb, heap_alloc_new _ _, Nat.le_refl _, by decide, rfl, rfl⟩⟩
theorem lineF_length (cs : List Class) : ∀ (f : Nat) (n : Str), (lineF cs f n).length ≤ f + 1
  | 0, _ => by simp [lineF]
  | f + 1, n => by
    rw [lineF]
    split
    · simp
    · have := lineF_length cs f (classC cs n).super
      simp; omega
end Go.Proofs.YtlmfmioljeppfaaGreatDoor
namespace Go.Proofs.YtlmfmioljeppfaaGreatDoor
open Go.RowKit Go.Shelf Go.Lib Go.Sort
theorem heap_turned {w : World} {g n : Nat} {cur : Array Value} {e : TypeId} {fr : Nat × Nat} (d : Array (List UInt8)) (hb : w.heap[g]? = some (.cells cur e fr)) :
    (putRow encStr (Sort.ahead w n) g 0 d).heap[g]? = some (.cells (putCells encStr 0 d cur) e fr) := by
  simp [putRow, mapBlock, Sort.ahead, Array.getElem?_modify, hb, onCells]
theorem grownBy_turned {w : World} {g n : Nat} (d : Array (List UInt8)) : w.grownBy (putRow encStr (Sort.ahead w n) g 0 d) (some g) := by
  refine ⟨rfl, rfl, rfl, by simp, fun k hk hne => ?_⟩
  have : g ≠ k := fun e => hne (by rw [e])
  simp [putRow, mapBlock, Sort.ahead, Array.getElem?_modify, this]
theorem ownsRow_turned {w : World} {base g cap n : Nat} {e : TypeId} {cur : Array Value} {ss ts : List (List UInt8)} (hl : ts.length = ss.length) (hbase : base ≤ g) (hb : w.heap[g]? = some (.cells cur e (0, 0)))
    (h1 : ss.length ≤ cap) (h2 : cap ≤ maxLen) (h3 : cur.size = cap * 1) :
    (putRow encStr (Sort.ahead w n) g 0 ts.toArray).ownsRow base e 1 (.slice (some ⟨g, 0, none⟩) ss.length cap) ss.length (ts.map encStr) :=
  ⟨by simp [hl], .inr ⟨g, cap, _, rfl, hbase, heap_turned _ hb, h1, h2, by simp [putCells, h3], by rw [Nat.mul_one, ← hl]; exact take_putCells cur ts (by omega)⟩⟩
theorem reverse_own {w : World} {base : Nat} {a : Option Addr} {c : Nat} {l : List Str} (h : w.ownsRow base 9 1 (.slice a l.length c) l.length (l.map Value.string)) (hl : l.length ≤ 9223372036854775807) :
    Calls Tryz.prog 189 #[.slice a l.length c] w fun e w' => e = .returned (.tuple #[]) ∧ w'.ownsRow base 9 1 (.slice a l.reverse.length c) l.reverse.length (l.reverse.map Value.string) ∧ w.grownBy w' (Value.slice a l.length c).ownBlock := by
  rcases h.2 with ⟨h1, h2⟩ | ⟨g, cap, cur, hv, hbase, hb, k1, k2, k3, k4⟩
  · obtain rfl := List.length_eq_zero_iff.1 h2
    injection h1 with h1 _ h3
    subst h1 h3
    refine (Tryz.slices_Reverse_string_empty none 0 w).mono ?_
    rintro e w' ⟨rfl, rfl⟩
    exact ⟨rfl, h, World.grownBy.refl w' _⟩
  · injection hv with hv1 _ hv3
    subst hv1 hv3
    have hm := Lib.map_encStr l
    have hlen : (l.map (·.data.toList)).length = l.length := by simp
    have hH := holds_of_block (ss := l.map (·.data.toList)) hb (by rw [hlen, hm]; simpa using k4)
    have hc := Tryz.slices_Reverse_string g 0 c (l.map (·.data.toList)) w hH (by rw [hlen]; exact hl)
    rw [hlen] at hc
    refine hc.mono ?_
    rintro e w' ⟨rfl, n, rfl⟩
    have ho := ownsRow_turned (n := n) (ts := (l.map (·.data.toList)).reverse) (ss := l.map (·.data.toList)) (by simp) hbase hb (by rw [hlen]; exact k1) k2 k3
    rw [hlen] at ho
    refine ⟨rfl, ?_, grownBy_turned _⟩
    have : ((l.map (·.data.toList)).reverse.map Proofs.encStr) = l.reverse.map Value.string := by
      rw [← List.map_reverse]; exact Lib.map_encStr l.reverse
    rw [this] at ho
    rw [List.length_reverse]
    exact ho
theorem reverse_at {w : World} {base : Nat} {a : Option Addr} {c n : Nat} {l : List Str} (h : w.ownsRow base 9 1 (.slice a n c) n (l.map Value.string)) (hn : n = l.length) (hl : n ≤ 9223372036854775807) :
    Calls Tryz.prog 189 #[.slice a n c] w fun e w' => e = .returned (.tuple #[]) ∧ w'.ownsRow base 9 1 (.slice a n c) n (l.reverse.map Value.string) ∧ w.grownBy w' (Value.slice a n c).ownBlock := by
  subst hn
  have := reverse_own h hl
  rwa [List.length_reverse] at this
end Go.Proofs.YtlmfmioljeppfaaGreatDoor
namespace Go.Proofs.YtlmfmioljeppfaaGreatDoor
open Go.RowKit Go.Shelf Go.Lib
end Go.Proofs.YtlmfmioljeppfaaGreatDoor
namespace Go.Proofs.YtlmfmioljeppfaaGreatDoor
open Go.RowKit Go.Shelf Go.Lib
structure Val where
  kind : Int
  n : Int
  deriving DecidableEq
structure Thing where
  type : Str
  has : List Val
  deriving DecidableEq
def parseTy : List UInt8 → Ty
  | [] => .i
  | c :: r => if c = 73 then .i else if c = 74 then .j else if c = 91 then .ar (parseTy r) else .cl (str (r.take (r.length - 1)))
theorem parse_text : ∀ x : Ty, parseTy (tyText x) = x
  | .i => rfl
  | .j => rfl
  | .ar x => by
    show (if (91 : UInt8) = 73 then Ty.i else if (91 : UInt8) = 74 then Ty.j else if (91 : UInt8) = 91 then .ar (parseTy (tyText x)) else _) = _
    rw [if_neg (by decide), if_neg (by decide), if_pos rfl, parse_text x]
  | .cl c => by
    show (if (76 : UInt8) = 73 then Ty.i else if (76 : UInt8) = 74 then Ty.j else if (76 : UInt8) = 91 then _ else Ty.cl (str ((lst c ++ [59]).take ((lst c ++ [59]).length - 1)))) = _
    rw [if_neg (by decide), if_neg (by decide), if_neg (by decide)]
    simp
    rfl
def tyOf (k : Str) : Ty := parseTy (lst k)
theorem tyOf_text {k : Str} {x : Ty} (h : tyText x = lst k) : tyOf k = x := by unfold tyOf; rw [← h, parse_text]
structure ThingTy (cs : List Class) (x : Thing) (t : Ty) : Prop where
  text : tyText t = lst x.type
  good : goodTy cs t = true
  ref : isRef t = true
  deep : deepTy t ≤ 3
theorem ThingTy.of {cs : List Class} {x : Thing} {t : Ty} (h : ThingTy cs x t) : tyOf x.type = t := tyOf_text h.text
theorem firstFault_zero {α : Type} {f : α → Nat} : ∀ {l : List α}, firstFault f l = 0 → ∀ x ∈ l, f x = 0
  | [], _, _, h => by cases h
  | y :: r, h, x, hx => by
    unfold firstFault at h
    by_cases h0 : f y = 0
    · rw [if_pos h0] at h
      rcases List.mem_cons.1 hx with rfl | hx
      · exact h0
      · exact firstFault_zero h x hx
    · rw [if_neg h0] at h; exact absurd h h0
end Go.Proofs.YtlmfmioljeppfaaGreatDoor
namespace Go.Proofs.YtlmfmioljeppfaaGreatDoor
open Go.RowKit Go.Shelf Go.Lib
def ValCells (v : Val) (vs : List Value) : Prop := vs = [.int .i64 v.kind, .int .i64 v.n]
def ThingCells (w : World) (x : Thing) (vs : List Value) : Prop := ∃ hv, vs = [.string x.type, hv] ∧ SliceOf w 2 ValCells hv x.has
def ThingsAt (w : World) (v : Value) (h : List Thing) : Prop := SliceOf w 2 (ThingCells w) v h
theorem ThingCells.mono {w w' : World} (hb : Below w.heap.size w w') {x : Thing} {vs : List Value} : ThingCells w x vs → ThingCells w' x vs
  | ⟨hv, h1, h2⟩ => ⟨hv, h1, h2.mono hb (by decide) (fun _ _ h => h)⟩
theorem ThingsAt.mono {w w' : World} (hb : Below w.heap.size w w') {v : Value} {h : List Thing} (hh : ThingsAt w v h) : ThingsAt w' v h := SliceOf.mono hb (by decide) (fun _ _ h => h.mono hb) hh
end Go.Proofs.YtlmfmioljeppfaaGreatDoor
namespace Go.Proofs.YtlmfmioljeppfaaGreatDoor
open Go.RowKit Go.Shelf Go.Lib
end Go.Proofs.YtlmfmioljeppfaaGreatDoor
namespace Go.Proofs.YtlmfmioljeppfaaGreatDoor
open Go.RowKit Go.Shelf Go.Lib
end Go.Proofs.YtlmfmioljeppfaaGreatDoor
namespace Go.Proofs.YtlmfmioljeppfaaGreatDoor
open Go.RowKit Go.Shelf Go.Lib
structure TyText (t : Str) (y : Ty) : Prop where
  text : tyText y = lst t
  name : nameOk y = true
  deep : deepTy y ≤ 3
theorem TyText.of {t : Str} {y : Ty} (h : TyText t y) : tyOf t = y := tyOf_text h.text
theorem ty_of_type {t : Str} (h : typeB (lst t) = true) : ∃ y, TyText t y := by
  obtain ⟨y, h1, _, h3⟩ := typeB_ty (lst t) h
  exact ⟨y, h1, h3, deep_of_type (by rw [h1]; exact h)⟩
theorem name_le {s : List UInt8} (h : nameB s = true) : s.length ≤ 20 := by
  unfold nameB at h
  cases s with
  | nil => exact Nat.zero_le _
  | cons a r =>
    simp only [Bool.and_eq_true] at h
    exact of_decide_eq_true h.1.1
theorem ty_size : ∀ y : Ty, nameOk y = true → (tyText y).length ≤ deepTy y + 22
  | .i, _ => by simp [tyText]
  | .j, _ => by simp [tyText]
  | .cl c, h => by
    have := name_le (s := lst c) h
    simp only [tyText, List.length_cons, List.length_append, List.length_nil, deepTy]; omega
  | .ar y, h => by
    have := ty_size y h
    simp only [tyText, List.length_cons, deepTy]; omega
theorem TyText.size {t : Str} {y : Ty} (h : TyText t y) : t.size ≤ maxLen := by
  have h1 := ty_size y h.name
  have h2 : (lst t).length = t.size := rfl
  rw [h.text] at h1
  have := h.deep
  unfold maxLen; omega
theorem fold_fields : ∀ (r a : List Field), foldFault fieldFault a r = 0 → ∀ f ∈ r, typeB (lst f.type) = true
  | [], _, _, f, hf => by cases hf
  | x :: r, a, h, f, hf => by
    unfold foldFault at h
    by_cases h0 : fieldFault x a = 0
    · rw [if_pos h0] at h
      rcases List.mem_cons.1 hf with rfl | hf
      · unfold fieldFault at h0
        split at h0
        · cases h0
        · rename_i h1
          rw [Bool.not_eq_true, Bool.or_eq_false_iff, Bool.not_eq_false', Bool.not_eq_false'] at h1
          exact h1.2
      · exact fold_fields r _ h f hf
    · rw [if_neg h0] at h; exact absurd h h0
theorem class_fields_type {l : List Class} (hf : ∀ c ∈ l, classFault c = 0) (x : Str) : ∀ f ∈ (classC (allC l) x).fields, typeB (lst f.type) = true := by
  unfold classC
  cases hq : findC (allC l) x with
  | none => intro f h; cases h
  | some c =>
    have hm : c ∈ allC l := List.mem_of_find?_eq_some hq
    show ∀ f ∈ c.fields, _
    unfold allC at hm
    rcases List.mem_cons.1 hm with rfl | hm
    · intro f h; cases h
    · rcases List.mem_cons.1 hm with rfl | hm
      · intro f h; cases h
      · have h := hf c hm
        unfold classFault at h
        split at h
        · cases h
        · split at h
          · rename_i h1; exact absurd h h1
          · split at h
            · cases h
            · split at h
              · rename_i h1; exact absurd h h1
              · rename_i h1
                exact fold_fields c.fields [] (by simpa using h1)
theorem first_drop {α : Type} (f : α → Nat) (l : List α) (k : Nat) (x : α) (h : l[k]? = some x) : firstFault f (l.drop k) = if f x = 0 then firstFault f (l.drop (k + 1)) else f x := by
  obtain ⟨hk, rfl⟩ := List.getElem?_eq_some_iff.1 h
  rw [List.drop_eq_getElem_cons hk]; rfl
end Go.Proofs.YtlmfmioljeppfaaGreatDoor
namespace Go.Proofs.YtlmfmioljeppfaaGreatDoor
open Go.RowKit Go.Shelf Go.Lib
end Go.Proofs.YtlmfmioljeppfaaGreatDoor
namespace Go.Proofs.YtlmfmioljeppfaaGreatDoor
open Go.RowKit Go.Shelf Go.Lib
end Go.Proofs.YtlmfmioljeppfaaGreatDoor
namespace Go.Proofs.YtlmfmioljeppfaaGreatDoor
open Go.RowKit Go.Shelf Go.Lib
end Go.Proofs.YtlmfmioljeppfaaGreatDoor
namespace Go.Proofs.YtlmfmioljeppfaaGreatDoor
open Go.RowKit Go.Shelf Go.Lib
set_option maxHeartbeats 1000000 in
set_option maxRecDepth 100000 in
theorem classes_any (w0 w : World) (B : Nat) (l : List Class) (hm : WorldMap w0 w B l) (c d : Str) (hc : (findC (allC l) c).isSome = true) (hd : (findC (allC l) d).isSome = true) :
    Calls Tryz.prog 152 #[.map (some B), .string c, .string d] w fun e w' => e = .returned (.string (if ((classC (allC l) c).face || (classC (allC l) d).face) = true then sObject else lcaC (allC l) c d)) ∧ Below w.heap.size w w' := by
  obtain ⟨p1, k1, p2, k2, p3, k3, _, _, _, _, hlc⟩ := hm.map.look2 hm.right.nodup c (hm.map.names hc)
  obtain ⟨p4, k4, p5, k5, p6, k6, _, _, _, _, hld⟩ := hm.map.look2 hm.right.nodup d (hm.map.names hd)
  have HLd := Lib.hid (line_any w0 w B l hm.right hm.map d hd)
  have HLc : Hid (∀ wx, Below w.heap.size w wx → _) := fun wx hb => line_any w0 wx B l hm.right (hm.map.step hb) c hc
  have hl13 : (lineC (allC l) c).length ≤ 13 := by
    have h1 := lineF_length (allC l) (everyC (allC l) c).length c
    have h2 := (every_facts hm.right.closed hc).1.length
    have h3 := hm.right.small
    unfold lineC; omega
  unfold lcaC
  have hcf := class_face
  show Calls _ _ _ _ fun e w' => e = .returned (.string (if (((findC (allC l) c).getD noClass).face || ((findC (allC l) d).getD noClass).face) = true then sObject else lcaGo (lineC (allC l) d) (lineC (allC l) c))) ∧ Below w.heap.size w w'
  clear hm hc hd
  generalize (findC (allC l) c).getD noClass = x at *
  generalize (findC (allC l) d).getD noClass = y at *
  generalize lineC (allC l) c = Lc at *
  generalize lineC (allC l) d = Ld at *
  obtain ⟨n1, s1, f1, b1, d1, m1⟩ := x
  obtain ⟨n2, s2, f2, b2, d2, m2⟩ := y
  unfold classV at hlc hld
  dsimp only at *
  cases b1 with
  | true =>
    clear HLd HLc hld
    go_enter Tryz.func152, Tryz.ntmps152
    go_wp2
    go_ret
    exact ⟨rfl, Below.refl _ _⟩
  | false =>
    cases b2 with
    | true =>
      clear HLd HLc
      go_enter Tryz.func152, Tryz.ntmps152
      go_wp2
      go_ret
      exact ⟨rfl, Below.refl _ _⟩
    | false =>
      show Calls _ _ _ _ fun e w' => e = .returned (.string (lcaGo Ld Lc)) ∧ Below w.heap.size w w'
      go_enter Tryz.func152, Tryz.ntmps152
      go_wp2_with (first
        | (go_at_call 190; (have hB3' := hB3); (with_reducible refine (HLc.out _ hB3).mono ?_); rintro e w4 ⟨⟨v4, rfl, hv4⟩, hB4⟩; obtain ⟨pa, ca, rfl⟩ := ownsRow_shape hv4)
        | (go_at_call 190; (with_reducible refine HLd.out.mono ?_); rintro e w3 ⟨⟨v3, rfl, hv3⟩, hB3⟩))
      have hs3 := (strsAt_of_owns hv3).mono hB4
      have hs4 := strsAt_of_owns hv4
      have hB := below_call hB3 (Nat.le_refl _) hB4
      obtain ⟨pa', ca', he, h1, h2, hcc⟩ := hs4.open
      injection he with he1 he2 he3
      subst he1 he3
      clear he2
      have HC := Lib.hid hcc
      have HCon : Hid (∀ x, _) := fun x => contains_any Ld v3 x w4 hs3
      have hlen : Lc.length ≤ 9223372036854775807 := Nat.le_trans h1 h2
      clear hs3 hs4 hcc hv3 hv4 hB3 hB4 HLc HLd hlc hld
      go_loopw [27] (fun x wr => ∃ k : Nat, k ≤ Lc.length ∧ Hid (lcaGo Ld (Lc.drop k) = lcaGo Ld Lc) ∧ w4 = wr ∧ x = .int .i64 k) (fun x _ => Lc.length - (intOf x).toNat)
      case atStart => exact ⟨0, by omega, rfl, rfl, rfl⟩
      case round =>
        obtain ⟨k, hk, hff, rfl, rfl⟩ := hrel
        by_cases hkl : k < Lc.length
        · obtain ⟨a, ha⟩ : ∃ a, Lc[k]? = some a := ⟨Lc[k], by simp [hkl]⟩
          obtain ⟨b, o, vs, rfl, hR, _, hcells⟩ := HC.out k a ha
          unfold StrCells at hR; subst hR
          have c0 := hcells.1
          rw [Nat.mul_one] at c0
          have hstep := lcaGo_drop Ld Lc k a ha
          rw [hff.out] at hstep
          have hcon := HCon.out a
          have HX := Lib.hid ha
          clear ha hcells hff
          cases hm : memB Ld a with
          | true =>
            rw [hm] at hcon hstep
            replace hstep : lcaGo Ld Lc = a := hstep
            have HS := Lib.hid hstep
            have HC1 := Lib.hid hcon
            clear hstep hcon hm
            go_wp2_with (go_at_call 119; (with_reducible refine HC1.out.mono ?_); rintro e w5 ⟨rfl, rfl⟩)
            go_ret
            exact ⟨by rw [HS.out]; rfl, hB⟩
          | false =>
            rw [hm] at hcon hstep
            have hst : Hid (lcaGo Ld (Lc.drop (k + 1)) = lcaGo Ld Lc) := hstep.symm
            have HC1 := Lib.hid hcon
            clear hstep hcon hm
            go_wp2_with (go_at_call 119; (with_reducible refine HC1.out.mono ?_); rintro e w5 ⟨rfl, rfl⟩)
            go_roundw
            case rel => exact ⟨k + 1, by omega, hst.out, by simp, by simp⟩
            case measure => simp [intOf]; omega
        · obtain rfl : k = Lc.length := by omega
          have hno : lcaGo Ld Lc = sObject := by rw [← hff.out, List.drop_eq_nil_of_le (Nat.le_refl _)]; rfl
          have HS := Lib.hid hno
          clear hno hff
          go_wp2_with (first | fail)
          go_ret
          exact ⟨by rw [HS.out]; rfl, hB⟩
end Go.Proofs.YtlmfmioljeppfaaGreatDoor
namespace Go.Proofs.YtlmfmioljeppfaaGreatDoor
open Go.RowKit Go.Shelf Go.Lib
def headA : Ty → Bool
  | .ar _ => true
  | _ => false
theorem kd_arr {k : Str} {x : Ty} (h : tyText x = lst k) (hp : 0 < k.size) : (((k[0]'hp).toNat : Int) == 91) = headA x := by
  have hk : k[0]'hp = (lst k)[0]'(by have h1 : (lst k).length = k.size := rfl; omega) := rfl
  have h0 : (lst k)[0]? = (tyText x)[0]? := by rw [h]
  rw [hk]
  have h2 : (lst k)[0]? = some ((lst k)[0]'(by have h1 : (lst k).length = k.size := rfl; omega)) := List.getElem?_eq_getElem _
  rw [h2] at h0
  generalize (lst k)[0]'(by have h1 : (lst k).length = k.size := rfl; omega) = b at *
  cases x with
  | i => simp [tyText] at h0; subst h0; rfl
  | j => simp [tyText] at h0; subst h0; rfl
  | cl c => simp [tyText] at h0; subst h0; rfl
  | ar y => simp [tyText] at h0; subst h0; rfl
def OfPost (w : World) (cs : List Class) (x y : Kd) (n : Nat) (e : Ending) (w' : World) : Prop :=
  (∃ z, e = .returned (.string z) ∧ kdText (joinKd cs x y) = lst z ∧ z.size ≤ n) ∧ Below w.heap.size w w'
theorem of_text {cs : List Class} (T : Tree cs) (ho : (findC cs sObject).isSome = true) {a b : Str} {x y : Kd} (ha : kdText x = lst a) (hb : kdText y = lst b) (hx : goodKd cs x = true)
    (h : x = y ∨ (x = .n ∧ refK y = true) ∨ (y = .n ∧ refK x = true) ∨ (refK x = false ∨ refK y = false)) :
    kdText (joinKd cs x y) = lst (if decide (x = y) then a else if decide (x = .n) && refK y then b else if decide (y = .n) && refK x then a else ⟨#[84]⟩) := by
  by_cases h1 : x = y
  · subst h1
    rw [decide_eq_true rfl, if_pos rfl, join_idem T ho hx]; exact ha
  · rw [decide_eq_false h1, if_neg (by decide)]
    by_cases h2 : x = .n ∧ refK y = true
    · obtain ⟨rfl, h2⟩ := h2
      rw [h2, if_pos (by decide)]
      cases y with
      | n => cases h2
      | t => cases h2
      | ty z => rw [joinKd_nt, if_pos (show isRef z = true from h2)]; exact hb
    · have e2 : (decide (x = .n) && refK y) = false := by
        rw [Bool.and_eq_false_iff]
        by_cases hn : x = .n
        · exact Or.inr (by cases hr : refK y with | false => rfl | true => exact absurd ⟨hn, hr⟩ h2)
        · exact Or.inl (decide_eq_false hn)
      rw [e2, if_neg (by decide)]
      by_cases h3 : y = .n ∧ refK x = true
      · obtain ⟨rfl, h3⟩ := h3
        rw [h3, if_pos (by decide)]
        cases x with
        | n => cases h3
        | t => cases h3
        | ty z => rw [joinKd_tn, if_pos (show isRef z = true from h3)]; exact ha
      · have e3 : (decide (y = .n) && refK x) = false := by
          rw [Bool.and_eq_false_iff]
          by_cases hn : y = .n
          · exact Or.inr (by cases hr : refK x with | false => rfl | true => exact absurd ⟨hn, hr⟩ h3)
          · exact Or.inl (decide_eq_false hn)
        rw [e3, if_neg (by decide)]
        have h4 : refK x = false ∨ refK y = false := by
          rcases h with h | h | h | h
          · exact absurd h h1
          · exact absurd h h2
          · exact absurd h h3
          · exact h
        rw [join_word h1 h2 h3 h4]; rfl
set_option maxHeartbeats 4000000 in
set_option maxRecDepth 100000 in
theorem of_plain (w0 w : World) (B : Nat) (l : List Class) (hm : WorldMap w0 w B l) (a b : Str) (x y : Kd) (ha : kdText x = lst a) (hb : kdText y = lst b) (hx : goodKd (allC l) x = true)
    (h : x = y ∨ (x = .n ∧ refK y = true) ∨ (y = .n ∧ refK x = true) ∨ (refK x = false ∨ refK y = false)) :
    Calls Tryz.prog 109 #[.map (some B), .string a, .string b] w (OfPost w (allC l) x y (30 + a.size + b.size)) := by
  have hE := kd_same ha hb
  have hN := kd_is ha .n
  have hM := kd_is hb .n
  have HA : Hid (∀ wx, _) := fun wx => refs_any a x wx ha
  have HB : Hid (∀ wx, _) := fun wx => refs_any b y wx hb
  have hT := of_text hm.right.tree (object_known l) ha hb hx h
  unfold OfPost
  simp only [kdText] at hN hM
  generalize joinKd (allC l) x y = r at *
  have hor : (decide (x = y) || (decide (x = .n) && refK y) || (decide (y = .n) && refK x) || !(refK x) || !(refK y)) = true := by
    rcases h with h | ⟨h, g⟩ | ⟨h, g⟩ | h | h <;> simp [*]
  clear hm ha hb hx h
  generalize decide (x = y) = eE at *
  generalize decide (x = .n) = eN at *
  generalize decide (y = .n) = eM at *
  generalize refK x = rx at *
  generalize refK y = ry at *
  cases eE <;> cases eN <;> cases eM <;> cases rx <;> cases ry <;> first | (exact absurd hor (by decide)) | skip
  all_goals
    clear hor
    simp only [if_true, if_false, Bool.and_true, Bool.and_false, Bool.false_eq_true] at hT
    have HT := Lib.hid hT
    clear hT
    go_enter Tryz.func109, Tryz.ntmps109
    go_wp2_with (first
      | (go_at_call 151; (with_reducible refine (HA.out _).mono ?_); rintro e w3 ⟨rfl, rfl⟩)
      | (go_at_call 151; (with_reducible refine (HB.out _).mono ?_); rintro e w3 ⟨rfl, rfl⟩))
    go_ret
    first
      | exact ⟨⟨a, rfl, HT.out, by omega⟩, Below.refl _ _⟩
      | exact ⟨⟨b, rfl, HT.out, by omega⟩, Below.refl _ _⟩
      | exact ⟨⟨⟨#[84]⟩, rfl, HT.out, by show 1 ≤ _; omega⟩, Below.refl _ _⟩
theorem joinKd_cc (cs : List Class) (c d : Str) : joinKd cs (.ty (.cl c)) (.ty (.cl d)) = .ty (.cl (lcaC cs c d)) := rfl
theorem arText_size (z : Str) : (arText z).size = z.size + 1 := by unfold arText; rw [ByteArray.size_append]; show 1 + z.size = _; omega
set_option maxHeartbeats 4000000 in
set_option maxRecDepth 100000 in
theorem of_ty (w0 : World) (B : Nat) (l : List Class) : ∀ (x : Ty) (w : World) (a b : Str) (y : Ty), WorldMap w0 w B l → tyText x = lst a → tyText y = lst b → goodTy (allC l) x = true → goodTy (allC l) y = true → a.size ≤ 4194304 → b.size ≤ 4194304 →
    Calls Tryz.prog 109 #[.map (some B), .string a, .string b] w (OfPost w (allC l) (.ty x) (.ty y) (30 + a.size + b.size)) := by
  have plain : ∀ (x : Ty) (w : World) (a b : Str) (y : Ty), WorldMap w0 w B l → tyText x = lst a → tyText y = lst b → goodTy (allC l) x = true → (x = y ∨ isRef x = false ∨ isRef y = false) →
      Calls Tryz.prog 109 #[.map (some B), .string a, .string b] w (OfPost w (allC l) (.ty x) (.ty y) (30 + a.size + b.size)) := fun x w a b y hm ha hb hx h =>
    of_plain w0 w B l hm a b (.ty x) (.ty y) ha hb hx (by
      rcases h with h | h
      · exact Or.inl (by rw [h])
      · exact Or.inr (Or.inr (Or.inr h)))
  -- two refs that are not the same, of which one is an array and the other no array of refs
  intro x
  induction x with
  | i => intro w a b y hm ha hb hx _ _ _; exact plain _ w a b y hm ha hb hx (Or.inr (Or.inl rfl))
  | j => intro w a b y hm ha hb hx _ _ _; exact plain _ w a b y hm ha hb hx (Or.inr (Or.inl rfl))
  | cl c =>
    intro w a b y hm ha hb hx hy hsa hsb
    by_cases he : Ty.cl c = y ∨ isRef y = false
    · exact plain _ w a b y hm ha hb hx (by rcases he with he | he; exact Or.inl he; exact Or.inr (Or.inr he))
    · have hne : Ty.cl c ≠ y := fun h => he (Or.inl h)
      have hE := kd_same (x := .ty (.cl c)) (y := .ty y) ha hb
      have hN := kd_is (x := .ty (.cl c)) ha .n
      have hM := kd_is (x := .ty y) hb .n
      simp only [kdText] at hN hM
      rw [decide_eq_false (by intro h; cases h)] at hN hM
      rw [decide_eq_false (by intro h; injection h with h; exact hne h)] at hE
      have HA : Hid (∀ wx, _) := fun wx => refs_any a (.ty (.cl c)) wx ha
      have HB : Hid (∀ wx, _) := fun wx => refs_any b (.ty y) wx hb
      have HCa : Hid (∀ wx, _) := fun wx => descClass_any a (.cl c) wx ha (Nat.le_trans hsa (by decide))
      have HCb : Hid (∀ wx, _) := fun wx => descClass_any b y wx hb (Nat.le_trans hsb (by decide))
      obtain ⟨hpa, fa⟩ := kd_first ha
      obtain ⟨hpb, fb⟩ := kd_first hb
      have ga := kd_arr ha hpa
      have gb := kd_arr hb hpb
      simp only [refK, isRef, baseOf, str_lst, headL, headA] at HA HCa fa ga
      cases y with
      | i => exact absurd (Or.inr rfl) he
      | j => exact absurd (Or.inr rfl) he
      | cl d =>
        simp only [refK, isRef, baseOf, str_lst, headL, headA] at HB HCb fb gb
        have hlca := class_name20 hm.faults (hm.right.tree.known c _ hx (hm.right.tree.lub1 c d hx hy).1)
        have HCl := classes_any w0 w B l hm c d hx hy
        rw [hm.right.classes hx hy (fun h => hne (by rw [h]))] at HCl
        unfold OfPost
        rw [joinKd_cc]
        generalize lcaC (allC l) c d = r at *
        have HC2 := Lib.hid HCl
        have HTh : Hid (∀ wx, _) := fun wx => thing_any r wx (Nat.le_trans hlca (by decide))
        have hts := th_size r
        have hfin : Hid ((thText r).size ≤ 30 + a.size + b.size) := by unfold Hid; omega
        clear HCl he hm ha hx hb hy hsa hsb hne hlca hts
        go_enter Tryz.func109, Tryz.ntmps109
        go_wp2_with (first
          | (go_at_call 151; (with_reducible refine (HA.out _).mono ?_); rintro e w3 ⟨rfl, rfl⟩)
          | (go_at_call 151; (with_reducible refine (HB.out _).mono ?_); rintro e w3 ⟨rfl, rfl⟩)
          | (go_at_call 129; (with_reducible refine (HCa.out _).mono ?_); rintro e w3 ⟨rfl, rfl⟩)
          | (go_at_call 129; (with_reducible refine (HCb.out _).mono ?_); rintro e w3 ⟨rfl, rfl⟩)
          | (go_at_call 152; (with_reducible refine HC2.out.mono ?_); rintro e w4 ⟨rfl, hB4⟩)
          | (go_at_call 142; (with_reducible refine (HTh.out _).mono ?_); rintro e w5 ⟨rfl, rfl⟩))
        go_ret
        exact ⟨⟨_, rfl, (lst_th r).symm, hfin.out⟩, hB4⟩
      | ar z =>
        simp only [refK, isRef, headL, headA] at HB fb gb
        have HTh : Hid (∀ wx, _) := fun wx => thing_object wx
        clear he HCa HCb hm ha hx hb hy hsa hsb hne
        go_enter Tryz.func109, Tryz.ntmps109
        go_wp2_with (first
          | (go_at_call 151; (with_reducible refine (HA.out _).mono ?_); rintro e w3 ⟨rfl, rfl⟩)
          | (go_at_call 151; (with_reducible refine (HB.out _).mono ?_); rintro e w3 ⟨rfl, rfl⟩)
          | (go_at_call 142; (with_reducible refine (HTh.out _).mono ?_); rintro e w3 ⟨rfl, rfl⟩))
        go_ret
        exact ⟨⟨_, rfl, rfl, by show 8 ≤ _; omega⟩, Below.refl _ _⟩
  | ar u ih =>
    intro w a b y hm ha hb hx hy hsa hsb
    by_cases he : Ty.ar u = y ∨ isRef y = false
    · exact plain _ w a b y hm ha hb hx (by rcases he with he | he; exact Or.inl he; exact Or.inr (Or.inr he))
    · have hne : Ty.ar u ≠ y := fun h => he (Or.inl h)
      have hE := kd_same (x := .ty (.ar u)) (y := .ty y) ha hb
      have hN := kd_is (x := .ty (.ar u)) ha .n
      have hM := kd_is (x := .ty y) hb .n
      simp only [kdText] at hN hM
      rw [decide_eq_false (by intro h; cases h)] at hN hM
      rw [decide_eq_false (by intro h; injection h with h; exact hne h)] at hE
      have HA : Hid (∀ wx, _) := fun wx => refs_any a (.ty (.ar u)) wx ha
      have HB : Hid (∀ wx, _) := fun wx => refs_any b (.ty y) wx hb
      have HTh : Hid (∀ wx, _) := fun wx => thing_object wx
      obtain ⟨hpa, fa⟩ := kd_first ha
      obtain ⟨hpb, fb⟩ := kd_first hb
      have ga := kd_arr ha hpa
      have gb := kd_arr hb hpb
      simp only [refK, isRef, headL, headA] at HA fa ga
      cases y with
      | i => exact absurd (Or.inr rfl) he
      | j => exact absurd (Or.inr rfl) he
      | cl d =>
        simp only [refK, isRef, headL, headA] at HB fb gb
        clear he hm ha hx hb hy hsa hsb hne ih
        go_enter Tryz.func109, Tryz.ntmps109
        go_wp2_with (first
          | (go_at_call 151; (with_reducible refine (HA.out _).mono ?_); rintro e w3 ⟨rfl, rfl⟩)
          | (go_at_call 151; (with_reducible refine (HB.out _).mono ?_); rintro e w3 ⟨rfl, rfl⟩)
          | (go_at_call 142; (with_reducible refine (HTh.out _).mono ?_); rintro e w3 ⟨rfl, rfl⟩))
        go_ret
        exact ⟨⟨_, rfl, rfl, by show 8 ≤ _; omega⟩, Below.refl _ _⟩
      | ar v =>
        simp only [refK, isRef, headL, headA] at HB fb gb
        obtain ⟨ta, tas, hsz1⟩ := tail_text ha
        obtain ⟨tb, tbs, hsz2⟩ := tail_text hb
        have HA2 : Hid (∀ wx, _) := fun wx => refs_any (a.extract 1 a.size) (.ty u) wx ta
        have HB2 : Hid (∀ wx, _) := fun wx => refs_any (b.extract 1 b.size) (.ty v) wx tb
        have huv : u ≠ v := fun h => hne (by rw [h])
        have es1 : (a.extract 1 a.size).size = a.size - 1 := by rw [ByteArray.size_extract]; omega
        have es2 : (b.extract 1 b.size).size = b.size - 1 := by rw [ByteArray.size_extract]; omega
        simp only [refK] at HA2 HB2
        by_cases hr : isRef u = true ∧ isRef v = true
        · have HI : Hid (∀ wx, Below w.heap.size w wx → _) := fun wx hb => ih wx (a.extract 1 a.size) (b.extract 1 b.size) v (hm.step hb) ta tb hx hy (Nat.le_trans tas hsa) (Nat.le_trans tbs hsb)
          obtain ⟨z, hz1, hz2⟩ := join_arr (cs := allC l) hr.1 hr.2
          unfold OfPost at HI ⊢
          rw [hz1] at HI
          rw [hz2]
          rw [hr.1] at HA2
          rw [hr.2] at HB2
          clear he hm ha hb hx hy hne ih ta tas tb tbs huv hr hz1 hz2
          generalize hxa : a.extract 1 a.size = a1 at *
          generalize hxb : b.extract 1 b.size = b1 at *
          go_enter Tryz.func109, Tryz.ntmps109
          go_upto_region 12 with (first
            | (go_at_call 151; (with_reducible refine (HA.out _).mono ?_); rintro e w3 ⟨rfl, rfl⟩)
            | (go_at_call 151; (with_reducible refine (HB.out _).mono ?_); rintro e w3 ⟨rfl, rfl⟩)
            | (go_at_call 151; (with_reducible refine (HA2.out _).mono ?_); rintro e w3 ⟨rfl, rfl⟩)
            | (go_at_call 151; (with_reducible refine (HB2.out _).mono ?_); rintro e w3 ⟨rfl, rfl⟩))
          go_region_with (go_at_call 109; (with_reducible refine (HI.out _ (Below.refl _ _).drew).mono ?_); rintro e w4 ⟨⟨z4, rfl, hz4, hs4⟩, hB4⟩)
          all_goals
            have hfin : kdText (.ty (.ar z)) = lst (arText z4) ∧ (arText z4).size ≤ 30 + a.size + b.size := ⟨by rw [lst_ar, ← hz4]; rfl, by rw [arText_size]; omega⟩
            have HF := Lib.hid hfin
            have HB4 := Lib.hid hB4
            clear hfin hz4 hs4 hB4
            go_wp2
            go_ret
            exact ⟨⟨arText z4, rfl, HF.out.1, HF.out.2⟩, below_call (Below.refl _ _).drew (Nat.le_refl _) HB4.out⟩
        · have hw : isRef u = false ∨ isRef v = false := by
            cases hu : isRef u with
            | false => exact Or.inl rfl
            | true => cases hv : isRef v with
              | false => exact Or.inr rfl
              | true => exact absurd ⟨hu, hv⟩ hr
          unfold OfPost
          rw [join_arr_word huv hw]
          clear he hm ha hb hx hy hsa hsb hne ih ta tas tb tbs huv hr
          generalize isRef u = ru at *
          generalize isRef v = rv at *
          generalize hxa : a.extract 1 a.size = a1 at *
          generalize hxb : b.extract 1 b.size = b1 at *
          have hor : (ru && rv) = false := by rcases hw with h | h <;> simp [h]
          clear hw
          cases ru <;> cases rv <;> first | (exact absurd hor (by decide)) | skip
          all_goals
            go_enter Tryz.func109, Tryz.ntmps109
            go_wp2_with (first
              | (go_at_call 151; (with_reducible refine (HA.out _).mono ?_); rintro e w3 ⟨rfl, rfl⟩)
              | (go_at_call 151; (with_reducible refine (HB.out _).mono ?_); rintro e w3 ⟨rfl, rfl⟩)
              | (go_at_call 151; (with_reducible refine (HA2.out _).mono ?_); rintro e w3 ⟨rfl, rfl⟩)
              | (go_at_call 151; (with_reducible refine (HB2.out _).mono ?_); rintro e w3 ⟨rfl, rfl⟩)
              | (go_at_call 142; (with_reducible refine (HTh.out _).mono ?_); rintro e w3 ⟨rfl, rfl⟩))
            go_ret
            exact ⟨⟨_, rfl, rfl, by show 8 ≤ _; omega⟩, Below.refl _ _⟩
theorem of_any (w0 w : World) (B : Nat) (l : List Class) (hm : WorldMap w0 w B l) (a b : Str) (x y : Kd) (ha : IsKd (allC l) a x) (hb : IsKd (allC l) b y) (hsa : a.size ≤ 4194304) (hsb : b.size ≤ 4194304) :
    Calls Tryz.prog 109 #[.map (some B), .string a, .string b] w (OfPost w (allC l) x y (30 + a.size + b.size)) := by
  have plain := of_plain w0 w B l hm a b x y ha.1 hb.1 ha.2
  cases x with
  | n => exact plain (Or.inr (Or.inr (Or.inr (Or.inl rfl))))
  | t => exact plain (Or.inr (Or.inr (Or.inr (Or.inl rfl))))
  | ty u =>
    cases y with
    | n => exact plain (Or.inr (Or.inr (Or.inr (Or.inr rfl))))
    | t => exact plain (Or.inr (Or.inr (Or.inr (Or.inr rfl))))
    | ty v => exact of_ty w0 B l u w a b v hm ha.1 hb.1 ha.2 hb.2 hsa hsb
end Go.Proofs.YtlmfmioljeppfaaGreatDoor
namespace Go.Proofs.YtlmfmioljeppfaaGreatDoor
open Go.RowKit Go.Shelf Go.Lib
def ReadW (w : World) (l : List Class) (e : Ending) (w' : World) : Prop :=
  Below w.heap.size w w' ∧ ((readFault l = 0 ∧ ∃ w0 B, e = .returned (.tuple #[.map (some B), .nilIface]) ∧ WorldMap w0 w' B l) ∨ (readFault l ≠ 0 ∧ e = .returned (.tuple #[.map none, .iface 29 (.int .i64 (readFault l))])))
theorem readW_any (l : List Class) (lv : Value) (w : World) (hl : Laid w) (ho : ∀ c ∈ l, ClassOk c) (hlv : ClassesAt w lv l) :
    Calls Tryz.prog 50 #[lv] w (ReadW w l) := by
  refine (read_any l lv w hl ho hlv).mono ?_
  rintro e w2 ⟨hB2, ⟨hz, rfl, hM, hN, hA, hC, hL⟩ | ⟨hz, rfl⟩⟩
  · exact ⟨hB2, Or.inl ⟨hz, _, _, rfl, hM, right_of hz, hA⟩⟩
  · exact ⟨hB2, Or.inr ⟨hz, rfl⟩⟩
end Go.Proofs.YtlmfmioljeppfaaGreatDoor
namespace Go.Proofs.YtlmfmioljeppfaaGreatDoor
open Go.RowKit Go.Shelf Go.Lib
theorem ownsRow_belowk {w w' : World} {base k : Nat} {t : TypeId} {v : Value} {n : Nat} {xs : List Value} (h : w.ownsRow base t k v n xs) (hb : Below w.heap.size w w') : w'.ownsRow base t k v n xs := by
  rcases h with ⟨h1, h2 | ⟨g, cap, cur, k1, k2, k3, k4⟩⟩
  · exact ⟨h1, Or.inl h2⟩
  · exact ⟨h1, Or.inr ⟨g, cap, cur, k1, k2, (hb.block g (Array.getElem?_eq_some_iff.1 k3).1).trans k3, k4⟩⟩
def HasAt (base : Nat) (w : World) (v : Value) (ps : List (Thing × Value)) : Prop := ∀ p ∈ ps, SliceOf w 2 ValCells p.2 p.1.has ∧ ∀ g, p.2.ownBlock = some g → base ≤ g ∧ g < w.heap.size ∧ v.ownBlock ≠ some g
theorem HasAt.nil (base : Nat) (w : World) (v : Value) : HasAt base w v [] := fun _ h => by cases h
theorem HasAt.step {base : Nat} {w w' : World} {v : Value} {ps : List (Thing × Value)} (h : HasAt base w v ps) (hb : Below w.heap.size w w') : HasAt base w' v ps := fun p hp =>
  ⟨(h p hp).1.mono hb (by decide) (fun _ _ h => h), fun g hg => ⟨((h p hp).2 g hg).1, Nat.lt_of_lt_of_le ((h p hp).2 g hg).2.1 hb.size, ((h p hp).2 g hg).2.2⟩⟩
theorem cells_block {w w' : World} {b : Nat} (hb : w'.heap[b]? = w.heap[b]?) : ∀ {vs : List Value} {o : Nat}, Cells w b o vs → Cells w' b o vs
  | [], _, _ => trivial
  | _ :: _, _, ⟨h1, h2⟩ => ⟨(World.cell?_of_block hb).trans h1, cells_block hb h2⟩
theorem SliceOf.block {α : Type} {w w' : World} {k : Nat} {R : α → List Value → Prop} {v : Value} {l : List α} (h : SliceOf w k R v l) (hb : ∀ g, v.ownBlock = some g → w'.heap[g]? = w.heap[g]?) : SliceOf w' k R v l := by
  rcases h with h | ⟨a, cap, rfl, h2, h3, h4⟩
  · exact Or.inl h
  · refine Or.inr ⟨a, cap, rfl, h2, h3, fun i x hi => ?_⟩
    obtain ⟨vs, r1, r2, r3, r4⟩ := h4 i x hi
    exact ⟨vs, r1, r2, r3, cells_block (hb a.block rfl) r4⟩
theorem HasAt.grown {base : Nat} {w w' : World} {v v' : Value} {ps : List (Thing × Value)} (h : HasAt base w v ps) (hg : w.grownBy w' v.ownBlock) (hv : v'.ownBlock = v.ownBlock ∨ v'.ownBlock = some w.heap.size) : HasAt base w' v' ps := fun p hp =>
  ⟨(h p hp).1.block fun g e => hg.block g ((h p hp).2 g e).2.1 (fun he => ((h p hp).2 g e).2.2 he.symm), fun g e => ⟨((h p hp).2 g e).1, Nat.lt_of_lt_of_le ((h p hp).2 g e).2.1 hg.size, by
    rcases hv with hv | hv
    · rw [hv]; exact ((h p hp).2 g e).2.2
    · rw [hv]; intro he; have := ((h p hp).2 g e).2.1; injection he with he; omega⟩⟩
theorem HasAt.set {base b : Nat} {w : World} {v : Value} {ps : List (Thing × Value)} (h : HasAt base w v ps) (hb : b < base) (j : Nat) (u : Value) : HasAt base (w.setCell ⟨b, j, none⟩ u) v ps := fun p hp =>
  ⟨(h p hp).1.block fun g e => heap_setCell_other w ⟨b, j, none⟩ g u (by have := ((h p hp).2 g e).1; show g ≠ b; omega), fun g e => ⟨((h p hp).2 g e).1, by have := ((h p hp).2 g e).2.1; simpa using this, ((h p hp).2 g e).2.2⟩⟩
theorem HasAt.base {base b : Nat} {w : World} {v : Value} {ps : List (Thing × Value)} (h : HasAt base w v ps) (hb : b ≤ base) : HasAt b w v ps := fun p hp =>
  ⟨(h p hp).1, fun g e => ⟨Nat.le_trans hb ((h p hp).2 g e).1, ((h p hp).2 g e).2⟩⟩
theorem HasAt.snoc {base : Nat} {w : World} {v : Value} {ps : List (Thing × Value)} {p : Thing × Value} (h : HasAt base w v ps) (h1 : SliceOf w 2 ValCells p.2 p.1.has) (h2 : ∀ g, p.2.ownBlock = some g → base ≤ g ∧ g < w.heap.size ∧ v.ownBlock ≠ some g) : HasAt base w v (ps ++ [p]) := fun q hq => by
  rcases List.mem_append.1 hq with hq | hq
  · exact h q hq
  · rw [List.mem_singleton.1 hq]; exact ⟨h1, h2⟩
theorem SliceOf.one {α : Type} {w : World} {k : Nat} {R : α → List Value → Prop} {v : Value} {l : List α} (h : SliceOf w k R v l) : v.oneCell' = true := by
  rcases h with ⟨rfl, _⟩ | ⟨a, cap, rfl, _⟩ <;> rfl
theorem add_eq' {a : Addr} (hs : a = ⟨a.block, a.off, none⟩) (n : Nat) : a.add n = ⟨a.block, a.off + n, none⟩ := by
  unfold Addr.add
  split
  · subst_vars; simpa using hs
  · rfl
end Go.Proofs.YtlmfmioljeppfaaGreatDoor
namespace Go.Proofs.YtlmfmioljeppfaaGreatDoor
open Go.RowKit Go.Shelf Go.Lib
theorem Blk.grown {w w' : World} {b : Nat} {t : TypeId} {vals : List Value} {row : Option Nat} (h : Blk w b t vals) (hg : w.grownBy w' row) (hne : row ≠ some b) : Blk w' b t vals := (hg.block b h.lt (fun e => hne e.symm)).trans h
theorem Blk.other' {w : World} {b : Nat} {t : TypeId} {vals : List Value} (h : Blk w b t vals) {a : Addr} (hne : a.block ≠ b) (u : Value) : Blk (w.setCell a u) b t vals := (heap_setCell_other w a b u (fun e => hne e.symm)).trans h
theorem owns_other' {w : World} {base b size n : Nat} {t : TypeId} {v : Value} {xs : List Value} (h : w.ownsRow base t size v n xs) (hb : b < base) (j : Nat) (u : Value) : (w.setCell ⟨b, j, none⟩ u).ownsRow base t size v n xs := by
  rcases h with ⟨h1, h2 | ⟨g, cap, cur, k1, k2, k3, k4⟩⟩
  · exact ⟨h1, Or.inl h2⟩
  · exact ⟨h1, Or.inr ⟨g, cap, cur, k1, k2, (heap_setCell_other w ⟨b, j, none⟩ g u (by show g ≠ b; omega)).trans k3, k4⟩⟩
theorem copy_size {w : World} {B : Nat} (h : B ≤ w.heap.size) (a : Addr) (u : Value) : B ≤ (w.setCell a u).heap.size := by simpa using h
end Go.Proofs.YtlmfmioljeppfaaGreatDoor
namespace Go.Proofs.YtlmfmioljeppfaaGreatDoor
open Go.RowKit Go.Shelf Go.Lib
structure Frm where
  locals : List Str
  stack : List Str
  deriving DecidableEq
def kdOf (k : Str) : Kd := if lst k = [78] then .n else if lst k = [84] then .t else .ty (tyOf k)
theorem kdOf_text {k : Str} {x : Kd} (h : kdText x = lst k) : kdOf k = x := by
  unfold kdOf
  rw [← h]
  cases x with
  | n => rfl
  | t => rfl
  | ty y =>
    rw [if_neg (by cases y <;> simp [kdText, tyText]), if_neg (by cases y <;> simp [kdText, tyText])]
    exact congrArg Kd.ty (tyOf_text h)
theorem known_kd {cs : List Class} {k : Str} (h : kindR cs k = 0) : IsKd cs k (kdOf k) := by
  obtain ⟨X, hX, hg⟩ := kind_of h
  rw [kdOf_text hX]; exact ⟨hX, hg⟩
theorem known_deep {cs : List Class} {k : Str} (h : kindR cs k = 0) : deepKd (kdOf k) ≤ 3 := kindR_deep (known_kd h) h
def frameR (cs : List Class) (f : Frm) : Nat :=
  if 8 < f.locals.length ∨ 8 < f.stack.length then 4 else firstFault (kindR cs) (f.locals ++ f.stack)
def joinS (cs : List Class) (a b : Str) : Str := str (kdText (joinKd cs (kdOf a) (kdOf b)))
theorem joinS_text {cs : List Class} {a b z : Str} {x y : Kd} (ha : kdText x = lst a) (hb : kdText y = lst b) (hz : kdText (joinKd cs x y) = lst z) : joinS cs a b = z := by
  unfold joinS
  rw [kdOf_text ha, kdOf_text hb, hz]
  rfl
def joinL (cs : List Class) (a b : List Str) : List Str := List.zipWith (joinS cs) a b
def shapedB (a b : Frm) : Bool := decide (a.locals.length = b.locals.length) && decide (a.stack.length = b.stack.length)
def bothF (cs : List Class) (a b : Frm) : Frm := ⟨joinL cs a.locals b.locals, joinL cs a.stack b.stack⟩
def frameFault (l : List Class) (f : Frm) : Nat := if readFault l ≠ 0 then readFault l else frameR (allC l) f
theorem frame_zero {cs : List Class} {f : Frm} (h : frameR cs f = 0) : f.locals.length ≤ 8 ∧ f.stack.length ≤ 8 ∧ (∀ k ∈ f.locals, kindR cs k = 0) ∧ ∀ k ∈ f.stack, kindR cs k = 0 := by
  unfold frameR at h
  split at h
  · cases h
  · rename_i hn
    have hz := firstFault_zero h
    exact ⟨by omega, by omega, fun k hk => hz k (List.mem_append_left _ hk), fun k hk => hz k (List.mem_append_right _ hk)⟩
end Go.Proofs.YtlmfmioljeppfaaGreatDoor
namespace Go.Proofs.YtlmfmioljeppfaaGreatDoor
open Go.RowKit Go.Shelf Go.Lib
def OwnNil (w : World) (e : Ending) (w' : World) : Prop := (∃ v, e = .returned v ∧ w'.ownsRow w.heap.size 9 1 v 0 []) ∧ Below w.heap.size w w'
set_option maxHeartbeats 1000000 in
set_option maxRecDepth 100000 in
theorem growNil_any (n : Nat) (hn : n ≤ 16) (w : World) : Calls Tryz.prog 128 #[.slice none 0 0, .int .i64 (n : Int)] w (OwnNil w) := by
  unfold OwnNil
  by_cases h0 : n = 0
  · subst h0
    go_enter Tryz.func128, Tryz.ntmps128
    go_wp2_with (first | fail)
    go_ret
    exact ⟨⟨_, rfl, World.ownsRow_nil _ _ _ _⟩, Below.refl _ _⟩
  · obtain ⟨i0, hi, hz0, hz1, hz2⟩ := info_parts info_string
    have hGn : n ≤ grownCap w n 0 9 := grownCap_ge w _ _ _
    have hGm : grownCap w n 0 9 ≤ maxLen := grownCap_le_maxLen w n 0 9 (by unfold maxLen; omega)
    have hsz : (Builtin.zeroCells #[Value.string ByteArray.empty] n ++ Builtin.zeroCells #[Value.string ByteArray.empty] (grownCap w n 0 9 - n)).size = grownCap w n 0 9 * 1 := by
      simp [Builtin.zeroCells]; omega
    have hown := World.ownsRow_made (base := w.heap.size) (e := 9) (size := 1) w.drew _ (grownCap w n 0 9) (Nat.le_refl _) hGm hsz
    have hB := (Below.refl w.heap.size w).drew.alloc (Nat.le_refl _) (.cells (Builtin.zeroCells #[Value.string ByteArray.empty] n ++ Builtin.zeroCells #[Value.string ByteArray.empty] (grownCap w n 0 9 - n)) 9)
    have hn0 : (0 : Int) < (n : Int) := by omega
    have hG63 : grownCap w n 0 9 ≤ 9223372036854775807 := by unfold maxLen at hGm; omega
    clear hi hz0 hz1 hz2
    have hb : Tryz.t9.bytes = 16 := rfl
    have hb1 : (n : Int) * (Tryz.t9.bytes : Int) ≤ 281474976710656 := by rw [hb]; omega
    have hb2 : Builtin.nextslicecap n 0 * Tryz.t9.bytes ≤ 281474976710656 := by
      rw [hb]; unfold Builtin.nextslicecap; rw [if_pos (by omega)]; omega
    clear hb
    go_enter Tryz.func128, Tryz.ntmps128
    go_wp2_with (first | fail)
    all_goals first
      | (go_ret; exact ⟨⟨_, rfl, hown⟩, hB⟩)
      | (exfalso; omega)
set_option maxHeartbeats 1000000 in
set_option maxRecDepth 100000 in
theorem concat_any (xs ys : List Str) (v1 v2 : Value) (g : Nat) (w : World) (h0 : w.cell? ⟨g, 0, none⟩ = some v1) (h1 : w.cell? ⟨g, 1, none⟩ = some v2) (hx : StrsAt w v1 xs) (hy : StrsAt w v2 ys) (hn : xs.length + ys.length ≤ 16) :
    Calls Tryz.prog 90 #[.slice (some ⟨g, 0, none⟩) 2 2] w fun e w' => (∃ v, e = .returned v ∧ StrsAt w' v (xs ++ ys)) ∧ Below w.heap.size w w' := by
  have HX : Hid (∀ wx, Below w.heap.size w wx → StrsAt wx v1 xs) := fun wx hb => hx.mono hb
  have HY : Hid (∀ wx, Below w.heap.size w wx → StrsAt wx v2 ys) := fun wx hb => hy.mono hb
  obtain ⟨p1, c1, rfl, _⟩ := hx.open
  obtain ⟨p2, c2, rfl, _⟩ := hy.open
  obtain ⟨n, hnn⟩ : ∃ n, xs.length + ys.length = n := ⟨_, rfl⟩
  have hw1 : IntKind.i64.wrap (0 + (xs.length : Int)) = (xs.length : Int) := by rw [IntWalk.i64_in _ (by omega)]; omega
  have hw1' : IntKind.i64.wrap (xs.length : Int) = (xs.length : Int) := IntWalk.i64_in _ (by omega)
  have hw2 : IntKind.i64.wrap ((xs.length : Int) + (ys.length : Int)) = (n : Int) := by rw [IntWalk.i64_in _ (by omega)]; omega
  have ht1 : ¬ (xs.length : Int) < 0 := by omega
  have ht2 : ¬ (n : Int) < 0 := by omega
  have HG : Hid (∀ wx, _) := fun wx => growNil_any n (by omega) wx
  unfold OwnNil at HG
  have HL0 := Lib.hid (cells_blk h0)
  have HN := Lib.hid hnn
  have HN16 := Lib.hid hn
  clear hx hy hnn hn
  go_enter Tryz.func90, Tryz.ntmps90
  go_wp2_with (first | fail)
  go_loopw [3, 11] (fun x3 x11 wr => w = wr ∧ ((x3 = .int .i64 0 ∧ x11 = .int .i64 0) ∨ (x3 = .int .i64 (xs.length : Int) ∧ x11 = .int .i64 1) ∨ (x3 = .int .i64 (n : Int) ∧ x11 = .int .i64 2))) (fun _ x _ => 2 - (intOf x).toNat)
  case atStart => exact ⟨rfl, Or.inl ⟨rfl, rfl⟩⟩
  case round =>
    obtain ⟨rfl, ⟨rfl, rfl⟩ | ⟨rfl, rfl⟩ | ⟨rfl, rfl⟩⟩ := hrel
    · go_wp2_with (first | fail)
      go_roundw
      case rel => exact ⟨by simp, Or.inr (Or.inl ⟨rfl, rfl⟩)⟩
      case measure => simp [intOf]
    · go_wp2_with (first | fail)
      go_roundw
      case rel => exact ⟨by simp, Or.inr (Or.inr ⟨rfl, rfl⟩)⟩
      case measure => simp [intOf]
    · go_wp2_with (go_at_call 128; (with_reducible refine (HG.out _).mono ?_); rintro e w2 ⟨⟨v0, rfl, hrow0⟩, hB0⟩)
      have HB0 := Lib.hid hB0
      have HR0 := Lib.hid hrow0
      clear hB0 hrow0
      go_loopw [6, 27] (fun x6 x27 wr => Below w.heap.size w wr ∧ ((Hid (wr.ownsRow w.heap.size 9 1 x6 0 []) ∧ x27 = .int .i64 0) ∨ (Hid (wr.ownsRow w.heap.size 9 1 x6 xs.length (xs.map Value.string)) ∧ x27 = .int .i64 1) ∨ (Hid (wr.ownsRow w.heap.size 9 1 x6 n ((xs ++ ys).map Value.string)) ∧ x27 = .int .i64 2))) (fun _ x _ => 2 - (intOf x).toNat)
      case atStart => exact ⟨HB0.out, Or.inl ⟨HR0, rfl⟩⟩
      case round =>
        obtain ⟨hB, ⟨hr, rfl⟩ | ⟨hr, rfl⟩ | ⟨hr, rfl⟩⟩ := hrel
        · have q0 := (hB.cell (p := ⟨g, 0, none⟩) HL0.out).trans h0
          have hS := HX.out _ hB
          have HBr := Lib.hid hB
          clear hB
          go_wp2_with (at_builtin; refine wpList_append_strs rfl _ _ rfl w.heap.size _ 0 [] rfl hr.out _ xs rfl hS (by unfold maxLen; have := HN16.out; omega) (by have := HN16.out; omega) HBr.out.size ?_; intro v' w3 ho3 hg3 _; (have hB3 := Lib.hid (HBr.out.grown hg3 HBr.out.size (fun g e => (World.ownsRow.lt hr.out g e).1))))
          go_roundw
          case rel => exact ⟨hB3.out, Or.inr (Or.inl ⟨by unfold Hid; simpa using ho3, rfl⟩)⟩
          case measure => simp [intOf]
        · have q0 := (hB.cell (p := ⟨g, 1, none⟩) HL0.out).trans h1
          have hS := HY.out _ hB
          have HBr := Lib.hid hB
          clear hB
          go_wp2_with (at_builtin; refine wpList_append_strs rfl _ _ rfl w.heap.size _ xs.length (xs.map Value.string) rfl hr.out _ ys rfl hS (by unfold maxLen; have := HN16.out; omega) (by have := HN16.out; omega) HBr.out.size ?_; intro v' w3 ho3 hg3 _; (have hB3 := Lib.hid (HBr.out.grown hg3 HBr.out.size (fun g e => (World.ownsRow.lt hr.out g e).1))))
          go_roundw
          case rel => exact ⟨hB3.out, Or.inr (Or.inr ⟨by unfold Hid; rw [List.map_append, ← HN.out]; exact ho3, rfl⟩)⟩
          case measure => simp [intOf]
        · have HBr := Lib.hid hB
          clear hB
          go_wp2_with (first | fail)
          go_ret
          exact ⟨⟨_, rfl, strsAt_of_owns (by have := hr.out; rwa [← HN.out, ← List.length_append] at this)⟩, HBr.out⟩
set_option maxHeartbeats 1000000 in
theorem equal_any (a b : List Str) (va vb : Value) (w : World) (ha : StrsAt w va a) (hb : StrsAt w vb b) : Calls Tryz.prog 110 #[va, vb] w fun e w' => e = .returned (.bool (decide (a = b))) ∧ Below w.heap.size w w' := by
  obtain ⟨p, cap, rfl, h1, h2, hcc⟩ := ha.open
  obtain ⟨q, cbp, rfl, k1, k2, hdd⟩ := hb.open
  have HC := Lib.hid hcc
  have HD := Lib.hid hdd
  have hlen : a.length ≤ 9223372036854775807 := Nat.le_trans h1 h2
  clear ha hb hcc hdd
  by_cases hl : a.length = b.length
  · have hl' : ((a.length : Int) != (b.length : Int)) = false := by simp [hl]
    go_enter Tryz.func110, Tryz.ntmps110
    go_wp2_with (first | fail)
    all_goals first | (exfalso; omega) | skip
    go_loopw [13] (fun i wr => ∃ k : Nat, k ≤ a.length ∧ Hid (decide (a.drop k = b.drop k) = decide (a = b)) ∧ Below w.heap.size w wr ∧ i = .int .i64 k) (fun i _ => a.length - (intOf i).toNat)
    case atStart => exact ⟨0, by omega, rfl, Below.refl _ _, rfl⟩
    case round =>
      obtain ⟨k, hk, hff, hB, rfl⟩ := hrel
      by_cases hkl : k < a.length
      · obtain ⟨x, hx⟩ : ∃ x, a[k]? = some x := ⟨a[k], by simp [hkl]⟩
        obtain ⟨y, hy⟩ : ∃ y, b[k]? = some y := ⟨b[k]'(by omega), by simp [← hl, hkl]⟩
        obtain ⟨b1, o1, vs, rfl, hR, _, hcells⟩ := HC.out k x hx
        unfold StrCells at hR; subst hR
        obtain ⟨b2, o2, vs, rfl, hR, _, hcellt⟩ := HD.out k y hy
        unfold StrCells at hR; subst hR
        have c0 := (hcells.mono hB hcells.lt).1
        have d0 := (hcellt.mono hB hcellt.lt).1
        rw [Nat.mul_one] at c0 d0
        have hstep := texts_drop a b hl k x y hx hy
        rw [hff.out, ← strEq] at hstep
        have HX := Lib.hid hx
        have hkb : k < b.length := by omega
        clear hx hy hcells hcellt
        cases he : x.toList == y.toList with
        | true =>
          rw [he, Bool.true_and] at hstep
          have hst := Lib.hid hstep.symm
          clear hstep
          go_upto_region 6 with (first | fail)
          go_quiet (fail)
          go_wp2
          go_roundw
          case rel => exact ⟨k + 1, by omega, hst.out, ⟨hB.os, hB.tape, hB.output, hB.size, hB.block⟩, by simp⟩
          case measure => simp [intOf]; omega
        | false =>
          rw [he, Bool.false_and] at hstep
          have HS := Lib.hid hstep
          clear hstep
          go_upto_region 6 with (first | fail)
          go_quiet (fail)
          go_wp2
          go_ret
          exact ⟨by rw [HS.out]; rfl, ⟨hB.os, hB.tape, hB.output, hB.size, hB.block⟩⟩
      · obtain rfl : k = a.length := by omega
        have hyes : decide (a = b) = true := by rw [← hff.out, List.drop_eq_nil_of_le (Nat.le_refl _), List.drop_eq_nil_of_le (by omega)]; rfl
        have HS := Lib.hid hyes
        clear hyes
        go_wp2_with (first | fail)
        go_ret
        exact ⟨by rw [HS.out]; rfl, hB⟩
  · have hne : decide (a = b) = false := by simpa using fun h => hl (by rw [h])
    have hl' : ((a.length : Int) != (b.length : Int)) = true := by simp; omega
    rw [hne]
    go_enter Tryz.func110, Tryz.ntmps110
    go_wp2_with (first | fail)
    all_goals first | (exfalso; omega) | skip
    go_ret
    exact ⟨rfl, Below.refl _ _⟩
end Go.Proofs.YtlmfmioljeppfaaGreatDoor
namespace Go.Proofs.YtlmfmioljeppfaaGreatDoor
open Go.RowKit Go.Shelf Go.Lib
def FrmShort (f : Frm) : Prop := (∀ k ∈ f.locals, k.size ≤ 4194304) ∧ ∀ k ∈ f.stack, k.size ≤ 4194304
def FrameAt (w : World) (lv sv : Value) (f : Frm) : Prop := StrsAt w lv f.locals ∧ StrsAt w sv f.stack
theorem FrameAt.mono {w w' : World} (hb : Below w.heap.size w w') {lv sv : Value} {f : Frm} (h : FrameAt w lv sv f) : FrameAt w' lv sv f := ⟨h.1.mono hb, h.2.mono hb⟩
theorem frameR_full {cs : List Class} {f : Frm} (g : 8 < f.locals.length ∨ 8 < f.stack.length) : frameR cs f = 4 := by unfold frameR; rw [if_pos g]
theorem frameR_kinds {cs : List Class} {f : Frm} (g : ¬ (8 < f.locals.length ∨ 8 < f.stack.length)) : frameR cs f = firstFault (kindR cs) (f.locals ++ f.stack) := by unfold frameR; rw [if_neg g]
set_option maxHeartbeats 1000000 in
set_option maxRecDepth 100000 in
theorem frameCheck_any (w0 w : World) (B : Nat) (l : List Class) (hm : WorldMap w0 w B l) (f : Frm) (lv sv : Value) (hf : FrameAt w lv sv f) (hS : FrmShort f) :
    Calls Tryz.prog 51 #[.map (some B), .agg #[lv, sv]] w fun e w' => e = .returned (errV (frameR (allC l) f)) ∧ Below w.heap.size w w' := by
  have HFm : Hid (∀ wx, Below w.heap.size w wx → FrameAt wx lv sv f) := fun wx hb => hf.mono hb
  obtain ⟨p1, c1, rfl, _⟩ := hf.1.open
  obtain ⟨p2, c2, rfl, _⟩ := hf.2.open
  have BX := Lib.hid (boxed_mk w #[.slice p1 f.locals.length c1, .slice p2 f.stack.length c2] 27)
  by_cases hbig : 8 < f.locals.length ∨ 8 < f.stack.length
  · rw [frameR_full hbig, show errV 4 = .iface 29 (.int .i64 4) from rfl]
    clear hm hf hS
    by_cases h1 : 8 < f.locals.length
    · have z1 : decide ((8 : Int) < (f.locals.length : Int)) = true := by simp; omega
      clear hbig
      go_enter Tryz.func51, Tryz.ntmps51
      go_wp2_with (first | fail)
      go_ret
      exact ⟨rfl, BX.out.below⟩
    · have z1 : decide ((8 : Int) < (f.locals.length : Int)) = false := by simp; omega
      have z2 : decide ((8 : Int) < (f.stack.length : Int)) = true := by simp; omega
      clear hbig
      go_enter Tryz.func51, Tryz.ntmps51
      go_wp2_with (first | fail)
      go_ret
      exact ⟨rfl, BX.out.below⟩
  · have HR := Lib.hid (frameR_kinds (cs := allC l) hbig)
    have HK : Hid (∀ wx k, Below w.heap.size w wx → k ∈ f.locals ++ f.stack → _) := fun wx k hb hk => kind_any w0 wx B (allC l) (hm.step hb).map hm.right.nodup k (Nat.le_trans ((List.mem_append.1 hk).elim (hS.1 k) (hS.2 k)) (by decide))
    have HC : Hid (∀ wx g, Below w.heap.size w wx → wx.cell? ⟨g, 0, none⟩ = some (.slice p1 f.locals.length c1) → wx.cell? ⟨g, 1, none⟩ = some (.slice p2 f.stack.length c2) → _) := fun wx g hb h0 h1 =>
      concat_any f.locals f.stack _ _ g wx h0 h1 (HFm.out wx hb).1 (HFm.out wx hb).2 (by omega)
    have z1 : decide ((8 : Int) < (f.locals.length : Int)) = false := by simp; omega
    have z2 : decide ((8 : Int) < (f.stack.length : Int)) = false := by simp; omega
    have hln : (f.locals ++ f.stack).length ≤ 16 := by rw [List.length_append]; omega
    have HB1 := Lib.hid (BX.out.below.alloc BX.out.below.size (.cells #[.slice p1 f.locals.length c1, .slice p2 f.stack.length c2] 25))
    have hq := boxed2 (boxed_mk (w.alloc (.cells #[.slice p1 f.locals.length c1, .slice p2 f.stack.length c2] 27)) #[.slice p1 f.locals.length c1, .slice p2 f.stack.length c2] 25)
    rw [show (w.alloc (.cells #[.slice p1 f.locals.length c1, .slice p2 f.stack.length c2] 27)).heap.size = w.heap.size + 1 by simp] at hq
    have HQ0 := Lib.hid hq.1
    have HQ1 := Lib.hid hq.2
    clear hm hf hS hbig hq
    generalize f.locals ++ f.stack = L at *
    generalize frameR (allC l) f = res at *
    go_enter Tryz.func51, Tryz.ntmps51
    go_wp2_with (go_at_call 90; (with_reducible refine (HC.out _ _ HB1.out HQ0.out HQ1.out).mono ?_); rintro e w2 ⟨⟨v, rfl, hv⟩, hB2⟩; obtain ⟨p, c, rfl, hc1, hc2, hcc⟩ := hv.open)
    have hlen : L.length ≤ 9223372036854775807 := by omega
    have HCc := Lib.hid hcc
    have HBw := Lib.hid (below_call HB1.out (Nat.le_refl _) hB2)
    clear hcc hB2 hv HC HB1 HQ0 HQ1
    go_loopw [26] (fun x wr => ∃ k : Nat, k ≤ L.length ∧ Hid (firstFault (kindR (allC l)) (L.drop k) = res) ∧ Below w2.heap.size w2 wr ∧ x = .int .i64 k) (fun x _ => L.length - (intOf x).toNat)
    case atStart => exact ⟨0, by omega, HR.out.symm, Below.refl _ _, rfl⟩
    case round =>
      obtain ⟨k, hk, hff, hB, rfl⟩ := hrel
      by_cases hkl : k < L.length
      · obtain ⟨x, hx⟩ : ∃ a, L[k]? = some a := ⟨L[k], by simp [hkl]⟩
        obtain ⟨b, o, vs, rfl, hR, _, hcells⟩ := HCc.out k x hx
        unfold StrCells at hR; subst hR
        have hBw := below_call HBw.out (Nat.le_refl _) hB
        have c0 := (hcells.mono hB hcells.lt).1
        rw [Nat.mul_one] at c0
        have HKx := Lib.hid (HK.out wr x hBw (List.mem_of_getElem? hx))
        have hstep := first_drop (kindR (allC l)) L k x hx
        rw [hff.out] at hstep
        have HBr := Lib.hid hB
        clear hx hcells hff hB
        rcases errV_cases (kindR (allC l) x) with ⟨hv0, hz⟩ | ⟨hv0, hz⟩
        · rw [hv0] at HKx
          rw [if_pos hz] at hstep
          have hst := Lib.hid hstep.symm
          clear hstep hv0 hz hBw
          go_wp2_with (go_at_call 91; (with_reducible refine HKx.out.mono ?_); rintro e w6 ⟨rfl, hB6⟩)
          go_roundw
          case rel => exact ⟨k + 1, by omega, hst.out, below_call HBr.out (Nat.le_refl _) hB6, by simp⟩
          case measure => simp [intOf]; omega
        · rw [hv0] at HKx
          rw [if_neg hz] at hstep
          have HRs := Lib.hid hstep
          have HV := Lib.hid hv0
          have HBk := Lib.hid hBw
          clear hstep hv0 hBw
          generalize kindR (allC l) x = f at *
          go_wp2_with (go_at_call 91; (with_reducible refine HKx.out.mono ?_); rintro e w6 ⟨rfl, hB6⟩)
          go_ret
          exact ⟨by rw [HRs.out, HV.out]; rfl, below_call HBk.out (Nat.le_refl _) hB6⟩
      · obtain rfl : k = L.length := by omega
        have hz : res = 0 := by rw [← hff.out, List.drop_eq_nil_of_le (Nat.le_refl _)]; rfl
        have HZ := Lib.hid hz
        have HBk := Lib.hid (below_call HBw.out (Nat.le_refl _) hB)
        clear hz hff hB
        go_wp2_with (first | fail)
        go_ret
        exact ⟨by rw [HZ.out]; rfl, HBk.out⟩
theorem frameFault_no {l : List Class} {f : Frm} (g : readFault l ≠ 0) : frameFault l f = readFault l := by unfold frameFault; rw [if_pos g]
theorem frameFault_yes {l : List Class} {f : Frm} (g : readFault l = 0) : frameFault l f = frameR (allC l) f := by unfold frameFault; rw [if_neg (by rw [g]; decide)]
set_option maxRecDepth 100000 in
theorem frameCheckL_any (l : List Class) (lv : Value) (f : Frm) (fl fs : Value) (w : World) (hl : Laid w) (ho : ∀ c ∈ l, ClassOk c) (hlv : ClassesAt w lv l) (hf : FrameAt w fl fs f) (hS : FrmShort f) :
    Calls Tryz.prog 68 #[lv, .agg #[fl, fs]] w fun e w' => e = .returned (errV (frameFault l f)) ∧ Below w.heap.size w w' := by
  have HRd : Hid (∀ wx, Below w.heap.size w wx → _) := fun wx hb => readW_any l lv wx (hl.mono hb hl.1) ho (hlv.mono hb)
  have HCk : Hid (∀ w0 wx B, Below w.heap.size w wx → WorldMap w0 wx B l → _) := fun w0 wx B hb hm => frameCheck_any w0 wx B l hm f fl fs (hf.mono hb) hS
  obtain ⟨pl, cap, rfl, _⟩ := hlv.open
  have BX := Lib.hid (boxed_mk w #[fl, fs] 27)
  clear hl ho hlv hf hS
  unfold ReadW at HRd
  by_cases hz : readFault l = 0
  · have HF := Lib.hid (frameFault_yes (f := f) hz)
    have HZ := Lib.hid hz
    clear hz
    go_enter Tryz.func68, Tryz.ntmps68
    go_wp2_with (first
      | (go_at_call 50; (with_reducible refine (HRd.out _ BX.out.below).mono ?_); rintro e w2 ⟨hB2, ⟨_, w0, B, rfl, hm⟩ | ⟨hz, _⟩⟩; rotate_left; (exact absurd HZ.out hz); (have BX2 := BX.out.step hB2); (have q0 := (boxed2 BX2).1); (have q1 := (boxed2 BX2).2))
      | (go_at_call 51; (with_reducible refine (HCk.out _ _ _ BX2.below hm).mono ?_); rintro e w3 ⟨rfl, hB3⟩))
    go_ret
    exact ⟨by rw [HF.out]; rfl, below_call BX2.below (Nat.le_refl _) hB3⟩
  · have HF := Lib.hid (frameFault_no (f := f) hz)
    have HZ := Lib.hid hz
    clear hz
    rcases errV_cases (readFault l) with ⟨_, hz⟩ | ⟨hv, _⟩
    · exact absurd hz HZ.out
    rw [HF.out, hv]
    clear hv HF
    go_enter Tryz.func68, Tryz.ntmps68
    go_wp2_with (go_at_call 50; (with_reducible refine (HRd.out _ BX.out.below).mono ?_); rintro e w2 ⟨hB2, ⟨hz, _⟩ | ⟨_, rfl⟩⟩; (exact absurd hz HZ.out))
    go_ret
    exact ⟨rfl, (BX.out.step hB2).below⟩
theorem frm_eq (a b : Frm) : decide (a = b) = (decide (a.locals = b.locals) && decide (a.stack = b.stack)) := by
  cases a; cases b; rw [Bool.eq_iff_iff]; simp
set_option maxRecDepth 100000 in
theorem frameSame_any (a b : Frm) (a1 a2 b1 b2 : Value) (w : World) (ha : FrameAt w a1 a2 a) (hb : FrameAt w b1 b2 b) :
    Calls Tryz.prog 67 #[.agg #[a1, a2], .agg #[b1, b2]] w fun e w' => e = .returned (.bool (decide (a = b))) ∧ Below w.heap.size w w' := by
  have HE1 : Hid (∀ wx, Below w.heap.size w wx → _) := fun wx h => equal_any a.locals b.locals a1 b1 wx (ha.1.mono h) (hb.1.mono h)
  have HE2 : Hid (∀ wx, Below w.heap.size w wx → _) := fun wx h => equal_any a.stack b.stack a2 b2 wx (ha.2.mono h) (hb.2.mono h)
  rw [frm_eq]
  clear ha hb
  have HB := Lib.hid (((Below.refl w.heap.size w).alloc (Nat.le_refl _) (.cells #[a1, a2] 27)).alloc (by simp) (.cells #[b1, b2] 27))
  obtain ⟨wb, hwb⟩ : ∃ wb, wb = (w.alloc (.cells #[a1, a2] 27)).alloc (.cells #[b1, b2] 27) := ⟨_, rfl⟩
  have HA1 : Hid (Blk wb w.heap.size 27 [a1, a2]) := by
    rw [hwb]
    exact (Blk.new w 27 [a1, a2]).step ((Below.refl _ _).alloc (Nat.le_refl _) _)
  have HA2 : Hid (Blk wb (w.heap.size + 1) 27 [b1, b2]) := by
    rw [hwb]
    have := Blk.new (w.alloc (.cells #[a1, a2] 27)) 27 [b1, b2]
    unfold Hid
    simpa using this
  rw [← hwb] at HB
  have HW := Lib.hid hwb.symm
  clear hwb
  generalize decide (a.locals = b.locals) = d at *
  cases d with
  | true =>
    rw [Bool.true_and]
    generalize decide (a.stack = b.stack) = r at *
    go_enter Tryz.func67, Tryz.ntmps67
    go_wp2_with (first
      | (go_at_call 110; rw [HW.out]; (with_reducible refine (HE1.out _ HB.out).mono ?_); rintro e w3 ⟨rfl, hB3⟩; (have hB3' := below_call HB.out (Nat.le_refl _) hB3); obtain ⟨q0, q1⟩ := (HA1.out.step hB3).cells2; obtain ⟨q2, q3⟩ := (HA2.out.step hB3).cells2)
      | (go_at_call 110; (with_reducible refine (HE2.out _ hB3').mono ?_); rintro e w4 ⟨rfl, hB4⟩))
    go_ret
    exact ⟨rfl, below_call hB3' (Nat.le_refl _) hB4⟩
  | false =>
    rw [Bool.false_and]
    go_enter Tryz.func67, Tryz.ntmps67
    go_wp2_with (first
      | (go_at_call 110; rw [HW.out]; (with_reducible refine (HE1.out _ HB.out).mono ?_); rintro e w3 ⟨rfl, hB3⟩; (have hB3' := below_call HB.out (Nat.le_refl _) hB3)))
    go_ret
    exact ⟨rfl, hB3'⟩
theorem joinL_snoc {cs : List Class} {a b : List Str} {k : Nat} {x y : Str} (h1 : a[k]? = some x) (h2 : b[k]? = some y) : joinL cs (a.take (k + 1)) (b.take (k + 1)) = joinL cs (a.take k) (b.take k) ++ [joinS cs x y] := by
  obtain ⟨k1, rfl⟩ := List.getElem?_eq_some_iff.1 h1
  obtain ⟨k2, rfl⟩ := List.getElem?_eq_some_iff.1 h2
  unfold joinL
  rw [List.take_succ_eq_append_getElem k1, List.take_succ_eq_append_getElem k2, List.zipWith_append (by simp; omega)]
  rfl
theorem joinL_full {cs : List Class} {a b : List Str} (h : a.length = b.length) : joinL cs (a.take a.length) (b.take a.length) = joinL cs a b := by
  rw [List.take_length, h, List.take_length]
theorem joinL_length {cs : List Class} {a b : List Str} (h : a.length = b.length) : (joinL cs a b).length = a.length := by unfold joinL; simp [h]
theorem cell_new1 (w : World) (a : Value) (t : TypeId) : ∀ j u, [a][j]? = some u → (w.alloc (.cells #[a] t)).cell? ((⟨w.heap.size, 0, none⟩ : Addr).add j) = some u := by
  intro j u hj
  match j, hj with
  | 0, hj => simp at hj; subst hj; simp [Addr.add]
theorem one_str (a : Str) : ∀ u ∈ [Value.string a], u.oneCell' = true := by
  intro u hu
  simp at hu; subst hu; rfl
def BothPost (w : World) (cs : List Class) (a b : Frm) (e : Ending) (w' : World) : Prop :=
  Below w.heap.size w w' ∧ ((shapedB a b = true ∧ ∃ v1 v2, e = .returned (.tuple #[.agg #[v1, v2], .bool true]) ∧ FrameAt w' v1 v2 (bothF cs a b)) ∨ (shapedB a b = false ∧ e = .returned (.tuple #[.agg #[.slice none 0 0, .slice none 0 0], .bool false])))
set_option maxHeartbeats 4000000 in
set_option maxRecDepth 100000 in
theorem both_any (w0 w : World) (B : Nat) (l : List Class) (hm : WorldMap w0 w B l) (a b : Frm) (a1 a2 b1 b2 : Value) (ha : FrameAt w a1 a2 a) (hb : FrameAt w b1 b2 b) (hSa : FrmShort a) (hSb : FrmShort b) (hza : frameR (allC l) a = 0) (hzb : frameR (allC l) b = 0) :
    Calls Tryz.prog 64 #[.map (some B), .agg #[a1, a2], .agg #[b1, b2]] w (BothPost w (allC l) a b) := by
  obtain ⟨p1, c1, rfl, _, _, ha1⟩ := ha.1.open
  obtain ⟨p2, c2, rfl, _, _, ha2⟩ := ha.2.open
  obtain ⟨p3, c3, rfl, _, _, hb1⟩ := hb.1.open
  obtain ⟨p4, c4, rfl, _, _, hb2⟩ := hb.2.open
  obtain ⟨hla, hsa, hka1, hka2⟩ := frame_zero hza
  obtain ⟨hlb, hsb, hkb1, hkb2⟩ := frame_zero hzb
  have HO : Hid (∀ wx x y, Below w.heap.size w wx → (x ∈ a.locals ∧ y ∈ b.locals) ∨ (x ∈ a.stack ∧ y ∈ b.stack) → Calls Tryz.prog 109 #[.map (some B), .string x, .string y] wx fun e w' => e = .returned (.string (joinS (allC l) x y)) ∧ Below wx.heap.size wx w') := fun wx x y hB h => by
    have hx : kindR (allC l) x = 0 ∧ kindR (allC l) y = 0 ∧ x.size ≤ 4194304 ∧ y.size ≤ 4194304 := by
      rcases h with ⟨h1, h2⟩ | ⟨h1, h2⟩
      · exact ⟨hka1 x h1, hkb1 y h2, hSa.1 x h1, hSb.1 y h2⟩
      · exact ⟨hka2 x h1, hkb2 y h2, hSa.2 x h1, hSb.2 y h2⟩
    obtain ⟨X, hX⟩ := kind_of hx.1
    obtain ⟨Y, hY⟩ := kind_of hx.2.1
    refine (of_any w0 wx B l (hm.step hB) x y X Y hX hY hx.2.2.1 hx.2.2.2).mono ?_
    rintro e w' ⟨⟨z, rfl, hz, _⟩, hB'⟩
    exact ⟨by rw [joinS_text hX.1 hY.1 hz], hB'⟩
  have HA1 := Lib.hid ha1
  have HA2 := Lib.hid ha2
  have HB1 := Lib.hid hb1
  have HB2 := Lib.hid hb2
  obtain ⟨i0, hi, hz0, hz1, hz2⟩ := info_parts info_string
  obtain ⟨n, hn1⟩ : ∃ n, a.locals.length = n := ⟨_, rfl⟩
  obtain ⟨n', hn2⟩ : ∃ n, b.locals.length = n := ⟨_, rfl⟩
  obtain ⟨m, hm1⟩ : ∃ n, a.stack.length = n := ⟨_, rfl⟩
  obtain ⟨m', hm2⟩ : ∃ n, b.stack.length = n := ⟨_, rfl⟩
  rw [hn1, hn2, hm1, hm2]
  have HBn := Lib.hid ((((Below.refl w.heap.size w).alloc (Nat.le_refl _) (.cells #[.slice p1 n c1, .slice p2 m c2] 27)).alloc (by simp) (.cells #[.slice p3 n' c3, .slice p4 m' c4] 27)).alloc (by simp; omega) (.cells #[.slice none 0 0, .slice none 0 0] 27))
  rw [hn1] at hla
  rw [hm1] at hsa
  unfold BothPost
  clear ha1 ha2 hb1 hb2 hka1 hka2 hkb1 hkb2 hza hzb hSa hSb hm ha hb hlb hsb
  have hsh : shapedB a b = (decide (n = n') && decide (m = m')) := by unfold shapedB; rw [hn1, hn2, hm1, hm2]
  have HN1 := Lib.hid hn1
  have HN2 := Lib.hid hn2
  have HM1 := Lib.hid hm1
  have HM2 := Lib.hid hm2
  clear hn1 hn2 hm1 hm2
  generalize allC l = cs at *
  by_cases h1 : n = n'
  · by_cases h2 : m = m'
    · subst h1 h2
      have z1 : ((n : Int) != (n : Int)) = false := by simp
      have z2 : ((m : Int) != (m : Int)) = false := by simp
      rw [decide_eq_true rfl, decide_eq_true rfl, Bool.and_true] at hsh
      have HS := Lib.hid hsh
      clear hsh
      obtain ⟨w1, hw1⟩ : ∃ w1, w1 = (((w.alloc (.cells #[.slice p1 n c1, .slice p2 m c2] 27)).alloc (.cells #[.slice p3 n c3, .slice p4 m c4] 27)).alloc (.cells #[.slice none 0 0, .slice none 0 0] 27)).alloc (.cells #[.slice none 0 0, .slice none 0 0] 27) := ⟨_, rfl⟩
      have hB1' : Below w.heap.size w w1 := by rw [hw1]; exact HBn.out.alloc (by simp; omega) _
      have hsz : w1.heap.size = w.heap.size + 4 := by rw [hw1]; simp
      have hk0 : Blk w1 w.heap.size 27 [.slice p1 n c1, .slice p2 m c2] := by
        rw [hw1]
        exact (Blk.new w 27 _).step ((((Below.refl _ _).alloc (Nat.le_refl _) _).alloc (by simp) _).alloc (by simp) _)
      have hk1 : Blk w1 (w.heap.size + 1) 27 [.slice p3 n c3, .slice p4 m c4] := by
        rw [hw1]
        have := (Blk.new (w.alloc (.cells #[.slice p1 n c1, .slice p2 m c2] 27)) 27 [.slice p3 n c3, .slice p4 m c4]).step (((Below.refl _ _).alloc (Nat.le_refl _) (.cells #[.slice none 0 0, .slice none 0 0] 27)).alloc (by simp) (.cells #[.slice none 0 0, .slice none 0 0] 27))
        simpa using this
      have hk2 : Blk w1 (w.heap.size + 1 + 1) 27 [.slice none 0 0, .slice none 0 0] := by
        rw [hw1]
        have := (Blk.new ((w.alloc (.cells #[.slice p1 n c1, .slice p2 m c2] 27)).alloc (.cells #[.slice p3 n c3, .slice p4 m c4] 27)) 27 [.slice none 0 0, .slice none 0 0]).step ((Below.refl _ _).alloc (Nat.le_refl _) (.cells #[.slice none 0 0, .slice none 0 0] 27))
        simpa using this
      have hk3 : Blk w1 (w.heap.size + 1 + 1 + 1) 27 [.slice none 0 0, .slice none 0 0] := by
        rw [hw1]
        have := Blk.new (((w.alloc (.cells #[.slice p1 n c1, .slice p2 m c2] 27)).alloc (.cells #[.slice p3 n c3, .slice p4 m c4] 27)).alloc (.cells #[.slice none 0 0, .slice none 0 0] 27)) 27 [.slice none 0 0, .slice none 0 0]
        simpa using this
      have HW := Lib.hid hw1.symm
      go_enter Tryz.func64, Tryz.ntmps64
      go_wp2_with (first | fail)
      rw [HW.out]
      clear HW hw1 HBn
      have HK0 := Lib.hid hk0
      have HK1 := Lib.hid hk1
      have HK2 := Lib.hid hk2
      have HK3 := Lib.hid hk3
      have HBw := Lib.hid hB1'
      have HSz : Hid (w.heap.size + 4 ≤ w1.heap.size) := by unfold Hid; omega
      clear hk0 hk1 hk2 hk3 hB1' hsz
      go_loopw [33] (fun x wr => ∃ (k : Nat) (v : Value), k ≤ n ∧ Hid (Blk wr w.heap.size 27 [.slice p1 n c1, .slice p2 m c2]) ∧ Hid (Blk wr (w.heap.size + 1) 27 [.slice p3 n c3, .slice p4 m c4]) ∧ Hid (Blk wr (w.heap.size + 1 + 1) 27 [.slice none 0 0, .slice none 0 0]) ∧ Hid (Blk wr (w.heap.size + 1 + 1 + 1) 27 [v, .slice none 0 0]) ∧ Hid (wr.ownsRow (w.heap.size + 4) 9 1 v k ((joinL cs (a.locals.take k) (b.locals.take k)).map Value.string)) ∧ Below w.heap.size w wr ∧ Hid (w.heap.size + 4 ≤ wr.heap.size) ∧ x = .int .i64 k) (fun x _ => n - (intOf x).toNat)
      case atStart => exact ⟨0, _, by omega, HK0.out, HK1.out, HK2.out, HK3.out, World.ownsRow_nil _ _ _ _, HBw.out, HSz.out, rfl⟩
      case round =>
        clear HK0 HK1 HK2 HK3 HBw HSz
        obtain ⟨k, v, hk, hk0, hk1, hk2, hk3, hown, hB, hws, rfl⟩ := hrel
        by_cases hkl : k < n
        · obtain ⟨va, vc, rfl⟩ := ownsRow_shape hown.out
          obtain ⟨x, hx⟩ : ∃ x, a.locals[k]? = some x := ⟨a.locals[k]'(by rw [HN1.out]; exact hkl), by simp⟩
          obtain ⟨y, hy⟩ : ∃ y, b.locals[k]? = some y := ⟨b.locals[k]'(by rw [HN2.out]; exact hkl), by simp⟩
          obtain ⟨ba, oa, vs, rfl, hR, _, hca⟩ := HA1.out k x hx
          unfold StrCells at hR; subst hR
          obtain ⟨bb, ob, vs, rfl, hR, _, hcb⟩ := HB1.out k y hy
          unfold StrCells at hR; subst hR
          have c0 := (hca.mono hB hca.lt).1
          have d0 := (hcb.mono hB hcb.lt).1
          rw [Nat.mul_one] at c0 d0
          have e1 := hk1.out.cells2
          have q1 : wr.cell? ⟨w.heap.size + 1, 0, none⟩ = some (.slice (some ⟨bb, ob, none⟩) n c3) := e1.1
          have e3 := hk3.out.cells2
          have q3 : wr.cell? ⟨w.heap.size + 1 + 1 + 1, 0, none⟩ = some (.slice va k vc) := e3.1
          have hst := joinL_snoc (cs := cs) hx hy
          have HOx := Lib.hid (fun wx hb => HO.out wx x y hb (Or.inl ⟨List.mem_of_getElem? hx, List.mem_of_getElem? hy⟩))
          generalize joinS cs x y = z at *
          have HSt := Lib.hid hst
          have HBr := Lib.hid hB
          have b3 := Lib.hid q3
          clear hst hx hy hca hcb hB e1 e3
          go_upto_region 7 with (first | fail)
          have hb63 : k + 1 ≤ maxLen := by unfold maxLen; omega
          have hb16 : (k + 1) * 16 ≤ 140737488355328 := by omega
          have hno : ∀ b, b < w.heap.size + 4 → (Value.slice va k vc).ownBlock ≠ some b := fun b hb e => by have := (hown.out.lt _ e).1; omega
          have hi1 : (k : Int) < (n : Int) := by omega
          have hi0 : (0 : Int) ≤ (k : Int) := by omega
          go_region_law (first
            | (refine step_append_lies _ (by rfl) _ _ 25 (by rfl) (w.heap.size + 4) 9 i0 (.string .empty) 1 16 Tryz.underlying25 hi hz0 hz1 hz2 rfl (by decide) _ k _ (by rfl) hown7 ⟨w6.heap.size, 0, none⟩ 1 1 [.string z] (by rfl) rfl (cell_new1 w6 _ 9) (one_str _) (by decide) hb63 hb16 hbase7 (w6.heap.size + 1) (by simp) ?_; intro g cap w8 hown8 hgrow hat hlt; (have hk8 := hk37.grown hgrow (hno _ (by omega))); (have e8 := hk8.cells2); (have f8 := hk8.frozen 0))
            | (go_simp; go_at_call 109; refine (HOx.out _ (HBr.out.drew)).mono ?_; rintro e w6 ⟨rfl, hB6'⟩; (have hB6 := below_call ((Below.refl wr.heap.size wr).drew) (Nat.le_refl _) hB6'); (have d3 := (hB6.cell (p := ⟨w.heap.size + 1 + 1 + 1, 0, none⟩) (cells_blk b3.out)).trans b3.out); (have d4 := Lib.cell?_alloc_some (.cells #[.string z] 9) d3); (have hBy := hB6.alloc hB6.size (.cells #[.string z] 9)); (have hown7 := ownsRow_belowk hown.out hBy); (have hk37 := hk3.out.step hBy); (have hbase7 := Nat.le_trans hws.out hBy.size)))
          all_goals
            have hk07 := Lib.hid ((hk0.out.step hBy).grown hgrow (hno _ (by omega)))
            have hk17 := Lib.hid ((hk1.out.step hBy).grown hgrow (hno _ (by omega)))
            have hk27 := Lib.hid ((hk2.out.step hBy).grown hgrow (hno _ (by omega)))
            have hK8 := Lib.hid hk8
            have hO8 := Lib.hid hown8
            have hW8 : Hid (w.heap.size + 4 ≤ w8.heap.size) := Nat.le_trans hbase7 hgrow.size
            have hB8 := Lib.hid ((below_call HBr.out (Nat.le_refl _) hBy).grown hgrow (below_call HBr.out (Nat.le_refl _) hBy).size (fun g e => by have := (hown.out.lt g e).1; omega))
            obtain ⟨e8a, e8b⟩ := e8
            clear d3 d4 hBy hown7 hk37 hbase7 hgrow hat hlt hk8 hown8 hB6 hB6' b3 hno hk0 hk1 hk2 hk3 hown hws HOx c0 d0 q1 q3
            go_wp2_with (first | fail)
            go_roundw
            case rel => exact ⟨k + 1, Value.slice (some ⟨g, 0, none⟩) (k + 1) cap, by omega, hk07.out.other' (by show w.heap.size + 1 + 1 + 1 ≠ _; omega) _, hk17.out.other' (by show w.heap.size + 1 + 1 + 1 ≠ _; omega) _, hk27.out.other' (by show w.heap.size + 1 + 1 + 1 ≠ _; omega) _, hK8.out.put 0 _, by unfold Hid; rw [HSt.out, List.map_append]; exact owns_other' hO8.out (by omega) _ _, hB8.out.setCell (by show w.heap.size ≤ w.heap.size + 1 + 1 + 1; omega) _, copy_size hW8.out _ _, by simp⟩
            case measure => simp [intOf]; omega
        · obtain ⟨g1, k1, rfl⟩ := ownsRow_shape hown.out
          obtain rfl : n = k := by omega
          have hj := joinL_full (cs := cs) (a := a.locals) (b := b.locals) (by rw [HN1.out, HN2.out])
          rw [HN1.out] at hj
          have ho1 := hown.out
          rw [hj] at ho1
          obtain ⟨q0, q1⟩ := hk0.out.cells2
          have HK0 := Lib.hid hk0.out
          have HK1 := Lib.hid hk1.out
          have HK2 := Lib.hid hk2.out
          have HK3 := Lib.hid hk3.out
          have HO1 := Lib.hid ho1
          have HBw := Lib.hid hB
          have HSz := Lib.hid hws.out
          clear hk0 hk1 hk2 hk3 hown hB hws ho1 hj
          go_wp2_with (first | fail)
          go_loopw [55] (fun x wr => ∃ (k : Nat) (v : Value), k ≤ m ∧ Hid (Blk wr w.heap.size 27 [.slice p1 n c1, .slice p2 m c2]) ∧ Hid (Blk wr (w.heap.size + 1) 27 [.slice p3 n c3, .slice p4 m c4]) ∧ Hid (Blk wr (w.heap.size + 1 + 1) 27 [.slice none 0 0, .slice none 0 0]) ∧ Hid (Blk wr (w.heap.size + 1 + 1 + 1) 27 [.slice g1 n k1, v]) ∧ Hid (wr.ownsRow (w.heap.size + 4) 9 1 v k ((joinL cs (a.stack.take k) (b.stack.take k)).map Value.string)) ∧ Hid (wr.ownsRow (w.heap.size + 4) 9 1 (.slice g1 n k1) n ((joinL cs a.locals b.locals).map Value.string)) ∧ Hid (∀ g, (Value.slice g1 n k1).ownBlock = some g → v.ownBlock ≠ some g) ∧ Below w.heap.size w wr ∧ Hid (w.heap.size + 4 ≤ wr.heap.size) ∧ x = .int .i64 k) (fun x _ => m - (intOf x).toNat)
          case atStart => exact ⟨0, _, by omega, HK0.out, HK1.out, HK2.out, HK3.out, World.ownsRow_nil _ _ _ _, HO1.out, (by intro g _ h; cases h), HBw.out, HSz.out, rfl⟩
          case round =>
            clear HK0 HK1 HK2 HK3 HBw HSz HO1
            obtain ⟨k, v, hk, hk0, hk1, hk2, hk3, hown, hown1, hap, hB, hws, rfl⟩ := hrel
            by_cases hkl : k < m
            · obtain ⟨va, vc, rfl⟩ := ownsRow_shape hown.out
              obtain ⟨x, hx⟩ : ∃ x, a.stack[k]? = some x := ⟨a.stack[k]'(by rw [HM1.out]; exact hkl), by simp⟩
              obtain ⟨y, hy⟩ : ∃ y, b.stack[k]? = some y := ⟨b.stack[k]'(by rw [HM2.out]; exact hkl), by simp⟩
              obtain ⟨ba, oa, vs, rfl, hR, _, hca⟩ := HA2.out k x hx
              unfold StrCells at hR; subst hR
              obtain ⟨bb, ob, vs, rfl, hR, _, hcb⟩ := HB2.out k y hy
              unfold StrCells at hR; subst hR
              have c0 := (hca.mono hB hca.lt).1
              have d0 := (hcb.mono hB hcb.lt).1
              rw [Nat.mul_one] at c0 d0
              have e1 := hk1.out.cells2
              have q1 : wr.cell? ⟨w.heap.size + 1, 1, none⟩ = some (.slice (some ⟨bb, ob, none⟩) m c4) := e1.2
              have e3 := hk3.out.cells2
              have q3 : wr.cell? ⟨w.heap.size + 1 + 1 + 1, 1, none⟩ = some (.slice va k vc) := e3.2
              have hst := joinL_snoc (cs := cs) hx hy
              have HOx := Lib.hid (fun wx hb => HO.out wx x y hb (Or.inr ⟨List.mem_of_getElem? hx, List.mem_of_getElem? hy⟩))
              generalize joinS cs x y = z at *
              have HSt := Lib.hid hst
              have HBr := Lib.hid hB
              have b3 := Lib.hid q3
              clear hst hx hy hca hcb hB e1 e3
              go_upto_region 12 with (first | fail)
              have hb63 : k + 1 ≤ maxLen := by unfold maxLen; omega
              have hb16 : (k + 1) * 16 ≤ 140737488355328 := by omega
              have hno : ∀ b, b < w.heap.size + 4 → (Value.slice va k vc).ownBlock ≠ some b := fun b hb e => by have := (hown.out.lt _ e).1; omega
              have hi1 : (k : Int) < (m : Int) := by omega
              have hi0 : (0 : Int) ≤ (k : Int) := by omega
              go_region_law (first
                | (refine step_append_lies _ (by rfl) _ _ 25 (by rfl) (w.heap.size + 4) 9 i0 (.string .empty) 1 16 Tryz.underlying25 hi hz0 hz1 hz2 rfl (by decide) _ k _ (by rfl) hown7 ⟨w6.heap.size, 0, none⟩ 1 1 [.string z] (by rfl) rfl (cell_new1 w6 _ 9) (one_str _) (by decide) hb63 hb16 hbase7 (w6.heap.size + 1) (by simp) ?_; intro g cap w8 hown8 hgrow hat hlt; (have hk8 := hk37.grown hgrow (hno _ (by omega))); (have e8 := hk8.cells2); (have f8 := hk8.frozen 1))
                | (go_simp; go_at_call 109; refine (HOx.out _ (HBr.out.drew)).mono ?_; rintro e w6 ⟨rfl, hB6'⟩; (have hB6 := below_call ((Below.refl wr.heap.size wr).drew) (Nat.le_refl _) hB6'); (have d3 := (hB6.cell (p := ⟨w.heap.size + 1 + 1 + 1, 1, none⟩) (cells_blk b3.out)).trans b3.out); (have d4 := Lib.cell?_alloc_some (.cells #[.string z] 9) d3); (have hBy := hB6.alloc hB6.size (.cells #[.string z] 9)); (have hown7 := ownsRow_belowk hown.out hBy); (have hk37 := hk3.out.step hBy); (have hbase7 := Nat.le_trans hws.out hBy.size)))
              all_goals
                have hk07 := Lib.hid ((hk0.out.step hBy).grown hgrow (hno _ (by omega)))
                have hk17 := Lib.hid ((hk1.out.step hBy).grown hgrow (hno _ (by omega)))
                have hk27 := Lib.hid ((hk2.out.step hBy).grown hgrow (hno _ (by omega)))
                have hK8 := Lib.hid hk8
                have hO8 := Lib.hid hown8
                have hW8 : Hid (w.heap.size + 4 ≤ w8.heap.size) := Nat.le_trans hbase7 hgrow.size
                have hB8 := Lib.hid ((below_call HBr.out (Nat.le_refl _) hBy).grown hgrow (below_call HBr.out (Nat.le_refl _) hBy).size (fun g e => by have := (hown.out.lt g e).1; omega))
                have hG8 : ∀ g0, (Value.slice g1 n k1).ownBlock = some g0 → g0 ≠ g := fun g0 e0 he => by
                  subst he
                  rcases hat with h | h
                  · exact hap.out _ e0 h
                  · have h1 := (hown1.out.lt _ e0).2
                    have h2 := hBy.size
                    have h3 := hB6.size
                    omega
                have hP8 := Lib.hid ((ownsRow_belowk hown1.out hBy).kept hgrow (by
                  cases h : (Value.slice g1 n k1).ownBlock with
                  | none => exact Or.inl rfl
                  | some g0 => exact Or.inr (fun e => hap.out g0 h e.symm)))
                have hA8 : Hid (∀ g0, (Value.slice g1 n k1).ownBlock = some g0 → (Value.slice (some ⟨g, 0, none⟩) (k + 1) cap).ownBlock ≠ some g0) := fun g0 e0 he => hG8 g0 e0 (by injection he with he; exact he.symm)
                obtain ⟨e8a, e8b⟩ := e8
                clear d3 d4 hBy hown7 hk37 hbase7 hgrow hat hlt hk8 hown8 hB6 hB6' b3 hno hk0 hk1 hk2 hk3 hown hws HOx c0 d0 q1 q3 hG8 hown1 hap
                go_wp2_with (first | fail)
                go_roundw
                case rel => exact ⟨k + 1, Value.slice (some ⟨g, 0, none⟩) (k + 1) cap, by omega, hk07.out.other' (by show w.heap.size + 1 + 1 + 1 ≠ _; omega) _, hk17.out.other' (by show w.heap.size + 1 + 1 + 1 ≠ _; omega) _, hk27.out.other' (by show w.heap.size + 1 + 1 + 1 ≠ _; omega) _, hK8.out.put 1 _, by unfold Hid; rw [HSt.out, List.map_append]; exact owns_other' hO8.out (by omega) _ _, owns_other' hP8.out (by omega) _ _, hA8.out, hB8.out.setCell (by show w.heap.size ≤ w.heap.size + 1 + 1 + 1; omega) _, copy_size hW8.out _ _, by simp⟩
                case measure => simp [intOf]; omega
            · obtain ⟨va, vc, rfl⟩ := ownsRow_shape hown.out
              obtain rfl : m = k := by omega
              have hj := joinL_full (cs := cs) (a := a.stack) (b := b.stack) (by rw [HM1.out, HM2.out])
              rw [HM1.out] at hj
              have ho2 := hown.out
              rw [hj] at ho2
              obtain ⟨q0, q1⟩ := hk3.out.cells2
              obtain ⟨q2, q3⟩ := hk2.out.cells2
              have f2 := hk2.out.frozen 0
              have f3 := hk2.out.frozen 1
              have HR1 := Lib.hid (owns_other' (owns_other' hown1.out (show w.heap.size + 1 + 1 < w.heap.size + 4 by omega) 0 (.slice g1 n k1)) (show w.heap.size + 1 + 1 < w.heap.size + 4 by omega) 1 (.slice va m vc))
              have HR2 := Lib.hid (owns_other' (owns_other' ho2 (show w.heap.size + 1 + 1 < w.heap.size + 4 by omega) 0 (.slice g1 n k1)) (show w.heap.size + 1 + 1 < w.heap.size + 4 by omega) 1 (.slice va m vc))
              have HBw := Lib.hid (below_set2 (b := w.heap.size + 1 + 1) hB (by omega) (.slice g1 n k1) (.slice va m vc))
              clear hk0 hk1 hk2 hk3 hown hown1 hap hB hws ho2 hj
              go_wp2_with (first | fail)
              refine bodyPost_ret (v := .tuple #[.agg #[.slice g1 n k1, .slice va m vc], .bool true]) (by simp [results, Tryz.results64, go_sem, *]) rfl ⟨HBw.out, Or.inl ⟨HS.out, _, _, rfl, ?_⟩⟩
              exact ⟨strsAt_of_owns (l := joinL cs a.locals b.locals) (by rw [joinL_length (by rw [HN1.out, HN2.out]), HN1.out]; exact HR1.out), strsAt_of_owns (l := joinL cs a.stack b.stack) (by rw [joinL_length (by rw [HM1.out, HM2.out]), HM1.out]; exact HR2.out)⟩
    · have z1 : ((n : Int) != (n' : Int)) = false := by simp [h1]
      have z2 : ((m : Int) != (m' : Int)) = true := by simp; omega
      rw [decide_eq_false h2, Bool.and_false] at hsh
      have HS := Lib.hid hsh
      clear hsh h1 h2
      go_enter Tryz.func64, Tryz.ntmps64
      go_wp2_with (first | fail)
      exact bodyPost_ret (v := .tuple #[.agg #[.slice none 0 0, .slice none 0 0], .bool false]) (by simp [results, Tryz.results64, go_sem, *]) rfl ⟨HBn.out, Or.inr ⟨HS.out, rfl⟩⟩
  · have z1 : ((n : Int) != (n' : Int)) = true := by simp; omega
    rw [decide_eq_false h1, Bool.false_and] at hsh
    have HS := Lib.hid hsh
    clear hsh h1
    go_enter Tryz.func64, Tryz.ntmps64
    go_wp2_with (first | fail)
    exact bodyPost_ret (v := .tuple #[.agg #[.slice none 0 0, .slice none 0 0], .bool false]) (by simp [results, Tryz.results64, go_sem, *]) rfl ⟨HBn.out, Or.inr ⟨HS.out, rfl⟩⟩
end Go.Proofs.YtlmfmioljeppfaaGreatDoor
namespace Go.Proofs.YtlmfmioljeppfaaGreatDoor
open Go.RowKit Go.Shelf Go.Lib
theorem StrsAt.apart {w : World} {v : Value} {l : List Str} {b : Nat} {t : TypeId} {x y : Value} (h : StrsAt w v l) (hk : Blk w b t [x, y]) (hx : ∀ s, x ≠ .string s) (hy : ∀ s, y ≠ .string s) {w' : World} (hw : ∀ g, g ≠ b → w'.heap[g]? = w.heap[g]?) : StrsAt w' v l := by
  cases l with
  | nil =>
    rcases h with h | ⟨a, cap, h1, h2, h3, _⟩
    · exact Or.inl h
    · exact Or.inr ⟨a, cap, h1, h2, h3, fun i x hx => by simp at hx⟩
  | cons z r =>
    refine SliceOf.block h fun g hg => hw g fun he => ?_
    subst he
    rcases h with ⟨_, h⟩ | ⟨a, cap, h1, h2, h3, h4⟩
    · cases h
    · rw [h1] at hg
      injection hg with hg
      subst hg
      obtain ⟨vs, r1, _, _, r4⟩ := h4 0 z rfl
      unfold StrCells at r1; subst r1
      have hc := r4.1
      rw [hk.cell] at hc
      rcases Nat.lt_or_ge (a.off + 0 * 1) 2 with h | h
      · have : a.off + 0 * 1 = 0 ∨ a.off + 0 * 1 = 1 := by omega
        rcases this with h | h <;> rw [h] at hc <;> injection hc with hc
        · exact hx _ hc
        · exact hy _ hc
      · rw [List.getElem?_eq_none (by simpa using h)] at hc; cases hc
end Go.Proofs.YtlmfmioljeppfaaGreatDoor
