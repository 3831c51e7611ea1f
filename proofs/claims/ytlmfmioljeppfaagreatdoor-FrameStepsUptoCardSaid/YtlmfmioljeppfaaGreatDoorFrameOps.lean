/-
  WALKS over same.Method, of a method without code and handlers; blocks that are stored to.
  ROWS of structs of three texts (lay's slots, tables' slots): append of one element on a row of the call's own.
  EQUALITY of structs of texts: fields, lay's slots, tables' slots.
  ROWS of texts: where they point, append of a list of texts on a row of the call's own.
  slices.Reverse on a row of texts that the call owns.
  WALKS over lay.slots, Types. Conditions: a right world, a class that is there.
  WALKS over the reference's FieldTypes, FieldPlace. Conditions: a right world, a class that is there.
  PLAIN LAW: heaps; what is wrong with one; which value holds which type; new things.
  HEAPS in memory; WALKS over heap.Does, Zero, num.Word. Conditions: a right world; things with right types.
  WALKS over bits.Mul64, Mul, slices.Repeat of one text at most ten times. Conditions: so many.
  WALKS over heap.types, formed. Conditions: a right world; a type's text of at most maxLen signs.
  PLAIN LAW: the types of what right things have are types.
  WALKS over heap.Right, read, Check. Conditions: a right world; types' texts of at most maxLen signs.
  WALK over the law's beasts.
  WALKS over sub.Read, Fits, Is and the law's catIs. Conditions: as in XRead; texts of at most maxLen signs.
  WALKS over join.classes. Conditions: a right world, classes that are there.
  WALKS over join.Of, Join, Below. Conditions: a right world, kinds that are there; texts of at most 4194304 signs.
  WALKS over heap.read, Check, Holds. Conditions: as in XRead; types' texts of at most maxLen signs.
  ROWS of values and of things: append of one, what lies at an index, slices.Clone of values. Conditions: lists of at most 4194304 elements.
  WALKS over heap.Zero, Copy, Fresh, More. Conditions: things of right types; rows of at most 4194304 elements.
  PLAIN LAW: frames; what is wrong with one; two joined.
  WALKS over slices.Grow of nil, slices.Concat of two lists of texts, slices.Equal. Conditions: at most sixteen texts in all (Concat).
  WALKS over frame.check, Check, Both, Same, Join, Below. Conditions: as in XRead; kinds' texts of at most maxLen signs.
  WALKS over frame.Join, Below. Conditions: as in XRead; kinds' texts of at most 4194304 signs.
-/
import Derived.Test.YtlmfmioljeppfaaGreatDoorFind
import Derived.Test.YtlmfmioljeppfaaGreatDoorLineLaw
import Derived.Test.YtlmfmioljeppfaaGreatDoorShelf
import Derived.Test.YtlmfmioljeppfaaGreatDoorLayLaw
import Derived.Test.YtlmfmioljeppfaaGreatDoorSub
import Derived.Deep.QuietTactic
import Derived.BigQuiet
import Derived.Lib.AppendZeros
import Derived.Sort.OwnSorted
import Derived.Lib.OwnBridge
import Derived.Laws.CopyOwn
import Derived.IntWalk
import Derived.Deep.OwnRows
import Derived.Deep.RegionLaw
import Derived.Deep.RegionHeld3
import Derived.StillTailTactics
import Derived.Lib.SliceRun
import Derived.Deep.AppendLies
import Derived.Lib.AppendZerosOnto
namespace Go.Proofs.YtlmfmioljeppfaaGreatDoor
open Go.RowKit Go.Shelf Go.Lib
theorem Blk.put {w : World} {b : Nat} {t : TypeId} {vals : List Value} (h : Blk w b t vals) (j : Nat) (v : Value) : Blk (w.setCell ⟨b, j, none⟩ v) b t (vals.set j v) := by
  unfold Blk at *
  rw [heap_setCell_same w b j _ t v h]
  simp
theorem Blk.other {w : World} {b b' : Nat} {t : TypeId} {vals : List Value} (h : Blk w b t vals) (hne : b ≠ b') (j : Nat) (v : Value) : Blk (w.setCell ⟨b', j, none⟩ v) b t vals := by
  unfold Blk at *
  rw [heap_setCell_other w ⟨b', j, none⟩ b v hne]; exact h
theorem Blk.put2 {w : World} {b : Nat} {t : TypeId} {a0 a1 : Value} (h : Blk w b t [a0, a1]) (v0 v1 : Value) : Blk ((w.setCell ⟨b, 0, none⟩ v0).setCell ⟨b, 1, none⟩ v1) b t [v0, v1] := (h.put 0 v0).put 1 v1
theorem Blk.cells2 {w : World} {b : Nat} {t : TypeId} {a0 a1 : Value} (h : Blk w b t [a0, a1]) : w.cell? ⟨b, 0, none⟩ = some a0 ∧ w.cell? ⟨b, 1, none⟩ = some a1 := ⟨h.cell 0, h.cell 1⟩
theorem Blk.cells8 {w : World} {b : Nat} {t : TypeId} {a0 a1 a2 a3 a4 a5 a6 a7 : Value} (h : Blk w b t [a0, a1, a2, a3, a4, a5, a6, a7]) :
    w.cell? ⟨b, 0, none⟩ = some a0 ∧ w.cell? ⟨b, 1, none⟩ = some a1 ∧ w.cell? ⟨b, 2, none⟩ = some a2 ∧ w.cell? ⟨b, 3, none⟩ = some a3 ∧ w.cell? ⟨b, 4, none⟩ = some a4 ∧ w.cell? ⟨b, 5, none⟩ = some a5 ∧ w.cell? ⟨b, 6, none⟩ = some a6 ∧ w.cell? ⟨b, 7, none⟩ = some a7 :=
  ⟨h.cell 0, h.cell 1, h.cell 2, h.cell 3, h.cell 4, h.cell 5, h.cell 6, h.cell 7⟩
end Go.Proofs.YtlmfmioljeppfaaGreatDoor
namespace Go.Proofs.YtlmfmioljeppfaaGreatDoor
open Go.RowKit Go.Shelf Go.Lib
end Go.Proofs.YtlmfmioljeppfaaGreatDoor
namespace Go.Proofs.YtlmfmioljeppfaaGreatDoor
open Go.RowKit Go.Shelf Go.Lib
theorem cells_blk {w : World} {b o : Nat} {v : Value} (h : w.cell? ⟨b, o, none⟩ = some v) : b < w.heap.size := Cells.lt (w := w) (b := b) (o := o) (v := v) (r := []) ⟨h, trivial⟩
theorem cells_every {w : World} {b : Nat} : ∀ {vs : List Value} {o : Nat}, (∀ i v, vs[i]? = some v → w.cell? ⟨b, o + i, none⟩ = some v) → Cells w b o vs
  | [], _, _ => trivial
  | v :: r, o, h => ⟨h 0 v rfl, cells_every fun i x hx => by
      have := h (i + 1) x (by simpa using hx)
      rwa [show o + (i + 1) = o + 1 + i by omega] at this⟩
/-- what has just been boxed lies there -/
theorem boxed_mk (w : World) (cs : Array Value) (t : TypeId) : Boxed w (w.alloc (.cells cs t)) cs.toList :=
  ⟨(Below.refl _ _).alloc (Nat.le_refl _) _, by simp, cells_every fun i v h => by
    rw [cell_of_row (w.alloc (.cells cs t)) w.heap.size (0 + i) cs t (0, 0) (heap_alloc_new _ _), Nat.zero_add]
    simpa using h⟩
end Go.Proofs.YtlmfmioljeppfaaGreatDoor
namespace Go.Proofs.YtlmfmioljeppfaaGreatDoor
open Go.RowKit Go.Shelf Go.Lib
theorem strs_one (w : World) (s : Str) : StrsAt (w.alloc (.cells #[.string s] 9)) (.slice (some ⟨w.heap.size, 0, none⟩) 1 1) [s] :=
  strsAt_of_owns (l := [s]) (ownsRow_one w w.heap.size (.string s) (Nat.le_refl _))
/-- where a slice of texts that is not empty points -/
theorem StrsAt.ptr {w : World} {p : Option Addr} {n c : Nat} {l : List Str} (h : StrsAt w (.slice p n c) l) (hl : 0 < l.length) : (∃ b o, p = some ⟨b, o, none⟩) ∧ n = l.length ∧ n ≤ c ∧ c ≤ maxLen := by
  rcases h with ⟨_, h⟩ | ⟨a, cap, h1, h2, h3, h4⟩
  · rw [h] at hl; simp at hl
  · injection h1 with e1 e2 e3
    subst e1 e2 e3
    obtain ⟨y, r, rfl⟩ := List.exists_cons_of_ne_nil (List.ne_nil_of_length_pos hl)
    obtain ⟨_, _, _, r3, _⟩ := h4 0 y rfl
    exact ⟨⟨a.block, a.off, congrArg some r3⟩, rfl, h2, h3⟩
theorem StrsAt.cell {w : World} {b o n c : Nat} {l : List Str} (h : StrsAt w (.slice (some ⟨b, o, none⟩) n c) l) {k : Nat} {x : Str} (hx : l[k]? = some x) : w.cell? ⟨b, o + k, none⟩ = some (.string x) := by
  rcases h with ⟨h, _⟩ | ⟨a, cap, h1, h2, h3, h4⟩
  · simp at h
  · injection h1 with e1
    injection e1 with e1
    subst e1
    obtain ⟨vs, r1, _, _, r4⟩ := h4 k x hx
    unfold StrCells at r1; subst r1
    have := r4.1
    rwa [Nat.mul_one] at this
/-- append of a list of texts, nil or not, on a row of the call's own -/
theorem wpList_append_strs {w : World} {ops : Array Oper} {rest : List Oper} {o : Oper} {a : Act} {Q : Exit → Act → World → Prop} (hgd : o.guard = none) (s x : Operand)
    (ho : o.op = .call { callee := .builtin .append, args := #[s, x], argTypes := #[25, 25] })
    (base : Nat) (v : Value) (n : Nat) (xs : List Value) (hs : a.eval s = v) (hown : w.ownsRow base 9 1 v n xs)
    (y : Value) (l : List Str) (hx : a.eval x = y) (hy : StrsAt w y l) (h63 : n + l.length ≤ maxLen) (hbytes : (n + l.length) * 16 ≤ 140737488355328) (hbase : base ≤ w.heap.size)
    (h : ∀ v' w', w'.ownsRow base 9 1 v' (n + l.length) (xs ++ l.map Value.string) → w.grownBy w' v.ownBlock → (v'.ownBlock = v.ownBlock ∨ v'.ownBlock = some w.heap.size) → wpList Tryz.prog ops Q rest (a.put o.dst v') w') :
    wpList Tryz.prog ops Q (o :: rest) a w := by
  obtain ⟨i0, hi, hz0, hz1, hz2⟩ := info_parts info_string
  rcases hy with ⟨rfl, rfl⟩ | ⟨ad, cap, rfl, _⟩
  · refine wpList_append_own_none hgd s x 25 ho base 9 i0 1 Tryz.underlying25 hi v n xs hs hown hx ?_
    exact h v w (by simpa using hown) (World.grownBy.refl w _) (Or.inl rfl)
  · have hy : StrsAt w (.slice (some ad) l.length cap) l := Or.inr ⟨ad, cap, rfl, by assumption⟩
    refine wpList_append_own_at _ hgd s x 25 ho base 9 i0 (.string .empty) 1 16 Tryz.underlying25 hi hz0 hz1 hz2 rfl (by decide) v n xs hs hown ad l.length cap (l.map Value.string) hx (by simp) (strs_news hy)
      (fun u hu => by obtain ⟨x, _, rfl⟩ := List.mem_map.1 hu; rfl) h63 hbytes hbase fun v' w' h1 h2 _ h4 => h v' w' h1 h2 h4
theorem run_append_strs {w : World} (ty : TypeId) (base : Nat) (v : Value) (n : Nat) (xs : List Value) (hown : w.ownsRow base 9 1 v n xs) (y : Value) (l : List Str) (hy : StrsAt w y l) (h63 : n + l.length ≤ maxLen) (hbytes : (n + l.length) * 16 ≤ 140737488355328) (hbase : base ≤ w.heap.size) :
    ∃ v' w', (Builtin.append_ #[25, 25] ty #[v, y]).run Tryz.prog w = .ok v' w' ∧ w'.ownsRow base 9 1 v' (n + l.length) (xs ++ l.map Value.string) ∧ w.grownBy w' v.ownBlock := by
  obtain ⟨i0, hi, hz0, hz1, hz2⟩ := info_parts info_string
  rcases hy with ⟨rfl, rfl⟩ | ⟨ad, cap, rfl, hh⟩
  · exact ⟨v, w, run_append_owned_none w base 25 ty 9 i0 1 Tryz.underlying25 hi v n xs hown, by simpa using hown, World.grownBy.refl w _⟩
  · have hy : StrsAt w (.slice (some ad) l.length cap) l := Or.inr ⟨ad, cap, rfl, hh⟩
    obtain ⟨v', w', hr, h2, h3, _⟩ := run_append_own (P := Tryz.prog) w base 25 ty 9 i0 (.string .empty) 1 16 Tryz.underlying25 hi hz0 hz1 hz2 rfl (by decide) v n xs hown ad l.length cap (l.map Value.string) (by simp) (strs_news hy)
      (fun u hu => by obtain ⟨x, _, rfl⟩ := List.mem_map.1 hu; rfl) h63 hbytes hbase
    exact ⟨v', w', hr, h2, h3⟩
/-- append of a list of texts, at a step of a region that draws its order -/
theorem step_append_strs {w : World} {ops : Array Oper} {o : Oper} {a : Act} {K : Act → World → Prop} {Q : Exit → Act → World → Prop} {E : Prop} (hgd : o.guard = none) (s x : Operand)
    (ho : o.op = .call { callee := .builtin .append, args := #[s, x], argTypes := #[25, 25] })
    (base : Nat) (v : Value) (n : Nat) (xs : List Value) (hs : a.eval s = v) (hown : w.ownsRow base 9 1 v n xs)
    (y : Value) (l : List Str) (hx : a.eval x = y) (hy : StrsAt w y l) (h63 : n + l.length ≤ maxLen) (hbytes : (n + l.length) * 16 ≤ 140737488355328) (hbase : base ≤ w.heap.size)
    (h : ∀ v' w', w'.ownsRow base 9 1 v' (n + l.length) (xs ++ l.map Value.string) → w.grownBy w' v.ownBlock → K (a.put o.dst v') w') :
    if Region.wanted o (yielded ops a.tmps) = true then Oper.wp Tryz.prog o a w K Q else E := by
  have hw : Region.wanted o (yielded ops a.tmps) = true := by simp [Region.wanted, hgd]
  rw [if_pos hw]
  obtain ⟨v', w', hr, h2, h3⟩ := run_append_strs o.type base v n xs hown y l hy h63 hbytes hbase
  exact Lib.wp_append_run w s x 25 25 ho v y hs hx v' w' hr (h v' w' h2 h3)
theorem ownsRow_none (w : World) (base : Nat) (hb : base ≤ w.heap.size) : (w.alloc (.cells #[] 9)).ownsRow base 9 1 (.slice (some ⟨w.heap.size, 0, none⟩) 0 0) 0 [] :=
  ⟨rfl, Or.inr ⟨w.heap.size, 0, #[], rfl, hb, heap_alloc_new _ _, Nat.le_refl _, by decide, rfl, rfl⟩⟩
theorem lineF_length (cs : List Class) : ∀ (f : Nat) (n : Str), (lineF cs f n).length ≤ f + 1
  | 0, _ => by simp [lineF]
  | f + 1, n => by
    rw [lineF]
    split
    · simp
    · have := lineF_length cs f (classC cs n).super
      simp; omega
end Go.Proofs.YtlmfmioljeppfaaGreatDoor
namespace Go.Proofs.YtlmfmioljeppfaaGreatDoor
open Go.RowKit Go.Shelf Go.Lib Go.Sort
theorem heap_turned {w : World} {g n : Nat} {cur : Array Value} {e : TypeId} {fr : Nat × Nat} (d : Array (List UInt8)) (hb : w.heap[g]? = some (.cells cur e fr)) :
    (putRow encStr (Sort.ahead w n) g 0 d).heap[g]? = some (.cells (putCells encStr 0 d cur) e fr) := by
  simp [putRow, mapBlock, Sort.ahead, Array.getElem?_modify, hb, onCells]
theorem grownBy_turned {w : World} {g n : Nat} (d : Array (List UInt8)) : w.grownBy (putRow encStr (Sort.ahead w n) g 0 d) (some g) := by
  refine ⟨rfl, rfl, rfl, by simp, fun k hk hne => ?_⟩
  have : g ≠ k := fun e => hne (by rw [e])
  simp [putRow, mapBlock, Sort.ahead, Array.getElem?_modify, this]
theorem ownsRow_turned {w : World} {base g cap n : Nat} {e : TypeId} {cur : Array Value} {ss ts : List (List UInt8)} (hl : ts.length = ss.length) (hbase : base ≤ g) (hb : w.heap[g]? = some (.cells cur e (0, 0)))
    (h1 : ss.length ≤ cap) (h2 : cap ≤ maxLen) (h3 : cur.size = cap * 1) :
    (putRow encStr (Sort.ahead w n) g 0 ts.toArray).ownsRow base e 1 (.slice (some ⟨g, 0, none⟩) ss.length cap) ss.length (ts.map encStr) :=
  ⟨by simp [hl], .inr ⟨g, cap, _, rfl, hbase, heap_turned _ hb, h1, h2, by simp [putCells, h3], by rw [Nat.mul_one, ← hl]; exact take_putCells cur ts (by omega)⟩⟩
/-- slices.Reverse on a row of strings that the call owns -/
theorem reverse_own {w : World} {base : Nat} {a : Option Addr} {c : Nat} {l : List Str} (h : w.ownsRow base 9 1 (.slice a l.length c) l.length (l.map Value.string)) (hl : l.length ≤ 9223372036854775807) :
    Calls Tryz.prog 189 #[.slice a l.length c] w fun e w' => e = .returned (.tuple #[]) ∧ w'.ownsRow base 9 1 (.slice a l.reverse.length c) l.reverse.length (l.reverse.map Value.string) ∧ w.grownBy w' (Value.slice a l.length c).ownBlock := by
  rcases h.2 with ⟨h1, h2⟩ | ⟨g, cap, cur, hv, hbase, hb, k1, k2, k3, k4⟩
  · obtain rfl := List.length_eq_zero_iff.1 h2
    injection h1 with h1 _ h3
    subst h1 h3
    refine (Tryz.slices_Reverse_string_empty none 0 w).mono ?_
    rintro e w' ⟨rfl, rfl⟩
    exact ⟨rfl, h, World.grownBy.refl w' _⟩
  · injection hv with hv1 _ hv3
    subst hv1 hv3
    have hm := Lib.map_encStr l
    have hlen : (l.map (·.data.toList)).length = l.length := by simp
    have hH := holds_of_block (ss := l.map (·.data.toList)) hb (by rw [hlen, hm]; simpa using k4)
    have hc := Tryz.slices_Reverse_string g 0 c (l.map (·.data.toList)) w hH (by rw [hlen]; exact hl)
    rw [hlen] at hc
    refine hc.mono ?_
    rintro e w' ⟨rfl, n, rfl⟩
    have ho := ownsRow_turned (n := n) (ts := (l.map (·.data.toList)).reverse) (ss := l.map (·.data.toList)) (by simp) hbase hb (by rw [hlen]; exact k1) k2 k3
    rw [hlen] at ho
    refine ⟨rfl, ?_, grownBy_turned _⟩
    have : ((l.map (·.data.toList)).reverse.map Proofs.encStr) = l.reverse.map Value.string := by
      rw [← List.map_reverse]; exact Lib.map_encStr l.reverse
    rw [this] at ho
    rw [List.length_reverse]
    exact ho
/-- the same with the length as it is told -/
theorem reverse_at {w : World} {base : Nat} {a : Option Addr} {c n : Nat} {l : List Str} (h : w.ownsRow base 9 1 (.slice a n c) n (l.map Value.string)) (hn : n = l.length) (hl : n ≤ 9223372036854775807) :
    Calls Tryz.prog 189 #[.slice a n c] w fun e w' => e = .returned (.tuple #[]) ∧ w'.ownsRow base 9 1 (.slice a n c) n (l.reverse.map Value.string) ∧ w.grownBy w' (Value.slice a n c).ownBlock := by
  subst hn
  have := reverse_own h hl
  rwa [List.length_reverse] at this
end Go.Proofs.YtlmfmioljeppfaaGreatDoor
namespace Go.Proofs.YtlmfmioljeppfaaGreatDoor
open Go.RowKit Go.Shelf Go.Lib
end Go.Proofs.YtlmfmioljeppfaaGreatDoor
namespace Go.Proofs.YtlmfmioljeppfaaGreatDoor
open Go.RowKit Go.Shelf Go.Lib
structure Val where
  kind : Int
  n : Int
  deriving DecidableEq
structure Thing where
  type : Str
  has : List Val
  deriving DecidableEq
/-- the tree of a type's text -/
def parseTy : List UInt8 → Ty
  | [] => .i
  | c :: r => if c = 73 then .i else if c = 74 then .j else if c = 91 then .ar (parseTy r) else .cl (str (r.take (r.length - 1)))
theorem parse_text : ∀ x : Ty, parseTy (tyText x) = x
  | .i => rfl
  | .j => rfl
  | .ar x => by
    show (if (91 : UInt8) = 73 then Ty.i else if (91 : UInt8) = 74 then Ty.j else if (91 : UInt8) = 91 then .ar (parseTy (tyText x)) else _) = _
    rw [if_neg (by decide), if_neg (by decide), if_pos rfl, parse_text x]
  | .cl c => by
    show (if (76 : UInt8) = 73 then Ty.i else if (76 : UInt8) = 74 then Ty.j else if (76 : UInt8) = 91 then _ else Ty.cl (str ((lst c ++ [59]).take ((lst c ++ [59]).length - 1)))) = _
    rw [if_neg (by decide), if_neg (by decide), if_neg (by decide)]
    simp
    rfl
def tyOf (k : Str) : Ty := parseTy (lst k)
theorem tyOf_text {k : Str} {x : Ty} (h : tyText x = lst k) : tyOf k = x := by unfold tyOf; rw [← h, parse_text]
/-- a thing's type, as a tree -/
structure ThingTy (cs : List Class) (x : Thing) (t : Ty) : Prop where
  text : tyText t = lst x.type
  good : goodTy cs t = true
  ref : isRef t = true
  deep : deepTy t ≤ 3
theorem ThingTy.of {cs : List Class} {x : Thing} {t : Ty} (h : ThingTy cs x t) : tyOf x.type = t := tyOf_text h.text
theorem firstFault_zero {α : Type} {f : α → Nat} : ∀ {l : List α}, firstFault f l = 0 → ∀ x ∈ l, f x = 0
  | [], _, _, h => by cases h
  | y :: r, h, x, hx => by
    unfold firstFault at h
    by_cases h0 : f y = 0
    · rw [if_pos h0] at h
      rcases List.mem_cons.1 hx with rfl | hx
      · exact h0
      · exact firstFault_zero h x hx
    · rw [if_neg h0] at h; exact absurd h h0
end Go.Proofs.YtlmfmioljeppfaaGreatDoor
namespace Go.Proofs.YtlmfmioljeppfaaGreatDoor
open Go.RowKit Go.Shelf Go.Lib
def ValCells (v : Val) (vs : List Value) : Prop := vs = [.int .i64 v.kind, .int .i64 v.n]
def ThingCells (w : World) (x : Thing) (vs : List Value) : Prop := ∃ hv, vs = [.string x.type, hv] ∧ SliceOf w 2 ValCells hv x.has
def ThingsAt (w : World) (v : Value) (h : List Thing) : Prop := SliceOf w 2 (ThingCells w) v h
theorem ThingCells.mono {w w' : World} (hb : Below w.heap.size w w') {x : Thing} {vs : List Value} : ThingCells w x vs → ThingCells w' x vs
  | ⟨hv, h1, h2⟩ => ⟨hv, h1, h2.mono hb (by decide) (fun _ _ h => h)⟩
theorem ThingsAt.mono {w w' : World} (hb : Below w.heap.size w w') {v : Value} {h : List Thing} (hh : ThingsAt w v h) : ThingsAt w' v h := SliceOf.mono hb (by decide) (fun _ _ h => h.mono hb) hh
end Go.Proofs.YtlmfmioljeppfaaGreatDoor
namespace Go.Proofs.YtlmfmioljeppfaaGreatDoor
open Go.RowKit Go.Shelf Go.Lib
end Go.Proofs.YtlmfmioljeppfaaGreatDoor
namespace Go.Proofs.YtlmfmioljeppfaaGreatDoor
open Go.RowKit Go.Shelf Go.Lib
end Go.Proofs.YtlmfmioljeppfaaGreatDoor
namespace Go.Proofs.YtlmfmioljeppfaaGreatDoor
open Go.RowKit Go.Shelf Go.Lib
/-- a type's text, whether its class is there or not -/
structure TyText (t : Str) (y : Ty) : Prop where
  text : tyText y = lst t
  name : nameOk y = true
  deep : deepTy y ≤ 3
theorem TyText.of {t : Str} {y : Ty} (h : TyText t y) : tyOf t = y := tyOf_text h.text
theorem ty_of_type {t : Str} (h : typeB (lst t) = true) : ∃ y, TyText t y := by
  obtain ⟨y, h1, _, h3⟩ := typeB_ty (lst t) h
  exact ⟨y, h1, h3, deep_of_type (by rw [h1]; exact h)⟩
theorem name_le {s : List UInt8} (h : nameB s = true) : s.length ≤ 20 := by
  unfold nameB at h
  cases s with
  | nil => exact Nat.zero_le _
  | cons a r =>
    simp only [Bool.and_eq_true] at h
    exact of_decide_eq_true h.1.1
theorem ty_size : ∀ y : Ty, nameOk y = true → (tyText y).length ≤ deepTy y + 22
  | .i, _ => by simp [tyText]
  | .j, _ => by simp [tyText]
  | .cl c, h => by
    have := name_le (s := lst c) h
    simp only [tyText, List.length_cons, List.length_append, List.length_nil, deepTy]; omega
  | .ar y, h => by
    have := ty_size y h
    simp only [tyText, List.length_cons, deepTy]; omega
theorem TyText.size {t : Str} {y : Ty} (h : TyText t y) : t.size ≤ maxLen := by
  have h1 := ty_size y h.name
  have h2 : (lst t).length = t.size := rfl
  rw [h.text] at h1
  have := h.deep
  unfold maxLen; omega
theorem fold_fields : ∀ (r a : List Field), foldFault fieldFault a r = 0 → ∀ f ∈ r, typeB (lst f.type) = true
  | [], _, _, f, hf => by cases hf
  | x :: r, a, h, f, hf => by
    unfold foldFault at h
    by_cases h0 : fieldFault x a = 0
    · rw [if_pos h0] at h
      rcases List.mem_cons.1 hf with rfl | hf
      · unfold fieldFault at h0
        split at h0
        · cases h0
        · rename_i h1
          rw [Bool.not_eq_true, Bool.or_eq_false_iff, Bool.not_eq_false', Bool.not_eq_false'] at h1
          exact h1.2
      · exact fold_fields r _ h f hf
    · rw [if_neg h0] at h; exact absurd h h0
theorem class_fields_type {l : List Class} (hf : ∀ c ∈ l, classFault c = 0) (x : Str) : ∀ f ∈ (classC (allC l) x).fields, typeB (lst f.type) = true := by
  unfold classC
  cases hq : findC (allC l) x with
  | none => intro f h; cases h
  | some c =>
    have hm : c ∈ allC l := List.mem_of_find?_eq_some hq
    show ∀ f ∈ c.fields, _
    unfold allC at hm
    rcases List.mem_cons.1 hm with rfl | hm
    · intro f h; cases h
    · rcases List.mem_cons.1 hm with rfl | hm
      · intro f h; cases h
      · have h := hf c hm
        unfold classFault at h
        split at h
        · cases h
        · split at h
          · rename_i h1; exact absurd h h1
          · split at h
            · cases h
            · split at h
              · rename_i h1; exact absurd h h1
              · rename_i h1
                exact fold_fields c.fields [] (by simpa using h1)
theorem first_drop {α : Type} (f : α → Nat) (l : List α) (k : Nat) (x : α) (h : l[k]? = some x) : firstFault f (l.drop k) = if f x = 0 then firstFault f (l.drop (k + 1)) else f x := by
  obtain ⟨hk, rfl⟩ := List.getElem?_eq_some_iff.1 h
  rw [List.drop_eq_getElem_cons hk]; rfl
end Go.Proofs.YtlmfmioljeppfaaGreatDoor
namespace Go.Proofs.YtlmfmioljeppfaaGreatDoor
open Go.RowKit Go.Shelf Go.Lib
end Go.Proofs.YtlmfmioljeppfaaGreatDoor
namespace Go.Proofs.YtlmfmioljeppfaaGreatDoor
open Go.RowKit Go.Shelf Go.Lib
end Go.Proofs.YtlmfmioljeppfaaGreatDoor
namespace Go.Proofs.YtlmfmioljeppfaaGreatDoor
open Go.RowKit Go.Shelf Go.Lib
end Go.Proofs.YtlmfmioljeppfaaGreatDoor
namespace Go.Proofs.YtlmfmioljeppfaaGreatDoor
open Go.RowKit Go.Shelf Go.Lib
end Go.Proofs.YtlmfmioljeppfaaGreatDoor
namespace Go.Proofs.YtlmfmioljeppfaaGreatDoor
open Go.RowKit Go.Shelf Go.Lib
def headA : Ty → Bool
  | .ar _ => true
  | _ => false
theorem kd_arr {k : Str} {x : Ty} (h : tyText x = lst k) (hp : 0 < k.size) : (((k[0]'hp).toNat : Int) == 91) = headA x := by
  have hk : k[0]'hp = (lst k)[0]'(by have h1 : (lst k).length = k.size := rfl; omega) := rfl
  have h0 : (lst k)[0]? = (tyText x)[0]? := by rw [h]
  rw [hk]
  have h2 : (lst k)[0]? = some ((lst k)[0]'(by have h1 : (lst k).length = k.size := rfl; omega)) := List.getElem?_eq_getElem _
  rw [h2] at h0
  generalize (lst k)[0]'(by have h1 : (lst k).length = k.size := rfl; omega) = b at *
  cases x with
  | i => simp [tyText] at h0; subst h0; rfl
  | j => simp [tyText] at h0; subst h0; rfl
  | cl c => simp [tyText] at h0; subst h0; rfl
  | ar y => simp [tyText] at h0; subst h0; rfl
end Go.Proofs.YtlmfmioljeppfaaGreatDoor
namespace Go.Proofs.YtlmfmioljeppfaaGreatDoor
open Go.RowKit Go.Shelf Go.Lib
/-- world.Read, its map under a name -/
def ReadW (w : World) (l : List Class) (e : Ending) (w' : World) : Prop :=
  Below w.heap.size w w' ∧ ((readFault l = 0 ∧ ∃ w0 B, e = .returned (.tuple #[.map (some B), .nilIface]) ∧ WorldMap w0 w' B l) ∨ (readFault l ≠ 0 ∧ e = .returned (.tuple #[.map none, .iface 29 (.int .i64 (readFault l))])))
theorem readW_any (l : List Class) (lv : Value) (w : World) (hl : Laid w) (ho : ∀ c ∈ l, ClassOk c) (hlv : ClassesAt w lv l) :
    Calls Tryz.prog 50 #[lv] w (ReadW w l) := by
  refine (read_any l lv w hl ho hlv).mono ?_
  rintro e w2 ⟨hB2, ⟨hz, rfl, hM, hN, hA, hC, hL⟩ | ⟨hz, rfl⟩⟩
  · exact ⟨hB2, Or.inl ⟨hz, _, _, rfl, hM, right_of hz, hA⟩⟩
  · exact ⟨hB2, Or.inr ⟨hz, rfl⟩⟩
end Go.Proofs.YtlmfmioljeppfaaGreatDoor
namespace Go.Proofs.YtlmfmioljeppfaaGreatDoor
open Go.RowKit Go.Shelf Go.Lib
theorem ownsRow_belowk {w w' : World} {base k : Nat} {t : TypeId} {v : Value} {n : Nat} {xs : List Value} (h : w.ownsRow base t k v n xs) (hb : Below w.heap.size w w') : w'.ownsRow base t k v n xs := by
  rcases h with ⟨h1, h2 | ⟨g, cap, cur, k1, k2, k3, k4⟩⟩
  · exact ⟨h1, Or.inl h2⟩
  · exact ⟨h1, Or.inr ⟨g, cap, cur, k1, k2, (hb.block g (Array.getElem?_eq_some_iff.1 k3).1).trans k3, k4⟩⟩
/-- things whose values lie where they are said to, apart from a row -/
def HasAt (base : Nat) (w : World) (v : Value) (ps : List (Thing × Value)) : Prop := ∀ p ∈ ps, SliceOf w 2 ValCells p.2 p.1.has ∧ ∀ g, p.2.ownBlock = some g → base ≤ g ∧ g < w.heap.size ∧ v.ownBlock ≠ some g
theorem HasAt.nil (base : Nat) (w : World) (v : Value) : HasAt base w v [] := fun _ h => by cases h
theorem HasAt.step {base : Nat} {w w' : World} {v : Value} {ps : List (Thing × Value)} (h : HasAt base w v ps) (hb : Below w.heap.size w w') : HasAt base w' v ps := fun p hp =>
  ⟨(h p hp).1.mono hb (by decide) (fun _ _ h => h), fun g hg => ⟨((h p hp).2 g hg).1, Nat.lt_of_lt_of_le ((h p hp).2 g hg).2.1 hb.size, ((h p hp).2 g hg).2.2⟩⟩
theorem cells_block {w w' : World} {b : Nat} (hb : w'.heap[b]? = w.heap[b]?) : ∀ {vs : List Value} {o : Nat}, Cells w b o vs → Cells w' b o vs
  | [], _, _ => trivial
  | _ :: _, _, ⟨h1, h2⟩ => ⟨(World.cell?_of_block hb).trans h1, cells_block hb h2⟩
theorem SliceOf.block {α : Type} {w w' : World} {k : Nat} {R : α → List Value → Prop} {v : Value} {l : List α} (h : SliceOf w k R v l) (hb : ∀ g, v.ownBlock = some g → w'.heap[g]? = w.heap[g]?) : SliceOf w' k R v l := by
  rcases h with h | ⟨a, cap, rfl, h2, h3, h4⟩
  · exact Or.inl h
  · refine Or.inr ⟨a, cap, rfl, h2, h3, fun i x hi => ?_⟩
    obtain ⟨vs, r1, r2, r3, r4⟩ := h4 i x hi
    exact ⟨vs, r1, r2, r3, cells_block (hb a.block rfl) r4⟩
theorem HasAt.grown {base : Nat} {w w' : World} {v v' : Value} {ps : List (Thing × Value)} (h : HasAt base w v ps) (hg : w.grownBy w' v.ownBlock) (hv : v'.ownBlock = v.ownBlock ∨ v'.ownBlock = some w.heap.size) : HasAt base w' v' ps := fun p hp =>
  ⟨(h p hp).1.block fun g e => hg.block g ((h p hp).2 g e).2.1 (fun he => ((h p hp).2 g e).2.2 he.symm), fun g e => ⟨((h p hp).2 g e).1, Nat.lt_of_lt_of_le ((h p hp).2 g e).2.1 hg.size, by
    rcases hv with hv | hv
    · rw [hv]; exact ((h p hp).2 g e).2.2
    · rw [hv]; intro he; have := ((h p hp).2 g e).2.1; injection he with he; omega⟩⟩
theorem HasAt.set {base b : Nat} {w : World} {v : Value} {ps : List (Thing × Value)} (h : HasAt base w v ps) (hb : b < base) (j : Nat) (u : Value) : HasAt base (w.setCell ⟨b, j, none⟩ u) v ps := fun p hp =>
  ⟨(h p hp).1.block fun g e => heap_setCell_other w ⟨b, j, none⟩ g u (by have := ((h p hp).2 g e).1; show g ≠ b; omega), fun g e => ⟨((h p hp).2 g e).1, by have := ((h p hp).2 g e).2.1; simpa using this, ((h p hp).2 g e).2.2⟩⟩
theorem HasAt.base {base b : Nat} {w : World} {v : Value} {ps : List (Thing × Value)} (h : HasAt base w v ps) (hb : b ≤ base) : HasAt b w v ps := fun p hp =>
  ⟨(h p hp).1, fun g e => ⟨Nat.le_trans hb ((h p hp).2 g e).1, ((h p hp).2 g e).2⟩⟩
theorem SliceOf.one {α : Type} {w : World} {k : Nat} {R : α → List Value → Prop} {v : Value} {l : List α} (h : SliceOf w k R v l) : v.oneCell' = true := by
  rcases h with ⟨rfl, _⟩ | ⟨a, cap, rfl, _⟩ <;> rfl
end Go.Proofs.YtlmfmioljeppfaaGreatDoor
namespace Go.Proofs.YtlmfmioljeppfaaGreatDoor
open Go.RowKit Go.Shelf Go.Lib
theorem Blk.grown {w w' : World} {b : Nat} {t : TypeId} {vals : List Value} {row : Option Nat} (h : Blk w b t vals) (hg : w.grownBy w' row) (hne : row ≠ some b) : Blk w' b t vals := (hg.block b h.lt (fun e => hne e.symm)).trans h
end Go.Proofs.YtlmfmioljeppfaaGreatDoor
namespace Go.Proofs.YtlmfmioljeppfaaGreatDoor
open Go.RowKit Go.Shelf Go.Lib
structure Frm where
  locals : List Str
  stack : List Str
  deriving DecidableEq
/-- the kind of a text -/
def kdOf (k : Str) : Kd := if lst k = [78] then .n else if lst k = [84] then .t else .ty (tyOf k)
theorem kdOf_text {k : Str} {x : Kd} (h : kdText x = lst k) : kdOf k = x := by
  unfold kdOf
  rw [← h]
  cases x with
  | n => rfl
  | t => rfl
  | ty y =>
    rw [if_neg (by cases y <;> simp [kdText, tyText]), if_neg (by cases y <;> simp [kdText, tyText])]
    exact congrArg Kd.ty (tyOf_text h)
theorem known_kd {cs : List Class} {k : Str} (h : kindR cs k = 0) : IsKd cs k (kdOf k) := by
  obtain ⟨X, hX, hg⟩ := kind_of h
  rw [kdOf_text hX]; exact ⟨hX, hg⟩
theorem known_deep {cs : List Class} {k : Str} (h : kindR cs k = 0) : deepKd (kdOf k) ≤ 3 := kindR_deep (known_kd h) h
/-- what is wrong with a frame, in a right world -/
def frameR (cs : List Class) (f : Frm) : Nat :=
  if 8 < f.locals.length ∨ 8 < f.stack.length then 4 else firstFault (kindR cs) (f.locals ++ f.stack)
/-- a frame's kinds are kinds -/
theorem frame_zero {cs : List Class} {f : Frm} (h : frameR cs f = 0) : f.locals.length ≤ 8 ∧ f.stack.length ≤ 8 ∧ (∀ k ∈ f.locals, kindR cs k = 0) ∧ ∀ k ∈ f.stack, kindR cs k = 0 := by
  unfold frameR at h
  split at h
  · cases h
  · rename_i hn
    have hz := firstFault_zero h
    exact ⟨by omega, by omega, fun k hk => hz k (List.mem_append_left _ hk), fun k hk => hz k (List.mem_append_right _ hk)⟩
end Go.Proofs.YtlmfmioljeppfaaGreatDoor
namespace Go.Proofs.YtlmfmioljeppfaaGreatDoor
open Go.RowKit Go.Shelf Go.Lib
def OwnNil (w : World) (e : Ending) (w' : World) : Prop := (∃ v, e = .returned v ∧ w'.ownsRow w.heap.size 9 1 v 0 []) ∧ Below w.heap.size w w'
set_option maxHeartbeats 1000000 in
set_option maxRecDepth 100000 in
theorem growNil_any (n : Nat) (hn : n ≤ 16) (w : World) : Calls Tryz.prog 128 #[.slice none 0 0, .int .i64 (n : Int)] w (OwnNil w) := by
  unfold OwnNil
  by_cases h0 : n = 0
  · subst h0
    go_enter Tryz.func128, Tryz.ntmps128
    go_wp2_with (first | fail)
    go_ret
    exact ⟨⟨_, rfl, World.ownsRow_nil _ _ _ _⟩, Below.refl _ _⟩
  · obtain ⟨i0, hi, hz0, hz1, hz2⟩ := info_parts info_string
    have hGn : n ≤ grownCap w n 0 9 := grownCap_ge w _ _ _
    have hGm : grownCap w n 0 9 ≤ maxLen := grownCap_le_maxLen w n 0 9 (by unfold maxLen; omega)
    have hsz : (Builtin.zeroCells #[Value.string ByteArray.empty] n ++ Builtin.zeroCells #[Value.string ByteArray.empty] (grownCap w n 0 9 - n)).size = grownCap w n 0 9 * 1 := by
      simp [Builtin.zeroCells]; omega
    have hown := World.ownsRow_made (base := w.heap.size) (e := 9) (size := 1) w.drew _ (grownCap w n 0 9) (Nat.le_refl _) hGm hsz
    have hB := (Below.refl w.heap.size w).drew.alloc (Nat.le_refl _) (.cells (Builtin.zeroCells #[Value.string ByteArray.empty] n ++ Builtin.zeroCells #[Value.string ByteArray.empty] (grownCap w n 0 9 - n)) 9)
    have hn0 : (0 : Int) < (n : Int) := by omega
    have hG63 : grownCap w n 0 9 ≤ 9223372036854775807 := by unfold maxLen at hGm; omega
    clear hi hz0 hz1 hz2
    have hb : Tryz.t9.bytes = 16 := rfl
    have hb1 : (n : Int) * (Tryz.t9.bytes : Int) ≤ 281474976710656 := by rw [hb]; omega
    have hb2 : Builtin.nextslicecap n 0 * Tryz.t9.bytes ≤ 281474976710656 := by
      rw [hb]; unfold Builtin.nextslicecap; rw [if_pos (by omega)]; omega
    clear hb
    go_enter Tryz.func128, Tryz.ntmps128
    go_wp2_with (first | fail)
    all_goals first
      | (go_ret; exact ⟨⟨_, rfl, hown⟩, hB⟩)
      | (exfalso; omega)
set_option maxHeartbeats 1000000 in
set_option maxRecDepth 100000 in
/-- two lists of texts as one -/
theorem concat_any (xs ys : List Str) (v1 v2 : Value) (g : Nat) (w : World) (h0 : w.cell? ⟨g, 0, none⟩ = some v1) (h1 : w.cell? ⟨g, 1, none⟩ = some v2) (hx : StrsAt w v1 xs) (hy : StrsAt w v2 ys) (hn : xs.length + ys.length ≤ 16) :
    Calls Tryz.prog 90 #[.slice (some ⟨g, 0, none⟩) 2 2] w fun e w' => (∃ v, e = .returned v ∧ StrsAt w' v (xs ++ ys)) ∧ Below w.heap.size w w' := by
  have HX : Hid (∀ wx, Below w.heap.size w wx → StrsAt wx v1 xs) := fun wx hb => hx.mono hb
  have HY : Hid (∀ wx, Below w.heap.size w wx → StrsAt wx v2 ys) := fun wx hb => hy.mono hb
  obtain ⟨p1, c1, rfl, _⟩ := hx.open
  obtain ⟨p2, c2, rfl, _⟩ := hy.open
  obtain ⟨n, hnn⟩ : ∃ n, xs.length + ys.length = n := ⟨_, rfl⟩
  have hw1 : IntKind.i64.wrap (0 + (xs.length : Int)) = (xs.length : Int) := by rw [IntWalk.i64_in _ (by omega)]; omega
  have hw1' : IntKind.i64.wrap (xs.length : Int) = (xs.length : Int) := IntWalk.i64_in _ (by omega)
  have hw2 : IntKind.i64.wrap ((xs.length : Int) + (ys.length : Int)) = (n : Int) := by rw [IntWalk.i64_in _ (by omega)]; omega
  have ht1 : ¬ (xs.length : Int) < 0 := by omega
  have ht2 : ¬ (n : Int) < 0 := by omega
  have HG : Hid (∀ wx, _) := fun wx => growNil_any n (by omega) wx
  unfold OwnNil at HG
  have HL0 := Lib.hid (cells_blk h0)
  have HN := Lib.hid hnn
  have HN16 := Lib.hid hn
  clear hx hy hnn hn
  go_enter Tryz.func90, Tryz.ntmps90
  go_wp2_with (first | fail)
  go_loopw [3, 11] (fun x3 x11 wr => w = wr ∧ ((x3 = .int .i64 0 ∧ x11 = .int .i64 0) ∨ (x3 = .int .i64 (xs.length : Int) ∧ x11 = .int .i64 1) ∨ (x3 = .int .i64 (n : Int) ∧ x11 = .int .i64 2))) (fun _ x _ => 2 - (intOf x).toNat)
  case atStart => exact ⟨rfl, Or.inl ⟨rfl, rfl⟩⟩
  case round =>
    obtain ⟨rfl, ⟨rfl, rfl⟩ | ⟨rfl, rfl⟩ | ⟨rfl, rfl⟩⟩ := hrel
    · go_wp2_with (first | fail)
      go_roundw
      case rel => exact ⟨by simp, Or.inr (Or.inl ⟨rfl, rfl⟩)⟩
      case measure => simp [intOf]
    · go_wp2_with (first | fail)
      go_roundw
      case rel => exact ⟨by simp, Or.inr (Or.inr ⟨rfl, rfl⟩)⟩
      case measure => simp [intOf]
    · go_wp2_with (go_at_call 128; (with_reducible refine (HG.out _).mono ?_); rintro e w2 ⟨⟨v0, rfl, hrow0⟩, hB0⟩)
      have HB0 := Lib.hid hB0
      have HR0 := Lib.hid hrow0
      clear hB0 hrow0
      go_loopw [6, 27] (fun x6 x27 wr => Below w.heap.size w wr ∧ ((Hid (wr.ownsRow w.heap.size 9 1 x6 0 []) ∧ x27 = .int .i64 0) ∨ (Hid (wr.ownsRow w.heap.size 9 1 x6 xs.length (xs.map Value.string)) ∧ x27 = .int .i64 1) ∨ (Hid (wr.ownsRow w.heap.size 9 1 x6 n ((xs ++ ys).map Value.string)) ∧ x27 = .int .i64 2))) (fun _ x _ => 2 - (intOf x).toNat)
      case atStart => exact ⟨HB0.out, Or.inl ⟨HR0, rfl⟩⟩
      case round =>
        obtain ⟨hB, ⟨hr, rfl⟩ | ⟨hr, rfl⟩ | ⟨hr, rfl⟩⟩ := hrel
        · have q0 := (hB.cell (p := ⟨g, 0, none⟩) HL0.out).trans h0
          have hS := HX.out _ hB
          have HBr := Lib.hid hB
          clear hB
          go_wp2_with (at_builtin; refine wpList_append_strs rfl _ _ rfl w.heap.size _ 0 [] rfl hr.out _ xs rfl hS (by unfold maxLen; have := HN16.out; omega) (by have := HN16.out; omega) HBr.out.size ?_; intro v' w3 ho3 hg3 _; (have hB3 := Lib.hid (HBr.out.grown hg3 HBr.out.size (fun g e => (World.ownsRow.lt hr.out g e).1))))
          go_roundw
          case rel => exact ⟨hB3.out, Or.inr (Or.inl ⟨by unfold Hid; simpa using ho3, rfl⟩)⟩
          case measure => simp [intOf]
        · have q0 := (hB.cell (p := ⟨g, 1, none⟩) HL0.out).trans h1
          have hS := HY.out _ hB
          have HBr := Lib.hid hB
          clear hB
          go_wp2_with (at_builtin; refine wpList_append_strs rfl _ _ rfl w.heap.size _ xs.length (xs.map Value.string) rfl hr.out _ ys rfl hS (by unfold maxLen; have := HN16.out; omega) (by have := HN16.out; omega) HBr.out.size ?_; intro v' w3 ho3 hg3 _; (have hB3 := Lib.hid (HBr.out.grown hg3 HBr.out.size (fun g e => (World.ownsRow.lt hr.out g e).1))))
          go_roundw
          case rel => exact ⟨hB3.out, Or.inr (Or.inr ⟨by unfold Hid; rw [List.map_append, ← HN.out]; exact ho3, rfl⟩)⟩
          case measure => simp [intOf]
        · have HBr := Lib.hid hB
          clear hB
          go_wp2_with (first | fail)
          go_ret
          exact ⟨⟨_, rfl, strsAt_of_owns (by have := hr.out; rwa [← HN.out, ← List.length_append] at this)⟩, HBr.out⟩
end Go.Proofs.YtlmfmioljeppfaaGreatDoor
namespace Go.Proofs.YtlmfmioljeppfaaGreatDoor
open Go.RowKit Go.Shelf Go.Lib
/-- the kinds' texts are texts of Go -/
def FrmShort (f : Frm) : Prop := (∀ k ∈ f.locals, k.size ≤ 4194304) ∧ ∀ k ∈ f.stack, k.size ≤ 4194304
def FrameAt (w : World) (lv sv : Value) (f : Frm) : Prop := StrsAt w lv f.locals ∧ StrsAt w sv f.stack
theorem FrameAt.mono {w w' : World} (hb : Below w.heap.size w w') {lv sv : Value} {f : Frm} (h : FrameAt w lv sv f) : FrameAt w' lv sv f := ⟨h.1.mono hb, h.2.mono hb⟩
theorem frameR_full {cs : List Class} {f : Frm} (g : 8 < f.locals.length ∨ 8 < f.stack.length) : frameR cs f = 4 := by unfold frameR; rw [if_pos g]
theorem frameR_kinds {cs : List Class} {f : Frm} (g : ¬ (8 < f.locals.length ∨ 8 < f.stack.length)) : frameR cs f = firstFault (kindR cs) (f.locals ++ f.stack) := by unfold frameR; rw [if_neg g]
set_option maxHeartbeats 1000000 in
set_option maxRecDepth 100000 in
theorem frameCheck_any (w0 w : World) (B : Nat) (l : List Class) (hm : WorldMap w0 w B l) (f : Frm) (lv sv : Value) (hf : FrameAt w lv sv f) (hS : FrmShort f) :
    Calls Tryz.prog 51 #[.map (some B), .agg #[lv, sv]] w fun e w' => e = .returned (errV (frameR (allC l) f)) ∧ Below w.heap.size w w' := by
  have HFm : Hid (∀ wx, Below w.heap.size w wx → FrameAt wx lv sv f) := fun wx hb => hf.mono hb
  obtain ⟨p1, c1, rfl, _⟩ := hf.1.open
  obtain ⟨p2, c2, rfl, _⟩ := hf.2.open
  have BX := Lib.hid (boxed_mk w #[.slice p1 f.locals.length c1, .slice p2 f.stack.length c2] 27)
  by_cases hbig : 8 < f.locals.length ∨ 8 < f.stack.length
  · rw [frameR_full hbig, show errV 4 = .iface 29 (.int .i64 4) from rfl]
    clear hm hf hS
    by_cases h1 : 8 < f.locals.length
    · have z1 : decide ((8 : Int) < (f.locals.length : Int)) = true := by simp; omega
      clear hbig
      go_enter Tryz.func51, Tryz.ntmps51
      go_wp2_with (first | fail)
      go_ret
      exact ⟨rfl, BX.out.below⟩
    · have z1 : decide ((8 : Int) < (f.locals.length : Int)) = false := by simp; omega
      have z2 : decide ((8 : Int) < (f.stack.length : Int)) = true := by simp; omega
      clear hbig
      go_enter Tryz.func51, Tryz.ntmps51
      go_wp2_with (first | fail)
      go_ret
      exact ⟨rfl, BX.out.below⟩
  · have HR := Lib.hid (frameR_kinds (cs := allC l) hbig)
    have HK : Hid (∀ wx k, Below w.heap.size w wx → k ∈ f.locals ++ f.stack → _) := fun wx k hb hk => kind_any w0 wx B (allC l) (hm.step hb).map hm.right.nodup k (Nat.le_trans ((List.mem_append.1 hk).elim (hS.1 k) (hS.2 k)) (by decide))
    have HC : Hid (∀ wx g, Below w.heap.size w wx → wx.cell? ⟨g, 0, none⟩ = some (.slice p1 f.locals.length c1) → wx.cell? ⟨g, 1, none⟩ = some (.slice p2 f.stack.length c2) → _) := fun wx g hb h0 h1 =>
      concat_any f.locals f.stack _ _ g wx h0 h1 (HFm.out wx hb).1 (HFm.out wx hb).2 (by omega)
    have z1 : decide ((8 : Int) < (f.locals.length : Int)) = false := by simp; omega
    have z2 : decide ((8 : Int) < (f.stack.length : Int)) = false := by simp; omega
    have hln : (f.locals ++ f.stack).length ≤ 16 := by rw [List.length_append]; omega
    have HB1 := Lib.hid (BX.out.below.alloc BX.out.below.size (.cells #[.slice p1 f.locals.length c1, .slice p2 f.stack.length c2] 25))
    have hq := boxed2 (boxed_mk (w.alloc (.cells #[.slice p1 f.locals.length c1, .slice p2 f.stack.length c2] 27)) #[.slice p1 f.locals.length c1, .slice p2 f.stack.length c2] 25)
    rw [show (w.alloc (.cells #[.slice p1 f.locals.length c1, .slice p2 f.stack.length c2] 27)).heap.size = w.heap.size + 1 by simp] at hq
    have HQ0 := Lib.hid hq.1
    have HQ1 := Lib.hid hq.2
    clear hm hf hS hbig hq
    generalize f.locals ++ f.stack = L at *
    generalize frameR (allC l) f = res at *
    go_enter Tryz.func51, Tryz.ntmps51
    go_wp2_with (go_at_call 90; (with_reducible refine (HC.out _ _ HB1.out HQ0.out HQ1.out).mono ?_); rintro e w2 ⟨⟨v, rfl, hv⟩, hB2⟩; obtain ⟨p, c, rfl, hc1, hc2, hcc⟩ := hv.open)
    have hlen : L.length ≤ 9223372036854775807 := by omega
    have HCc := Lib.hid hcc
    have HBw := Lib.hid (below_call HB1.out (Nat.le_refl _) hB2)
    clear hcc hB2 hv HC HB1 HQ0 HQ1
    go_loopw [26] (fun x wr => ∃ k : Nat, k ≤ L.length ∧ Hid (firstFault (kindR (allC l)) (L.drop k) = res) ∧ Below w2.heap.size w2 wr ∧ x = .int .i64 k) (fun x _ => L.length - (intOf x).toNat)
    case atStart => exact ⟨0, by omega, HR.out.symm, Below.refl _ _, rfl⟩
    case round =>
      obtain ⟨k, hk, hff, hB, rfl⟩ := hrel
      by_cases hkl : k < L.length
      · obtain ⟨x, hx⟩ : ∃ a, L[k]? = some a := ⟨L[k], by simp [hkl]⟩
        obtain ⟨b, o, vs, rfl, hR, _, hcells⟩ := HCc.out k x hx
        unfold StrCells at hR; subst hR
        have hBw := below_call HBw.out (Nat.le_refl _) hB
        have c0 := (hcells.mono hB hcells.lt).1
        rw [Nat.mul_one] at c0
        have HKx := Lib.hid (HK.out wr x hBw (List.mem_of_getElem? hx))
        have hstep := first_drop (kindR (allC l)) L k x hx
        rw [hff.out] at hstep
        have HBr := Lib.hid hB
        clear hx hcells hff hB
        rcases errV_cases (kindR (allC l) x) with ⟨hv0, hz⟩ | ⟨hv0, hz⟩
        · rw [hv0] at HKx
          rw [if_pos hz] at hstep
          have hst := Lib.hid hstep.symm
          clear hstep hv0 hz hBw
          go_wp2_with (go_at_call 91; (with_reducible refine HKx.out.mono ?_); rintro e w6 ⟨rfl, hB6⟩)
          go_roundw
          case rel => exact ⟨k + 1, by omega, hst.out, below_call HBr.out (Nat.le_refl _) hB6, by simp⟩
          case measure => simp [intOf]; omega
        · rw [hv0] at HKx
          rw [if_neg hz] at hstep
          have HRs := Lib.hid hstep
          have HV := Lib.hid hv0
          have HBk := Lib.hid hBw
          clear hstep hv0 hBw
          generalize kindR (allC l) x = f at *
          go_wp2_with (go_at_call 91; (with_reducible refine HKx.out.mono ?_); rintro e w6 ⟨rfl, hB6⟩)
          go_ret
          exact ⟨by rw [HRs.out, HV.out]; rfl, below_call HBk.out (Nat.le_refl _) hB6⟩
      · obtain rfl : k = L.length := by omega
        have hz : res = 0 := by rw [← hff.out, List.drop_eq_nil_of_le (Nat.le_refl _)]; rfl
        have HZ := Lib.hid hz
        have HBk := Lib.hid (below_call HBw.out (Nat.le_refl _) hB)
        clear hz hff hB
        go_wp2_with (first | fail)
        go_ret
        exact ⟨by rw [HZ.out]; rfl, HBk.out⟩
theorem frm_eq (a b : Frm) : decide (a = b) = (decide (a.locals = b.locals) && decide (a.stack = b.stack)) := by
  cases a; cases b; rw [Bool.eq_iff_iff]; simp
end Go.Proofs.YtlmfmioljeppfaaGreatDoor
namespace Go.Proofs.YtlmfmioljeppfaaGreatDoor
open Go.RowKit Go.Shelf Go.Lib
/-- a list of texts lies apart from a block that holds none -/
theorem StrsAt.apart {w : World} {v : Value} {l : List Str} {b : Nat} {t : TypeId} {x y : Value} (h : StrsAt w v l) (hk : Blk w b t [x, y]) (hx : ∀ s, x ≠ .string s) (hy : ∀ s, y ≠ .string s) {w' : World} (hw : ∀ g, g ≠ b → w'.heap[g]? = w.heap[g]?) : StrsAt w' v l := by
  cases l with
  | nil =>
    rcases h with h | ⟨a, cap, h1, h2, h3, _⟩
    · exact Or.inl h
    · exact Or.inr ⟨a, cap, h1, h2, h3, fun i x hx => by simp at hx⟩
  | cons z r =>
    refine SliceOf.block h fun g hg => hw g fun he => ?_
    subst he
    rcases h with ⟨_, h⟩ | ⟨a, cap, h1, h2, h3, h4⟩
    · cases h
    · rw [h1] at hg
      injection hg with hg
      subst hg
      obtain ⟨vs, r1, _, _, r4⟩ := h4 0 z rfl
      unfold StrCells at r1; subst r1
      have hc := r4.1
      rw [hk.cell] at hc
      rcases Nat.lt_or_ge (a.off + 0 * 1) 2 with h | h
      · have : a.off + 0 * 1 = 0 ∨ a.off + 0 * 1 = 1 := by omega
        rcases this with h | h <;> rw [h] at hc <;> injection hc with hc
        · exact hx _ hc
        · exact hy _ hc
      · rw [List.getElem?_eq_none (by simpa using h)] at hc; cases hc
set_option maxRecDepth 100000 in
theorem sameFrame_any (a b : Frm) (a1 a2 b1 b2 : Value) (w : World) (ha : FrameAt w a1 a2 a) (hb : FrameAt w b1 b2 b) :
    Calls Tryz.prog 19 #[.agg #[a1, a2], .agg #[b1, b2]] w fun e w' => e = .returned (.bool (decide (a = b))) ∧ Below w.heap.size w w' := by
  have HE1 : Hid (∀ wx, Below w.heap.size w wx → _) := fun wx h => texts_any a.locals b.locals a1 b1 wx (ha.1.mono h) (hb.1.mono h)
  have HE2 : Hid (∀ wx, Below w.heap.size w wx → _) := fun wx h => texts_any a.stack b.stack a2 b2 wx (ha.2.mono h) (hb.2.mono h)
  rw [frm_eq]
  clear ha hb
  have HB := Lib.hid (((Below.refl w.heap.size w).alloc (Nat.le_refl _) (.cells #[a1, a2] 27)).alloc (by simp) (.cells #[b1, b2] 27))
  obtain ⟨wb, hwb⟩ : ∃ wb, wb = (w.alloc (.cells #[a1, a2] 27)).alloc (.cells #[b1, b2] 27) := ⟨_, rfl⟩
  have HA1 : Hid (Blk wb w.heap.size 27 [a1, a2]) := by
    rw [hwb]
    exact (Blk.new w 27 [a1, a2]).step ((Below.refl _ _).alloc (Nat.le_refl _) _)
  have HA2 : Hid (Blk wb (w.heap.size + 1) 27 [b1, b2]) := by
    rw [hwb]
    have := Blk.new (w.alloc (.cells #[a1, a2] 27)) 27 [b1, b2]
    unfold Hid
    simpa using this
  rw [← hwb] at HB
  have HW := Lib.hid hwb.symm
  clear hwb
  generalize decide (a.locals = b.locals) = d at *
  cases d with
  | true =>
    rw [Bool.true_and]
    generalize decide (a.stack = b.stack) = r at *
    go_enter Tryz.func19, Tryz.ntmps19
    go_wp2_with (first
      | (go_at_call 55; rw [HW.out]; (with_reducible refine (HE1.out _ HB.out).mono ?_); rintro e w3 ⟨rfl, hB3⟩; (have hB3' := below_call HB.out (Nat.le_refl _) hB3); obtain ⟨q0, q1⟩ := (HA1.out.step hB3).cells2; obtain ⟨q2, q3⟩ := (HA2.out.step hB3).cells2)
      | (go_at_call 55; (with_reducible refine (HE2.out _ hB3').mono ?_); rintro e w4 ⟨rfl, hB4⟩))
    go_ret
    exact ⟨rfl, below_call hB3' (Nat.le_refl _) hB4⟩
  | false =>
    rw [Bool.false_and]
    go_enter Tryz.func19, Tryz.ntmps19
    go_wp2_with (first
      | (go_at_call 55; rw [HW.out]; (with_reducible refine (HE1.out _ HB.out).mono ?_); rintro e w3 ⟨rfl, hB3⟩; (have hB3' := below_call HB.out (Nat.le_refl _) hB3)))
    go_ret
    exact ⟨rfl, hB3'⟩
end Go.Proofs.YtlmfmioljeppfaaGreatDoor
