/-
  PLAIN LAW: heaps; what is wrong with one; which value holds which type; new things.
  HEAPS in memory; WALKS over heap.Does, Zero, num.Word. Conditions: a right world; things with right types.
  WALKS over bits.Mul64, Mul, slices.Repeat of one text at most ten times. Conditions: so many.
  WALKS over heap.types, formed. Conditions: a right world; a type's text of at most maxLen signs.
  PLAIN LAW: the types of what right things have are types.
  WALKS over heap.Right, read, Check. Conditions: a right world; types' texts of at most maxLen signs.
-/
import Derived.Test.YtbakcdgjibmceaaGreatDoorJoinLaw
import Derived.Test.YtbakcdgjibmceaaGreatDoorLayLaw
import Derived.Test.YtbakcdgjibmceaaGreatDoorSub
import Derived.Test.YtbakcdgjibmceaaGreatDoorRow3
import Derived.Deep.QuietTactic
import Derived.BigQuiet
import Derived.Test.YtbakcdgjibmceaaGreatDoorRow
import Derived.Laws.CopyOwn
import Derived.IntWalk
import Derived.Deep.OwnRows
import Derived.Deep.RegionLaw
import Derived.Test.YtbakcdgjibmceaaGreatDoorLay
import Derived.Deep.RegionHeld3
import Derived.StillTailTactics
namespace Go.Proofs.YtbakcdgjibmceaaGreatDoor
open Go.RowKit Go.Shelf Go.Lib
structure Val where
  kind : Int
  n : Int
  deriving DecidableEq
structure Thing where
  type : Str
  has : List Val
  deriving DecidableEq
/-- the tree of a type's text -/
def parseTy : List UInt8 → Ty
  | [] => .i
  | c :: r => if c = 73 then .i else if c = 74 then .j else if c = 91 then .ar (parseTy r) else .cl (str (r.take (r.length - 1)))
theorem parse_text : ∀ x : Ty, parseTy (tyText x) = x
  | .i => rfl
  | .j => rfl
  | .ar x => by
    show (if (91 : UInt8) = 73 then Ty.i else if (91 : UInt8) = 74 then Ty.j else if (91 : UInt8) = 91 then .ar (parseTy (tyText x)) else _) = _
    rw [if_neg (by decide), if_neg (by decide), if_pos rfl, parse_text x]
  | .cl c => by
    show (if (76 : UInt8) = 73 then Ty.i else if (76 : UInt8) = 74 then Ty.j else if (76 : UInt8) = 91 then _ else Ty.cl (str ((lst c ++ [59]).take ((lst c ++ [59]).length - 1)))) = _
    rw [if_neg (by decide), if_neg (by decide), if_neg (by decide)]
    simp
    rfl
def tyOf (k : Str) : Ty := parseTy (lst k)
theorem tyOf_text {k : Str} {x : Ty} (h : tyText x = lst k) : tyOf k = x := by unfold tyOf; rw [← h, parse_text]
/-- does a value hold a type, in a heap? -/
def holdsTy (cs : List Class) (h : List Thing) (v : Val) (y : Ty) : Bool :=
  if v.kind = 1 then decide (y = .i) && (decide (-2147483648 ≤ v.n) && decide (v.n ≤ 2147483647))
  else if v.kind = 2 then decide (y = .j)
  else if v.kind = 3 then isRef y && (decide (0 ≤ v.n) && decide (v.n ≤ (h.length : Int))) && (decide (v.n = 0) || match h[v.n.toNat - 1]? with
    | some x => fitsTy cs (tyOf x.type) y
    | none => false)
  else false
/-- the types of what a thing has -/
def typesT (cs : List Class) (x : Thing) : List Str :=
  match tyOf x.type with
  | .ar e => List.replicate x.has.length (str (tyText e))
  | .cl c => typesOf (layC cs c)
  | _ => []
/-- what is wrong with a thing alone -/
def thingFault (cs : List Class) (x : Thing) : Nat :=
  if !refB (lst x.type) then 1
  else if kindR cs x.type ≠ 0 then kindR cs x.type
  else match tyOf x.type with
    | .ar _ => if 10 < x.has.length then 8 else 0
    | .cl c => if (classC cs c).face then 7 else if (typesOf (layC cs c)).length ≠ x.has.length then 8 else 0
    | _ => 1
def thingHolds (cs : List Class) (h : List Thing) (x : Thing) : Bool := (x.has.zip (typesT cs x)).all fun p => holdsTy cs h p.1 (tyOf p.2)
/-- what is wrong with a heap, in a right world -/
def heapR (cs : List Class) (h : List Thing) : Nat :=
  if 50 < h.length then 4
  else if firstFault (thingFault cs) h ≠ 0 then firstFault (thingFault cs) h
  else if h.all (thingHolds cs h) then 0 else 7
def heapFault (l : List Class) (h : List Thing) : Nat := if readFault l ≠ 0 then readFault l else heapR (allC l) h
/-- a thing's type, as a tree -/
structure ThingTy (cs : List Class) (x : Thing) (t : Ty) : Prop where
  text : tyText t = lst x.type
  good : goodTy cs t = true
  ref : isRef t = true
  deep : deepTy t ≤ 3
theorem ThingTy.of {cs : List Class} {x : Thing} {t : Ty} (h : ThingTy cs x t) : tyOf x.type = t := tyOf_text h.text
theorem thing_type {cs : List Class} {x : Thing} (h1 : refB (lst x.type) = true) (h2 : kindR cs x.type = 0) : ∃ t, ThingTy cs x t := by
  obtain ⟨k, hk⟩ := kind_of h2
  have hd := kindR_deep hk h2
  obtain ⟨hk, hg⟩ := hk
  unfold refB at h1
  rw [Bool.and_eq_true] at h1
  cases k with
  | n => rw [← hk] at h1; exact absurd h1.1 (by decide)
  | t => rw [← hk] at h1; exact absurd h1.1 (by decide)
  | ty t =>
    refine ⟨t, hk, hg, ?_, hd⟩
    have h3 := h1.2
    rw [← hk] at h3
    change (!wordB (tyText t)) = true at h3
    rw [wordB_ty] at h3; simpa using h3
theorem thing_zero {cs : List Class} {x : Thing} (h : thingFault cs x = 0) : refB (lst x.type) = true ∧ kindR cs x.type = 0 ∧ ∃ t, ThingTy cs x t := by
  unfold thingFault at h
  cases h1 : refB (lst x.type) with
  | false => rw [h1] at h; cases h
  | true =>
    rw [h1, if_neg (by decide)] at h
    by_cases h2 : kindR cs x.type = 0
    · exact ⟨rfl, h2, thing_type h1 h2⟩
    · rw [if_pos h2] at h; exact absurd h h2
theorem thing_shape {cs : List Class} {x : Thing} (h : thingFault cs x = 0) : (typesT cs x).length = x.has.length := by
  obtain ⟨h1, h2, t, ht⟩ := thing_zero h
  unfold thingFault at h
  rw [h1, if_neg (by decide), if_neg (by rw [h2]; decide)] at h
  unfold typesT
  cases hq : tyOf x.type with
  | i => rw [hq] at h; cases h
  | j => rw [hq] at h; cases h
  | ar e => simp
  | cl c =>
    rw [hq] at h
    dsimp only at h ⊢
    by_cases hf : (classC cs c).face = true
    · rw [if_pos hf] at h; cases h
    · rw [if_neg hf] at h
      by_cases hl : (typesOf (layC cs c)).length = x.has.length
      · exact hl
      · rw [if_pos hl] at h; cases h
theorem firstFault_zero {α : Type} {f : α → Nat} : ∀ {l : List α}, firstFault f l = 0 → ∀ x ∈ l, f x = 0
  | [], _, _, h => by cases h
  | y :: r, h, x, hx => by
    unfold firstFault at h
    by_cases h0 : f y = 0
    · rw [if_pos h0] at h
      rcases List.mem_cons.1 hx with rfl | hx
      · exact h0
      · exact firstFault_zero h x hx
    · rw [if_neg h0] at h; exact absurd h h0
/-- all things of a heap are right by themselves -/
def Formed (cs : List Class) (h : List Thing) : Prop := ∀ x ∈ h, thingFault cs x = 0
theorem heap_zero {cs : List Class} {h : List Thing} (g : heapR cs h = 0) : h.length ≤ 50 ∧ Formed cs h ∧ h.all (thingHolds cs h) = true := by
  unfold heapR at g
  by_cases h1 : 50 < h.length
  · rw [if_pos h1] at g; cases g
  · rw [if_neg h1] at g
    by_cases h2 : firstFault (thingFault cs) h = 0
    · rw [if_neg (by rw [h2]; decide)] at g
      cases h3 : h.all (thingHolds cs h) with
      | true => exact ⟨by omega, firstFault_zero h2, rfl⟩
      | false => rw [h3] at g; cases g
    · rw [if_pos h2] at g; exact absurd g h2
/-- a value that has a type has every type that this type fits -/
theorem holds_fits {l : List Class} (hR : Right l) {h : List Thing} (hh : Formed (allC l) h) {v : Val} {a b : Ty} (h1 : holdsTy (allC l) h v a = true) (h2 : fitsTy (allC l) a b = true) : holdsTy (allC l) h v b = true := by
  unfold holdsTy at h1 ⊢
  have hr := fitsTy_ref h2
  split
  · rename_i hk
    rw [if_pos hk, Bool.and_eq_true] at h1
    have ha := of_decide_eq_true h1.1
    subst ha
    have hb : b = .i := by cases b <;> first | rfl | (simp [fitsTy] at h2)
    rw [h1.2, hb]; rfl
  · rename_i hk
    rw [if_neg hk] at h1
    split
    · rename_i hk2
      rw [if_pos hk2] at h1
      have ha := of_decide_eq_true h1
      subst ha
      have hb : b = .j := by cases b <;> first | rfl | (simp [fitsTy] at h2)
      rw [hb]; rfl
    · rename_i hk2
      rw [if_neg hk2] at h1
      split
      · rename_i hk3
        rw [if_pos hk3, Bool.and_eq_true, Bool.and_eq_true] at h1
        obtain ⟨⟨g1, g2⟩, g3⟩ := h1
        rw [← hr, g1, g2, Bool.true_and, Bool.true_and]
        by_cases hz : v.n = 0
        · rw [decide_eq_true hz, Bool.true_or]
        · rw [decide_eq_false hz, Bool.false_or] at g3 ⊢
          cases hx : h[v.n.toNat - 1]? with
          | none => rw [hx] at g3; cases g3
          | some x =>
            rw [hx] at g3
            dsimp only at g3 ⊢
            obtain ⟨_, _, t, ht⟩ := thing_zero (hh x (List.mem_of_getElem? hx))
            rw [ht.of] at g3 ⊢
            exact fitsTy_trans hR ht.good g3 h2
      · rename_i hk3
        rw [if_neg hk3] at h1; cases h1
/-- the zero of a type -/
def zeroOf (t : Str) : Val := if lst t = [73] then ⟨1, 0⟩ else if lst t = [74] then ⟨2, 0⟩ else ⟨3, 0⟩
def thingS (c : Str) : Str := str (76 :: (lst c ++ [59]))
def freshT (cs : List Class) (c : Str) : Thing := ⟨thingS c, (typesOf (layC cs c)).map zeroOf⟩
def freshA (k : Str) (n : Nat) : Thing := ⟨str (91 :: lst k), List.replicate n (zeroOf k)⟩
end Go.Proofs.YtbakcdgjibmceaaGreatDoor
namespace Go.Proofs.YtbakcdgjibmceaaGreatDoor
open Go.RowKit Go.Shelf Go.Lib
def valV (v : Val) : Value := .agg #[.int .i64 v.kind, .int .i64 v.n]
def ValCells (v : Val) (vs : List Value) : Prop := vs = [.int .i64 v.kind, .int .i64 v.n]
def ThingCells (w : World) (x : Thing) (vs : List Value) : Prop := ∃ hv, vs = [.string x.type, hv] ∧ SliceOf w 2 ValCells hv x.has
def ThingsAt (w : World) (v : Value) (h : List Thing) : Prop := SliceOf w 2 (ThingCells w) v h
theorem ThingCells.mono {w w' : World} (hb : Below w.heap.size w w') {x : Thing} {vs : List Value} : ThingCells w x vs → ThingCells w' x vs
  | ⟨hv, h1, h2⟩ => ⟨hv, h1, h2.mono hb (by decide) (fun _ _ h => h)⟩
theorem ThingsAt.mono {w w' : World} (hb : Below w.heap.size w w') {v : Value} {h : List Thing} (hh : ThingsAt w v h) : ThingsAt w' v h := SliceOf.mono hb (by decide) (fun _ _ h => h.mono hb) hh
/-- the types of things are right -/
def Typed (cs : List Class) (h : List Thing) : Prop := ∀ x ∈ h, ∃ t, ThingTy cs x t
def Short (h : List Thing) : Prop := ∀ x ∈ h, x.type.size ≤ maxLen
theorem word_is (n : Int) : (n == wrap32 n) = (decide (-2147483648 ≤ n) && decide (n ≤ 2147483647)) := by
  rw [Bool.eq_iff_iff, beq_iff_eq, Bool.and_eq_true, decide_eq_true_eq, decide_eq_true_eq]
  unfold wrap32
  omega
theorem word_wrap (n : Int) : wrap64 (wrap32 n) = wrap32 n := by
  unfold wrap64 wrap32
  omega
theorem word_any (n : Int) (w : World) : Calls Tryz.prog 78 #[.int .i64 n] w fun e w' => e = .returned (.int .i64 (wrap32 n)) ∧ w = w' := by
  go_enter Tryz.func78, Tryz.ntmps78
  go_wp2
  go_ret
  exact ⟨by show Ending.returned (Value.int IntKind.i64 (wrap64 (wrap32 n))) = _; rw [word_wrap], rfl⟩
theorem boxed1 {w wx : World} {a0 : Value} (h : Boxed w wx [a0]) : wx.cell? ⟨w.heap.size, 0, none⟩ = some a0 := h.cells.1
set_option maxHeartbeats 2000000 in
set_option maxRecDepth 100000 in
theorem heapDoes_any (w0 w : World) (B : Nat) (l : List Class) (hm : WorldMap w0 w B l) (h : List Thing) (hv : Value) (hh : ThingsAt w hv h) (hT : Typed (allC l) h) (hS : Short h) (v : Val) (t : Str) (y : Ty) (hy : tyText y = lst t) (hsz : t.size ≤ maxLen) :
    Calls Tryz.prog 41 #[.map (some B), .agg #[hv], valV v, .string t] w fun e w' => e = .returned (.bool (holdsTy (allC l) h v y)) ∧ Below w.heap.size w w' := by
  have e1 := kd_is (x := .ty y) hy (.ty .i)
  have e2 := kd_is (x := .ty y) hy (.ty .j)
  have HRe : Hid (∀ wx, _) := fun wx => refs_any t (.ty y) wx hy
  simp only [kdText, tyText, Kd.ty.injEq, refK] at e1 e2 HRe
  obtain ⟨p, c, rfl, hc1, hc2, hcc⟩ := hh.open
  have HC := Lib.hid hcc
  have hlen : h.length ≤ 9223372036854775807 := Nat.le_trans hc1 hc2
  obtain ⟨k, n⟩ := v
  unfold valV holdsTy
  dsimp only
  have hB1 : Below w.heap.size w ((w.alloc (.cells #[.slice p h.length c] 25)).alloc (.cells #[.int .i64 k, .int .i64 n] 27)) := ((Below.refl _ _).alloc (Nat.le_refl _) _).alloc (by simp) _
  have HB1 := Lib.hid hB1
  by_cases h1 : k = 1
  · subst h1
    rw [if_pos rfl]
    have hw := word_is n
    have HW : Hid (∀ wx, Calls Tryz.prog 78 #[.int .i64 n] wx fun e w' => e = .returned (.int .i64 (wrap32 n)) ∧ w' = wx) := fun wx => (word_any n wx).mono fun _ _ ⟨h, g⟩ => ⟨h, g.symm⟩
    rw [← hw]
    clear hm hh hT hS hcc hw hB1 hsz
    cases hi : decide (y = Ty.i) with
    | true =>
      rw [hi] at e1
      clear hi
      generalize wrap32 n = m at *
      obtain ⟨q, hq⟩ : ∃ q, (n == m) = q := ⟨_, rfl⟩
      rw [hq]
      go_enter Tryz.func41, Tryz.ntmps41
      go_upto_region 3 with (first | fail)
      go_quiet ((go_at_call 78; with_reducible exact Calls.quiet_of_same (HW.out _)))
      go_wp2_with (first | fail)
      go_ret
      exact ⟨rfl, below_drewN HB1.out _⟩
    | false =>
      rw [hi] at e1
      clear hi
      go_enter Tryz.func41, Tryz.ntmps41
      go_upto_region 3 with (first | fail)
      go_quiet (fail)
      go_wp2_with (first | fail)
      go_ret
      exact ⟨rfl, below_drewN HB1.out _⟩
  · rw [if_neg h1]
    have q1 : ((k : Int) == 1) = false := by simpa using h1
    by_cases h2 : k = 2
    · subst h2
      rw [if_pos rfl]
      clear hm hh hT hS hcc hB1 hsz h1 q1
      generalize decide (y = Ty.j) = q at *
      go_enter Tryz.func41, Tryz.ntmps41
      go_wp2_with (first | fail)
      go_ret
      exact ⟨rfl, HB1.out⟩
    · rw [if_neg h2]
      have q2 : ((k : Int) == 2) = false := by simpa using h2
      by_cases h3 : k = 3
      · subst h3
        rw [if_pos rfl]
        clear h1 h2 q1 q2
        cases hr : isRef y with
        | false =>
          rw [hr] at HRe
          rw [Bool.false_and, Bool.false_and]
          clear hm hh hT hS hcc hB1 hsz hr e1 e2
          go_enter Tryz.func41, Tryz.ntmps41
          go_wp2_with (go_at_call 79; (with_reducible refine (HRe.out _).mono ?_); rintro e w3 ⟨rfl, rfl⟩)
          go_ret
          exact ⟨rfl, HB1.out⟩
        | true =>
          rw [hr] at HRe
          rw [Bool.true_and]
          by_cases h0 : 0 ≤ n
          · by_cases hl : n ≤ (h.length : Int)
            · rw [decide_eq_true h0, decide_eq_true hl, Bool.true_and, Bool.true_and]
              have z1 : decide (n < 0) = false := by simp; omega
              have z2 : decide ((h.length : Int) < n) = false := by simp; omega
              by_cases hz : n = 0
              · subst hz
                rw [decide_eq_true rfl, Bool.true_or]
                clear hm hh hT hS hcc hB1 hsz hr e1 e2 z1
                go_enter Tryz.func41, Tryz.ntmps41
                go_wp2_with (go_at_call 79; (with_reducible refine (HRe.out _).mono ?_); rintro e w3 ⟨rfl, rfl⟩)
                all_goals first | (exfalso; omega) | skip
                go_ret
                exact ⟨rfl, HB1.out⟩
              · rw [decide_eq_false hz, Bool.false_or]
                obtain ⟨j, rfl⟩ : ∃ j : Nat, n = (j : Int) + 1 := ⟨n.toNat - 1, by omega⟩
                have hj : j < h.length := by omega
                have hje : ((j : Int) + 1).toNat - 1 = j := by omega
                obtain ⟨x, hx⟩ : ∃ x, h[j]? = some x := ⟨h[j], by simp [hj]⟩
                rw [hje, hx]
                obtain ⟨tx, htx⟩ := hT x (List.mem_of_getElem? hx)
                have hsx := hS x (List.mem_of_getElem? hx)
                dsimp only
                rw [htx.of]
                obtain ⟨b, o, vs, rfl, ⟨hv, rfl, _⟩, _, hcells⟩ := HC.out j x hx
                have hcells := hcells.mono hB1 hcells.lt
                obtain ⟨c0, c1, _⟩ := hcells
                have HD : Hid (∀ wx, Below w.heap.size w wx → _) := fun wx hb => does_ty w0 B l tx wx x.type t y (hm.step hb) htx.text hy htx.good hsx hsz
                have HX := Lib.hid hx
                have z3 : ((j : Int) + 1 == 0) = false := by simpa using hz
                clear hm hh hT hS hcc hB1 hsz hr e1 e2 hje htx hsx hx h0 hz
                generalize fitsTy (allC l) tx y = q at *
                go_enter Tryz.func41, Tryz.ntmps41
                go_wp2_with (first
                  | (go_at_call 79; (with_reducible refine (HRe.out _).mono ?_); rintro e w3 ⟨rfl, rfl⟩)
                  | (go_at_call 80; (with_reducible refine (HD.out _ HB1.out).mono ?_); rintro e w4 ⟨rfl, hB4⟩))
                all_goals first | (exfalso; omega) | skip
                go_ret
                exact ⟨rfl, below_call HB1.out (Nat.le_refl _) hB4⟩
            · rw [decide_eq_false hl, Bool.and_false, Bool.false_and]
              have z1 : decide (n < 0) = false := by simp; omega
              have z2 : decide ((h.length : Int) < n) = true := by simp; omega
              clear hm hh hT hS hcc hB1 hsz hr e1 e2
              go_enter Tryz.func41, Tryz.ntmps41
              go_wp2_with (go_at_call 79; (with_reducible refine (HRe.out _).mono ?_); rintro e w3 ⟨rfl, rfl⟩)
              all_goals first | (exfalso; omega) | skip
              go_ret
              exact ⟨rfl, HB1.out⟩
          · rw [decide_eq_false h0, Bool.false_and, Bool.false_and]
            have z1 : decide (n < 0) = true := by simp; omega
            clear hm hh hT hS hcc hB1 hsz hr e1 e2
            go_enter Tryz.func41, Tryz.ntmps41
            go_wp2_with (go_at_call 79; (with_reducible refine (HRe.out _).mono ?_); rintro e w3 ⟨rfl, rfl⟩)
            all_goals first | (exfalso; omega) | skip
            go_ret
            exact ⟨rfl, HB1.out⟩
      · rw [if_neg h3]
        have q3 : ((k : Int) == 3) = false := by simpa using h3
        clear hm hh hT hS hcc hB1 hsz h1 h2 h3
        go_enter Tryz.func41, Tryz.ntmps41
        go_wp2_with (first | fail)
        go_ret
        exact ⟨rfl, HB1.out⟩
end Go.Proofs.YtbakcdgjibmceaaGreatDoor
namespace Go.Proofs.YtbakcdgjibmceaaGreatDoor
open Go.RowKit Go.Shelf Go.Lib
theorem ten {n : Nat} (h : n ≤ 10) : n = 0 ∨ n = 1 ∨ n = 2 ∨ n = 3 ∨ n = 4 ∨ n = 5 ∨ n = 6 ∨ n = 7 ∨ n = 8 ∨ n = 9 ∨ n = 10 := by omega
set_option maxHeartbeats 1000000 in
theorem mul64_any (n : Nat) (hn : n ≤ 10) (w : World) : Calls Tryz.prog 183 #[.int .u64 1, .int .u64 n] w fun e w' => e = .returned (.tuple #[.int .u64 0, .int .u64 n]) ∧ w = w' := by
  rcases ten hn with rfl | rfl | rfl | rfl | rfl | rfl | rfl | rfl | rfl | rfl | rfl
  all_goals
    clear hn
    go_enter Tryz.func183, Tryz.ntmps183
    go_wp2
    go_ret2
    exact ⟨rfl, rfl⟩
theorem mul_any (n : Nat) (hn : n ≤ 10) (w : World) : Calls Tryz.prog 159 #[.int .u64 1, .int .u64 n] w fun e w' => e = .returned (.tuple #[.int .u64 0, .int .u64 n]) ∧ w = w' := by
  have H := Lib.hid (mul64_any n hn w)
  clear hn
  go_enter Tryz.func159, Tryz.ntmps159
  go_wp2_with (go_at_call 183; (with_reducible refine H.out.mono ?_); rintro e w3 ⟨rfl, rfl⟩)
  go_ret2
  exact ⟨rfl, rfl⟩
theorem strCells : (Tryz.prog.info? 9).map (fun i => (i.zero, i.size, i.bytes)) = some (some (.string ⟨#[]⟩), 1, 16) := by kernel_rfl
theorem strOne : (Tryz.prog.info? 9).map (·.size) = some 1 := by kernel_rfl
theorem make_strs (n : Nat) (hn : n ≤ 16777216) (w : World) : (Instr.makeSlice 43 (.int .i64 (n : Int)) (.int .i64 (n : Int))).run Tryz.prog w = .ok (.slice (some ⟨w.heap.size, 0, none⟩) n n) (w.alloc (.cells (Array.replicate n (Value.string ⟨#[]⟩)) 9)) := by
  rw [run_make_row' 43 9 (.string ⟨#[]⟩) 16 Tryz.underlying43 strCells rfl .i64 .i64 n (by omega) (by omega) w]
  have h : madeCells #[Value.string ⟨#[]⟩] n = Array.replicate n (Value.string ⟨#[]⟩) := by
    apply Array.toList_inj.1
    rw [toList_madeCells_one, Array.toList_replicate]
  rw [h]
theorem splice_first (n : Nat) (a z : Value) : splice (List.replicate n z) 0 (List.replicate (min 1 n) a) = List.replicate (min 1 n) a ++ List.replicate (n - min 1 n) z := by
  unfold splice
  rw [List.take_zero, List.nil_append, List.drop_replicate, List.length_replicate, Nat.zero_add]
theorem splice_more (n k : Nat) (hk : k < n) (a z : Value) : splice (List.replicate k a ++ List.replicate (n - k) z) k (List.replicate (min k (n - k)) a) = List.replicate (k + min k (n - k)) a ++ List.replicate (n - (k + min k (n - k))) z := by
  unfold splice
  rw [List.take_append_of_le_length (by simp), List.take_of_length_le (by simp), List.length_replicate, ← List.append_assoc, List.replicate_append_replicate]
  congr 1
  rw [List.drop_append, List.drop_replicate, List.drop_replicate, List.length_replicate]
  have h1 : k - (k + min k (n - k)) = 0 := by omega
  have h2 : n - k - (k + min k (n - k) - k) = n - (k + min k (n - k)) := by omega
  rw [h1, h2]; rfl
set_option maxHeartbeats 2000000 in
set_option maxRecDepth 100000 in
theorem repeat_any (s : Str) (n : Nat) (hn : n ≤ 10) (b o c : Nat) (w : World) (h0 : w.cell? ⟨b, o, none⟩ = some (.string s)) : Calls Tryz.prog 121 #[.slice (some ⟨b, o, none⟩) 1 c, .int .i64 n] w (RowPs w (List.replicate n s)) := by
  have H := Lib.hid (fun wx => mul_any n hn wx)
  have HC := Lib.hid h0
  unfold RowPs
  clear h0
  have hw : IntKind.u64.wrap (n : Int) = (n : Int) := by
    show (n : Int) % 18446744073709551616 = _
    omega
  have hw2 : IntKind.i64.wrap (n : Int) = (n : Int) := IntWalk.i64_in _ (by omega)
  have hmk := make_strs n (by omega)
  have hB1 := (Below.refl w.heap.size w).alloc (Nat.le_refl _) (.cells (Array.replicate n (Value.string ⟨#[]⟩)) 9)
  have hg1 : (w.alloc (.cells (Array.replicate n (Value.string ⟨#[]⟩)) 9)).heap[w.heap.size]? = some (.cells (List.replicate n (Value.string ⟨#[]⟩)).toArray 9 (0, 0)) := by
    rw [heap_alloc_new, List.toArray_replicate]
  have hlt : b < w.heap.size := cells_blk HC.out
  have c0 := (hB1.cell (p := ⟨b, o, none⟩) hlt).trans HC.out
  have HG := Lib.hid hg1
  have HB := Lib.hid hB1
  have HC1 := Lib.hid c0
  clear hg1 hB1 c0
  obtain ⟨z, hz⟩ : ∃ z, z = Value.string ⟨#[]⟩ := ⟨_, rfl⟩
  have hz1 : z.oneCell' = true := by rw [hz]; rfl
  rw [← hz] at hmk HG HB HC1
  clear hz
  have hc1 : (List.replicate (min 1 n) (Value.string s)).length = Nat.min 1 n := List.length_replicate
  have hc2 : ∀ j v, (List.replicate (min 1 n) (Value.string s))[j]? = some v → (w.alloc (.cells (Array.replicate n z) 9)).cell? ((⟨b, o, none⟩ : Addr).add j) = some v := fun j v hj => by
    obtain ⟨h1, h2⟩ := List.getElem?_eq_some_iff.1 hj
    rw [List.length_replicate] at h1
    obtain rfl : j = 0 := by omega
    rw [List.getElem_replicate] at h2
    subst h2
    exact HC1.out
  have hc3 : 0 + (List.replicate (min 1 n) (Value.string s)).length ≤ (List.replicate n z).length := by simp; omega
  have hc4 : ∀ v ∈ List.replicate (min 1 n) (Value.string s), v.oneCell' = true := fun v hv => by rw [(List.mem_replicate.1 hv).2]; rfl
  replace hc1 := Lib.hid hc1
  replace hc2 := Lib.hid hc2
  replace hc3 := Lib.hid hc3
  replace hc4 := Lib.hid hc4
  go_enter Tryz.func121, Tryz.ntmps121
  go_wp2_with (first
    | (go_at_call 159; (with_reducible refine (H.out _).mono ?_); rintro e w3 ⟨rfl, rfl⟩)
    | (refine wpList_copy_splice rfl (.tmp 31) (.tmp 32) 43 43 rfl 9 Tryz.underlying43 strOne _ _ _ _ _ _ rfl rfl w.heap.size 0 (List.replicate n z) 9 HG.out (List.replicate (min 1 n) (.string s)) hc1.out (fun _ => ⟨rfl, _, rfl, hc2.out⟩) hc3.out hc4.out w.heap.size w HB.out (Nat.le_refl _) ?_; intro w4 hg4 hb4))
  all_goals first | (exfalso; omega) | skip
  have hg5 := hg4.out
  rw [splice_first] at hg5
  have HG5 := Lib.hid hg5
  have HB5 := Lib.hid hb4
  have hcl : (List.replicate (min 1 n) (Value.string s)).length = min 1 n := List.length_replicate
  clear hg4 hg5 hb4 hc1 hc2 hc3 hc4 HG HB HC1 HC H hmk
  go_loopw [8] (fun x wr => ∃ k : Nat, k ≤ n ∧ (k = 0 → n = 0) ∧ Hid (wr.heap[w.heap.size]? = some (.cells (List.replicate k (Value.string s) ++ List.replicate (n - k) z).toArray 9 (0, 0))) ∧ Below w.heap.size w wr ∧ x = .int .i64 k) (fun x _ => n - (intOf x).toNat)
  case atStart => exact ⟨min 1 n, by omega, by omega, HG5.out, HB5.out, by first | rfl | (rw [hcl]; rfl) | simp⟩
  case round =>
    clear HG5 HB5
    obtain ⟨k, hk, hk0, hg, hB, rfl⟩ := hrel
    by_cases hkl : k < n
    · have HB := Lib.hid hB
      clear hB
      have hk1 : 1 ≤ k := by omega
      clear hk0
      have hd1 : (List.replicate (min k (n - k)) (Value.string s)).length = Nat.min k (n - k) := List.length_replicate
      have hd2 : ∀ j v, (List.replicate (min k (n - k)) (Value.string s))[j]? = some v → wr.drew.cell? ((⟨w.heap.size, 0, none⟩ : Addr).add j) = some v := fun j v hj => by
        obtain ⟨h1, h2⟩ := List.getElem?_eq_some_iff.1 hj
        rw [List.length_replicate] at h1
        rw [List.getElem_replicate] at h2
        subst h2
        rw [Addr.add_lit, Nat.zero_add]
        show wr.cell? ⟨w.heap.size, j, none⟩ = _
        rw [cell_of_row _ _ j _ _ _ hg.out]
        simp [List.getElem?_append, show j < k by omega]
      have hd3 : k + (List.replicate (min k (n - k)) (Value.string s)).length ≤ (List.replicate k (Value.string s) ++ List.replicate (n - k) z).length := by simp; omega
      have hd4 : ∀ v ∈ List.replicate (min k (n - k)) (Value.string s), v.oneCell' = true := fun v hv => by rw [(List.mem_replicate.1 hv).2]; rfl
      have hki : (k : Int) < (n : Int) := by omega
      have hkn : ¬ n = k := by omega
      have hgd : Hid (wr.drew.heap[w.heap.size]? = some (.cells (List.replicate k (Value.string s) ++ List.replicate (n - k) z).toArray 9 (0, 0))) := hg.out
      have HBd := Lib.hid HB.out.drew
      replace hd1 := Lib.hid hd1
      replace hd2 := Lib.hid hd2
      replace hd3 := Lib.hid hd3
      replace hd4 := Lib.hid hd4
      go_wp2_with (first | fail)
      go_region_law (refine step_copy_splice rfl (.tmp 41) (.tmp 44) 43 43 rfl 9 Tryz.underlying43 strOne (some ⟨w.heap.size, k, none⟩) (some ⟨w.heap.size, 0, none⟩) (n - k) (n - k) k n (by simp [Act.eval, Act.put]) (by simp [Act.eval, Act.put]) w.heap.size k _ 9 hgd.out (List.replicate (min k (n - k)) (.string s)) hd1.out (fun _ => ⟨rfl, _, rfl, hd2.out⟩) hd3.out hd4.out w.heap.size w HBd.out (Nat.le_refl _) ?_; intro w5 hg5 hb5)
      all_goals
        have hg6 := hg5.out
        rw [splice_more n k hkl] at hg6
        have HG6 := Lib.hid hg6
        have HB6 := Lib.hid hb5
        have hw6 : IntKind.i64.wrap ((k : Int) + ((min k (n - k) : Nat) : Int)) = ((k + min k (n - k) : Nat) : Int) := by rw [IntWalk.i64_in _ (by omega)]; omega
        clear hg5 hg6 hb5 hgd HBd hd1 hd2 hd3 hd4
        simp only [hw6, Act.put, List.getElem_toArray, List.getElem_cons_succ, List.getElem_cons_zero, List.setIfInBounds_toArray, List.set_cons_succ, List.set_cons_zero]
        go_roundw
        case rel => exact ⟨_, _, _, _, _, _, _, _, _, _, _, _, _, _, ⟨k + min k (n - k), by omega, by omega, HG6.out, HB6.out, rfl⟩, rfl⟩
        case measure => simp [intOf]; omega
    · obtain rfl : k = n := by omega
      rw [Nat.sub_self, List.replicate_zero, List.append_nil] at hg
      have hB6 := Lib.hid hB
      clear hB
      go_wp2_with (first | fail)
      go_ret
      refine ⟨⟨_, rfl, ?_⟩, hB6.out⟩
      rw [List.length_replicate, List.map_replicate]
      exact ⟨by simp, Or.inr ⟨w.heap.size, k, _, rfl, Nat.le_refl _, hg.out, Nat.le_refl _, by unfold maxLen; omega, by simp, by simp⟩⟩
end Go.Proofs.YtbakcdgjibmceaaGreatDoor
namespace Go.Proofs.YtbakcdgjibmceaaGreatDoor
open Go.RowKit Go.Shelf Go.Lib
theorem trim_ar (r : List UInt8) : Lib.trimPrefix (91 :: r) [91] = r := by simp [Lib.trimPrefix, Lib.hasPrefix]
theorem hasPre_ar (r : List UInt8) : Lib.hasPrefix (91 :: r) [91] = true := by simp [Lib.hasPrefix]
theorem hasPre_cl (r : List UInt8) : Lib.hasPrefix (76 :: r) [91] = false := by simp [Lib.hasPrefix, List.isPrefixOf]
theorem trim_cl (r : List UInt8) : Lib.trimPrefix (76 :: r) [91] = 76 :: r := by unfold Lib.trimPrefix; rw [hasPre_cl]; rfl
/-- the types of what a thing of a type has -/
def typesTy (cs : List Class) (n : Nat) : Ty → List Str
  | .ar e => List.replicate n (str (tyText e))
  | .cl c => typesOf (layC cs c)
  | _ => []
set_option maxHeartbeats 2000000 in
set_option maxRecDepth 100000 in
theorem heapTypes_any (w0 w : World) (B : Nat) (l : List Class) (hm : WorldMap w0 w B l) (x : Thing) (hv : Value) (t : Ty) (ht : ThingTy (allC l) x t) (hx : SliceOf w 2 ValCells hv x.has) (hsz : x.type.size ≤ maxLen) (hn : ∀ e, t = .ar e → x.has.length ≤ 10) :
    Calls Tryz.prog 82 #[.map (some B), .agg #[.string x.type, hv]] w (RowPs w (typesT (allC l) x)) := by
  have HCu := Lib.hid (fun wx => cutPrefix_any x.type ⟨#[91]⟩ wx)
  have hlst : x.type.data.toList = tyText t := ht.text.symm
  rw [hlst] at HCu
  have hT : typesT (allC l) x = typesTy (allC l) x.has.length t := by unfold typesT; rw [ht.of]; rfl
  rw [hT]
  obtain ⟨p, c, rfl, hc1, hc2, _⟩ := hx.open
  have hlen : x.has.length ≤ 9223372036854775807 := Nat.le_trans hc1 hc2
  have hB1 := Lib.hid ((Below.refl w.heap.size w).alloc (Nat.le_refl _) (.cells #[.string x.type, .slice p x.has.length c] 56))
  cases t with
  | i => exact absurd ht.ref (by decide)
  | j => exact absurd ht.ref (by decide)
  | ar e =>
    have HRp : Hid (∀ (wx : World) (b o c : Nat), wx.cell? ⟨b, o, none⟩ = some (.string (str (tyText e))) → _) := fun (wx : World) (b o c : Nat) h => repeat_any (str (tyText e)) x.has.length (hn e rfl) b o c wx h
    simp only [tyText, trim_ar, hasPre_ar] at HCu
    rw [show (⟨(tyText e).toArray⟩ : ByteArray) = str (tyText e) from rfl] at HCu
    show Calls _ _ _ _ (RowPs w (List.replicate x.has.length (str (tyText e))))
    unfold RowPs at HRp ⊢
    clear hm ht hx hsz hn hT hlst
    generalize str (tyText e) = el at *
    go_enter Tryz.func82, Tryz.ntmps82
    go_wp2_with (first
      | (go_at_call 120; (with_reducible refine (HCu.out _).mono ?_); rintro e w3 ⟨rfl, rfl⟩)
      | (go_at_call 121; (with_reducible refine (HRp.out _ _ _ _ ?c1).mono ?_); rotate_left; rintro e w4 ⟨⟨v4, rfl, hv4⟩, hB4⟩))
    case c1 => simp
    have hB2 := hB1.out.alloc hB1.out.size (.cells #[.string el] 9)
    go_ret
    exact ⟨⟨_, rfl, ownsRow_low hv4 hB2.size⟩, below_call hB2 (Nat.le_refl _) hB4⟩
  | cl n =>
    have HCl := Lib.hid (fun wx => descClass_any x.type (.cl n) wx ht.text hsz)
    have HLa : Hid (∀ wx, Below w.heap.size w wx → _) := fun wx hb => layTypes_any w0 wx B l (hm.step hb) n ht.good
    simp only [tyText, trim_cl, hasPre_cl, baseOf, str_lst] at HCu HCl
    show Calls _ _ _ _ (RowPs w (typesOf (layC (allC l) n)))
    unfold RowPs at HLa ⊢
    clear hm ht hx hsz hn hT hlst
    generalize typesOf (layC (allC l) n) = L at *
    go_enter Tryz.func82, Tryz.ntmps82
    go_wp2_with (first
      | (go_at_call 120; (with_reducible refine (HCu.out _).mono ?_); rintro e w3 ⟨rfl, rfl⟩)
      | (go_at_call 77; (with_reducible refine (HCl.out _).mono ?_); rintro e w3 ⟨rfl, rfl⟩)
      | (go_at_call 86; (with_reducible refine (HLa.out _ hB1.out).mono ?_); rintro e w4 ⟨⟨v4, rfl, hv4⟩, hB4⟩))
    go_ret
    exact ⟨⟨_, rfl, ownsRow_low hv4 hB1.out.size⟩, below_call hB1.out (Nat.le_refl _) hB4⟩
theorem thing_bad {cs : List Class} {x : Thing} (h : refB (lst x.type) = false) : thingFault cs x = 1 := by unfold thingFault; rw [h]; rfl
theorem thing_kind {cs : List Class} {x : Thing} (h : refB (lst x.type) = true) (hk : kindR cs x.type ≠ 0) : thingFault cs x = kindR cs x.type := by
  unfold thingFault
  rw [h, if_neg (by decide), if_pos hk]
/-- what is wrong with a thing of a right type -/
def shapeTy (cs : List Class) (n : Nat) : Ty → Nat
  | .ar _ => if 10 < n then 8 else 0
  | .cl c => if (classC cs c).face then 7 else if (typesOf (layC cs c)).length ≠ n then 8 else 0
  | _ => 1
theorem thing_ty {cs : List Class} {x : Thing} (h : refB (lst x.type) = true) (hk : kindR cs x.type = 0) {t : Ty} (ht : ThingTy cs x t) : thingFault cs x = shapeTy cs x.has.length t := by
  unfold thingFault
  rw [h, if_neg (by decide), if_neg (by rw [hk]; decide), ht.of]
  cases t <;> rfl
set_option maxHeartbeats 4000000 in
set_option maxRecDepth 100000 in
theorem formed_any (w0 w : World) (B : Nat) (l : List Class) (hm : WorldMap w0 w B l) (x : Thing) (hv : Value) (hx : SliceOf w 2 ValCells hv x.has) (hsz : x.type.size ≤ maxLen) :
    Calls Tryz.prog 113 #[.map (some B), .agg #[.string x.type, hv]] w fun e w' => e = .returned (errV (thingFault (allC l) x)) ∧ Below w.heap.size w w' := by
  have HX : Hid (∀ wx, Below w.heap.size w wx → SliceOf wx 2 ValCells hv x.has) := fun wx hb => hx.mono hb (by decide) (fun _ _ h => h)
  obtain ⟨p, c, rfl, hc1, hc2, _⟩ := hx.open
  have hlen : x.has.length ≤ 9223372036854775807 := Nat.le_trans hc1 hc2
  have BX := Lib.hid (boxed_mk w #[.string x.type, .slice p x.has.length c] 56)
  have HN := Lib.hid (fun wx => number_any x.type wx)
  cases hty : typeB (lst x.type) with
  | false =>
    have hr : refB (lst x.type) = false := by unfold refB; rw [hty]; rfl
    rw [thing_bad hr, show errV 1 = .iface 35 (.int .i64 1) from rfl]
    have HD := Lib.hid (fun wx => descCheck_bad hsz hty wx)
    clear hm hx hsz hr hty HN
    go_enter Tryz.func113, Tryz.ntmps113
    go_wp2_with (go_at_call 39; (with_reducible refine (HD.out _).mono ?_); rintro e w3 ⟨rfl, hB3⟩)
    go_ret
    exact ⟨rfl, below_call BX.out.below (Nat.le_refl _) hB3⟩
  | true =>
    have HD := Lib.hid (fun wx => descCheck_good hsz hty wx)
    cases hwd : wordB (lst x.type) with
    | true =>
      have hr : refB (lst x.type) = false := by unfold refB; rw [hty, hwd]; rfl
      rw [thing_bad hr, show errV 1 = .iface 35 (.int .i64 1) from rfl]
      rw [show x.type.data.toList = lst x.type from rfl, hwd] at HN
      clear hm hx hsz hr hty hwd
      go_enter Tryz.func113, Tryz.ntmps113
      go_wp2_with (first
        | (go_at_call 39; (with_reducible refine (HD.out _).mono ?_); rintro e w3 ⟨rfl, hB3⟩; (have BX3 := BX.out.step hB3); obtain ⟨q0, q1⟩ := boxed2 BX3)
        | (go_at_call 116; (with_reducible refine (HN.out _).mono ?_); rintro e w4 ⟨rfl, rfl⟩))
      go_ret
      exact ⟨rfl, BX3.below⟩
    | false =>
      have hr : refB (lst x.type) = true := by unfold refB; rw [hty, hwd]; rfl
      rw [show x.type.data.toList = lst x.type from rfl, hwd] at HN
      have HK : Hid (∀ wx, Below w.heap.size w wx → _) := fun wx hb => kind_any w0 wx B (allC l) (hm.map.step hb) hm.right.nodup x.type hsz
      by_cases hk : kindR (allC l) x.type = 0
      · obtain ⟨t, ht⟩ := thing_type hr hk
        have hF := thing_ty hr hk ht
        rw [hk, show errV 0 = .nilIface from rfl] at HK
        rw [hF]
        obtain ⟨hpa, fa⟩ := kd_first ht.text
        have ga := kd_arrR ht.text hpa
        have HT : Hid (∀ wx, Below w.heap.size w wx → (∀ e, t = .ar e → x.has.length ≤ 10) → _) := fun wx hb hn => heapTypes_any w0 wx B l (hm.step hb) x _ t ht (HX.out wx hb) hsz hn
        have hTy : typesT (allC l) x = typesTy (allC l) x.has.length t := by unfold typesT; rw [ht.of]; rfl
        rw [hTy] at HT
        have HCl := Lib.hid (fun wx => descClass_any x.type t wx ht.text hsz)
        have hsz2 : 1 ≤ x.type.size := by omega
        cases t with
        | i => exact absurd ht.ref (by decide)
        | j => exact absurd ht.ref (by decide)
        | ar e =>
          simp only [headL, headR] at fa ga
          clear hm hx hF hty hwd hr hk hTy HCl ht
          by_cases h10 : 10 < x.has.length
          · show Calls _ _ _ _ fun e w' => e = .returned (errV (if 10 < x.has.length then 8 else 0)) ∧ Below w.heap.size w w'
            rw [if_pos h10, show errV 8 = .iface 35 (.int .i64 8) from rfl]
            have z1 : decide ((10 : Int) < (x.has.length : Int)) = true := by simp; omega
            clear HT
            go_enter Tryz.func113, Tryz.ntmps113
            go_upto_region 8 with (first
              | (go_at_call 39; (with_reducible refine (HD.out _).mono ?_); rintro e w3 ⟨rfl, hB3⟩; (have BX3 := BX.out.step hB3); obtain ⟨q0, q1⟩ := boxed2 BX3)
              | (go_at_call 116; (with_reducible refine (HN.out _).mono ?_); rintro e w4 ⟨rfl, rfl⟩)
              | (go_at_call 40; (with_reducible refine (HK.out _ BX3.below).mono ?_); rintro e w5 ⟨rfl, hB5⟩; (have BX5 := BX3.step hB5); clear q0 q1; obtain ⟨q0, q1⟩ := boxed2 BX5))
            go_quiet (fail)
            go_wp2_with (first | fail)
            go_ret
            exact ⟨rfl, below_drewN BX5.below _⟩
          · show Calls _ _ _ _ fun e w' => e = .returned (errV (if 10 < x.has.length then 8 else 0)) ∧ Below w.heap.size w w'
            rw [if_neg h10, show errV 0 = .nilIface from rfl]
            have z1 : decide ((10 : Int) < (x.has.length : Int)) = false := by simp; omega
            have HT2 : Hid (∀ wx, Below w.heap.size w wx → wx.cell? ⟨w.heap.size, 0, none⟩ = some (.string x.type) → wx.cell? ⟨w.heap.size, 1, none⟩ = some (.slice p x.has.length c) → Calls Tryz.prog 82 #[.map (some B), .agg #[.string x.type, .slice p x.has.length c]] wx fun e w' => (∃ p2 c2, e = .returned (.slice p2 x.has.length c2)) ∧ Below w.heap.size w w' ∧ w'.cell? ⟨w.heap.size, 0, none⟩ = some (.string x.type) ∧ w'.cell? ⟨w.heap.size, 1, none⟩ = some (.slice p x.has.length c)) := fun wx hb h0 h1 =>
              (HT.out wx hb (fun _ _ => by omega)).mono fun e2 w' ⟨⟨v, hv1, hv2⟩, hv3⟩ => by
                obtain ⟨p2, c2, rfl⟩ := ownsRow_shape hv2
                exact ⟨⟨p2, c2, by rw [hv1]; simp [typesTy]⟩, below_call hb (Nat.le_refl _) hv3, (hv3.cell (p := ⟨w.heap.size, 0, none⟩) (cells_blk h0)).trans h0, (hv3.cell (p := ⟨w.heap.size, 1, none⟩) (cells_blk h1)).trans h1⟩
            clear HT
            go_enter Tryz.func113, Tryz.ntmps113
            go_upto_region 8 with (first
              | (go_at_call 39; (with_reducible refine (HD.out _).mono ?_); rintro e w3 ⟨rfl, hB3⟩; (have BX3 := BX.out.step hB3); obtain ⟨q0, q1⟩ := boxed2 BX3)
              | (go_at_call 116; (with_reducible refine (HN.out _).mono ?_); rintro e w4 ⟨rfl, rfl⟩)
              | (go_at_call 40; (with_reducible refine (HK.out _ BX3.below).mono ?_); rintro e w5 ⟨rfl, hB5⟩; (have BX5 := BX3.step hB5); clear q0 q1; obtain ⟨q0, q1⟩ := boxed2 BX5))
            have hB5 := BX5.below
            have hB5d := BX5.below.drew
            go_region_held3 (fun w' => Below w.heap.size w w' ∧ w'.cell? ⟨w.heap.size, 0, none⟩ = some (.string x.type) ∧ w'.cell? ⟨w.heap.size, 1, none⟩ = some (.slice p x.has.length c)) (go_keep)
              (first | (go_at_call 82; refine (HT2.out _ ?_ ?_ ?_).mono ?_; (simp [*]); (simp [*]); (simp [*]); rintro e w6 ⟨⟨p2, c2, rfl⟩, hB6, hc60, hc61⟩))
            all_goals
              go_wp2
              go_ret
              exact ⟨rfl, hB6⟩
        | cl n =>
          simp only [headL, headR, baseOf, str_lst] at fa ga HCl
          obtain ⟨p1, k1, p2, k2, p3, k3, _, _, _, hlk⟩ := hm.map.look3 hm.right.nodup n (hm.map.names ht.good)
          have HLk := Lib.hid hlk
          have hcf := class_face
          have hF2 : shapeTy (allC l) x.has.length (.cl n) = if ((findC (allC l) n).getD noClass).face then 7 else if (typesOf (layC (allC l) n)).length ≠ x.has.length then 8 else 0 := rfl
          rw [hF2]
          clear hm hx hF hty hwd hr hk hTy ht hlk hF2
          generalize (findC (allC l) n).getD noClass = d at *
          generalize (findC (allC l) n).isSome = isk at *
          obtain ⟨n2, s2, f2, b2, d2, m2⟩ := d
          unfold classV at HLk
          dsimp only at *
          cases b2 with
          | true =>
            rw [if_pos rfl, show errV 7 = .iface 35 (.int .i64 7) from rfl]
            clear HT
            go_enter Tryz.func113, Tryz.ntmps113
            go_upto_region 7 with (first
              | (go_at_call 39; (with_reducible refine (HD.out _).mono ?_); rintro e w3 ⟨rfl, hB3⟩; (have BX3 := BX.out.step hB3); obtain ⟨q0, q1⟩ := boxed2 BX3)
              | (go_at_call 116; (with_reducible refine (HN.out _).mono ?_); rintro e w4 ⟨rfl, rfl⟩)
              | (go_at_call 40; (with_reducible refine (HK.out _ BX3.below).mono ?_); rintro e w5 ⟨rfl, hB5⟩; (have BX5 := BX3.step hB5); clear q0 q1; obtain ⟨q0, q1⟩ := boxed2 BX5; (have hl5 := (HLk.out _ BX5.below).2))
              | (go_at_call 77; (with_reducible refine (HCl.out _).mono ?_); rintro e w6 ⟨rfl, rfl⟩))
            go_wp2_with (first | fail)
            go_ret
            exact ⟨rfl, BX5.below⟩
          | false =>
            rw [if_neg (by decide)]
            obtain ⟨L, hL⟩ : ∃ L, typesOf (layC (allC l) n) = L := ⟨_, rfl⟩
            have HT2 : Hid (∀ wx, Below w.heap.size w wx → Calls Tryz.prog 82 #[.map (some B), .agg #[.string x.type, .slice p x.has.length c]] wx fun e w' => (∃ p2 c2, e = .returned (.slice p2 L.length c2)) ∧ Below wx.heap.size wx w') := fun wx hb =>
              (HT.out wx hb (fun _ h => by cases h)).mono fun e2 w' ⟨⟨v, hv1, hv2⟩, hv3⟩ => by
                obtain ⟨p2, c2, rfl⟩ := ownsRow_shape hv2
                exact ⟨⟨p2, c2, by rw [hv1, ← hL]; rfl⟩, hv3⟩
            rw [hL]
            clear HT hL
            by_cases hll : L.length = x.has.length
            · rw [if_neg (by rw [hll]; simp), show errV 0 = .nilIface from rfl]
              rw [hll] at HT2
              clear hll
              go_enter Tryz.func113, Tryz.ntmps113
              go_upto_region 8 with (first
                | (go_at_call 39; (with_reducible refine (HD.out _).mono ?_); rintro e w3 ⟨rfl, hB3⟩; (have BX3 := BX.out.step hB3); obtain ⟨q0, q1⟩ := boxed2 BX3)
                | (go_at_call 116; (with_reducible refine (HN.out _).mono ?_); rintro e w4 ⟨rfl, rfl⟩)
                | (go_at_call 40; (with_reducible refine (HK.out _ BX3.below).mono ?_); rintro e w5 ⟨rfl, hB5⟩; (have BX5 := BX3.step hB5); clear q0 q1; obtain ⟨q0, q1⟩ := boxed2 BX5; (have hl5 := (HLk.out _ BX5.below).2))
                | (go_at_call 77; (with_reducible refine (HCl.out _).mono ?_); rintro e w6 ⟨rfl, rfl⟩))
              clear hl5 HLk
              first
                | (go_region_with (go_at_call 82; (with_reducible refine (HT2.out _ BX5.below.drew).mono ?_); rintro e w6 ⟨⟨p2, c2, rfl⟩, hB6⟩; (have BX6 := BX5.drew.step hB6); obtain ⟨r0, r1⟩ := boxed2 BX6))
                | fail
              all_goals
                go_wp2
                go_ret
                exact ⟨rfl, BX6.below⟩
            · rw [if_pos hll, show errV 8 = .iface 35 (.int .i64 8) from rfl]
              have z2 : ((L.length : Int) != (x.has.length : Int)) = true := by simp; omega
              have z3 : ((L.length : Int) == (x.has.length : Int)) = false := by simp; omega
              clear hll
              go_enter Tryz.func113, Tryz.ntmps113
              go_upto_region 8 with (first
                | (go_at_call 39; (with_reducible refine (HD.out _).mono ?_); rintro e w3 ⟨rfl, hB3⟩; (have BX3 := BX.out.step hB3); obtain ⟨q0, q1⟩ := boxed2 BX3)
                | (go_at_call 116; (with_reducible refine (HN.out _).mono ?_); rintro e w4 ⟨rfl, rfl⟩)
                | (go_at_call 40; (with_reducible refine (HK.out _ BX3.below).mono ?_); rintro e w5 ⟨rfl, hB5⟩; (have BX5 := BX3.step hB5); clear q0 q1; obtain ⟨q0, q1⟩ := boxed2 BX5; (have hl5 := (HLk.out _ BX5.below).2))
                | (go_at_call 77; (with_reducible refine (HCl.out _).mono ?_); rintro e w6 ⟨rfl, rfl⟩))
              clear hl5 HLk
              first
                | (go_region_with (go_at_call 82; (with_reducible refine (HT2.out _ BX5.below.drew).mono ?_); rintro e w6 ⟨⟨p2, c2, rfl⟩, hB6⟩; (have BX6 := BX5.drew.step hB6); obtain ⟨r0, r1⟩ := boxed2 BX6))
                | fail
              all_goals
                go_wp2
                go_ret
                exact ⟨rfl, BX6.below⟩
      · have hF := thing_kind (cs := allC l) hr hk
        rw [hF]
        rcases errV_cases (kindR (allC l) x.type) with ⟨_, h0⟩ | ⟨hv, _⟩
        · exact absurd h0 hk
        rw [hv] at HK ⊢
        clear hm hx hsz hr hty hwd hF hk hv
        generalize kindR (allC l) x.type = f at *
        go_enter Tryz.func113, Tryz.ntmps113
        go_wp2_with (first
          | (go_at_call 39; (with_reducible refine (HD.out _).mono ?_); rintro e w3 ⟨rfl, hB3⟩; (have BX3 := BX.out.step hB3); obtain ⟨q0, q1⟩ := boxed2 BX3)
          | (go_at_call 116; (with_reducible refine (HN.out _).mono ?_); rintro e w4 ⟨rfl, rfl⟩)
          | (go_at_call 40; (with_reducible refine (HK.out _ BX3.below).mono ?_); rintro e w5 ⟨rfl, hB5⟩))
        go_ret
        exact ⟨rfl, below_call BX3.below (Nat.le_refl _) hB5⟩
end Go.Proofs.YtbakcdgjibmceaaGreatDoor
namespace Go.Proofs.YtbakcdgjibmceaaGreatDoor
open Go.RowKit Go.Shelf Go.Lib
/-- a type's text, whether its class is there or not -/
structure TyText (t : Str) (y : Ty) : Prop where
  text : tyText y = lst t
  name : nameOk y = true
  deep : deepTy y ≤ 3
theorem TyText.of {t : Str} {y : Ty} (h : TyText t y) : tyOf t = y := tyOf_text h.text
theorem ty_of_type {t : Str} (h : typeB (lst t) = true) : ∃ y, TyText t y := by
  obtain ⟨y, h1, _, h3⟩ := typeB_ty (lst t) h
  exact ⟨y, h1, h3, deep_of_type (by rw [h1]; exact h)⟩
theorem name_le {s : List UInt8} (h : nameB s = true) : s.length ≤ 20 := by
  unfold nameB at h
  cases s with
  | nil => exact Nat.zero_le _
  | cons a r =>
    simp only [Bool.and_eq_true] at h
    exact of_decide_eq_true h.1.1
theorem ty_size : ∀ y : Ty, nameOk y = true → (tyText y).length ≤ deepTy y + 22
  | .i, _ => by simp [tyText]
  | .j, _ => by simp [tyText]
  | .cl c, h => by
    have := name_le (s := lst c) h
    simp only [tyText, List.length_cons, List.length_append, List.length_nil, deepTy]; omega
  | .ar y, h => by
    have := ty_size y h
    simp only [tyText, List.length_cons, deepTy]; omega
theorem TyText.size {t : Str} {y : Ty} (h : TyText t y) : t.size ≤ maxLen := by
  have h1 := ty_size y h.name
  have h2 : (lst t).length = t.size := rfl
  rw [h.text] at h1
  have := h.deep
  unfold maxLen; omega
theorem fold_fields : ∀ (r a : List Field), foldFault fieldFault a r = 0 → ∀ f ∈ r, typeB (lst f.type) = true
  | [], _, _, f, hf => by cases hf
  | x :: r, a, h, f, hf => by
    unfold foldFault at h
    by_cases h0 : fieldFault x a = 0
    · rw [if_pos h0] at h
      rcases List.mem_cons.1 hf with rfl | hf
      · unfold fieldFault at h0
        split at h0
        · cases h0
        · rename_i h1
          rw [Bool.not_eq_true, Bool.or_eq_false_iff, Bool.not_eq_false', Bool.not_eq_false'] at h1
          exact h1.2
      · exact fold_fields r _ h f hf
    · rw [if_neg h0] at h; exact absurd h h0
theorem class_fields_type {l : List Class} (hf : ∀ c ∈ l, classFault c = 0) (x : Str) : ∀ f ∈ (classC (allC l) x).fields, typeB (lst f.type) = true := by
  unfold classC
  cases hq : findC (allC l) x with
  | none => intro f h; cases h
  | some c =>
    have hm : c ∈ allC l := List.mem_of_find?_eq_some hq
    show ∀ f ∈ c.fields, _
    unfold allC at hm
    rcases List.mem_cons.1 hm with rfl | hm
    · intro f h; cases h
    · rcases List.mem_cons.1 hm with rfl | hm
      · intro f h; cases h
      · have h := hf c hm
        unfold classFault at h
        split at h
        · cases h
        · split at h
          · rename_i h1; exact absurd h h1
          · split at h
            · cases h
            · split at h
              · rename_i h1; exact absurd h h1
              · rename_i h1
                exact fold_fields c.fields [] (by simpa using h1)
theorem lay_types {l : List Class} (hf : ∀ c ∈ l, classFault c = 0) (x : Str) : ∀ t ∈ typesOf (layC (allC l) x), ∃ y, TyText t y := by
  intro t ht
  unfold typesOf at ht
  obtain ⟨⟨c, f⟩, h1, rfl⟩ := List.mem_map.1 ht
  unfold layC laySlots at h1
  obtain ⟨d, _, h2⟩ := List.mem_flatMap.1 h1
  unfold ownSlots at h2
  obtain ⟨g, h3, h4⟩ := List.mem_map.1 h2
  injection h4 with _ h4
  subst h4
  exact ty_of_type (class_fields_type hf d g h3)
theorem thing_types {l : List Class} (hf : ∀ c ∈ l, classFault c = 0) {x : Thing} {t : Ty} (ht : ThingTy (allC l) x t) : ∀ s ∈ typesT (allC l) x, ∃ y, TyText s y := by
  intro s hs
  unfold typesT at hs
  rw [ht.of] at hs
  cases t with
  | i => cases hs
  | j => cases hs
  | ar e =>
    dsimp only at hs
    rw [(List.mem_replicate.1 hs).2]
    have hd := ht.deep
    simp only [deepTy] at hd
    exact ⟨e, rfl, good_name hf e ht.good, by omega⟩
  | cl c => exact lay_types hf c s hs
theorem all_drop {α : Type} (f : α → Bool) (l : List α) (k : Nat) (x : α) (h : l[k]? = some x) : (l.drop k).all f = (f x && (l.drop (k + 1)).all f) := by
  obtain ⟨hk, rfl⟩ := List.getElem?_eq_some_iff.1 h
  rw [List.drop_eq_getElem_cons hk, List.all_cons]
theorem first_drop {α : Type} (f : α → Nat) (l : List α) (k : Nat) (x : α) (h : l[k]? = some x) : firstFault f (l.drop k) = if f x = 0 then firstFault f (l.drop (k + 1)) else f x := by
  obtain ⟨hk, rfl⟩ := List.getElem?_eq_some_iff.1 h
  rw [List.drop_eq_getElem_cons hk]; rfl
theorem zip_at {α β : Type} {a : List α} {b : List β} {k : Nat} {x : α} {y : β} (h1 : a[k]? = some x) (h2 : b[k]? = some y) : (a.zip b)[k]? = some (x, y) := by
  rw [List.getElem?_zip_eq_some]; exact ⟨h1, h2⟩
end Go.Proofs.YtbakcdgjibmceaaGreatDoor
namespace Go.Proofs.YtbakcdgjibmceaaGreatDoor
open Go.RowKit Go.Shelf Go.Lib
theorem heapR_full {cs : List Class} {h : List Thing} (g : 50 < h.length) : heapR cs h = 4 := by unfold heapR; rw [if_pos g]
theorem heapR_form {cs : List Class} {h : List Thing} (g : ¬ 50 < h.length) (f : firstFault (thingFault cs) h ≠ 0) : heapR cs h = firstFault (thingFault cs) h := by unfold heapR; rw [if_neg g, if_pos f]
theorem heapR_hold {cs : List Class} {h : List Thing} (g : ¬ 50 < h.length) (f : firstFault (thingFault cs) h = 0) : heapR cs h = if h.all (thingHolds cs h) then 0 else 7 := by unfold heapR; rw [if_neg g, if_neg (by rw [f]; decide)]
theorem formed_typed {cs : List Class} {h : List Thing} (f : Formed cs h) : Typed cs h := fun x hx => (thing_zero (f x hx)).2.2
theorem thing_small {cs : List Class} {x : Thing} (h : thingFault cs x = 0) {e : Ty} (ht : ThingTy cs x (.ar e)) : x.has.length ≤ 10 := by
  obtain ⟨h1, h2, _⟩ := thing_zero h
  rw [thing_ty h1 h2 ht] at h
  unfold shapeTy at h
  by_cases h10 : 10 < x.has.length
  · rw [if_pos h10] at h; cases h
  · omega
set_option maxHeartbeats 4000000 in
set_option maxRecDepth 100000 in
theorem right_any (w0 w : World) (B : Nat) (l : List Class) (hm : WorldMap w0 w B l) (h : List Thing) (hv : Value) (hh : ThingsAt w hv h) (hS : Short h) :
    Calls Tryz.prog 75 #[.map (some B), .agg #[hv]] w fun e w' => e = .returned (errV (heapR (allC l) h)) ∧ Below w.heap.size w w' := by
  obtain ⟨p, c, rfl, hc1, hc2, hcc⟩ := hh.open
  have hlen : h.length ≤ 9223372036854775807 := Nat.le_trans hc1 hc2
  have HC := Lib.hid hcc
  have BX := Lib.hid (boxed_mk w #[.slice p h.length c] 25)
  by_cases h50 : 50 < h.length
  · rw [heapR_full h50, show errV 4 = .iface 35 (.int .i64 4) from rfl]
    have z1 : decide ((50 : Int) < (h.length : Int)) = true := by simp; omega
    clear hm hh hS hcc
    go_enter Tryz.func75, Tryz.ntmps75
    go_wp2_with (first | fail)
    go_ret
    exact ⟨rfl, BX.out.below⟩
  · have HF : Hid (∀ (wx : World) (x : Thing) (hv : Value), Below w.heap.size w wx → SliceOf wx 2 ValCells hv x.has → x.type.size ≤ maxLen → _) := fun wx x hv hb hx hs => formed_any w0 wx B l (hm.step hb) x hv hx hs
    have HT : Hid (∀ (wx : World) (x : Thing) (hv : Value) (t : Ty), Below w.heap.size w wx → ThingTy (allC l) x t → SliceOf wx 2 ValCells hv x.has → x.type.size ≤ maxLen → (∀ e, t = .ar e → x.has.length ≤ 10) → _) := fun wx x hv t hb ht hx hs hn => heapTypes_any w0 wx B l (hm.step hb) x hv t ht hx hs hn
    have HH : Hid (∀ wx, Below w.heap.size w wx → ThingsAt wx (.slice p h.length c) h) := fun wx hb => hh.mono hb
    have HD : Hid (∀ (wx : World) (v : Val) (t : Str) (y : Ty), Below w.heap.size w wx → Typed (allC l) h → tyText y = lst t → t.size ≤ maxLen → _) := fun wx v t y hb hT hy hs => heapDoes_any w0 wx B l (hm.step hb) h _ (HH.out wx hb) hT hS v t y hy hs
    have HR : Hid (∀ x, firstFault (thingFault (allC l)) h = x → heapR (allC l) h = if x ≠ 0 then x else if h.all (thingHolds (allC l) h) then 0 else 7) := fun x hx => by
      subst hx
      by_cases h0 : firstFault (thingFault (allC l)) h = 0
      · rw [heapR_hold h50 h0, if_neg (show ¬ firstFault (thingFault (allC l)) h ≠ 0 by rw [h0]; decide)]
      · rw [heapR_form h50 h0, if_pos h0]
    have hfa : Hid (∀ c ∈ l, classFault c = 0) := hm.faults
    have HSh := Lib.hid hS
    clear hm hh hS hcc
    generalize heapR (allC l) h = res at *
    have z1 : decide ((50 : Int) < (h.length : Int)) = false := by simp; omega
    go_enter Tryz.func75, Tryz.ntmps75
    go_wp2_with (first | fail)
    have q0 := boxed1 BX.out
    generalize w.alloc (.cells #[.slice p h.length c] 25) = w1 at *
    go_loopw [20] (fun x wr => ∃ k : Nat, k ≤ h.length ∧ Hid (firstFault (thingFault (allC l)) (h.drop k) = firstFault (thingFault (allC l)) h) ∧ Below w1.heap.size w1 wr ∧ x = .int .i64 k) (fun x _ => h.length - (intOf x).toNat)
    case atStart => exact ⟨0, by omega, rfl, Below.refl _ _, rfl⟩
    case round =>
      obtain ⟨k, hk, hff, hB, rfl⟩ := hrel
      by_cases hkl : k < h.length
      · obtain ⟨x, hx⟩ : ∃ a, h[k]? = some a := ⟨h[k], by simp [hkl]⟩
        obtain ⟨b, o, vs, rfl, ⟨hv, rfl, hvs⟩, _, hcells⟩ := HC.out k x hx
        have hBw := below_call BX.out.below (Nat.le_refl _) hB
        obtain ⟨c0, c1, _⟩ := hcells.mono hBw hcells.lt
        have hsx := HSh.out x (List.mem_of_getElem? hx)
        have hstep := first_drop (thingFault (allC l)) h k x hx
        rw [hff.out] at hstep
        obtain ⟨p2, c2, rfl, _⟩ := hvs.open
        have hBa := hBw.alloc hBw.size (.cells #[.string x.type, .slice p2 x.has.length c2] 56)
        have HFx := Lib.hid (HF.out _ x _ hBa (hvs.mono hBa (by decide) (fun _ _ h => h)) hsx)
        have HX := Lib.hid hx
        have HBr := Lib.hid (hB.alloc hB.size (.cells #[.string x.type, .slice p2 x.has.length c2] 56))
        clear hx hcells hsx hff hB hBa hBw hvs
        rcases errV_cases (thingFault (allC l) x) with ⟨hv0, hz⟩ | ⟨hv0, hz⟩
        · rw [hv0] at HFx
          rw [if_pos hz] at hstep
          have hst := Lib.hid hstep.symm
          clear hstep hv0 hz
          go_wp2_with (go_at_call 113; (with_reducible refine HFx.out.mono ?_); rintro e w6 ⟨rfl, hB6⟩)
          go_roundw
          case rel => exact ⟨k + 1, by omega, hst.out, below_call HBr.out (Nat.le_refl _) hB6, by simp⟩
          case measure => simp [intOf]; omega
        · rw [hv0] at HFx
          rw [if_neg hz] at hstep
          have hres := HR.out _ hstep
          rw [if_pos hz] at hres
          have HRs := Lib.hid hres
          clear hstep hres
          have HV := Lib.hid hv0
          generalize thingFault (allC l) x = f at *
          clear hv0
          go_wp2_with (go_at_call 113; (with_reducible refine HFx.out.mono ?_); rintro e w6 ⟨rfl, hB6⟩)
          go_ret
          exact ⟨by rw [HRs.out, HV.out]; rfl, below_call BX.out.below (Nat.le_refl _) (below_call HBr.out (Nat.le_refl _) hB6)⟩
      · obtain rfl : k = h.length := by omega
        have hf0 : firstFault (thingFault (allC l)) h = 0 := by rw [← hff.out, List.drop_eq_nil_of_le (Nat.le_refl _)]; rfl
        have hfo : Formed (allC l) h := firstFault_zero hf0
        have hres := HR.out _ hf0
        rw [if_neg (by decide)] at hres
        have HRs := Lib.hid hres
        have HFo := Lib.hid hfo
        have q1 := (hB.cell (p := ⟨w.heap.size, 0, none⟩) BX.out.size).trans q0
        have HB2 := Lib.hid hB
        clear hff hf0 hfo hres hB HF HR q0
        go_wp2_with (first | fail)
        have HTy := Lib.hid (formed_typed HFo.out)
        go_loopw [34] (fun x wr => ∃ k : Nat, k ≤ h.length ∧ Hid ((h.drop k).all (thingHolds (allC l) h) = h.all (thingHolds (allC l) h)) ∧ Below w1.heap.size w1 wr ∧ x = .int .i64 k) (fun x _ => h.length - (intOf x).toNat)
        case atStart => exact ⟨0, by omega, rfl, HB2.out, rfl⟩
        case round =>
          clear HB2 q1
          obtain ⟨k, hk, hff, hB, rfl⟩ := hrel
          by_cases hkl : k < h.length
          · obtain ⟨x, hx⟩ : ∃ a, h[k]? = some a := ⟨h[k], by simp [hkl]⟩
            obtain ⟨b, o, vs, rfl, ⟨hv, rfl, hvs⟩, _, hcells⟩ := HC.out k x hx
            have hBw := below_call BX.out.below (Nat.le_refl _) hB
            obtain ⟨c0, c1, _⟩ := hcells.mono hBw hcells.lt
            have hxm := List.mem_of_getElem? hx
            have hsx := HSh.out x hxm
            have hf0 := HFo.out x hxm
            obtain ⟨tx, htx⟩ := HTy.out x hxm
            have hstep := all_drop (thingHolds (allC l) h) h k x hx
            rw [hff.out] at hstep
            obtain ⟨p2, c2, rfl, hd1, hd2, hdd⟩ := hvs.open
            have BT := boxed_mk wr #[.string x.type, .slice p2 x.has.length c2] 56
            have hBa := below_call hBw (Nat.le_refl _) BT.below
            have HTx := Lib.hid (HT.out _ x _ tx hBa htx (hvs.mono hBa (by decide) (fun _ _ h => h)) hsx (fun e he => thing_small hf0 (he ▸ htx)))
            have hshape := thing_shape hf0
            have hty := Lib.hid (thing_types hfa.out htx)
            have hall : Hid (thingHolds (allC l) h x = (x.has.zip (typesT (allC l) x)).all fun p => holdsTy (allC l) h p.1 (tyOf p.2)) := rfl
            have HX := Lib.hid hx
            have HDD := Lib.hid hdd
            have HBa := Lib.hid hBa
            have HBT := Lib.hid BT
            have HS2 := Lib.hid hstep
            have hlen2 : x.has.length ≤ 9223372036854775807 := Nat.le_trans hd1 hd2
            have HBr := Lib.hid hB
            clear hx hcells hsx hff hBa hBw hvs hdd BT hf0 htx hxm hstep hB
            unfold RowPs at HTx
            generalize typesT (allC l) x = T at *
            generalize thingHolds (allC l) h x = th at *
            go_wp2_with (go_at_call 82; (with_reducible refine HTx.out.mono ?_); rintro e w6 ⟨⟨v6, rfl, hv6⟩, hB6⟩; obtain ⟨p6, k6, rfl⟩ := ownsRow_shape hv6)
            have HT6 := Lib.hid (strsAt_of_owns hv6)
            have HBT6 := Lib.hid (HBT.out.step hB6)
            have HB6 := Lib.hid (below_call HBa.out (Nat.le_refl _) hB6)
            have HW6 := Lib.hid (below_call HBr.out (Nat.le_refl _) (HBT6.out.below))
            clear hv6 hB6 HTx HBT HBa HBr c0 c1
            go_loopw [42] (fun x3 wy => ∃ j : Nat, j ≤ T.length ∧ Hid (((x.has.zip T).drop j).all (fun p => holdsTy (allC l) h p.1 (tyOf p.2)) = th) ∧ Below w6.heap.size w6 wy ∧ x3 = .int .i64 j) (fun x3 _ => T.length - (intOf x3).toNat)
            case atStart => exact ⟨0, by omega, hall.out.symm, Below.refl _ _, rfl⟩
            case round =>
              obtain ⟨j, hj, hgg, hB, rfl⟩ := hrel
              by_cases hjl : j < T.length
              · obtain ⟨t, ht⟩ : ∃ a, T[j]? = some a := ⟨T[j], by simp [hjl]⟩
                obtain ⟨v, hv⟩ : ∃ a, x.has[j]? = some a := ⟨x.has[j]'(by omega), by simp⟩
                obtain ⟨y, hy⟩ := hty.out t (List.mem_of_getElem? ht)
                have hst2 := all_drop (fun p : Val × Str => holdsTy (allC l) h p.1 (tyOf p.2)) _ j _ (zip_at hv ht)
                rw [hgg.out] at hst2
                dsimp only at hst2
                rw [hy.of] at hst2
                have hBy := below_call HB6.out (Nat.le_refl _) hB
                obtain ⟨b2, o2, vs2, rfl, hvc, _, hvcells⟩ := HDD.out j v hv
                unfold ValCells at hvc; subst hvc
                obtain ⟨d0, d1, _⟩ := hvcells.mono hBy hvcells.lt
                obtain ⟨r0, r1⟩ := boxed2 (HBT6.out.step hB)
                have q2 := ((below_call HW6.out (Nat.le_refl _) hB).cell (p := ⟨w.heap.size, 0, none⟩) BX.out.size).trans (boxed1 BX.out)
                obtain ⟨⟨b6, o6, rfl⟩, _, _, _⟩ := HT6.out.ptr (by omega)
                have u0 := (HT6.out.mono hB).cell ht
                have hjl2 : j < x.has.length := by omega
                have HDo := Lib.hid (HD.out wr.drew v t y hBy.drew HTy.out hy.text hy.size)
                have HY := Lib.hid hy
                have HBr2 := Lib.hid hB
                have hVX := Lib.hid hv
                have hTX := Lib.hid ht
                clear hy hB hBy hvcells ht hv hgg
                unfold valV at HDo
                obtain ⟨kd, n⟩ := v
                dsimp only at d0 d1 HDo
                cases hq : holdsTy (allC l) h ⟨kd, n⟩ y with
                | true =>
                  rw [hq] at HDo hst2
                  rw [Bool.true_and] at hst2
                  have hst3 := Lib.hid hst2.symm
                  clear hst2 hq
                  go_upto_region 16 with (first | fail)
                  refine wp_region_still_tail 8 (by kernel_rfl) (by kernel_rfl) ?_
                  simp only [List.take_succ_cons, List.take_zero, List.drop_succ_cons, List.drop_zero]
                  repeat still_step
                  refine wpStill_nil ?_
                  change wpList _ _ _ _ _ wr.drew
                  go_wp2_with (go_at_call 41; (with_reducible refine HDo.out.mono ?_); rintro e w7 ⟨rfl, hB7⟩)
                  go_roundw
                  case rel => exact ⟨j + 1, by omega, hst3.out, below_call HBr2.out.drew (Nat.le_refl _) hB7, by simp⟩
                  case measure => simp [intOf]; omega
                | false =>
                  rw [hq] at HDo hst2
                  rw [Bool.false_and] at hst2
                  have hno : h.all (thingHolds (allC l) h) = false := by rw [HS2.out, hst2]; rfl
                  have hres := HRs.out
                  rw [hno, if_neg (by decide)] at hres
                  have HR4 := Lib.hid hres
                  clear hst2 hq hno hres HRs
                  go_upto_region 16 with (first | fail)
                  refine wp_region_still_tail 8 (by kernel_rfl) (by kernel_rfl) ?_
                  simp only [List.take_succ_cons, List.take_zero, List.drop_succ_cons, List.drop_zero]
                  repeat still_step
                  refine wpStill_nil ?_
                  change wpList _ _ _ _ _ wr.drew
                  go_wp2_with (go_at_call 41; (with_reducible refine HDo.out.mono ?_); rintro e w7 ⟨rfl, hB7⟩)
                  go_ret
                  exact ⟨by rw [HR4.out]; rfl, below_call (below_call HB6.out (Nat.le_refl _) HBr2.out).drew (Nat.le_refl _) hB7⟩
              · obtain rfl : j = T.length := by omega
                have hth : th = true := by rw [← hgg.out, List.drop_eq_nil_of_le (by rw [List.length_zip]; omega)]; rfl
                have hst := HS2.out
                rw [hth, Bool.true_and] at hst
                have HSt := Lib.hid hst.symm
                have HBr2 := Lib.hid hB
                clear hth hst hgg hB
                go_wp2_with (first | fail)
                go_roundw
                case rel => exact ⟨k + 1, by omega, HSt.out, below_call HW6.out (Nat.le_refl _) HBr2.out, by simp⟩
                case measure => simp [intOf]; omega
          · obtain rfl : k = h.length := by omega
            have hyes : h.all (thingHolds (allC l) h) = true := by rw [← hff.out, List.drop_eq_nil_of_le (Nat.le_refl _)]; rfl
            have hres := HRs.out
            rw [if_pos hyes] at hres
            have HB3 := Lib.hid hB
            have HR4 := Lib.hid hres
            clear hyes hres hff hB HRs
            go_wp2_with (first | fail)
            go_ret
            exact ⟨by rw [HR4.out]; rfl, below_call BX.out.below (Nat.le_refl _) HB3.out⟩
end Go.Proofs.YtbakcdgjibmceaaGreatDoor
