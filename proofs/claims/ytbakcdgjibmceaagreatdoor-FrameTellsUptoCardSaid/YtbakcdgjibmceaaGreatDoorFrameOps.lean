/-
  PLAIN LAW: frames; what is wrong with one; two joined.
  WALKS over slices.Grow of nil, slices.Concat of two lists of texts, slices.Equal. Conditions: at most sixteen texts in all (Concat).
  WALKS over frame.check, Check, Both, Same, Join, Below. Conditions: as in XRead; kinds' texts of at most maxLen signs.
  WALKS over frame.Join, Below. Conditions: as in XRead; kinds' texts of at most 4194304 signs.
-/
import Derived.Test.YtbakcdgjibmceaaGreatDoorHeap
import Derived.Test.YtbakcdgjibmceaaGreatDoorRow
import Derived.Test.YtbakcdgjibmceaaGreatDoorRefFind
import Derived.Lib.AppendZerosOnto
import Derived.Test.YtbakcdgjibmceaaGreatDoorHeapOps
import Derived.Test.YtbakcdgjibmceaaGreatDoorJoinOf
import Derived.Test.YtbakcdgjibmceaaGreatDoorRow3
import Derived.Deep.AppendLies
import Derived.Deep.RegionLaw
namespace Go.Proofs.YtbakcdgjibmceaaGreatDoor
open Go.RowKit Go.Shelf Go.Lib
structure Frm where
  locals : List Str
  stack : List Str
  deriving DecidableEq
/-- the kind of a text -/
def kdOf (k : Str) : Kd := if lst k = [78] then .n else if lst k = [84] then .t else .ty (tyOf k)
theorem kdOf_text {k : Str} {x : Kd} (h : kdText x = lst k) : kdOf k = x := by
  unfold kdOf
  rw [← h]
  cases x with
  | n => rfl
  | t => rfl
  | ty y =>
    rw [if_neg (by cases y <;> simp [kdText, tyText]), if_neg (by cases y <;> simp [kdText, tyText])]
    exact congrArg Kd.ty (tyOf_text h)
/-- what is wrong with a frame, in a right world -/
def frameR (cs : List Class) (f : Frm) : Nat :=
  if 8 < f.locals.length ∨ 8 < f.stack.length then 4 else firstFault (kindR cs) (f.locals ++ f.stack)
/-- two kinds joined -/
def joinS (cs : List Class) (a b : Str) : Str := str (kdText (joinKd cs (kdOf a) (kdOf b)))
theorem joinS_text {cs : List Class} {a b z : Str} {x y : Kd} (ha : kdText x = lst a) (hb : kdText y = lst b) (hz : kdText (joinKd cs x y) = lst z) : joinS cs a b = z := by
  unfold joinS
  rw [kdOf_text ha, kdOf_text hb, hz]
  rfl
def joinL (cs : List Class) (a b : List Str) : List Str := List.zipWith (joinS cs) a b
def shapedB (a b : Frm) : Bool := decide (a.locals.length = b.locals.length) && decide (a.stack.length = b.stack.length)
def bothF (cs : List Class) (a b : Frm) : Frm := ⟨joinL cs a.locals b.locals, joinL cs a.stack b.stack⟩
/-- what is wrong with two frames, in a right world -/
def framesR (cs : List Class) (a b : Frm) : Nat := if frameR cs a ≠ 0 then frameR cs a else if frameR cs b ≠ 0 then frameR cs b else if shapedB a b then 0 else 8
def frameFault (l : List Class) (f : Frm) : Nat := if readFault l ≠ 0 then readFault l else frameR (allC l) f
def framesFault (l : List Class) (a b : Frm) : Nat := if readFault l ≠ 0 then readFault l else framesR (allC l) a b
theorem firstFault_app {α : Type} {f : α → Nat} : ∀ {l m : List α}, firstFault f (l ++ m) = if firstFault f l = 0 then firstFault f m else firstFault f l
  | [], _ => by simp [firstFault]
  | x :: r, m => by
    show (if f x = 0 then firstFault f (r ++ m) else f x) = if (if f x = 0 then firstFault f r else f x) = 0 then firstFault f m else (if f x = 0 then firstFault f r else f x)
    by_cases h : f x = 0
    · rw [if_pos h, if_pos h, firstFault_app]
    · rw [if_neg h, if_neg h, if_neg h]
/-- a frame's kinds are kinds -/
theorem frame_zero {cs : List Class} {f : Frm} (h : frameR cs f = 0) : f.locals.length ≤ 8 ∧ f.stack.length ≤ 8 ∧ (∀ k ∈ f.locals, kindR cs k = 0) ∧ ∀ k ∈ f.stack, kindR cs k = 0 := by
  unfold frameR at h
  split at h
  · cases h
  · rename_i hn
    have hz := firstFault_zero h
    exact ⟨by omega, by omega, fun k hk => hz k (List.mem_append_left _ hk), fun k hk => hz k (List.mem_append_right _ hk)⟩
end Go.Proofs.YtbakcdgjibmceaaGreatDoor
namespace Go.Proofs.YtbakcdgjibmceaaGreatDoor
open Go.RowKit Go.Shelf Go.Lib
def OwnNil (w : World) (e : Ending) (w' : World) : Prop := (∃ v, e = .returned v ∧ w'.ownsRow w.heap.size 9 1 v 0 []) ∧ Below w.heap.size w w'
set_option maxHeartbeats 1000000 in
set_option maxRecDepth 100000 in
theorem growNil_any (n : Nat) (hn : n ≤ 16) (w : World) : Calls Tryz.prog 134 #[.slice none 0 0, .int .i64 (n : Int)] w (OwnNil w) := by
  unfold OwnNil
  by_cases h0 : n = 0
  · subst h0
    go_enter Tryz.func134, Tryz.ntmps134
    go_wp2_with (first | fail)
    go_ret
    exact ⟨⟨_, rfl, World.ownsRow_nil _ _ _ _⟩, Below.refl _ _⟩
  · obtain ⟨i0, hi, hz0, hz1, hz2⟩ := info_parts info_string
    have hGn : n ≤ grownCap w n 0 9 := grownCap_ge w _ _ _
    have hGm : grownCap w n 0 9 ≤ maxLen := grownCap_le_maxLen w n 0 9 (by unfold maxLen; omega)
    have hsz : (Builtin.zeroCells #[Value.string ByteArray.empty] n ++ Builtin.zeroCells #[Value.string ByteArray.empty] (grownCap w n 0 9 - n)).size = grownCap w n 0 9 * 1 := by
      simp [Builtin.zeroCells]; omega
    have hown := World.ownsRow_made (base := w.heap.size) (e := 9) (size := 1) w.drew _ (grownCap w n 0 9) (Nat.le_refl _) hGm hsz
    have hB := (Below.refl w.heap.size w).drew.alloc (Nat.le_refl _) (.cells (Builtin.zeroCells #[Value.string ByteArray.empty] n ++ Builtin.zeroCells #[Value.string ByteArray.empty] (grownCap w n 0 9 - n)) 9)
    have hn0 : (0 : Int) < (n : Int) := by omega
    have hG63 : grownCap w n 0 9 ≤ 9223372036854775807 := by unfold maxLen at hGm; omega
    clear hi hz0 hz1 hz2
    have hb : Tryz.t9.bytes = 16 := rfl
    have hb1 : (n : Int) * (Tryz.t9.bytes : Int) ≤ 281474976710656 := by rw [hb]; omega
    have hb2 : Builtin.nextslicecap n 0 * Tryz.t9.bytes ≤ 281474976710656 := by
      rw [hb]; unfold Builtin.nextslicecap; rw [if_pos (by omega)]; omega
    clear hb
    go_enter Tryz.func134, Tryz.ntmps134
    go_wp2_with (first | fail)
    all_goals first
      | (go_ret; exact ⟨⟨_, rfl, hown⟩, hB⟩)
      | (exfalso; omega)
set_option maxHeartbeats 1000000 in
set_option maxRecDepth 100000 in
/-- two lists of texts as one -/
theorem concat_any (xs ys : List Str) (v1 v2 : Value) (g : Nat) (w : World) (h0 : w.cell? ⟨g, 0, none⟩ = some v1) (h1 : w.cell? ⟨g, 1, none⟩ = some v2) (hx : StrsAt w v1 xs) (hy : StrsAt w v2 ys) (hn : xs.length + ys.length ≤ 16) :
    Calls Tryz.prog 99 #[.slice (some ⟨g, 0, none⟩) 2 2] w fun e w' => (∃ v, e = .returned v ∧ StrsAt w' v (xs ++ ys)) ∧ Below w.heap.size w w' := by
  have HX : Hid (∀ wx, Below w.heap.size w wx → StrsAt wx v1 xs) := fun wx hb => hx.mono hb
  have HY : Hid (∀ wx, Below w.heap.size w wx → StrsAt wx v2 ys) := fun wx hb => hy.mono hb
  obtain ⟨p1, c1, rfl, _⟩ := hx.open
  obtain ⟨p2, c2, rfl, _⟩ := hy.open
  obtain ⟨n, hnn⟩ : ∃ n, xs.length + ys.length = n := ⟨_, rfl⟩
  have hw1 : IntKind.i64.wrap (0 + (xs.length : Int)) = (xs.length : Int) := by rw [IntWalk.i64_in _ (by omega)]; omega
  have hw1' : IntKind.i64.wrap (xs.length : Int) = (xs.length : Int) := IntWalk.i64_in _ (by omega)
  have hw2 : IntKind.i64.wrap ((xs.length : Int) + (ys.length : Int)) = (n : Int) := by rw [IntWalk.i64_in _ (by omega)]; omega
  have ht1 : ¬ (xs.length : Int) < 0 := by omega
  have ht2 : ¬ (n : Int) < 0 := by omega
  have HG : Hid (∀ wx, _) := fun wx => growNil_any n (by omega) wx
  unfold OwnNil at HG
  have HL0 := Lib.hid (hcells_lt h0)
  have HN := Lib.hid hnn
  have HN16 := Lib.hid hn
  clear hx hy hnn hn
  go_enter Tryz.func99, Tryz.ntmps99
  go_wp2_with (first | fail)
  go_loopw [3, 11] (fun x3 x11 wr => w = wr ∧ ((x3 = .int .i64 0 ∧ x11 = .int .i64 0) ∨ (x3 = .int .i64 (xs.length : Int) ∧ x11 = .int .i64 1) ∨ (x3 = .int .i64 (n : Int) ∧ x11 = .int .i64 2))) (fun _ x _ => 2 - (intOf x).toNat)
  case atStart => exact ⟨rfl, Or.inl ⟨rfl, rfl⟩⟩
  case round =>
    obtain ⟨rfl, ⟨rfl, rfl⟩ | ⟨rfl, rfl⟩ | ⟨rfl, rfl⟩⟩ := hrel
    · go_wp2_with (first | fail)
      go_roundw
      case rel => exact ⟨by simp, Or.inr (Or.inl ⟨rfl, rfl⟩)⟩
      case measure => simp [intOf]
    · go_wp2_with (first | fail)
      go_roundw
      case rel => exact ⟨by simp, Or.inr (Or.inr ⟨rfl, rfl⟩)⟩
      case measure => simp [intOf]
    · go_wp2_with (go_at_call 134; (with_reducible refine (HG.out _).mono ?_); rintro e w2 ⟨⟨v0, rfl, hrow0⟩, hB0⟩)
      have HB0 := Lib.hid hB0
      have HR0 := Lib.hid hrow0
      clear hB0 hrow0
      go_loopw [6, 27] (fun x6 x27 wr => Below w.heap.size w wr ∧ ((Hid (wr.ownsRow w.heap.size 9 1 x6 0 []) ∧ x27 = .int .i64 0) ∨ (Hid (wr.ownsRow w.heap.size 9 1 x6 xs.length (xs.map Value.string)) ∧ x27 = .int .i64 1) ∨ (Hid (wr.ownsRow w.heap.size 9 1 x6 n ((xs ++ ys).map Value.string)) ∧ x27 = .int .i64 2))) (fun _ x _ => 2 - (intOf x).toNat)
      case atStart => exact ⟨HB0.out, Or.inl ⟨HR0, rfl⟩⟩
      case round =>
        obtain ⟨hB, ⟨hr, rfl⟩ | ⟨hr, rfl⟩ | ⟨hr, rfl⟩⟩ := hrel
        · have q0 := (hB.cell (p := ⟨g, 0, none⟩) HL0.out).trans h0
          have hS := HX.out _ hB
          have HBr := Lib.hid hB
          clear hB
          go_wp2_with (at_builtin; refine wpList_append_strs rfl _ _ rfl w.heap.size _ 0 [] rfl hr.out _ xs rfl hS (by unfold maxLen; have := HN16.out; omega) (by have := HN16.out; omega) HBr.out.size ?_; intro v' w3 ho3 hg3 _; (have hB3 := Lib.hid (HBr.out.grown hg3 HBr.out.size (fun g e => (World.ownsRow.lt hr.out g e).1))))
          go_roundw
          case rel => exact ⟨hB3.out, Or.inr (Or.inl ⟨by unfold Hid; simpa using ho3, rfl⟩)⟩
          case measure => simp [intOf]
        · have q0 := (hB.cell (p := ⟨g, 1, none⟩) HL0.out).trans h1
          have hS := HY.out _ hB
          have HBr := Lib.hid hB
          clear hB
          go_wp2_with (at_builtin; refine wpList_append_strs rfl _ _ rfl w.heap.size _ xs.length (xs.map Value.string) rfl hr.out _ ys rfl hS (by unfold maxLen; have := HN16.out; omega) (by have := HN16.out; omega) HBr.out.size ?_; intro v' w3 ho3 hg3 _; (have hB3 := Lib.hid (HBr.out.grown hg3 HBr.out.size (fun g e => (World.ownsRow.lt hr.out g e).1))))
          go_roundw
          case rel => exact ⟨hB3.out, Or.inr (Or.inr ⟨by unfold Hid; rw [List.map_append, ← HN.out]; exact ho3, rfl⟩)⟩
          case measure => simp [intOf]
        · have HBr := Lib.hid hB
          clear hB
          go_wp2_with (first | fail)
          go_ret
          exact ⟨⟨_, rfl, strsAt_of_owns (by have := hr.out; rwa [← HN.out, ← List.length_append] at this)⟩, HBr.out⟩
set_option maxHeartbeats 1000000 in
theorem equal_any (a b : List Str) (va vb : Value) (w : World) (ha : StrsAt w va a) (hb : StrsAt w vb b) : Calls Tryz.prog 110 #[va, vb] w fun e w' => e = .returned (.bool (decide (a = b))) ∧ Below w.heap.size w w' := by
  obtain ⟨p, cap, rfl, h1, h2, hcc⟩ := ha.open
  obtain ⟨q, cbp, rfl, k1, k2, hdd⟩ := hb.open
  have HC := Lib.hid hcc
  have HD := Lib.hid hdd
  have hlen : a.length ≤ 9223372036854775807 := Nat.le_trans h1 h2
  clear ha hb hcc hdd
  by_cases hl : a.length = b.length
  · have hl' : ((a.length : Int) != (b.length : Int)) = false := by simp [hl]
    go_enter Tryz.func110, Tryz.ntmps110
    go_wp2_with (first | fail)
    all_goals first | (exfalso; omega) | skip
    go_loopw [13] (fun i wr => ∃ k : Nat, k ≤ a.length ∧ Hid (decide (a.drop k = b.drop k) = decide (a = b)) ∧ Below w.heap.size w wr ∧ i = .int .i64 k) (fun i _ => a.length - (intOf i).toNat)
    case atStart => exact ⟨0, by omega, rfl, Below.refl _ _, rfl⟩
    case round =>
      obtain ⟨k, hk, hff, hB, rfl⟩ := hrel
      by_cases hkl : k < a.length
      · obtain ⟨x, hx⟩ : ∃ x, a[k]? = some x := ⟨a[k], by simp [hkl]⟩
        obtain ⟨y, hy⟩ : ∃ y, b[k]? = some y := ⟨b[k]'(by omega), by simp [← hl, hkl]⟩
        obtain ⟨b1, o1, vs, rfl, hR, _, hcells⟩ := HC.out k x hx
        unfold StrCells at hR; subst hR
        obtain ⟨b2, o2, vs, rfl, hR, _, hcellt⟩ := HD.out k y hy
        unfold StrCells at hR; subst hR
        have c0 := (hcells.mono hB hcells.lt).1
        have d0 := (hcellt.mono hB hcellt.lt).1
        rw [Nat.mul_one] at c0 d0
        have hstep := texts_drop a b hl k x y hx hy
        rw [hff.out, ← strEq] at hstep
        have HX := Lib.hid hx
        have hkb : k < b.length := by omega
        clear hx hy hcells hcellt
        cases he : x.toList == y.toList with
        | true =>
          rw [he, Bool.true_and] at hstep
          have hst := Lib.hid hstep.symm
          clear hstep
          go_upto_region 6 with (first | fail)
          go_quiet (fail)
          go_wp2
          go_roundw
          case rel => exact ⟨k + 1, by omega, hst.out, ⟨hB.os, hB.tape, hB.output, hB.size, hB.block⟩, by simp⟩
          case measure => simp [intOf]; omega
        | false =>
          rw [he, Bool.false_and] at hstep
          have HS := Lib.hid hstep
          clear hstep
          go_upto_region 6 with (first | fail)
          go_quiet (fail)
          go_wp2
          go_ret
          exact ⟨by rw [HS.out]; rfl, ⟨hB.os, hB.tape, hB.output, hB.size, hB.block⟩⟩
      · obtain rfl : k = a.length := by omega
        have hyes : decide (a = b) = true := by rw [← hff.out, List.drop_eq_nil_of_le (Nat.le_refl _), List.drop_eq_nil_of_le (by omega)]; rfl
        have HS := Lib.hid hyes
        clear hyes
        go_wp2_with (first | fail)
        go_ret
        exact ⟨by rw [HS.out]; rfl, hB⟩
  · have hne : decide (a = b) = false := by simpa using fun h => hl (by rw [h])
    have hl' : ((a.length : Int) != (b.length : Int)) = true := by simp; omega
    rw [hne]
    go_enter Tryz.func110, Tryz.ntmps110
    go_wp2_with (first | fail)
    all_goals first | (exfalso; omega) | skip
    go_ret
    exact ⟨rfl, Below.refl _ _⟩
end Go.Proofs.YtbakcdgjibmceaaGreatDoor
namespace Go.Proofs.YtbakcdgjibmceaaGreatDoor
open Go.RowKit Go.Shelf Go.Lib
/-- the kinds' texts are texts of Go -/
def FrmShort (f : Frm) : Prop := (∀ k ∈ f.locals, k.size ≤ 4194304) ∧ ∀ k ∈ f.stack, k.size ≤ 4194304
def FrameAt (w : World) (lv sv : Value) (f : Frm) : Prop := StrsAt w lv f.locals ∧ StrsAt w sv f.stack
theorem FrameAt.mono {w w' : World} (hb : Below w.heap.size w w') {lv sv : Value} {f : Frm} (h : FrameAt w lv sv f) : FrameAt w' lv sv f := ⟨h.1.mono hb, h.2.mono hb⟩
theorem frameR_full {cs : List Class} {f : Frm} (g : 8 < f.locals.length ∨ 8 < f.stack.length) : frameR cs f = 4 := by unfold frameR; rw [if_pos g]
theorem frameR_kinds {cs : List Class} {f : Frm} (g : ¬ (8 < f.locals.length ∨ 8 < f.stack.length)) : frameR cs f = firstFault (kindR cs) (f.locals ++ f.stack) := by unfold frameR; rw [if_neg g]
set_option maxHeartbeats 1000000 in
set_option maxRecDepth 100000 in
theorem frameCheck_any (w0 w : World) (B : Nat) (l : List Class) (hm : WorldMap w0 w B l) (f : Frm) (lv sv : Value) (hf : FrameAt w lv sv f) (hS : FrmShort f) :
    Calls Tryz.prog 67 #[.map (some B), .agg #[lv, sv]] w fun e w' => e = .returned (errV (frameR (allC l) f)) ∧ Below w.heap.size w w' := by
  have HFm : Hid (∀ wx, Below w.heap.size w wx → FrameAt wx lv sv f) := fun wx hb => hf.mono hb
  obtain ⟨p1, c1, rfl, _⟩ := hf.1.open
  obtain ⟨p2, c2, rfl, _⟩ := hf.2.open
  have BX := Lib.hid (boxed_new w #[.slice p1 f.locals.length c1, .slice p2 f.stack.length c2] 64)
  by_cases hbig : 8 < f.locals.length ∨ 8 < f.stack.length
  · rw [frameR_full hbig, show errV 4 = .iface 35 (.int .i64 4) from rfl]
    clear hm hf hS
    by_cases h1 : 8 < f.locals.length
    · have z1 : decide ((8 : Int) < (f.locals.length : Int)) = true := by simp; omega
      clear hbig
      go_enter Tryz.func67, Tryz.ntmps67
      go_wp2_with (first | fail)
      go_ret
      exact ⟨rfl, BX.out.below⟩
    · have z1 : decide ((8 : Int) < (f.locals.length : Int)) = false := by simp; omega
      have z2 : decide ((8 : Int) < (f.stack.length : Int)) = true := by simp; omega
      clear hbig
      go_enter Tryz.func67, Tryz.ntmps67
      go_wp2_with (first | fail)
      go_ret
      exact ⟨rfl, BX.out.below⟩
  · have HR := Lib.hid (frameR_kinds (cs := allC l) hbig)
    have HK : Hid (∀ wx k, Below w.heap.size w wx → k ∈ f.locals ++ f.stack → _) := fun wx k hb hk => kind_any w0 wx B (allC l) (hm.step hb).map hm.right.nodup k (Nat.le_trans ((List.mem_append.1 hk).elim (hS.1 k) (hS.2 k)) (by decide))
    have HC : Hid (∀ wx g, Below w.heap.size w wx → wx.cell? ⟨g, 0, none⟩ = some (.slice p1 f.locals.length c1) → wx.cell? ⟨g, 1, none⟩ = some (.slice p2 f.stack.length c2) → _) := fun wx g hb h0 h1 =>
      concat_any f.locals f.stack _ _ g wx h0 h1 (HFm.out wx hb).1 (HFm.out wx hb).2 (by omega)
    have z1 : decide ((8 : Int) < (f.locals.length : Int)) = false := by simp; omega
    have z2 : decide ((8 : Int) < (f.stack.length : Int)) = false := by simp; omega
    have hln : (f.locals ++ f.stack).length ≤ 16 := by rw [List.length_append]; omega
    have HB1 := Lib.hid (BX.out.below.alloc BX.out.below.size (.cells #[.slice p1 f.locals.length c1, .slice p2 f.stack.length c2] 43))
    have hq := boxed2 (boxed_new (w.alloc (.cells #[.slice p1 f.locals.length c1, .slice p2 f.stack.length c2] 64)) #[.slice p1 f.locals.length c1, .slice p2 f.stack.length c2] 43)
    rw [show (w.alloc (.cells #[.slice p1 f.locals.length c1, .slice p2 f.stack.length c2] 64)).heap.size = w.heap.size + 1 by simp] at hq
    have HQ0 := Lib.hid hq.1
    have HQ1 := Lib.hid hq.2
    clear hm hf hS hbig hq
    generalize f.locals ++ f.stack = L at *
    generalize frameR (allC l) f = res at *
    go_enter Tryz.func67, Tryz.ntmps67
    go_wp2_with (go_at_call 99; (with_reducible refine (HC.out _ _ HB1.out HQ0.out HQ1.out).mono ?_); rintro e w2 ⟨⟨v, rfl, hv⟩, hB2⟩; obtain ⟨p, c, rfl, hc1, hc2, hcc⟩ := hv.open)
    have hlen : L.length ≤ 9223372036854775807 := by omega
    have HCc := Lib.hid hcc
    have HBw := Lib.hid (below_call HB1.out (Nat.le_refl _) hB2)
    clear hcc hB2 hv HC HB1 HQ0 HQ1
    go_loopw [26] (fun x wr => ∃ k : Nat, k ≤ L.length ∧ Hid (firstFault (kindR (allC l)) (L.drop k) = res) ∧ Below w2.heap.size w2 wr ∧ x = .int .i64 k) (fun x _ => L.length - (intOf x).toNat)
    case atStart => exact ⟨0, by omega, HR.out.symm, Below.refl _ _, rfl⟩
    case round =>
      obtain ⟨k, hk, hff, hB, rfl⟩ := hrel
      by_cases hkl : k < L.length
      · obtain ⟨x, hx⟩ : ∃ a, L[k]? = some a := ⟨L[k], by simp [hkl]⟩
        obtain ⟨b, o, vs, rfl, hR, _, hcells⟩ := HCc.out k x hx
        unfold StrCells at hR; subst hR
        have hBw := below_call HBw.out (Nat.le_refl _) hB
        have c0 := (hcells.mono hB hcells.lt).1
        rw [Nat.mul_one] at c0
        have HKx := Lib.hid (HK.out wr x hBw (List.mem_of_getElem? hx))
        have hstep := first_drop (kindR (allC l)) L k x hx
        rw [hff.out] at hstep
        have HBr := Lib.hid hB
        clear hx hcells hff hB
        rcases errV_cases (kindR (allC l) x) with ⟨hv0, hz⟩ | ⟨hv0, hz⟩
        · rw [hv0] at HKx
          rw [if_pos hz] at hstep
          have hst := Lib.hid hstep.symm
          clear hstep hv0 hz hBw
          go_wp2_with (go_at_call 40; (with_reducible refine HKx.out.mono ?_); rintro e w6 ⟨rfl, hB6⟩)
          go_roundw
          case rel => exact ⟨k + 1, by omega, hst.out, below_call HBr.out (Nat.le_refl _) hB6, by simp⟩
          case measure => simp [intOf]; omega
        · rw [hv0] at HKx
          rw [if_neg hz] at hstep
          have HRs := Lib.hid hstep
          have HV := Lib.hid hv0
          have HBk := Lib.hid hBw
          clear hstep hv0 hBw
          generalize kindR (allC l) x = f at *
          go_wp2_with (go_at_call 40; (with_reducible refine HKx.out.mono ?_); rintro e w6 ⟨rfl, hB6⟩)
          go_ret
          exact ⟨by rw [HRs.out, HV.out]; rfl, below_call HBk.out (Nat.le_refl _) hB6⟩
      · obtain rfl : k = L.length := by omega
        have hz : res = 0 := by rw [← hff.out, List.drop_eq_nil_of_le (Nat.le_refl _)]; rfl
        have HZ := Lib.hid hz
        have HBk := Lib.hid (below_call HBw.out (Nat.le_refl _) hB)
        clear hz hff hB
        go_wp2_with (first | fail)
        go_ret
        exact ⟨by rw [HZ.out]; rfl, HBk.out⟩
theorem frameFault_no {l : List Class} {f : Frm} (g : readFault l ≠ 0) : frameFault l f = readFault l := by unfold frameFault; rw [if_pos g]
theorem frameFault_yes {l : List Class} {f : Frm} (g : readFault l = 0) : frameFault l f = frameR (allC l) f := by unfold frameFault; rw [if_neg (by rw [g]; decide)]
set_option maxRecDepth 100000 in
theorem frameCheckL_any (l : List Class) (lv : Value) (f : Frm) (fl fs : Value) (w : World) (hl : Laid w) (ho : ∀ c ∈ l, ClassOk c) (hlv : ClassesAt w lv l) (hf : FrameAt w fl fs f) (hS : FrmShort f) :
    Calls Tryz.prog 33 #[lv, .agg #[fl, fs]] w fun e w' => e = .returned (errV (frameFault l f)) ∧ Below w.heap.size w w' := by
  have HRd : Hid (∀ wx, Below w.heap.size w wx → _) := fun wx hb => readW_any l lv wx (hl.mono hb hl.1) ho (hlv.mono hb)
  have HCk : Hid (∀ w0 wx B, Below w.heap.size w wx → WorldMap w0 wx B l → _) := fun w0 wx B hb hm => frameCheck_any w0 wx B l hm f fl fs (hf.mono hb) hS
  obtain ⟨pl, cap, rfl, _⟩ := hlv.open
  have BX := Lib.hid (boxed_new w #[fl, fs] 64)
  clear hl ho hlv hf hS
  unfold ReadW at HRd
  by_cases hz : readFault l = 0
  · have HF := Lib.hid (frameFault_yes (f := f) hz)
    have HZ := Lib.hid hz
    clear hz
    go_enter Tryz.func33, Tryz.ntmps33
    go_wp2_with (first
      | (go_at_call 66; (with_reducible refine (HRd.out _ BX.out.below).mono ?_); rintro e w2 ⟨hB2, ⟨_, w0, B, rfl, hm⟩ | ⟨hz, _⟩⟩; rotate_left; (exact absurd HZ.out hz); (have BX2 := BX.out.step hB2); (have q0 := (boxed2 BX2).1); (have q1 := (boxed2 BX2).2))
      | (go_at_call 67; (with_reducible refine (HCk.out _ _ _ BX2.below hm).mono ?_); rintro e w3 ⟨rfl, hB3⟩))
    go_ret
    exact ⟨by rw [HF.out]; rfl, below_call BX2.below (Nat.le_refl _) hB3⟩
  · have HF := Lib.hid (frameFault_no (f := f) hz)
    have HZ := Lib.hid hz
    clear hz
    rcases errV_cases (readFault l) with ⟨_, hz⟩ | ⟨hv, _⟩
    · exact absurd hz HZ.out
    rw [HF.out, hv]
    clear hv HF
    go_enter Tryz.func33, Tryz.ntmps33
    go_wp2_with (go_at_call 66; (with_reducible refine (HRd.out _ BX.out.below).mono ?_); rintro e w2 ⟨hB2, ⟨hz, _⟩ | ⟨_, rfl⟩⟩; (exact absurd hz HZ.out))
    go_ret
    exact ⟨rfl, (BX.out.step hB2).below⟩
theorem frm_eq (a b : Frm) : decide (a = b) = (decide (a.locals = b.locals) && decide (a.stack = b.stack)) := by
  cases a; cases b; rw [Bool.eq_iff_iff]; simp
set_option maxRecDepth 100000 in
theorem frameSame_any (a b : Frm) (a1 a2 b1 b2 : Value) (w : World) (ha : FrameAt w a1 a2 a) (hb : FrameAt w b1 b2 b) :
    Calls Tryz.prog 71 #[.agg #[a1, a2], .agg #[b1, b2]] w fun e w' => e = .returned (.bool (decide (a = b))) ∧ Below w.heap.size w w' := by
  have HE1 : Hid (∀ wx, Below w.heap.size w wx → _) := fun wx h => equal_any a.locals b.locals a1 b1 wx (ha.1.mono h) (hb.1.mono h)
  have HE2 : Hid (∀ wx, Below w.heap.size w wx → _) := fun wx h => equal_any a.stack b.stack a2 b2 wx (ha.2.mono h) (hb.2.mono h)
  rw [frm_eq]
  clear ha hb
  have HB := Lib.hid (((Below.refl w.heap.size w).alloc (Nat.le_refl _) (.cells #[a1, a2] 64)).alloc (by simp) (.cells #[b1, b2] 64))
  obtain ⟨wb, hwb⟩ : ∃ wb, wb = (w.alloc (.cells #[a1, a2] 64)).alloc (.cells #[b1, b2] 64) := ⟨_, rfl⟩
  have HA1 : Hid (Blk wb w.heap.size 64 [a1, a2]) := by
    rw [hwb]
    exact (Blk.new w 64 [a1, a2]).step ((Below.refl _ _).alloc (Nat.le_refl _) _)
  have HA2 : Hid (Blk wb (w.heap.size + 1) 64 [b1, b2]) := by
    rw [hwb]
    have := Blk.new (w.alloc (.cells #[a1, a2] 64)) 64 [b1, b2]
    unfold Hid
    simpa using this
  rw [← hwb] at HB
  have HW := Lib.hid hwb.symm
  clear hwb
  generalize decide (a.locals = b.locals) = d at *
  cases d with
  | true =>
    rw [Bool.true_and]
    generalize decide (a.stack = b.stack) = r at *
    go_enter Tryz.func71, Tryz.ntmps71
    go_wp2_with (first
      | (go_at_call 110; rw [HW.out]; (with_reducible refine (HE1.out _ HB.out).mono ?_); rintro e w3 ⟨rfl, hB3⟩; (have hB3' := below_call HB.out (Nat.le_refl _) hB3); obtain ⟨q0, q1⟩ := (HA1.out.step hB3).cells2; obtain ⟨q2, q3⟩ := (HA2.out.step hB3).cells2)
      | (go_at_call 110; (with_reducible refine (HE2.out _ hB3').mono ?_); rintro e w4 ⟨rfl, hB4⟩))
    go_ret
    exact ⟨rfl, below_call hB3' (Nat.le_refl _) hB4⟩
  | false =>
    rw [Bool.false_and]
    go_enter Tryz.func71, Tryz.ntmps71
    go_wp2_with (first
      | (go_at_call 110; rw [HW.out]; (with_reducible refine (HE1.out _ HB.out).mono ?_); rintro e w3 ⟨rfl, hB3⟩; (have hB3' := below_call HB.out (Nat.le_refl _) hB3)))
    go_ret
    exact ⟨rfl, hB3'⟩
theorem joinL_snoc {cs : List Class} {a b : List Str} {k : Nat} {x y : Str} (h1 : a[k]? = some x) (h2 : b[k]? = some y) : joinL cs (a.take (k + 1)) (b.take (k + 1)) = joinL cs (a.take k) (b.take k) ++ [joinS cs x y] := by
  obtain ⟨k1, rfl⟩ := List.getElem?_eq_some_iff.1 h1
  obtain ⟨k2, rfl⟩ := List.getElem?_eq_some_iff.1 h2
  unfold joinL
  rw [List.take_succ_eq_append_getElem k1, List.take_succ_eq_append_getElem k2, List.zipWith_append (by simp; omega)]
  rfl
theorem joinL_full {cs : List Class} {a b : List Str} (h : a.length = b.length) : joinL cs (a.take a.length) (b.take a.length) = joinL cs a b := by
  rw [List.take_length, h, List.take_length]
theorem joinL_length {cs : List Class} {a b : List Str} (h : a.length = b.length) : (joinL cs a b).length = a.length := by unfold joinL; simp [h]
theorem cell_new1 (w : World) (a : Value) (t : TypeId) : ∀ j u, [a][j]? = some u → (w.alloc (.cells #[a] t)).cell? ((⟨w.heap.size, 0, none⟩ : Addr).add j) = some u := by
  intro j u hj
  match j, hj with
  | 0, hj => simp at hj; subst hj; simp [Addr.add]
theorem one_str (a : Str) : ∀ u ∈ [Value.string a], u.oneCell' = true := by
  intro u hu
  simp at hu; subst hu; rfl
/-- what Both leaves -/
def BothPost (w : World) (cs : List Class) (a b : Frm) (e : Ending) (w' : World) : Prop :=
  Below w.heap.size w w' ∧ ((shapedB a b = true ∧ ∃ v1 v2, e = .returned (.tuple #[.agg #[v1, v2], .bool true]) ∧ FrameAt w' v1 v2 (bothF cs a b)) ∨ (shapedB a b = false ∧ e = .returned (.tuple #[.agg #[.slice none 0 0, .slice none 0 0], .bool false])))
set_option maxHeartbeats 4000000 in
set_option maxRecDepth 100000 in
theorem both_any (w0 w : World) (B : Nat) (l : List Class) (hm : WorldMap w0 w B l) (a b : Frm) (a1 a2 b1 b2 : Value) (ha : FrameAt w a1 a2 a) (hb : FrameAt w b1 b2 b) (hSa : FrmShort a) (hSb : FrmShort b) (hza : frameR (allC l) a = 0) (hzb : frameR (allC l) b = 0) :
    Calls Tryz.prog 74 #[.map (some B), .agg #[a1, a2], .agg #[b1, b2]] w (BothPost w (allC l) a b) := by
  obtain ⟨p1, c1, rfl, _, _, ha1⟩ := ha.1.open
  obtain ⟨p2, c2, rfl, _, _, ha2⟩ := ha.2.open
  obtain ⟨p3, c3, rfl, _, _, hb1⟩ := hb.1.open
  obtain ⟨p4, c4, rfl, _, _, hb2⟩ := hb.2.open
  obtain ⟨hla, hsa, hka1, hka2⟩ := frame_zero hza
  obtain ⟨hlb, hsb, hkb1, hkb2⟩ := frame_zero hzb
  have HO : Hid (∀ wx x y, Below w.heap.size w wx → (x ∈ a.locals ∧ y ∈ b.locals) ∨ (x ∈ a.stack ∧ y ∈ b.stack) → Calls Tryz.prog 112 #[.map (some B), .string x, .string y] wx fun e w' => e = .returned (.string (joinS (allC l) x y)) ∧ Below wx.heap.size wx w') := fun wx x y hB h => by
    have hx : kindR (allC l) x = 0 ∧ kindR (allC l) y = 0 ∧ x.size ≤ 4194304 ∧ y.size ≤ 4194304 := by
      rcases h with ⟨h1, h2⟩ | ⟨h1, h2⟩
      · exact ⟨hka1 x h1, hkb1 y h2, hSa.1 x h1, hSb.1 y h2⟩
      · exact ⟨hka2 x h1, hkb2 y h2, hSa.2 x h1, hSb.2 y h2⟩
    obtain ⟨X, hX⟩ := kind_of hx.1
    obtain ⟨Y, hY⟩ := kind_of hx.2.1
    refine (of_any w0 wx B l (hm.step hB) x y X Y hX hY hx.2.2.1 hx.2.2.2).mono ?_
    rintro e w' ⟨⟨z, rfl, hz, _⟩, hB'⟩
    exact ⟨by rw [joinS_text hX.1 hY.1 hz], hB'⟩
  have HA1 := Lib.hid ha1
  have HA2 := Lib.hid ha2
  have HB1 := Lib.hid hb1
  have HB2 := Lib.hid hb2
  obtain ⟨i0, hi, hz0, hz1, hz2⟩ := info_parts info_string
  obtain ⟨n, hn1⟩ : ∃ n, a.locals.length = n := ⟨_, rfl⟩
  obtain ⟨n', hn2⟩ : ∃ n, b.locals.length = n := ⟨_, rfl⟩
  obtain ⟨m, hm1⟩ : ∃ n, a.stack.length = n := ⟨_, rfl⟩
  obtain ⟨m', hm2⟩ : ∃ n, b.stack.length = n := ⟨_, rfl⟩
  rw [hn1, hn2, hm1, hm2]
  have HBn := Lib.hid ((((Below.refl w.heap.size w).alloc (Nat.le_refl _) (.cells #[.slice p1 n c1, .slice p2 m c2] 64)).alloc (by simp) (.cells #[.slice p3 n' c3, .slice p4 m' c4] 64)).alloc (by simp; omega) (.cells #[.slice none 0 0, .slice none 0 0] 64))
  rw [hn1] at hla
  rw [hm1] at hsa
  unfold BothPost
  clear ha1 ha2 hb1 hb2 hka1 hka2 hkb1 hkb2 hza hzb hSa hSb hm ha hb hlb hsb
  have hsh : shapedB a b = (decide (n = n') && decide (m = m')) := by unfold shapedB; rw [hn1, hn2, hm1, hm2]
  have HN1 := Lib.hid hn1
  have HN2 := Lib.hid hn2
  have HM1 := Lib.hid hm1
  have HM2 := Lib.hid hm2
  clear hn1 hn2 hm1 hm2
  generalize allC l = cs at *
  by_cases h1 : n = n'
  · by_cases h2 : m = m'
    · subst h1 h2
      have z1 : ((n : Int) != (n : Int)) = false := by simp
      have z2 : ((m : Int) != (m : Int)) = false := by simp
      rw [decide_eq_true rfl, decide_eq_true rfl, Bool.and_true] at hsh
      have HS := Lib.hid hsh
      clear hsh
      obtain ⟨w1, hw1⟩ : ∃ w1, w1 = (((w.alloc (.cells #[.slice p1 n c1, .slice p2 m c2] 64)).alloc (.cells #[.slice p3 n c3, .slice p4 m c4] 64)).alloc (.cells #[.slice none 0 0, .slice none 0 0] 64)).alloc (.cells #[.slice none 0 0, .slice none 0 0] 64) := ⟨_, rfl⟩
      have hB1' : Below w.heap.size w w1 := by rw [hw1]; exact HBn.out.alloc (by simp; omega) _
      have hsz : w1.heap.size = w.heap.size + 4 := by rw [hw1]; simp
      have hk0 : Blk w1 w.heap.size 64 [.slice p1 n c1, .slice p2 m c2] := by
        rw [hw1]
        exact (Blk.new w 64 _).step ((((Below.refl _ _).alloc (Nat.le_refl _) _).alloc (by simp) _).alloc (by simp) _)
      have hk1 : Blk w1 (w.heap.size + 1) 64 [.slice p3 n c3, .slice p4 m c4] := by
        rw [hw1]
        have := (Blk.new (w.alloc (.cells #[.slice p1 n c1, .slice p2 m c2] 64)) 64 [.slice p3 n c3, .slice p4 m c4]).step (((Below.refl _ _).alloc (Nat.le_refl _) (.cells #[.slice none 0 0, .slice none 0 0] 64)).alloc (by simp) (.cells #[.slice none 0 0, .slice none 0 0] 64))
        simpa using this
      have hk2 : Blk w1 (w.heap.size + 1 + 1) 64 [.slice none 0 0, .slice none 0 0] := by
        rw [hw1]
        have := (Blk.new ((w.alloc (.cells #[.slice p1 n c1, .slice p2 m c2] 64)).alloc (.cells #[.slice p3 n c3, .slice p4 m c4] 64)) 64 [.slice none 0 0, .slice none 0 0]).step ((Below.refl _ _).alloc (Nat.le_refl _) (.cells #[.slice none 0 0, .slice none 0 0] 64))
        simpa using this
      have hk3 : Blk w1 (w.heap.size + 1 + 1 + 1) 64 [.slice none 0 0, .slice none 0 0] := by
        rw [hw1]
        have := Blk.new (((w.alloc (.cells #[.slice p1 n c1, .slice p2 m c2] 64)).alloc (.cells #[.slice p3 n c3, .slice p4 m c4] 64)).alloc (.cells #[.slice none 0 0, .slice none 0 0] 64)) 64 [.slice none 0 0, .slice none 0 0]
        simpa using this
      have HW := Lib.hid hw1.symm
      go_enter Tryz.func74, Tryz.ntmps74
      go_wp2_with (first | fail)
      rw [HW.out]
      clear HW hw1 HBn
      have HK0 := Lib.hid hk0
      have HK1 := Lib.hid hk1
      have HK2 := Lib.hid hk2
      have HK3 := Lib.hid hk3
      have HBw := Lib.hid hB1'
      have HSz : Hid (w.heap.size + 4 ≤ w1.heap.size) := by unfold Hid; omega
      clear hk0 hk1 hk2 hk3 hB1' hsz
      go_loopw [33] (fun x wr => ∃ (k : Nat) (v : Value), k ≤ n ∧ Hid (Blk wr w.heap.size 64 [.slice p1 n c1, .slice p2 m c2]) ∧ Hid (Blk wr (w.heap.size + 1) 64 [.slice p3 n c3, .slice p4 m c4]) ∧ Hid (Blk wr (w.heap.size + 1 + 1) 64 [.slice none 0 0, .slice none 0 0]) ∧ Hid (Blk wr (w.heap.size + 1 + 1 + 1) 64 [v, .slice none 0 0]) ∧ Hid (wr.ownsRow (w.heap.size + 4) 9 1 v k ((joinL cs (a.locals.take k) (b.locals.take k)).map Value.string)) ∧ Below w.heap.size w wr ∧ Hid (w.heap.size + 4 ≤ wr.heap.size) ∧ x = .int .i64 k) (fun x _ => n - (intOf x).toNat)
      case atStart => exact ⟨0, _, by omega, HK0.out, HK1.out, HK2.out, HK3.out, World.ownsRow_nil _ _ _ _, HBw.out, HSz.out, rfl⟩
      case round =>
        clear HK0 HK1 HK2 HK3 HBw HSz
        obtain ⟨k, v, hk, hk0, hk1, hk2, hk3, hown, hB, hws, rfl⟩ := hrel
        by_cases hkl : k < n
        · obtain ⟨va, vc, rfl⟩ := ownsRow_shape hown.out
          obtain ⟨x, hx⟩ : ∃ x, a.locals[k]? = some x := ⟨a.locals[k]'(by rw [HN1.out]; exact hkl), by simp⟩
          obtain ⟨y, hy⟩ : ∃ y, b.locals[k]? = some y := ⟨b.locals[k]'(by rw [HN2.out]; exact hkl), by simp⟩
          obtain ⟨ba, oa, vs, rfl, hR, _, hca⟩ := HA1.out k x hx
          unfold StrCells at hR; subst hR
          obtain ⟨bb, ob, vs, rfl, hR, _, hcb⟩ := HB1.out k y hy
          unfold StrCells at hR; subst hR
          have c0 := (hca.mono hB hca.lt).1
          have d0 := (hcb.mono hB hcb.lt).1
          rw [Nat.mul_one] at c0 d0
          have e1 := hk1.out.cells2
          have q1 : wr.cell? ⟨w.heap.size + 1, 0, none⟩ = some (.slice (some ⟨bb, ob, none⟩) n c3) := e1.1
          have e3 := hk3.out.cells2
          have q3 : wr.cell? ⟨w.heap.size + 1 + 1 + 1, 0, none⟩ = some (.slice va k vc) := e3.1
          have hst := joinL_snoc (cs := cs) hx hy
          have HOx := Lib.hid (fun wx hb => HO.out wx x y hb (Or.inl ⟨List.mem_of_getElem? hx, List.mem_of_getElem? hy⟩))
          generalize joinS cs x y = z at *
          have HSt := Lib.hid hst
          have HBr := Lib.hid hB
          have b3 := Lib.hid q3
          clear hst hx hy hca hcb hB e1 e3
          go_upto_region 7 with (first | fail)
          have hb63 : k + 1 ≤ maxLen := by unfold maxLen; omega
          have hb16 : (k + 1) * 16 ≤ 140737488355328 := by omega
          have hno : ∀ b, b < w.heap.size + 4 → (Value.slice va k vc).ownBlock ≠ some b := fun b hb e => by have := (hown.out.lt _ e).1; omega
          have hi1 : (k : Int) < (n : Int) := by omega
          have hi0 : (0 : Int) ≤ (k : Int) := by omega
          go_region_law (first
            | (refine step_append_lies _ (by rfl) _ _ 43 (by rfl) (w.heap.size + 4) 9 i0 (.string .empty) 1 16 Tryz.underlying43 hi hz0 hz1 hz2 rfl (by decide) _ k _ (by rfl) hown7 ⟨w6.heap.size, 0, none⟩ 1 1 [.string z] (by rfl) rfl (cell_new1 w6 _ 9) (one_str _) (by decide) hb63 hb16 hbase7 (w6.heap.size + 1) (by simp) ?_; intro g cap w8 hown8 hgrow hat hlt; (have hk8 := hk37.grown hgrow (hno _ (by omega))); (have e8 := hk8.cells2); (have f8 := hk8.frozen 0))
            | (go_simp; go_at_call 112; refine (HOx.out _ (HBr.out.drew)).mono ?_; rintro e w6 ⟨rfl, hB6'⟩; (have hB6 := below_call ((Below.refl wr.heap.size wr).drew) (Nat.le_refl _) hB6'); (have d3 := (hB6.cell (p := ⟨w.heap.size + 1 + 1 + 1, 0, none⟩) (hcells_lt b3.out)).trans b3.out); (have d4 := Lib.cell?_alloc_some (.cells #[.string z] 9) d3); (have hBy := hB6.alloc hB6.size (.cells #[.string z] 9)); (have hown7 := ownsRow_belowk hown.out hBy); (have hk37 := hk3.out.step hBy); (have hbase7 := Nat.le_trans hws.out hBy.size)))
          all_goals
            have hk07 := Lib.hid ((hk0.out.step hBy).grown hgrow (hno _ (by omega)))
            have hk17 := Lib.hid ((hk1.out.step hBy).grown hgrow (hno _ (by omega)))
            have hk27 := Lib.hid ((hk2.out.step hBy).grown hgrow (hno _ (by omega)))
            have hK8 := Lib.hid hk8
            have hO8 := Lib.hid hown8
            have hW8 : Hid (w.heap.size + 4 ≤ w8.heap.size) := Nat.le_trans hbase7 hgrow.size
            have hB8 := Lib.hid ((below_call HBr.out (Nat.le_refl _) hBy).grown hgrow (below_call HBr.out (Nat.le_refl _) hBy).size (fun g e => by have := (hown.out.lt g e).1; omega))
            obtain ⟨e8a, e8b⟩ := e8
            clear d3 d4 hBy hown7 hk37 hbase7 hgrow hat hlt hk8 hown8 hB6 hB6' b3 hno hk0 hk1 hk2 hk3 hown hws HOx c0 d0 q1 q3
            go_wp2_with (first | fail)
            go_roundw
            case rel => exact ⟨k + 1, Value.slice (some ⟨g, 0, none⟩) (k + 1) cap, by omega, hk07.out.other' (by show w.heap.size + 1 + 1 + 1 ≠ _; omega) _, hk17.out.other' (by show w.heap.size + 1 + 1 + 1 ≠ _; omega) _, hk27.out.other' (by show w.heap.size + 1 + 1 + 1 ≠ _; omega) _, hK8.out.put 0 _, by unfold Hid; rw [HSt.out, List.map_append]; exact owns_other' hO8.out (by omega) _ _, hB8.out.setCell (by show w.heap.size ≤ w.heap.size + 1 + 1 + 1; omega) _, copy_size hW8.out _ _, by simp⟩
            case measure => simp [intOf]; omega
        · obtain ⟨g1, k1, rfl⟩ := ownsRow_shape hown.out
          obtain rfl : n = k := by omega
          have hj := joinL_full (cs := cs) (a := a.locals) (b := b.locals) (by rw [HN1.out, HN2.out])
          rw [HN1.out] at hj
          have ho1 := hown.out
          rw [hj] at ho1
          obtain ⟨q0, q1⟩ := hk0.out.cells2
          have HK0 := Lib.hid hk0.out
          have HK1 := Lib.hid hk1.out
          have HK2 := Lib.hid hk2.out
          have HK3 := Lib.hid hk3.out
          have HO1 := Lib.hid ho1
          have HBw := Lib.hid hB
          have HSz := Lib.hid hws.out
          clear hk0 hk1 hk2 hk3 hown hB hws ho1 hj
          go_wp2_with (first | fail)
          go_loopw [55] (fun x wr => ∃ (k : Nat) (v : Value), k ≤ m ∧ Hid (Blk wr w.heap.size 64 [.slice p1 n c1, .slice p2 m c2]) ∧ Hid (Blk wr (w.heap.size + 1) 64 [.slice p3 n c3, .slice p4 m c4]) ∧ Hid (Blk wr (w.heap.size + 1 + 1) 64 [.slice none 0 0, .slice none 0 0]) ∧ Hid (Blk wr (w.heap.size + 1 + 1 + 1) 64 [.slice g1 n k1, v]) ∧ Hid (wr.ownsRow (w.heap.size + 4) 9 1 v k ((joinL cs (a.stack.take k) (b.stack.take k)).map Value.string)) ∧ Hid (wr.ownsRow (w.heap.size + 4) 9 1 (.slice g1 n k1) n ((joinL cs a.locals b.locals).map Value.string)) ∧ Hid (∀ g, (Value.slice g1 n k1).ownBlock = some g → v.ownBlock ≠ some g) ∧ Below w.heap.size w wr ∧ Hid (w.heap.size + 4 ≤ wr.heap.size) ∧ x = .int .i64 k) (fun x _ => m - (intOf x).toNat)
          case atStart => exact ⟨0, _, by omega, HK0.out, HK1.out, HK2.out, HK3.out, World.ownsRow_nil _ _ _ _, HO1.out, (by intro g _ h; cases h), HBw.out, HSz.out, rfl⟩
          case round =>
            clear HK0 HK1 HK2 HK3 HBw HSz HO1
            obtain ⟨k, v, hk, hk0, hk1, hk2, hk3, hown, hown1, hap, hB, hws, rfl⟩ := hrel
            by_cases hkl : k < m
            · obtain ⟨va, vc, rfl⟩ := ownsRow_shape hown.out
              obtain ⟨x, hx⟩ : ∃ x, a.stack[k]? = some x := ⟨a.stack[k]'(by rw [HM1.out]; exact hkl), by simp⟩
              obtain ⟨y, hy⟩ : ∃ y, b.stack[k]? = some y := ⟨b.stack[k]'(by rw [HM2.out]; exact hkl), by simp⟩
              obtain ⟨ba, oa, vs, rfl, hR, _, hca⟩ := HA2.out k x hx
              unfold StrCells at hR; subst hR
              obtain ⟨bb, ob, vs, rfl, hR, _, hcb⟩ := HB2.out k y hy
              unfold StrCells at hR; subst hR
              have c0 := (hca.mono hB hca.lt).1
              have d0 := (hcb.mono hB hcb.lt).1
              rw [Nat.mul_one] at c0 d0
              have e1 := hk1.out.cells2
              have q1 : wr.cell? ⟨w.heap.size + 1, 1, none⟩ = some (.slice (some ⟨bb, ob, none⟩) m c4) := e1.2
              have e3 := hk3.out.cells2
              have q3 : wr.cell? ⟨w.heap.size + 1 + 1 + 1, 1, none⟩ = some (.slice va k vc) := e3.2
              have hst := joinL_snoc (cs := cs) hx hy
              have HOx := Lib.hid (fun wx hb => HO.out wx x y hb (Or.inr ⟨List.mem_of_getElem? hx, List.mem_of_getElem? hy⟩))
              generalize joinS cs x y = z at *
              have HSt := Lib.hid hst
              have HBr := Lib.hid hB
              have b3 := Lib.hid q3
              clear hst hx hy hca hcb hB e1 e3
              go_upto_region 12 with (first | fail)
              have hb63 : k + 1 ≤ maxLen := by unfold maxLen; omega
              have hb16 : (k + 1) * 16 ≤ 140737488355328 := by omega
              have hno : ∀ b, b < w.heap.size + 4 → (Value.slice va k vc).ownBlock ≠ some b := fun b hb e => by have := (hown.out.lt _ e).1; omega
              have hi1 : (k : Int) < (m : Int) := by omega
              have hi0 : (0 : Int) ≤ (k : Int) := by omega
              go_region_law (first
                | (refine step_append_lies _ (by rfl) _ _ 43 (by rfl) (w.heap.size + 4) 9 i0 (.string .empty) 1 16 Tryz.underlying43 hi hz0 hz1 hz2 rfl (by decide) _ k _ (by rfl) hown7 ⟨w6.heap.size, 0, none⟩ 1 1 [.string z] (by rfl) rfl (cell_new1 w6 _ 9) (one_str _) (by decide) hb63 hb16 hbase7 (w6.heap.size + 1) (by simp) ?_; intro g cap w8 hown8 hgrow hat hlt; (have hk8 := hk37.grown hgrow (hno _ (by omega))); (have e8 := hk8.cells2); (have f8 := hk8.frozen 1))
                | (go_simp; go_at_call 112; refine (HOx.out _ (HBr.out.drew)).mono ?_; rintro e w6 ⟨rfl, hB6'⟩; (have hB6 := below_call ((Below.refl wr.heap.size wr).drew) (Nat.le_refl _) hB6'); (have d3 := (hB6.cell (p := ⟨w.heap.size + 1 + 1 + 1, 1, none⟩) (hcells_lt b3.out)).trans b3.out); (have d4 := Lib.cell?_alloc_some (.cells #[.string z] 9) d3); (have hBy := hB6.alloc hB6.size (.cells #[.string z] 9)); (have hown7 := ownsRow_belowk hown.out hBy); (have hk37 := hk3.out.step hBy); (have hbase7 := Nat.le_trans hws.out hBy.size)))
              all_goals
                have hk07 := Lib.hid ((hk0.out.step hBy).grown hgrow (hno _ (by omega)))
                have hk17 := Lib.hid ((hk1.out.step hBy).grown hgrow (hno _ (by omega)))
                have hk27 := Lib.hid ((hk2.out.step hBy).grown hgrow (hno _ (by omega)))
                have hK8 := Lib.hid hk8
                have hO8 := Lib.hid hown8
                have hW8 : Hid (w.heap.size + 4 ≤ w8.heap.size) := Nat.le_trans hbase7 hgrow.size
                have hB8 := Lib.hid ((below_call HBr.out (Nat.le_refl _) hBy).grown hgrow (below_call HBr.out (Nat.le_refl _) hBy).size (fun g e => by have := (hown.out.lt g e).1; omega))
                have hG8 : ∀ g0, (Value.slice g1 n k1).ownBlock = some g0 → g0 ≠ g := fun g0 e0 he => by
                  subst he
                  rcases hat with h | h
                  · exact hap.out _ e0 h
                  · have h1 := (hown1.out.lt _ e0).2
                    have h2 := hBy.size
                    have h3 := hB6.size
                    omega
                have hP8 := Lib.hid ((ownsRow_belowk hown1.out hBy).kept hgrow (by
                  cases h : (Value.slice g1 n k1).ownBlock with
                  | none => exact Or.inl rfl
                  | some g0 => exact Or.inr (fun e => hap.out g0 h e.symm)))
                have hA8 : Hid (∀ g0, (Value.slice g1 n k1).ownBlock = some g0 → (Value.slice (some ⟨g, 0, none⟩) (k + 1) cap).ownBlock ≠ some g0) := fun g0 e0 he => hG8 g0 e0 (by injection he with he; exact he.symm)
                obtain ⟨e8a, e8b⟩ := e8
                clear d3 d4 hBy hown7 hk37 hbase7 hgrow hat hlt hk8 hown8 hB6 hB6' b3 hno hk0 hk1 hk2 hk3 hown hws HOx c0 d0 q1 q3 hG8 hown1 hap
                go_wp2_with (first | fail)
                go_roundw
                case rel => exact ⟨k + 1, Value.slice (some ⟨g, 0, none⟩) (k + 1) cap, by omega, hk07.out.other' (by show w.heap.size + 1 + 1 + 1 ≠ _; omega) _, hk17.out.other' (by show w.heap.size + 1 + 1 + 1 ≠ _; omega) _, hk27.out.other' (by show w.heap.size + 1 + 1 + 1 ≠ _; omega) _, hK8.out.put 1 _, by unfold Hid; rw [HSt.out, List.map_append]; exact owns_other' hO8.out (by omega) _ _, owns_other' hP8.out (by omega) _ _, hA8.out, hB8.out.setCell (by show w.heap.size ≤ w.heap.size + 1 + 1 + 1; omega) _, copy_size hW8.out _ _, by simp⟩
                case measure => simp [intOf]; omega
            · obtain ⟨va, vc, rfl⟩ := ownsRow_shape hown.out
              obtain rfl : m = k := by omega
              have hj := joinL_full (cs := cs) (a := a.stack) (b := b.stack) (by rw [HM1.out, HM2.out])
              rw [HM1.out] at hj
              have ho2 := hown.out
              rw [hj] at ho2
              obtain ⟨q0, q1⟩ := hk3.out.cells2
              obtain ⟨q2, q3⟩ := hk2.out.cells2
              have f2 := hk2.out.frozen 0
              have f3 := hk2.out.frozen 1
              have HR1 := Lib.hid (owns_other' (owns_other' hown1.out (show w.heap.size + 1 + 1 < w.heap.size + 4 by omega) 0 (.slice g1 n k1)) (show w.heap.size + 1 + 1 < w.heap.size + 4 by omega) 1 (.slice va m vc))
              have HR2 := Lib.hid (owns_other' (owns_other' ho2 (show w.heap.size + 1 + 1 < w.heap.size + 4 by omega) 0 (.slice g1 n k1)) (show w.heap.size + 1 + 1 < w.heap.size + 4 by omega) 1 (.slice va m vc))
              have HBw := Lib.hid (below_set2 (b := w.heap.size + 1 + 1) hB (by omega) (.slice g1 n k1) (.slice va m vc))
              clear hk0 hk1 hk2 hk3 hown hown1 hap hB hws ho2 hj
              go_wp2_with (first | fail)
              refine bodyPost_ret (v := .tuple #[.agg #[.slice g1 n k1, .slice va m vc], .bool true]) (by simp [results, Tryz.results74, go_sem, *]) rfl ⟨HBw.out, Or.inl ⟨HS.out, _, _, rfl, ?_⟩⟩
              exact ⟨strsAt_of_owns (l := joinL cs a.locals b.locals) (by rw [joinL_length (by rw [HN1.out, HN2.out]), HN1.out]; exact HR1.out), strsAt_of_owns (l := joinL cs a.stack b.stack) (by rw [joinL_length (by rw [HM1.out, HM2.out]), HM1.out]; exact HR2.out)⟩
    · have z1 : ((n : Int) != (n' : Int)) = false := by simp [h1]
      have z2 : ((m : Int) != (m' : Int)) = true := by simp; omega
      rw [decide_eq_false h2, Bool.and_false] at hsh
      have HS := Lib.hid hsh
      clear hsh h1 h2
      go_enter Tryz.func74, Tryz.ntmps74
      go_wp2_with (first | fail)
      exact bodyPost_ret (v := .tuple #[.agg #[.slice none 0 0, .slice none 0 0], .bool false]) (by simp [results, Tryz.results74, go_sem, *]) rfl ⟨HBn.out, Or.inr ⟨HS.out, rfl⟩⟩
  · have z1 : ((n : Int) != (n' : Int)) = true := by simp; omega
    rw [decide_eq_false h1, Bool.false_and] at hsh
    have HS := Lib.hid hsh
    clear hsh h1
    go_enter Tryz.func74, Tryz.ntmps74
    go_wp2_with (first | fail)
    exact bodyPost_ret (v := .tuple #[.agg #[.slice none 0 0, .slice none 0 0], .bool false]) (by simp [results, Tryz.results74, go_sem, *]) rfl ⟨HBn.out, Or.inr ⟨HS.out, rfl⟩⟩
end Go.Proofs.YtbakcdgjibmceaaGreatDoor
namespace Go.Proofs.YtbakcdgjibmceaaGreatDoor
open Go.RowKit Go.Shelf Go.Lib
/-- what frame.Join leaves -/
def FJoinPost (w : World) (l : List Class) (a b : Frm) (e : Ending) (w' : World) : Prop :=
  Below w.heap.size w w' ∧ ((framesFault l a b = 0 ∧ ∃ v1 v2, e = .returned (.tuple #[.agg #[v1, v2], .nilIface]) ∧ FrameAt w' v1 v2 (bothF (allC l) a b)) ∨ (framesFault l a b ≠ 0 ∧ e = .returned (.tuple #[.agg #[.slice none 0 0, .slice none 0 0], .iface 35 (.int .i64 (framesFault l a b))])))
theorem framesFault_no {l : List Class} {a b : Frm} (g : readFault l ≠ 0) : framesFault l a b = readFault l := by unfold framesFault; rw [if_pos g]
theorem framesFault_yes {l : List Class} {a b : Frm} (g : readFault l = 0) : framesFault l a b = framesR (allC l) a b := by unfold framesFault; rw [if_neg (by rw [g]; decide)]
theorem framesR_a {cs : List Class} {a b : Frm} (h : frameR cs a ≠ 0) : framesR cs a b = frameR cs a := by unfold framesR; rw [if_pos h]
theorem framesR_b {cs : List Class} {a b : Frm} (h : frameR cs a = 0) (g : frameR cs b ≠ 0) : framesR cs a b = frameR cs b := by unfold framesR; rw [if_neg (by rw [h]; decide), if_pos g]
theorem framesR_shape {cs : List Class} {a b : Frm} (h : frameR cs a = 0) (g : frameR cs b = 0) : framesR cs a b = if shapedB a b then 0 else 8 := by unfold framesR; rw [if_neg (by rw [h]; decide), if_neg (by rw [g]; decide)]
/-- a list of texts lies apart from a block that holds none -/
theorem StrsAt.apart {w : World} {v : Value} {l : List Str} {b : Nat} {t : TypeId} {x y : Value} (h : StrsAt w v l) (hk : Blk w b t [x, y]) (hx : ∀ s, x ≠ .string s) (hy : ∀ s, y ≠ .string s) {w' : World} (hw : ∀ g, g ≠ b → w'.heap[g]? = w.heap[g]?) : StrsAt w' v l := by
  cases l with
  | nil =>
    rcases h with h | ⟨a, cap, h1, h2, h3, _⟩
    · exact Or.inl h
    · exact Or.inr ⟨a, cap, h1, h2, h3, fun i x hx => by simp at hx⟩
  | cons z r =>
    refine SliceOf.block h fun g hg => hw g fun he => ?_
    subst he
    rcases h with ⟨_, h⟩ | ⟨a, cap, h1, h2, h3, h4⟩
    · cases h
    · rw [h1] at hg
      injection hg with hg
      subst hg
      obtain ⟨vs, r1, _, _, r4⟩ := h4 0 z rfl
      unfold StrCells at r1; subst r1
      have hc := r4.1
      rw [hk.cell] at hc
      rcases Nat.lt_or_ge (a.off + 0 * 1) 2 with h | h
      · have : a.off + 0 * 1 = 0 ∨ a.off + 0 * 1 = 1 := by omega
        rcases this with h | h <;> rw [h] at hc <;> injection hc with hc
        · exact hx _ hc
        · exact hy _ hc
      · rw [List.getElem?_eq_none (by simpa using h)] at hc; cases hc
set_option maxHeartbeats 4000000 in
set_option maxRecDepth 100000 in
theorem frameJoin_any (l : List Class) (lv : Value) (a b : Frm) (a1 a2 b1 b2 : Value) (w : World) (hl : Laid w) (ho : ∀ c ∈ l, ClassOk c) (hlv : ClassesAt w lv l) (ha : FrameAt w a1 a2 a) (hb : FrameAt w b1 b2 b) (hSa : FrmShort a) (hSb : FrmShort b) :
    Calls Tryz.prog 37 #[lv, .agg #[a1, a2], .agg #[b1, b2]] w (FJoinPost w l a b) := by
  have HRd : Hid (∀ wx, Below w.heap.size w wx → _) := fun wx hb => readW_any l lv wx (hl.mono hb hl.1) ho (hlv.mono hb)
  have HCa : Hid (∀ w0 wx B, Below w.heap.size w wx → WorldMap w0 wx B l → _) := fun w0 wx B hx hm => frameCheck_any w0 wx B l hm a a1 a2 (ha.mono hx) hSa
  have HCb : Hid (∀ w0 wx B, Below w.heap.size w wx → WorldMap w0 wx B l → _) := fun w0 wx B hx hm => frameCheck_any w0 wx B l hm b b1 b2 (hb.mono hx) hSb
  have HBo : Hid (∀ w0 wx B, Below w.heap.size w wx → WorldMap w0 wx B l → frameR (allC l) a = 0 → frameR (allC l) b = 0 → _) := fun w0 wx B hx hm h1 h2 => both_any w0 wx B l hm a b a1 a2 b1 b2 (ha.mono hx) (hb.mono hx) hSa hSb h1 h2
  obtain ⟨pl, cap, rfl, _⟩ := hlv.open
  obtain ⟨p1, c1, rfl, _⟩ := ha.1.open
  obtain ⟨p2, c2, rfl, _⟩ := ha.2.open
  obtain ⟨p3, c3, rfl, _⟩ := hb.1.open
  obtain ⟨p4, c4, rfl, _⟩ := hb.2.open
  have x0 : ∀ w : World, (Instr.index 114 (.agg #[.slice p1 a.locals.length c1, .slice p2 a.stack.length c2, .slice p3 b.locals.length c3, .slice p4 b.stack.length c4]) (.int .i64 0)).run Tryz.prog w = .ok (.agg #[.slice p1 a.locals.length c1, .slice p2 a.stack.length c2]) w := fun _ => by kernel_rfl
  have x1 : ∀ w : World, (Instr.index 114 (.agg #[.slice p1 a.locals.length c1, .slice p2 a.stack.length c2, .slice p3 b.locals.length c3, .slice p4 b.stack.length c4]) (.int .i64 1)).run Tryz.prog w = .ok (.agg #[.slice p3 b.locals.length c3, .slice p4 b.stack.length c4]) w := fun _ => by kernel_rfl
  obtain ⟨n1, hn1⟩ : ∃ n, a.locals.length = n := ⟨_, rfl⟩
  obtain ⟨n2, hn2⟩ : ∃ n, a.stack.length = n := ⟨_, rfl⟩
  obtain ⟨n3, hn3⟩ : ∃ n, b.locals.length = n := ⟨_, rfl⟩
  obtain ⟨n4, hn4⟩ : ∃ n, b.stack.length = n := ⟨_, rfl⟩
  rw [hn1, hn2] at HCa x0 x1
  rw [hn3, hn4] at HCb x0 x1
  rw [hn1, hn2, hn3, hn4] at HBo
  rw [hn1, hn2, hn3, hn4]
  clear hn1 hn2 hn3 hn4
  obtain ⟨w1, hw1⟩ : ∃ w1, w1 = ((w.alloc (.cells #[.slice p1 n1 c1, .slice p2 n2 c2] 64)).alloc (.cells #[.slice p3 n3 c3, .slice p4 n4 c4] 64)).alloc (.cells #[.slice none 0 0, .slice none 0 0] 64) := ⟨_, rfl⟩
  have HB1 : Hid (Below w.heap.size w w1) := by rw [hw1]; exact (((Below.refl _ _).alloc (Nat.le_refl _) _).alloc (by simp) _).alloc (by simp; omega) _
  have HK0 : Hid (Blk w1 w.heap.size 64 [.slice p1 n1 c1, .slice p2 n2 c2]) := by
    rw [hw1]
    exact (Blk.new w 64 _).step (((Below.refl _ _).alloc (Nat.le_refl _) _).alloc (by simp) _)
  have HK1 : Hid (Blk w1 (w.heap.size + 1) 64 [.slice p3 n3 c3, .slice p4 n4 c4]) := by
    rw [hw1]
    have := (Blk.new (w.alloc (.cells #[.slice p1 n1 c1, .slice p2 n2 c2] 64)) 64 [.slice p3 n3 c3, .slice p4 n4 c4]).step ((Below.refl _ _).alloc (Nat.le_refl _) (.cells #[.slice none 0 0, .slice none 0 0] 64))
    unfold Hid
    simpa using this
  have HK2 : Hid (Blk w1 (w.heap.size + 1 + 1) 64 [.slice none 0 0, .slice none 0 0]) := by
    rw [hw1]
    have := Blk.new ((w.alloc (.cells #[.slice p1 n1 c1, .slice p2 n2 c2] 64)).alloc (.cells #[.slice p3 n3 c3, .slice p4 n4 c4] 64)) 64 [.slice none 0 0, .slice none 0 0]
    unfold Hid
    simpa using this
  have HW := Lib.hid hw1.symm
  clear hl ho hlv ha hb hSa hSb hw1
  unfold ReadW at HRd
  unfold BothPost at HBo
  unfold FJoinPost
  by_cases hz : readFault l = 0
  · have HF := Lib.hid (framesFault_yes (a := a) (b := b) hz)
    have HZ := Lib.hid hz
    clear hz
    go_enter Tryz.func37, Tryz.ntmps37
    go_wp2_with (first
      | (go_at_call 66; rw [HW.out]; (with_reducible refine (HRd.out _ HB1.out).mono ?_); rintro e w2 ⟨hB2, ⟨_, w0, B, rfl, hm⟩ | ⟨hz, _⟩⟩; rotate_left; (exact absurd HZ.out hz); (have hk0 := HK0.out.step hB2); obtain ⟨q0, q1⟩ := hk0.cells2; (have hk1 := HK1.out.step hB2); obtain ⟨q2, q3⟩ := hk1.cells2; (have hk2 := HK2.out.step hB2)))
    have HB2 := Lib.hid (below_call HB1.out (Nat.le_refl _) hB2)
    have HM := Lib.hid hm
    have HK02 := Lib.hid hk0
    have HK12 := Lib.hid hk1
    have HK22 := Lib.hid hk2
    clear hk0 hk1 hk2 hB2 hm HB1 HK0 HK1 HK2 q0 q1 q2 q3 HW
    go_loopw [27] (fun x wr => Hid (Blk wr w.heap.size 64 [.slice p1 n1 c1, .slice p2 n2 c2]) ∧ Hid (Blk wr (w.heap.size + 1) 64 [.slice p3 n3 c3, .slice p4 n4 c4]) ∧ Hid (Blk wr (w.heap.size + 1 + 1) 64 [.slice none 0 0, .slice none 0 0]) ∧ Hid (Below w.heap.size w wr) ∧ Hid (WorldMap w0 wr B l) ∧ (x = .int .i64 0 ∨ (x = .int .i64 1 ∧ frameR (allC l) a = 0) ∨ (x = .int .i64 2 ∧ frameR (allC l) a = 0 ∧ frameR (allC l) b = 0))) (fun x _ => 2 - (intOf x).toNat)
    case atStart => exact ⟨HK02.out, HK12.out, HK22.out, HB2.out, HM.out, Or.inl rfl⟩
    case round =>
      obtain ⟨hk0, hk1, hk2, hB, hm, rfl | ⟨rfl, hfa⟩ | ⟨rfl, hfa, hfb⟩⟩ := hrel
      · have hBa := hB.out.alloc hB.out.size (.cells #[.slice p1 n1 c1, .slice p2 n2 c2] 64)
        have hma := hm.out.step ((Below.refl _ _).alloc (Nat.le_refl _) (.cells #[.slice p1 n1 c1, .slice p2 n2 c2] 64))
        have HCk := Lib.hid (HCa.out _ _ _ hBa hma)
        have HBa := Lib.hid hBa
        have HMa := Lib.hid hma
        have ka0 := Lib.hid (hk0.out.step ((Below.refl _ _).alloc (Nat.le_refl _) (.cells #[.slice p1 n1 c1, .slice p2 n2 c2] 64)))
        have ka1 := Lib.hid (hk1.out.step ((Below.refl _ _).alloc (Nat.le_refl _) (.cells #[.slice p1 n1 c1, .slice p2 n2 c2] 64)))
        have ka2 := Lib.hid (hk2.out.step ((Below.refl _ _).alloc (Nat.le_refl _) (.cells #[.slice p1 n1 c1, .slice p2 n2 c2] 64)))
        clear hBa hma hB hm hk0 hk1 hk2
        rcases errV_cases (frameR (allC l) a) with ⟨hv0, hz⟩ | ⟨hv0, hz⟩
        · rw [hv0] at HCk
          have HZf := Lib.hid hz
          clear hv0 hz
          go_wp2_with (go_at_call 67; (with_reducible refine HCk.out.mono ?_); rintro e w6 ⟨rfl, hB6⟩)
          go_roundw
          case rel => exact ⟨ka0.out.step hB6, ka1.out.step hB6, ka2.out.step hB6, below_call HBa.out (Nat.le_refl _) hB6, HMa.out.step hB6, Or.inr (Or.inl ⟨by simp, HZf.out⟩)⟩
          case measure => simp [intOf]
        · rw [hv0] at HCk
          have HV := Lib.hid hv0
          have HNz := Lib.hid hz
          have HFf : Hid (framesFault l a b = frameR (allC l) a) := HF.out.trans (framesR_a hz)
          clear hv0 hz
          generalize frameR (allC l) a = f at *
          go_wp2_with (go_at_call 67; (with_reducible refine HCk.out.mono ?_); rintro e w6 ⟨rfl, hB6⟩; (have kb2 := ka2.out.step hB6); obtain ⟨q4, q5⟩ := kb2.cells2; (have f4 := kb2.frozen 0); (have f5 := kb2.frozen 1))
          exact bodyPost_ret (v := .tuple #[.agg #[.slice none 0 0, .slice none 0 0], .iface 35 (.int .i64 f)]) (by simp [results, Tryz.results37, go_sem, *]) rfl ⟨below_set2 (b := w.heap.size + 1 + 1) (below_call HBa.out (Nat.le_refl _) hB6) (by omega) _ _, Or.inr ⟨by rw [HFf.out]; exact HNz.out, by rw [HFf.out]⟩⟩
      · have hBa := hB.out.alloc hB.out.size (.cells #[.slice p3 n3 c3, .slice p4 n4 c4] 64)
        have hma := hm.out.step ((Below.refl _ _).alloc (Nat.le_refl _) (.cells #[.slice p3 n3 c3, .slice p4 n4 c4] 64))
        have HCk := Lib.hid (HCb.out _ _ _ hBa hma)
        have HBa := Lib.hid hBa
        have HMa := Lib.hid hma
        have ka0 := Lib.hid (hk0.out.step ((Below.refl _ _).alloc (Nat.le_refl _) (.cells #[.slice p3 n3 c3, .slice p4 n4 c4] 64)))
        have ka1 := Lib.hid (hk1.out.step ((Below.refl _ _).alloc (Nat.le_refl _) (.cells #[.slice p3 n3 c3, .slice p4 n4 c4] 64)))
        have ka2 := Lib.hid (hk2.out.step ((Below.refl _ _).alloc (Nat.le_refl _) (.cells #[.slice p3 n3 c3, .slice p4 n4 c4] 64)))
        clear hBa hma hB hm hk0 hk1 hk2
        rcases errV_cases (frameR (allC l) b) with ⟨hv0, hz⟩ | ⟨hv0, hz⟩
        · rw [hv0] at HCk
          have HZf := Lib.hid hz
          clear hv0 hz
          go_wp2_with (go_at_call 67; (with_reducible refine HCk.out.mono ?_); rintro e w6 ⟨rfl, hB6⟩)
          go_roundw
          case rel => exact ⟨ka0.out.step hB6, ka1.out.step hB6, ka2.out.step hB6, below_call HBa.out (Nat.le_refl _) hB6, HMa.out.step hB6, Or.inr (Or.inr ⟨by simp, hfa, HZf.out⟩)⟩
          case measure => simp [intOf]
        · rw [hv0] at HCk
          have HV := Lib.hid hv0
          have HNz := Lib.hid hz
          have HFf : Hid (framesFault l a b = frameR (allC l) b) := HF.out.trans (framesR_b hfa hz)
          clear hv0 hz
          generalize frameR (allC l) b = f at *
          go_wp2_with (go_at_call 67; (with_reducible refine HCk.out.mono ?_); rintro e w6 ⟨rfl, hB6⟩; (have kb2 := ka2.out.step hB6); obtain ⟨q4, q5⟩ := kb2.cells2; (have f4 := kb2.frozen 0); (have f5 := kb2.frozen 1))
          exact bodyPost_ret (v := .tuple #[.agg #[.slice none 0 0, .slice none 0 0], .iface 35 (.int .i64 f)]) (by simp [results, Tryz.results37, go_sem, *]) rfl ⟨below_set2 (b := w.heap.size + 1 + 1) (below_call HBa.out (Nat.le_refl _) hB6) (by omega) _ _, Or.inr ⟨by rw [HFf.out]; exact HNz.out, by rw [HFf.out]⟩⟩
      · obtain ⟨q0, q1⟩ := hk0.out.cells2
        obtain ⟨q2, q3⟩ := hk1.out.cells2
        have HCk := Lib.hid (HBo.out _ _ _ hB.out hm.out hfa hfb)
        have HFs := Lib.hid (HF.out.trans (framesR_shape hfa hfb))
        have HFA := Lib.hid hfa
        clear hfa hfb
        go_wp2_with (go_at_call 74; (with_reducible refine HCk.out.mono ?_); rintro e w6 ⟨hB6, ⟨hsh, v1, v2, rfl, hv⟩ | ⟨hsh, rfl⟩⟩; obtain ⟨⟨pa, ka, rfl, _⟩, ⟨pb, kb, rfl, _⟩⟩ := And.intro hv.1.open hv.2.open; all_goals ((have kb2 := hk2.out.step hB6); obtain ⟨q4, q5⟩ := kb2.cells2; (have f4 := kb2.frozen 0); (have f5 := kb2.frozen 1); (have hlt := kb2.lt)))
        all_goals
          have hB7 := below_call hB.out (Nat.le_refl _) hB6
          have HFt := HFs.out
          rw [hsh] at HFt
        · have hr1 := StrsAt.apart hv.1 kb2 (fun s h => by cases h) (fun s h => by cases h) (w' := ((w6.setCell ⟨w.heap.size + 1 + 1, 0, none⟩ (.slice pa (bothF (allC l) a b).locals.length ka)).setCell ⟨w.heap.size + 1 + 1, 1, none⟩ (.slice pb (bothF (allC l) a b).stack.length kb))) (fun g hg => by rw [heap_setCell_other _ _ _ _ hg, heap_setCell_other _ _ _ _ hg])
          have hr2 := StrsAt.apart hv.2 kb2 (fun s h => by cases h) (fun s h => by cases h) (w' := ((w6.setCell ⟨w.heap.size + 1 + 1, 0, none⟩ (.slice pa (bothF (allC l) a b).locals.length ka)).setCell ⟨w.heap.size + 1 + 1, 1, none⟩ (.slice pb (bothF (allC l) a b).stack.length kb))) (fun g hg => by rw [heap_setCell_other _ _ _ _ hg, heap_setCell_other _ _ _ _ hg])
          have hbs := below_set2 (b := w.heap.size + 1 + 1) hB7 (by omega) (.slice pa (bothF (allC l) a b).locals.length ka) (.slice pb (bothF (allC l) a b).stack.length kb)
          have hba := (Below.refl ((w6.setCell ⟨w.heap.size + 1 + 1, 0, none⟩ (.slice pa (bothF (allC l) a b).locals.length ka)).setCell ⟨w.heap.size + 1 + 1, 1, none⟩ (.slice pb (bothF (allC l) a b).stack.length kb)).heap.size _).alloc (Nat.le_refl _) (.cells #[.slice pa (bothF (allC l) a b).locals.length ka, .slice pb (bothF (allC l) a b).stack.length kb] 64)
          exact bodyPost_ret (v := .tuple #[.agg #[.slice pa (bothF (allC l) a b).locals.length ka, .slice pb (bothF (allC l) a b).stack.length kb], .nilIface]) (by simp [results, Tryz.results37, go_sem, *]) rfl ⟨below_call hbs (Nat.le_refl _) hba, Or.inl ⟨HFt.trans (if_pos rfl), _, _, rfl, hr1.mono hba, hr2.mono hba⟩⟩
        · have hFt := HFt.trans (if_neg (by decide))
          have hbs := below_set2 (b := w.heap.size + 1 + 1) hB7 (by omega) (.slice none 0 0) (.slice none 0 0)
          have hba := (Below.refl ((w6.setCell ⟨w.heap.size + 1 + 1, 0, none⟩ (.slice none 0 0)).setCell ⟨w.heap.size + 1 + 1, 1, none⟩ (.slice none 0 0)).heap.size _).alloc (Nat.le_refl _) (.cells #[.slice none 0 0, .slice none 0 0] 64)
          exact bodyPost_ret (v := .tuple #[.agg #[.slice none 0 0, .slice none 0 0], .iface 35 (.int .i64 8)]) (by simp [results, Tryz.results37, go_sem, *]) rfl ⟨below_call hbs (Nat.le_refl _) hba, Or.inr ⟨by rw [hFt]; decide, by rw [hFt]; rfl⟩⟩
  · have HF := Lib.hid (framesFault_no (a := a) (b := b) hz)
    have HZ := Lib.hid hz
    clear hz
    go_enter Tryz.func37, Tryz.ntmps37
    go_wp2_with (go_at_call 66; rw [HW.out]; (with_reducible refine (HRd.out _ HB1.out).mono ?_); rintro e w2 ⟨hB2, ⟨hz, _⟩ | ⟨_, rfl⟩⟩; (exact absurd hz HZ.out); obtain ⟨q4, q5⟩ := (HK2.out.step hB2).cells2; (have f4 := (HK2.out.step hB2).frozen 0); (have f5 := (HK2.out.step hB2).frozen 1))
    exact bodyPost_ret (v := .tuple #[.agg #[.slice none 0 0, .slice none 0 0], .iface 35 (.int .i64 (readFault l))]) (by simp [results, Tryz.results37, go_sem, *]) rfl ⟨below_set2 (b := w.heap.size + 1 + 1) (below_call HB1.out (Nat.le_refl _) hB2) (by omega) _ _, Or.inr ⟨by rw [HF.out]; exact HZ.out, by rw [HF.out]⟩⟩
/-- what frame.Below tells -/
def belowF (l : List Class) (a b : Frm) : Bool := decide (framesFault l a b = 0) && decide (bothF (allC l) a b = b)
set_option maxRecDepth 100000 in
theorem frameBelow_any (l : List Class) (lv : Value) (a b : Frm) (a1 a2 b1 b2 : Value) (w : World) (hl : Laid w) (ho : ∀ c ∈ l, ClassOk c) (hlv : ClassesAt w lv l) (ha : FrameAt w a1 a2 a) (hb : FrameAt w b1 b2 b) (hSa : FrmShort a) (hSb : FrmShort b) :
    Calls Tryz.prog 34 #[lv, .agg #[a1, a2], .agg #[b1, b2]] w fun e w' => e = .returned (.tuple #[.bool (belowF l a b), errV (framesFault l a b)]) ∧ Below w.heap.size w w' := by
  have HJ : Hid (∀ wx, Below w.heap.size w wx → _) := fun wx hx => frameJoin_any l lv a b a1 a2 b1 b2 wx (hl.mono hx hl.1) ho (hlv.mono hx) (ha.mono hx) (hb.mono hx) hSa hSb
  have HSm : Hid (∀ wx v1 v2, Below w.heap.size w wx → FrameAt wx v1 v2 (bothF (allC l) a b) → _) := fun wx v1 v2 hx hv => frameSame_any (bothF (allC l) a b) b v1 v2 b1 b2 wx hv (hb.mono hx)
  obtain ⟨pl, cap, rfl, _⟩ := hlv.open
  obtain ⟨p1, c1, rfl, _⟩ := ha.1.open
  obtain ⟨p2, c2, rfl, _⟩ := ha.2.open
  obtain ⟨p3, c3, rfl, _⟩ := hb.1.open
  obtain ⟨p4, c4, rfl, _⟩ := hb.2.open
  obtain ⟨n1, hn1⟩ : ∃ n, a.locals.length = n := ⟨_, rfl⟩
  obtain ⟨n2, hn2⟩ : ∃ n, a.stack.length = n := ⟨_, rfl⟩
  obtain ⟨n3, hn3⟩ : ∃ n, b.locals.length = n := ⟨_, rfl⟩
  obtain ⟨n4, hn4⟩ : ∃ n, b.stack.length = n := ⟨_, rfl⟩
  rw [hn1, hn2, hn3, hn4] at HJ
  rw [hn3, hn4] at HSm
  rw [hn1, hn2, hn3, hn4]
  clear hn1 hn2 hn3 hn4
  obtain ⟨w1, hw1⟩ : ∃ w1, w1 = (w.alloc (.cells #[.slice p1 n1 c1, .slice p2 n2 c2] 64)).alloc (.cells #[.slice p3 n3 c3, .slice p4 n4 c4] 64) := ⟨_, rfl⟩
  have HB1 : Hid (Below w.heap.size w w1) := by rw [hw1]; exact ((Below.refl _ _).alloc (Nat.le_refl _) _).alloc (by simp) _
  have HK1 : Hid (Blk w1 (w.heap.size + 1) 64 [.slice p3 n3 c3, .slice p4 n4 c4]) := by
    rw [hw1]
    have := Blk.new (w.alloc (.cells #[.slice p1 n1 c1, .slice p2 n2 c2] 64)) 64 [.slice p3 n3 c3, .slice p4 n4 c4]
    unfold Hid
    simpa using this
  have HW := Lib.hid hw1.symm
  clear hl ho hlv ha hb hSa hSb hw1
  unfold FJoinPost at HJ
  unfold belowF
  rcases errV_cases (framesFault l a b) with ⟨hv0, hz⟩ | ⟨hv0, hz⟩
  · rw [hv0, decide_eq_true hz, Bool.true_and]
    have HZ := Lib.hid hz
    clear hv0 hz
    generalize decide (bothF (allC l) a b = b) = r at *
    go_enter Tryz.func34, Tryz.ntmps34
    go_wp2_with (first
      | (go_at_call 37; rw [HW.out]; (with_reducible refine (HJ.out _ HB1.out).mono ?_); rintro e w2 ⟨hB2, ⟨_, v1, v2, rfl, hv⟩ | ⟨hz, _⟩⟩; rotate_left; (exact absurd HZ.out hz); (have hB3 := below_call HB1.out (Nat.le_refl _) hB2); obtain ⟨⟨pa, ka, rfl, _⟩, ⟨pb, kb, rfl, _⟩⟩ := And.intro hv.1.open hv.2.open; (have hBa := (Below.refl w2.heap.size w2).alloc (Nat.le_refl _) (.cells #[.slice pa (bothF (allC l) a b).locals.length ka, .slice pb (bothF (allC l) a b).stack.length kb] 64)); (have hk := (HK1.out.step hB2).step hBa); obtain ⟨q0, q1⟩ := hk.cells2)
      | (go_at_call 71; (with_reducible refine (HSm.out _ _ _ (below_call hB3 (Nat.le_refl _) hBa) (hv.mono hBa)).mono ?_); rintro e w4 ⟨rfl, hB4⟩))
    go_ret2
    exact ⟨rfl, below_call (below_call hB3 (Nat.le_refl _) hBa) (Nat.le_refl _) hB4⟩
  · rw [hv0, decide_eq_false hz, Bool.false_and]
    have HZ := Lib.hid hz
    clear hv0 hz
    generalize framesFault l a b = f at *
    go_enter Tryz.func34, Tryz.ntmps34
    go_wp2_with (first
      | (go_at_call 37; rw [HW.out]; (with_reducible refine (HJ.out _ HB1.out).mono ?_); rintro e w2 ⟨hB2, ⟨hz, _⟩ | ⟨hz, rfl⟩⟩; (exact absurd hz HZ.out); (have hB3 := below_call HB1.out (Nat.le_refl _) hB2)))
    go_ret2
    exact ⟨rfl, hB3.alloc hB3.size _⟩
end Go.Proofs.YtbakcdgjibmceaaGreatDoor
