/-
  WALKS over slices.Clone of texts, the stepper's need, put, pop. Conditions: a list's length is at most 4194304.
  WALKS over frame.After's deferred closure; frame.After, Step at a Push. Conditions: lists of at most 4194304 texts.
  WALK over frame.After, by its parts' contracts. Conditions: lists of at most 4194304 texts.
  WALK over frame.Step, by After's contract. Conditions: as in XRead; texts of at most maxLen signs.
  WALK over the law's stepped. Conditions: the laid variables.
-/
import Derived.Test.YtlmfmioljeppfaaGreatDoorFrameOps
import Derived.Test.YtlmfmioljeppfaaGreatDoorFlow
import Derived.Defers
import Derived.Recover
import Derived.Deep.RegionHeld3
namespace Go.Proofs.YtlmfmioljeppfaaGreatDoor
open Go.RowKit Go.Shelf Go.Lib
def nthOp : List Oper → Nat → Option Oper
  | [], _ => none
  | o :: _, 0 => some o
  | _ :: r, n + 1 => nthOp r n
theorem nthOp_eq : ∀ (l : List Oper) (n : Nat), l.toArray[n]? = nthOp l n
  | [], _ => by simp [nthOp]
  | _ :: _, 0 => by simp [nthOp]
  | _ :: r, n + 1 => by
    have := nthOp_eq r n
    simp at this
    simp [nthOp, this]
theorem tkY {P : Program} {md : Region.Mode} {Q : Exit → Act → World → Prop} {S : World → Prop} {l : List Oper} {i fuel : Nat} {listed : Array Bool} {a : Act} {w : World} {oi : Oper} {v : Value} (_ : i + (fuel + 1) = l.length) (hi : nthOp l i = some oi)
    (hs : Region.noSelect l.toArray = true) (hf : Region.free md l.toArray listed i = true) (hr : (Region.ready md l.toArray listed).contains i = true) (hQ : ∀ c a w, Q (.panic c) (a.put oi.dst v) w → Q (.panic c) a w)
    (hw : Region.wanted oi (yielded l.toArray a.tmps) = true) (hS : S w) (hv : ∀ w, S w → (execOp a.eval oi).run P w = .ok (.value v) w)
    (h : wpAnyH P md l.toArray Q S fuel (listed.setIfInBounds i true) (a.put oi.dst v) w) : wpAnyH P md l.toArray Q S (fuel + 1) listed a w :=
  wpAnyH_take ((nthOp_eq l i).trans hi) hs hf hr hQ (Or.inl ⟨hw, hv⟩) hS h
theorem tkI {P : Program} {md : Region.Mode} {Q : Exit → Act → World → Prop} {S : World → Prop} {l : List Oper} {i fuel : Nat} {listed : Array Bool} {a : Act} {w : World} {oi : Oper} {v : Value} (hi : nthOp l i = some oi)
    (hs : Region.noSelect l.toArray = true) (hf : Region.free md l.toArray listed i = true) (hr : (Region.ready md l.toArray listed).contains i = true) (hQ : ∀ c a w, Q (.panic c) (a.put oi.dst v) w → Q (.panic c) a w)
    (hw : Region.wanted oi (yielded l.toArray a.tmps) = true) (hS : S w) (hv : ∀ w, S w → (execOp a.eval oi).run P w = .ok (.value v) w)
    (h : wpAnyH P md l.toArray Q S fuel (listed.setIfInBounds i true) (a.put oi.dst v) w) : wpAnyH P md l.toArray Q S (fuel + 1) listed a w :=
  wpAnyH_take ((nthOp_eq l i).trans hi) hs hf hr hQ (Or.inl ⟨hw, hv⟩) hS h
theorem tkN {P : Program} {md : Region.Mode} {Q : Exit → Act → World → Prop} {S : World → Prop} {l : List Oper} {i fuel : Nat} {listed : Array Bool} {a : Act} {w : World} {oi : Oper} (_ : i + (fuel + 1) = l.length) (hi : nthOp l i = some oi)
    (hs : Region.noSelect l.toArray = true) (hf : Region.free md l.toArray listed i = true) (hr : (Region.ready md l.toArray listed).contains i = true) (hQ : ∀ c a w, Q (.panic c) (a.put oi.dst undef) w → Q (.panic c) a w)
    (hw : Region.wanted oi (yielded l.toArray a.tmps) = false) (hS : S w)
    (h : wpAnyH P md l.toArray Q S fuel (listed.setIfInBounds i true) (a.put oi.dst undef) w) : wpAnyH P md l.toArray Q S (fuel + 1) listed a w :=
  wpAnyH_take ((nthOp_eq l i).trans hi) hs hf hr hQ (Or.inr ⟨hw, rfl⟩) hS h
set_option maxHeartbeats 1000000 in
set_option maxRecDepth 100000 in
theorem cloneStrs_any (l : List Str) (v : Value) (w : World) (h : StrsAt w v l) (hn : l.length ≤ 4194304) :
    Calls Tryz.prog 100 #[v] w fun e w' => (∃ v', e = .returned v' ∧ w'.ownsRow w.heap.size 9 1 v' l.length (l.map Value.string)) ∧ Below w.heap.size w w' := by
  have qn : ∀ (w : World) (a : Option Addr) (n c n' c' : Nat), (binOp .eql 25 (.slice a n c) (.slice none n' c')).run Tryz.prog w = .ok (.bool a.isNone) w := fun w a n c n' c' => Lib.run_eql_slice_nil w _ _ a n c n' c' Tryz.underlying25
  rcases h with ⟨rfl, rfl⟩ | ⟨a, cap, rfl, h1, h2, h4⟩
  · go_enter Tryz.func100, Tryz.ntmps100
    go_wp2_with (first | fail)
    go_ret
    exact ⟨⟨_, rfl, World.ownsRow_nil _ _ _ _⟩, Below.refl _ _⟩
  · have hS : StrsAt (w.alloc (.cells #[] 9)) (.slice (some a) l.length cap) l := StrsAt.mono ((Below.refl _ _).alloc (Nat.le_refl _) _) (Or.inr ⟨a, cap, rfl, h1, h2, h4⟩)
    have HO := Lib.hid (ownsRow_none w w.heap.size (Nat.le_refl _))
    clear h4
    go_enter Tryz.func100, Tryz.ntmps100
    go_wp2_with (at_builtin; refine wpList_append_strs rfl _ _ rfl w.heap.size _ 0 [] rfl HO.out _ l rfl hS (by unfold maxLen; omega) (by omega) (by simp) ?_; intro v' w3 ho3 hg3 _)
    go_ret
    exact ⟨⟨_, rfl, by simpa using ho3⟩, ((Below.refl _ w).alloc (Nat.le_refl _) _).grown hg3 (by simp) (by intro k hk; exact (World.ownsRow.lt HO.out k hk).1)⟩
theorem owns_far {w : World} {base b size n : Nat} {t : TypeId} {v : Value} {xs : List Value} (h : w.ownsRow base t size v n xs) (hb : v.ownBlock ≠ some b) (j : Nat) (u : Value) : (w.setCell ⟨b, j, none⟩ u).ownsRow base t size v n xs := by
  rcases h with ⟨h1, h2 | ⟨g, cap, cur, k1, k2, k3, k4⟩⟩
  · exact ⟨h1, Or.inl h2⟩
  · exact ⟨h1, Or.inr ⟨g, cap, cur, k1, k2, (heap_setCell_other w ⟨b, j, none⟩ g u (fun e => hb (by rw [k1, e]; rfl))).trans k3, k4⟩⟩
def unfitP : PanicEntry := { v := .iface 150 (.agg #[]), recovered := false }
theorem need_true (w : World) : Calls Tryz.prog 137 #[.bool true] w fun e w' => e = .returned (.tuple #[]) ∧ w = w' := by
  go_enter Tryz.func137, Tryz.ntmps137
  go_wp2_with (first | fail)
  go_end0
  exact ⟨rfl, rfl⟩
theorem need_false (w : World) : Calls Tryz.prog 137 #[.bool false] w fun e w' => e = .panicked [unfitP] ∧ w = w' := by
  go_enter Tryz.func137, Tryz.ntmps137
  go_wp2_with (first | fail)
  exact ⟨rfl, rfl, rfl⟩
structure StepAt (base : Nat) (w : World) (sb B : Nat) (from' gives : Str) (lv sv : Value) (L S : List Str) : Prop where
  blk : Blk w sb 155 [.map (some B), .string from', .string gives, lv, sv]
  locals : w.ownsRow base 9 1 lv L.length (L.map Value.string)
  stack : w.ownsRow base 9 1 sv S.length (S.map Value.string)
  apart : ∀ g, lv.ownBlock = some g → sv.ownBlock ≠ some g
  lfar : lv.ownBlock ≠ some sb
  sfar : sv.ownBlock ≠ some sb
  low : base ≤ sb
def StepPost (base : Nat) (w : World) (sb B : Nat) (from' gives : Str) (r : Option (Value × List Str × List Str)) (e : Ending) (w' : World) : Prop :=
  Below base w w' ∧ match r with
    | none => e = .panicked [unfitP]
    | some (v, L, S) => e = .returned v ∧ ∃ lv sv, StepAt base w' sb B from' gives lv sv L S
theorem StepPost.ok {base : Nat} {w w' : World} {sb B : Nat} {from' gives : Str} {v : Value} {lv sv : Value} {L S : List Str} (hB : Below base w w') (h : StepAt base w' sb B from' gives lv sv L S) : StepPost base w sb B from' gives (some (v, L, S)) (.returned v) w' := ⟨hB, rfl, lv, sv, h⟩
theorem StepPost.no {base : Nat} {w w' : World} {sb B : Nat} {from' gives : Str} (hB : Below base w w') : StepPost base w sb B from' gives none (.panicked [unfitP]) w' := ⟨hB, rfl⟩
theorem StepAt.step {base : Nat} {w w' : World} {sb B : Nat} {from' gives : Str} {lv sv : Value} {L S : List Str} (h : StepAt base w sb B from' gives lv sv L S) (hB : Below w.heap.size w w') : StepAt base w' sb B from' gives lv sv L S :=
  ⟨h.blk.step hB, ownsRow_belowk h.locals hB, ownsRow_belowk h.stack hB, h.apart, h.lfar, h.sfar, h.low⟩
theorem StepAt.size {base : Nat} {w : World} {sb B : Nat} {from' gives : Str} {lv sv : Value} {L S : List Str} (h : StepAt base w sb B from' gives lv sv L S) : base ≤ w.heap.size := Nat.le_trans h.low (Nat.le_of_lt h.blk.lt)
theorem StepAt.stacked {base : Nat} {w : World} {sb B : Nat} {from' gives : Str} {lv sv sv' : Value} {L S S' : List Str} (h : StepAt base w sb B from' gives lv sv L S) {w3 : World} (hb : Blk w3 sb 155 [.map (some B), .string from', .string gives, lv, sv]) (hl : w3.ownsRow base 9 1 lv L.length (L.map Value.string)) (hs : w3.ownsRow base 9 1 sv' S'.length (S'.map Value.string))
    (hor : sv'.ownBlock = sv.ownBlock ∨ ∀ g, sv'.ownBlock = some g → w.heap.size ≤ g) : StepAt base (w3.setCell ⟨sb, 4, none⟩ sv') sb B from' gives lv sv' L S' := by
  have hsb := h.blk.lt
  have h2 : sv'.ownBlock ≠ some sb := by
    rcases hor with h1 | h1
    · rw [h1]; exact h.sfar
    · intro e; have := h1 _ e; omega
  refine ⟨hb.put 4 sv', owns_far hl h.lfar 4 sv', owns_far hs h2 4 sv', fun g e e' => ?_, h.lfar, h2, h.low⟩
  rcases hor with h1 | h1
  · exact h.apart g e (h1 ▸ e')
  · have := (h.locals.lt _ e).2
    have := h1 _ e'
    omega
def putS (S : List Str) (k : Str) : Option (List Str) := if S.length < 8 then some (S ++ [k]) else none
end Go.Proofs.YtlmfmioljeppfaaGreatDoor
namespace Go.Proofs.YtlmfmioljeppfaaGreatDoor
open Go.RowKit Go.Shelf Go.Lib
theorem StepPost.no' {base : Nat} {w w' : World} {sb B : Nat} {from' gives : Str} {e : Ending} (h : StepPost base w sb B from' gives none e w') : Below base w w' ∧ e = .panicked [unfitP] := h
theorem StepPost.ok' {base : Nat} {w w' : World} {sb B : Nat} {from' gives : Str} {v : Value} {L S : List Str} {e : Ending} (h : StepPost base w sb B from' gives (some (v, L, S)) e w') : Below base w w' ∧ e = .returned v ∧ ∃ lv sv, StepAt base w' sb B from' gives lv sv L S := h
theorem after1_idle (p q : Addr) (w : World) :
    CallsD Tryz.prog 99 #[.pointer (some p), .pointer (some q)] .returning w fun e u' w' => e = .returned (.tuple #[]) ∧ u' = .returning ∧ w' = w := by
  refine callsD_of_wpS Tryz.func99 rfl fun c₀ cs hu => ?_
  apply wpS_seq
  apply wpS_region
  simp [wpOpsS, go_sem, recoverD, hu, Tryz.ntmps99, Exit.thenS]
  apply wpS_seq
  apply wpS_region
  simp [wpOpsS, go_sem, Exit.thenS]
  refine wpS_cond (t := false) (by simp [Act.eval, Array.replicate]) ?_
  simp only [Bool.false_eq_true, if_false]
  refine wpS_of_wp (wp_skip ?_)
  cases c₀
  simp_all [bodyPostS, results, Tryz.results99]
set_option maxRecDepth 100000 in
theorem after1_caught (p q : Nat) (w : World) (hp : p < w.heap.size) (hq : q < w.heap.size) (x0 x1 y0 : Value) (hk : Blk w p 27 [x0, x1]) (hb : Blk w q 4 [y0]) (hpq : p ≠ q) :
    CallsD Tryz.prog 99 #[.pointer (some ⟨p, 0, none⟩), .pointer (some ⟨q, 0, none⟩)] (.panicking (unfitP :: [])) w fun e u' w' =>
      e = .returned (.tuple #[]) ∧ u' = .panicking ({ unfitP with recovered := true } :: []) ∧ w' = (((w.setCell ⟨p, 0, none⟩ (.slice none 0 0)).setCell ⟨p, 1, none⟩ (.slice none 0 0)).setCell ⟨q, 0, none⟩ (.bool false)).alloc (.cells #[] 150) := by
  have HK := Lib.hid hk
  have HB := Lib.hid hb
  refine callsD_of_wpS Tryz.func99 rfl fun c₀ cs hu => ?_
  apply wpS_seq
  apply wpS_region
  simp [wpOpsS, go_sem, recoverD, hu, Tryz.ntmps99, Exit.thenS, unfitP]
  apply wpS_seq
  apply wpS_region
  simp [wpOpsS, go_sem, Exit.thenS]
  refine wpS_cond (t := true) (by simp [Act.eval, Array.replicate]) ?_
  simp only [if_true]
  refine wpS_of_wp ?_
  have hT : (#[Value.pointer (some ⟨p, 0, none⟩), .pointer (some ⟨q, 0, none⟩)] ++ ((((Array.replicate 15 undef).setIfInBounds 3 (.iface 150 (.agg #[]))).setIfInBounds 0 (.iface 150 (.agg #[]))).setIfInBounds 4 (.iface 150 (.agg #[]))).setIfInBounds 5 (.bool true)) = #[.pointer (some ⟨p, 0, none⟩), .pointer (some ⟨q, 0, none⟩), .iface 150 (.agg #[]), undef, undef, .iface 150 (.agg #[]), .iface 150 (.agg #[]), .bool true, undef, undef, undef, undef, undef, undef, undef, undef, undef] := rfl
  rw [hT]
  clear hT
  have hA := (Below.refl w.heap.size w).alloc (Nat.le_refl _) (.cells #[] 150)
  obtain ⟨k0, k1⟩ := HK.out.cells2
  obtain ⟨l0, l1⟩ := (HK.out.step hA).cells2
  have k2 : w.cell? ⟨q, 0, none⟩ = some y0 := HB.out.cell 0
  have l2 : (w.alloc (.cells #[] 150)).cell? ⟨q, 0, none⟩ = some y0 := (HB.out.step hA).cell 0
  have f0 := HK.out.frozen 0
  have f1 := HK.out.frozen 1
  have f2 := HB.out.frozen 0
  have g0 := (HK.out.step hA).frozen 0
  have g1 := (HK.out.step hA).frozen 1
  have g2 := (HB.out.step hA).frozen 0
  have hta : ∀ w : World, (Instr.typeAssert (.iface 150 (.agg #[])) 20 150 true).run Tryz.prog w = .ok (.tuple #[.agg #[], .bool true]) w := fun w => by kernel_rfl
  clear hk hb
  go_wp2_with (first | fail)
  cases c₀
  simp_all [bodyPostS, results, Tryz.results99, unfitP]
end Go.Proofs.YtlmfmioljeppfaaGreatDoor
namespace Go.Proofs.YtlmfmioljeppfaaGreatDoor
open Go.RowKit Go.Shelf Go.Lib
def AfterPost (w : World) (r : Option (List Str × List Str)) (e : Ending) (w' : World) : Prop :=
  Below w.heap.size w w' ∧ match r with
    | none => e = .returned (.tuple #[.agg #[.slice none 0 0, .slice none 0 0], .bool false])
    | some (L, S) => ∃ lv sv, e = .returned (.tuple #[.agg #[lv, sv], .bool true]) ∧ FrameAt w' lv sv ⟨L, S⟩
def unitS (r : Option (List Str × List Str)) : Option (Value × List Str × List Str) := r.map fun p => (.tuple #[], p.1, p.2)
theorem owns_lower {w : World} {base base' : Nat} {e : TypeId} {size : Nat} {v : Value} {n : Nat} {xs : List Value} (h : w.ownsRow base e size v n xs) (hb : base' ≤ base) : w.ownsRow base' e size v n xs :=
  ⟨h.1, h.2.imp id fun ⟨g, cap, cur, h1, h2, h3⟩ => ⟨g, cap, cur, h1, Nat.le_trans hb h2, h3⟩⟩
theorem StepAt.made {base m B : Nat} {w4 w5 : World} {from' gives : Str} {lv sv : Value} {L S : List Str} (h1 : w4.ownsRow m 9 1 lv L.length (L.map Value.string)) (h2 : w5.ownsRow w4.heap.size 9 1 sv S.length (S.map Value.string)) (hb : Below w4.heap.size w4 w5) (hm : base ≤ m) (hm4 : base ≤ w4.heap.size) :
    StepAt base (w5.alloc (.cells #[.map (some B), .string from', .string gives, lv, sv] 155)) w5.heap.size B from' gives lv sv L S := by
  have hA := (Below.refl w5.heap.size w5).alloc (Nat.le_refl _) (.cells #[.map (some B), .string from', .string gives, lv, sv] 155)
  have h15 := ownsRow_belowk h1 hb
  refine ⟨Blk.new w5 155 [.map (some B), .string from', .string gives, lv, sv], owns_lower (ownsRow_belowk h15 hA) hm, owns_lower (ownsRow_belowk h2 hA) hm4, fun g hg e => ?_, fun e => ?_, fun e => ?_, Nat.le_trans hm4 hb.size⟩
  · have := (h1.lt g hg).2
    have := (h2.lt g e).1
    omega
  · have := (h15.lt _ e).2
    omega
  · have := (h2.lt _ e).2
    omega
theorem Blk.cells6 {w : World} {b : Nat} {t : TypeId} {a0 a1 a2 a3 a4 a5 : Value} (h : Blk w b t [a0, a1, a2, a3, a4, a5]) : w.cell? ⟨b, 0, none⟩ = some a0 ∧ w.cell? ⟨b, 1, none⟩ = some a1 ∧ w.cell? ⟨b, 2, none⟩ = some a2 ∧ w.cell? ⟨b, 3, none⟩ = some a3 ∧ w.cell? ⟨b, 4, none⟩ = some a4 ∧ w.cell? ⟨b, 5, none⟩ = some a5 := ⟨h.cell 0, h.cell 1, h.cell 2, h.cell 3, h.cell 4, h.cell 5⟩
theorem Blk.cells5 {w : World} {b : Nat} {t : TypeId} {a0 a1 a2 a3 a4 : Value} (h : Blk w b t [a0, a1, a2, a3, a4]) : w.cell? ⟨b, 0, none⟩ = some a0 ∧ w.cell? ⟨b, 1, none⟩ = some a1 ∧ w.cell? ⟨b, 2, none⟩ = some a2 ∧ w.cell? ⟨b, 3, none⟩ = some a3 ∧ w.cell? ⟨b, 4, none⟩ = some a4 := ⟨h.cell 0, h.cell 1, h.cell 2, h.cell 3, h.cell 4⟩
theorem Blk.keep {w w' : World} {b n : Nat} {t : TypeId} {vals : List Value} (h : Blk w b t vals) (hb : Below n w w') (hn : b < n) : Blk w' b t vals := (hb.block b hn).trans h
set_option maxHeartbeats 4000000 in
set_option maxRecDepth 100000 in
theorem after_core (w : World) (B : Nat) (from' gives : Str) (op a b : Int) (type cls name : Str) (f : Frm) (f1 f2 : Value) (hf : FrameAt w f1 f2 f) (hl1 : f.locals.length ≤ 4194304) (hl2 : f.stack.length ≤ 4194304) (r1 r2 : Option (List Str × List Str))
    (hP : ∀ base wx sb lv sv, w.heap.size ≤ base → Below w.heap.size w wx → StepAt base wx sb B from' gives lv sv f.locals f.stack → Calls Tryz.prog 101 #[.pointer (some ⟨sb, 0, none⟩), .agg #[.int .i64 op, .int .i64 a, .int .i64 b, .string type, .string cls, .string name]] wx (StepPost base wx sb B from' gives (unitS r1)))
    (hH : ∀ L S, r1 = some (L, S) → ∀ base wx sb lv sv, w.heap.size ≤ base → Below w.heap.size w wx → StepAt base wx sb B from' gives lv sv L S → Calls Tryz.prog 102 #[.pointer (some ⟨sb, 0, none⟩), .agg #[.int .i64 op, .int .i64 a, .int .i64 b, .string type, .string cls, .string name]] wx (StepPost base wx sb B from' gives (unitS r2))) :
    Calls Tryz.prog 54 #[.map (some B), .string from', .string gives, .agg #[.int .i64 op, .int .i64 a, .int .i64 b, .string type, .string cls, .string name], .agg #[f1, f2]] w (AfterPost w (r1.bind fun _ => r2)) := by
  have hmf : ∀ (fn : Fn) (first cap : Array Value) (w : World), (Instr.makeFunc fn first cap).run Tryz.prog w = .ok (.func fn first cap) w := fun _ _ _ _ => rfl
  have HC1 : Hid (∀ wx, Below w.heap.size w wx → _) := fun wx hb => cloneStrs_any f.locals f1 wx (hf.1.mono hb) hl1
  have HC2 : Hid (∀ wx, Below w.heap.size w wx → _) := fun wx hb => cloneStrs_any f.stack f2 wx (hf.2.mono hb) hl2
  obtain ⟨p1, c1, rfl, _⟩ := hf.1.open
  obtain ⟨p2, c2, rfl, _⟩ := hf.2.open
  have HP := Lib.hid hP
  have HH := Lib.hid hH
  obtain ⟨w1, hw1⟩ : ∃ w1, w1 = (((w.alloc (.cells #[.int .i64 op, .int .i64 a, .int .i64 b, .string type, .string cls, .string name] 24)).alloc (.cells #[.slice p1 f.locals.length c1, .slice p2 f.stack.length c2] 27)).alloc (.cells #[.slice none 0 0, .slice none 0 0] 27)).alloc (.cells #[.bool false] 4) := ⟨_, rfl⟩
  have A1 : ∀ (wz : World) (o : Obj), Below wz.heap.size wz (wz.alloc o) := fun wz o => (Below.refl _ _).alloc (Nat.le_refl _) o
  have HB1 : Hid (Below w.heap.size w w1) := by rw [hw1]; exact below_call (below_call (below_call (A1 _ _) (Nat.le_refl _) (A1 _ _)) (Nat.le_refl _) (A1 _ _)) (Nat.le_refl _) (A1 _ _)
  have HS1 : Hid (w1.heap.size = w.heap.size + 1 + 1 + 1 + 1) := by rw [hw1]; simp [Hid]
  have HK0 : Hid (Blk w1 w.heap.size 24 [.int .i64 op, .int .i64 a, .int .i64 b, .string type, .string cls, .string name]) := by
    rw [hw1]
    exact (((Blk.new w 24 _).step (A1 _ _)).step (A1 _ _)).step (A1 _ _)
  have HK1 : Hid (Blk w1 (w.heap.size + 1) 27 [.slice p1 f.locals.length c1, .slice p2 f.stack.length c2]) := by
    rw [hw1]
    have := ((Blk.new (w.alloc (.cells #[.int .i64 op, .int .i64 a, .int .i64 b, .string type, .string cls, .string name] 24)) 27 [.slice p1 f.locals.length c1, .slice p2 f.stack.length c2]).step (A1 _ (.cells #[.slice none 0 0, .slice none 0 0] 27))).step (A1 _ (.cells #[.bool false] 4))
    unfold Hid
    simpa using this
  have HK2 : Hid (Blk w1 (w.heap.size + 1 + 1) 27 [.slice none 0 0, .slice none 0 0]) := by
    rw [hw1]
    have := (Blk.new ((w.alloc (.cells #[.int .i64 op, .int .i64 a, .int .i64 b, .string type, .string cls, .string name] 24)).alloc (.cells #[.slice p1 f.locals.length c1, .slice p2 f.stack.length c2] 27)) 27 [.slice none 0 0, .slice none 0 0]).step (A1 _ (.cells #[.bool false] 4))
    unfold Hid
    simpa using this
  have HK3 : Hid (Blk w1 (w.heap.size + 1 + 1 + 1) 4 [.bool false]) := by
    rw [hw1]
    have := Blk.new (((w.alloc (.cells #[.int .i64 op, .int .i64 a, .int .i64 b, .string type, .string cls, .string name] 24)).alloc (.cells #[.slice p1 f.locals.length c1, .slice p2 f.stack.length c2] 27)).alloc (.cells #[.slice none 0 0, .slice none 0 0] 27)) 4 [.bool false]
    unfold Hid
    simpa using this
  have HW := Lib.hid hw1.symm
  clear hf hl1 hl2 hP hH hw1 A1
  go_enter_defers Tryz.func54, Tryz.ntmps54
  go_upto_region 2 with (first | fail)
  rw [HW.out]
  obtain ⟨q0, q1⟩ := HK1.out.cells2
  have HD1 : Hid (∀ wx, Below w1.heap.size w1 wx → Calls Tryz.prog 100 #[.slice p1 f.locals.length c1] wx fun e w' => (∃ p k, e = .returned (.slice p f.locals.length k) ∧ w'.ownsRow wx.heap.size 9 1 (.slice p f.locals.length k) f.locals.length (f.locals.map Value.string) ∧ Below wx.heap.size wx w') ∧ Below w1.heap.size w1 w' ∧ w'.cell? ⟨w.heap.size + 1, 0, none⟩ = some (.slice p1 f.locals.length c1) ∧ w'.cell? ⟨w.heap.size + 1, 1, none⟩ = some (.slice p2 f.stack.length c2)) := fun wx hb =>
    (HC1.out wx (below_call HB1.out (Nat.le_refl _) hb)).mono fun e w' ⟨⟨v, he, hv⟩, hB⟩ => by
      obtain ⟨p, k, rfl⟩ := ownsRow_shape hv
      have hb' := below_call hb (Nat.le_refl _) hB
      obtain ⟨z0, z1⟩ := (HK1.out.step hb').cells2
      exact ⟨⟨p, k, he, hv, hB⟩, hb', z0, z1⟩
  have HD2 : Hid (∀ wx, Below w1.heap.size w1 wx → Calls Tryz.prog 100 #[.slice p2 f.stack.length c2] wx fun e w' => (∃ p k, e = .returned (.slice p f.stack.length k) ∧ w'.ownsRow wx.heap.size 9 1 (.slice p f.stack.length k) f.stack.length (f.stack.map Value.string) ∧ Below wx.heap.size wx w') ∧ Below w1.heap.size w1 w' ∧ w'.cell? ⟨w.heap.size + 1, 0, none⟩ = some (.slice p1 f.locals.length c1) ∧ w'.cell? ⟨w.heap.size + 1, 1, none⟩ = some (.slice p2 f.stack.length c2)) := fun wx hb =>
    (HC2.out wx (below_call HB1.out (Nat.le_refl _) hb)).mono fun e w' ⟨⟨v, he, hv⟩, hB⟩ => by
      obtain ⟨p, k, rfl⟩ := ownsRow_shape hv
      have hb' := below_call hb (Nat.le_refl _) hB
      obtain ⟨z0, z1⟩ := (HK1.out.step hb').cells2
      exact ⟨⟨p, k, he, hv, hB⟩, hb', z0, z1⟩
  have hBd := (Below.refl w1.heap.size w1).drew
  clear HC1 HC2
  go_region_held3 (fun w' => w'.cell? ⟨w.heap.size + 1, 0, none⟩ = some (.slice p1 f.locals.length c1) ∧ w'.cell? ⟨w.heap.size + 1, 1, none⟩ = some (.slice p2 f.stack.length c2)) (go_keep)
    (first
      | (go_at_call 100; (with_reducible refine (HD1.out _ ?_).mono ?_); (exact hBd); rintro e w4 ⟨⟨pa, ka, rfl, hv1, hBx1⟩, hB4, z0, z1⟩)
      | (go_at_call 100; (with_reducible refine (HD2.out _ ?_).mono ?_); (exact hB4); rintro e w5 ⟨⟨pb, kb, rfl, hv2, hBx2⟩, hB5, y0, y1⟩))
  all_goals
    have hSt := StepAt.made (base := w1.heap.size) (from' := from') (gives := gives) (B := B) hv1 hv2 hBx2 (by simp) hB4.size
    have hB6 : Below w1.heap.size w1 (w5.alloc (.cells #[.map (some B), .string from', .string gives, .slice pa f.locals.length ka, .slice pb f.stack.length kb] 155)) := hB5.alloc hB5.size _
    have HPx := Lib.hid (HP.out w1.heap.size _ _ _ _ HB1.out.size (below_call HB1.out (Nat.le_refl _) hB6) hSt)
    have hI6 := HK0.out.step hB6
    obtain ⟨i0, i1, i2, i3, i4, i5⟩ := hI6.cells6
    have H6 := Lib.hid hB6
    clear hSt hB6 hI6 hv1 hv2 hBx1 hBx2 hB4 hB5 z0 z1 y0 y1 q0 q1 hBd HD1 HD2
    rcases r1 with _ | ⟨L1, S1⟩
    · unfold unitS at HPx
      rw [Option.map_none] at HPx
      go_wp2_with (first
        | (go_at_call 101; (with_reducible refine HPx.out.mono ?_); rintro e w7 hP; obtain ⟨hB7, rfl⟩ := hP.no'))
      have H7 := H6.out.trans hB7
      have K2 := HK2.out.keep H7 (by have := HS1.out; omega)
      have K3 := HK3.out.keep H7 (by have := HS1.out; omega)
      refine leaves_cons (f := 99) (args := #[.pointer (some ⟨w.heap.size + 1 + 1, 0, none⟩), .pointer (some ⟨w.heap.size + 1 + 1 + 1, 0, none⟩)]) (by simp) (by simp [go_sem]) ?_
      refine (after1_caught _ _ w7 K2.lt K3.lt _ _ _ K2 K3 (by omega)).mono ?_
      rintro e u' w'' ⟨rfl, rfl, rfl⟩
      have AF := (Below.refl (((w7.setCell ⟨w.heap.size + 1 + 1, 0, none⟩ (.slice none 0 0)).setCell ⟨w.heap.size + 1 + 1, 1, none⟩ (.slice none 0 0)).setCell ⟨w.heap.size + 1 + 1 + 1, 0, none⟩ (.bool false)).heap.size (((w7.setCell ⟨w.heap.size + 1 + 1, 0, none⟩ (.slice none 0 0)).setCell ⟨w.heap.size + 1 + 1, 1, none⟩ (.slice none 0 0)).setCell ⟨w.heap.size + 1 + 1 + 1, 0, none⟩ (.bool false))).alloc (Nat.le_refl _) (.cells #[] 150)
      obtain ⟨c0, c1⟩ := ((((K2.put 0 (.slice none 0 0)).put 1 (.slice none 0 0)).other (b' := w.heap.size + 1 + 1 + 1) (by omega) 0 (.bool false)).step AF).cells2
      have c2 := ((((K3.other (b' := w.heap.size + 1 + 1) (by omega) 0 (.slice none 0 0)).other (b' := w.heap.size + 1 + 1) (by omega) 1 (.slice none 0 0)).put 0 (.bool false)).step AF).cell 0
      have BF := below_call (((below_call HB1.out (Nat.le_refl _) (H7.mono (Nat.le_refl _))).setCell (p := ⟨w.heap.size + 1 + 1, 0, none⟩) (by show _ ≤ w.heap.size + 1 + 1; omega) (.slice none 0 0)).setCell (p := ⟨w.heap.size + 1 + 1, 1, none⟩) (by show _ ≤ w.heap.size + 1 + 1; omega) (.slice none 0 0) |>.setCell (p := ⟨w.heap.size + 1 + 1 + 1, 0, none⟩) (by show _ ≤ w.heap.size + 1 + 1 + 1; omega) (.bool false)) (Nat.le_refl _) AF
      generalize ((((w7.setCell ⟨w.heap.size + 1 + 1, 0, none⟩ (.slice none 0 0)).setCell ⟨w.heap.size + 1 + 1, 1, none⟩ (.slice none 0 0)).setCell ⟨w.heap.size + 1 + 1 + 1, 0, none⟩ (.bool false)).alloc (.cells #[] 150)) = wf at *
      simp [Leaves, settle, results, Tryz.results54, go_sem, c0, c1, c2]
      exact ⟨BF, rfl⟩
    · unfold unitS at HPx
      rw [Option.map_some] at HPx
      go_upto_region 4 with (first
        | (go_at_call 101; (with_reducible refine HPx.out.mono ?_); rintro e w7 hP; obtain ⟨hB7, rfl, lv7, sv7, hSt7⟩ := hP.ok'))
      have H7 := H6.out.trans hB7
      have HHx := Lib.hid (HH.out L1 S1 rfl w1.heap.size _ _ _ _ HB1.out.size (below_call HB1.out (Nat.le_refl _) H7) hSt7)
      obtain ⟨j0, j1, j2, j3, j4, j5⟩ := (HK0.out.keep H7 (by have := HS1.out; omega)).cells6
      have H7' := Lib.hid H7
      clear H7 hB7 hSt7 i0 i1 i2 i3 i4 i5
      rcases r2 with _ | ⟨L2, S2⟩
      · unfold unitS at HHx
        rw [Option.map_none] at HHx
        go_wp2_with (first
          | (go_at_call 102; (with_reducible refine HHx.out.mono ?_); rintro e w8 hP; obtain ⟨hB8, rfl⟩ := hP.no'))
        have H8 := H7'.out.trans hB8
        have K2 := HK2.out.keep H8 (by have := HS1.out; omega)
        have K3 := HK3.out.keep H8 (by have := HS1.out; omega)
        refine leaves_cons (f := 99) (args := #[.pointer (some ⟨w.heap.size + 1 + 1, 0, none⟩), .pointer (some ⟨w.heap.size + 1 + 1 + 1, 0, none⟩)]) (by simp) (by simp [go_sem]) ?_
        refine (after1_caught _ _ w8 K2.lt K3.lt _ _ _ K2 K3 (by omega)).mono ?_
        rintro e u' w'' ⟨rfl, rfl, rfl⟩
        have AF := (Below.refl (((w8.setCell ⟨w.heap.size + 1 + 1, 0, none⟩ (.slice none 0 0)).setCell ⟨w.heap.size + 1 + 1, 1, none⟩ (.slice none 0 0)).setCell ⟨w.heap.size + 1 + 1 + 1, 0, none⟩ (.bool false)).heap.size (((w8.setCell ⟨w.heap.size + 1 + 1, 0, none⟩ (.slice none 0 0)).setCell ⟨w.heap.size + 1 + 1, 1, none⟩ (.slice none 0 0)).setCell ⟨w.heap.size + 1 + 1 + 1, 0, none⟩ (.bool false))).alloc (Nat.le_refl _) (.cells #[] 150)
        obtain ⟨c0, c1⟩ := ((((K2.put 0 (.slice none 0 0)).put 1 (.slice none 0 0)).other (b' := w.heap.size + 1 + 1 + 1) (by omega) 0 (.bool false)).step AF).cells2
        have c2 := ((((K3.other (b' := w.heap.size + 1 + 1) (by omega) 0 (.slice none 0 0)).other (b' := w.heap.size + 1 + 1) (by omega) 1 (.slice none 0 0)).put 0 (.bool false)).step AF).cell 0
        have BF := below_call (((below_call HB1.out (Nat.le_refl _) (H8.mono (Nat.le_refl _))).setCell (p := ⟨w.heap.size + 1 + 1, 0, none⟩) (by show _ ≤ w.heap.size + 1 + 1; omega) (.slice none 0 0)).setCell (p := ⟨w.heap.size + 1 + 1, 1, none⟩) (by show _ ≤ w.heap.size + 1 + 1; omega) (.slice none 0 0) |>.setCell (p := ⟨w.heap.size + 1 + 1 + 1, 0, none⟩) (by show _ ≤ w.heap.size + 1 + 1 + 1; omega) (.bool false)) (Nat.le_refl _) AF
        generalize ((((w8.setCell ⟨w.heap.size + 1 + 1, 0, none⟩ (.slice none 0 0)).setCell ⟨w.heap.size + 1 + 1, 1, none⟩ (.slice none 0 0)).setCell ⟨w.heap.size + 1 + 1 + 1, 0, none⟩ (.bool false)).alloc (.cells #[] 150)) = wf at *
        simp [Leaves, settle, results, Tryz.results54, go_sem, c0, c1, c2]
        exact ⟨BF, rfl⟩
      · unfold unitS at HHx
        rw [Option.map_some] at HHx
        go_upto_region 5 with (first
          | (go_at_call 102; (with_reducible refine HHx.out.mono ?_); rintro e w8 hP; obtain ⟨hB8, rfl, lv8, sv8, hSt8⟩ := hP.ok'))
        have H8 := H7'.out.trans hB8
        have K2 := HK2.out.keep H8 (by have := HS1.out; omega)
        have K3 := HK3.out.keep H8 (by have := HS1.out; omega)
        obtain ⟨k20, k21⟩ := K2.cells2
        have k30 := K3.cell 0
        have f20 := K2.frozen 0
        have f21 := K2.frozen 1
        have f30 := K3.frozen 0
        obtain ⟨lp, lc, rfl⟩ := ownsRow_shape hSt8.locals
        obtain ⟨sp, sc, rfl⟩ := ownsRow_shape hSt8.stack
        obtain ⟨b0, b1, b2, b3, b4⟩ := hSt8.blk.cells5
        have O1 := ownsRow_setCell_below (ownsRow_setCell_below (ownsRow_setCell_below hSt8.locals (a := ⟨w.heap.size + 1 + 1, 0, none⟩) (by show w.heap.size + 1 + 1 < _; have := HS1.out; omega) (.slice lp L2.length lc)) (a := ⟨w.heap.size + 1 + 1, 1, none⟩) (by show w.heap.size + 1 + 1 < _; have := HS1.out; omega) (.slice sp S2.length sc)) (a := ⟨w.heap.size + 1 + 1 + 1, 0, none⟩) (by show w.heap.size + 1 + 1 + 1 < _; have := HS1.out; omega) (.bool true)
        have O2 := ownsRow_setCell_below (ownsRow_setCell_below (ownsRow_setCell_below hSt8.stack (a := ⟨w.heap.size + 1 + 1, 0, none⟩) (by show w.heap.size + 1 + 1 < _; have := HS1.out; omega) (.slice lp L2.length lc)) (a := ⟨w.heap.size + 1 + 1, 1, none⟩) (by show w.heap.size + 1 + 1 < _; have := HS1.out; omega) (.slice sp S2.length sc)) (a := ⟨w.heap.size + 1 + 1 + 1, 0, none⟩) (by show w.heap.size + 1 + 1 + 1 < _; have := HS1.out; omega) (.bool true)
        obtain ⟨c0, c1⟩ := ((K2.put 0 (.slice lp L2.length lc)).put 1 (.slice sp S2.length sc)).other (b' := w.heap.size + 1 + 1 + 1) (by omega) 0 (.bool true) |>.cells2
        have c2 := (((K3.other (b' := w.heap.size + 1 + 1) (by omega) 0 (.slice lp L2.length lc)).other (b' := w.heap.size + 1 + 1) (by omega) 1 (.slice sp S2.length sc)).put 0 (.bool true)).cell 0
        have BF := ((below_call HB1.out (Nat.le_refl _) (H8.mono (Nat.le_refl _))).setCell (p := ⟨w.heap.size + 1 + 1, 0, none⟩) (by show _ ≤ w.heap.size + 1 + 1; omega) (.slice lp L2.length lc)).setCell (p := ⟨w.heap.size + 1 + 1, 1, none⟩) (by show _ ≤ w.heap.size + 1 + 1; omega) (.slice sp S2.length sc) |>.setCell (p := ⟨w.heap.size + 1 + 1 + 1, 0, none⟩) (by show _ ≤ w.heap.size + 1 + 1 + 1; omega) (.bool true)
        have HF := Lib.hid (And.intro BF (And.intro O1 O2))
        have HCs := Lib.hid (And.intro c0 (And.intro c1 c2))
        clear hSt8 hB8 H8 K2 K3 O1 O2 c0 c1 c2 BF
        go_wp2_with (first | fail)
        refine leaves_cons (f := 99) (args := #[.pointer (some ⟨w.heap.size + 1 + 1, 0, none⟩), .pointer (some ⟨w.heap.size + 1 + 1 + 1, 0, none⟩)]) (by simp) (by simp [go_sem]) ?_
        refine (after1_idle _ _ _).mono ?_
        rintro e u' w'' ⟨rfl, rfl, rfl⟩
        obtain ⟨c0, c1, c2⟩ := HCs.out
        obtain ⟨BF, O1, O2⟩ := HF.out
        generalize (((w8.setCell ⟨w.heap.size + 1 + 1, 0, none⟩ (.slice lp L2.length lc)).setCell ⟨w.heap.size + 1 + 1, 1, none⟩ (.slice sp S2.length sc)).setCell ⟨w.heap.size + 1 + 1 + 1, 0, none⟩ (.bool true)) = wf at *
        simp [Leaves, settle, results, Tryz.results54, go_sem, c0, c1, c2]
        exact ⟨BF, _, _, rfl, strsAt_of_owns O1, strsAt_of_owns O2⟩
end Go.Proofs.YtlmfmioljeppfaaGreatDoor
namespace Go.Proofs.YtlmfmioljeppfaaGreatDoor
open Go.RowKit Go.Shelf Go.Lib
def StepRes (w : World) (n : Nat) (r : Option (List Str × List Str)) (e : Ending) (w' : World) : Prop :=
  Below w.heap.size w w' ∧ ((n = 0 ∧ ∃ L S v1 v2, r = some (L, S) ∧ e = .returned (.tuple #[.agg #[v1, v2], .nilIface]) ∧ FrameAt w' v1 v2 ⟨L, S⟩) ∨ (n ≠ 0 ∧ e = .returned (.tuple #[.agg #[.slice none 0 0, .slice none 0 0], .iface 29 (.int .i64 n)])))
theorem StepRes.no {w w' : World} {n : Nat} {r : Option (List Str × List Str)} (hB : Below w.heap.size w w') (h : n ≠ 0) : StepRes w n r (.returned (.tuple #[.agg #[.slice none 0 0, .slice none 0 0], .iface 29 (.int .i64 n)])) w' := ⟨hB, Or.inr ⟨h, rfl⟩⟩
end Go.Proofs.YtlmfmioljeppfaaGreatDoor
namespace Go.Proofs.YtlmfmioljeppfaaGreatDoor
open Go.RowKit Go.Shelf Go.Lib
end Go.Proofs.YtlmfmioljeppfaaGreatDoor
