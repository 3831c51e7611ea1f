/-
  PLAIN LAW: the slots of a class: a table of methods, those of what it extends first.
  PLAIN LAW: tables of methods, as the program fills them and as the reference fills them; the method that is called.
  WALK over the stepper's field. Conditions: as in PlainOps; the class's name is of at most 1048576 signs.
  WALK over right.Found. Conditions: as in XRead; texts of at most maxLen signs.
  WALK over desc.Method: its arguments lie in a row of the call's own. Conditions: texts of at most 1048576 signs.
  WALK over the stepper's call (printed by wip/tools/gen_call.py). Conditions: as in PlainOps; the instruction's texts are of at most 1048576 signs.
-/
import Derived.Test.YtlmfmioljeppfaaGreatDoorLayLaw
import Derived.Test.YtlmfmioljeppfaaGreatDoorPlainly
import Derived.Test.YtlmfmioljeppfaaGreatDoorFind
import Derived.Test.YtlmfmioljeppfaaGreatDoorFrameOps
import Derived.Test.YtlmfmioljeppfaaGreatDoorMethodText
import Derived.Deep.RegionHeld3
namespace Go.Proofs.YtlmfmioljeppfaaGreatDoor
open Go.RowKit Go.Shelf Go.Lib
structure Slot where
  name : Str
  type : Str
  cls : Str
  deriving DecidableEq
structure Extends (c : Str) (a b : List Slot) : Prop where
  len : a.length ≤ b.length
  same : ∀ i (h1 : i < a.length) (h2 : i < b.length), b[i].name = a[i].name ∧ b[i].type = a[i].type ∧ (b[i].cls = a[i].cls ∨ b[i].cls = c)
  new : ∀ i (h : i < b.length), a.length ≤ i → b[i].cls = c
theorem Extends.refl (c : Str) (a : List Slot) : Extends c a a := ⟨Nat.le_refl _, fun _ _ _ => ⟨rfl, rfl, Or.inl rfl⟩, fun i h1 h2 => by omega⟩
theorem Extends.trans {c : Str} {x y z : List Slot} (h : Extends c x y) (g : Extends c y z) : Extends c x z := by
  refine ⟨Nat.le_trans h.len g.len, fun i h1 h2 => ?_, fun i h1 h2 => ?_⟩
  · have hy : i < y.length := by have := h.len; omega
    obtain ⟨a1, a2, a3⟩ := h.same i h1 hy
    obtain ⟨b1, b2, b3⟩ := g.same i hy h2
    refine ⟨b1.trans a1, b2.trans a2, ?_⟩
    rcases b3 with b3 | b3
    · rcases a3 with a3 | a3
      · exact Or.inl (b3.trans a3)
      · exact Or.inr (b3.trans a3)
    · exact Or.inr b3
  · by_cases hy : i < y.length
    · obtain ⟨_, _, b3⟩ := g.same i hy h1
      rcases b3 with b3 | b3
      · rw [b3]; exact h.new i hy h2
      · exact b3
    · exact g.new i h1 (by omega)
end Go.Proofs.YtlmfmioljeppfaaGreatDoor
namespace Go.Proofs.YtlmfmioljeppfaaGreatDoor
open Go.RowKit Go.Shelf Go.Lib
def callFault (cs : List Class) (src c n t : Str) (static : Bool) : Nat :=
  if (findC cs c).isNone then 3
  else match methodC cs c n t with
    | none => 3
    | some (d, m) => if (findC cs src).isNone then 3 else if m.static ≠ static then 7 else if m.priv && decide (d ≠ src) then 9 else 0
end Go.Proofs.YtlmfmioljeppfaaGreatDoor
namespace Go.Proofs.YtlmfmioljeppfaaGreatDoor
open Go.RowKit Go.Shelf Go.Lib
theorem fieldIn_mem {n : Str} : ∀ {l : List Field} {f : Field}, fieldIn n l = some f → f ∈ l
  | x :: r, f, h => by
    unfold fieldIn at h
    split at h
    · injection h with h
      subst h
      simp
    · exact List.mem_cons_of_mem _ (fieldIn_mem h)
theorem fieldGo_mem {cs : List Class} {n : Str} : ∀ {ls : List Str} {x : Str} {f : Field}, fieldGo cs n ls = some (x, f) → f ∈ (classC cs x).fields
  | c :: r, x, f, h => by
    unfold fieldGo at h
    cases hq : fieldIn n (classC cs c).fields with
    | none =>
      rw [hq] at h
      exact fieldGo_mem h
    | some g =>
      rw [hq] at h
      injection h with h
      injection h with h1 h2
      subst h1 h2
      exact fieldIn_mem hq
theorem thing_known {cs : List Class} {c : Str} (h : kindR cs (thText c) = 0) : (findC cs c).isSome = true := by
  obtain ⟨X, hX, hg⟩ := kind_of h
  rw [lst_th] at hX
  have hX' : X = .ty (.cl c) := kdText_inj hX
  subst hX'
  exact hg
theorem StepAt.aside {base : Nat} {w : World} {sb B b : Nat} {from' gives : Str} {lv sv : Value} {L S : List Str} (h : StepAt base w sb B from' gives lv sv L S) (hb : Apart sb lv sv b) (j : Nat) (u : Value) : StepAt base (w.setCell ⟨b, j, none⟩ u) sb B from' gives lv sv L S :=
  ⟨(heap_setCell_other w ⟨b, j, none⟩ sb u (fun e => hb.1 e.symm)).trans h.blk, owns_far h.locals hb.2.1 j u, owns_far h.stack hb.2.2 j u, h.apart, h.lfar, h.sfar, h.low⟩
theorem SA.aside {w0 w : World} {B : Nat} {l : List Class} {base : Nat} {ws : World} {lv0 sv0 : Value} {sb : Nat} {from' gives : Str} {xb : Nat} {xv : List Value} {wx : World} {lv sv : Value} {L S : List Str} (T : SA w0 w B l base ws lv0 sv0 sb from' gives xb xv wx lv sv L S) {b : Nat} (hb : ws.heap.size ≤ b) (hbb : base ≤ b) (hx : b ≠ xb) (ha : Apart sb lv sv b) (j : Nat) (u : Value) : SA w0 w B l base ws lv0 sv0 sb from' gives xb xv (wx.setCell ⟨b, j, none⟩ u) lv sv L S :=
  ⟨⟨T.env.map0, T.env.le, T.env.below.setCell (p := ⟨b, j, none⟩) (Nat.le_trans T.env.le hbb) u⟩, T.step.aside ha j u, T.box.other (fun e => hx e.symm) j u, T.apart, T.below.setCell (p := ⟨b, j, none⟩) hbb u, ⟨T.kp.1, fun g hg hga => ⟨(heap_setCell_other wx ⟨b, j, none⟩ g u (by show g ≠ b; omega)).trans (T.kp.2 g hg hga).1, (T.kp.2 g hg hga).2⟩⟩⟩
theorem cell2_other {w : World} {a : Addr} {b : Nat} (h : a.block ≠ b) (u v : Value) : ((w.setCell ⟨b, 0, none⟩ u).setCell ⟨b, 1, none⟩ v).cell? a = w.cell? a := World.cell?_of_block (by rw [heap_setCell_other _ _ _ _ h, heap_setCell_other _ _ _ _ h])
def fieldF (cs : List Class) (c n : Str) : Option Str :=
  if kindR cs (thText c) ≠ 0 then none else match fieldC cs c n with
    | none => none
    | some (_, f) => if kindR cs f.type = 0 then some f.type else none
set_option maxHeartbeats 2000000 in
set_option maxRecDepth 100000 in
theorem field_any (w0 w : World) (B : Nat) (l : List Class) (base : Nat) (ws : World) (hE : Env w0 w B l base ws) (sb : Nat) (from' gives : Str) (lv sv : Value) (L S : List Str) (h : StepAt base ws sb B from' gives lv sv L S) (op a b : Int) (type cls name : Str) (hc : cls.size ≤ 1048576) :
    Calls Tryz.prog 144 #[.pointer (some ⟨sb, 0, none⟩), .agg #[.int .i64 op, .int .i64 a, .int .i64 b, .string type, .string cls, .string name]] ws (StepRun base ws sb B from' gives lv sv ((fieldF (allC l) cls name).map fun t => (.string t, L, S))) := by
  have T0 : SA w0 w B l base ws lv sv sb from' gives ws.heap.size [.int .i64 op, .int .i64 a, .int .i64 b, .string type, .string cls, .string name] (ws.alloc (.cells #[.int .i64 op, .int .i64 a, .int .i64 b, .string type, .string cls, .string name] 24)) lv sv L S := SA.new hE h _
  obtain ⟨i0, i1, i2, i3, i4, i5⟩ := T0.cells
  have HT : Hid (∀ wx, _) := fun wx => need_true wx
  have HF : Hid (∀ wx, _) := fun wx => need_false wx
  have HTh : Hid (∀ wx, _) := fun wx => thing_any cls wx (Nat.le_trans hc (by decide))
  have hsz : (thText cls).size ≤ maxLen := by rw [th_size]; exact Nat.le_trans (Nat.add_le_add_right hc 2) (by decide)
  have HRg := Lib.hid hE.map0.faults
  obtain ⟨res, hres⟩ : ∃ r, (fieldF (allC l) cls name).map (fun t => ((.string t : Value), L, S)) = r := ⟨_, rfl⟩
  have HR := Lib.hid hres
  rw [hres]
  clear hres
  unfold fieldF at HR
  clear h hE
  by_cases hk : kindR (allC l) (thText cls) = 0
  · rw [if_neg (by rw [hk]; decide)] at HR
    have HKn := Lib.hid (thing_known hk)
    go_enter Tryz.func144, Tryz.ntmps144
    go_upto_region 2 with (first
      | (go_at_call 142; (with_reducible refine (HTh.out _).mono ?_); rintro e wq ⟨rfl, rfl⟩)
      | (go_at_call 143; (with_reducible refine (T0.knowsY (thText cls) hsz hk).mono ?_); rintro e w1 hP; obtain ⟨hB1, rfl, lv1, sv1, hS1, hk1⟩ := hP.ok'))
    obtain rfl := hk1.1
    have T1 := T0.next hB1 hS1 hk1
    obtain ⟨i0, i1, i2, i3, i4, i5⟩ := T1.cells
    have q0 : w1.cell? ⟨sb, 0, none⟩ = some (.map (some B)) := T1.step.blk.cell 0
    have HT1 := Lib.hid T1
    have HFO : Hid (∀ wx, Below w1.heap.size w1 wx → Calls Tryz.prog 186 #[.map (some B), .string cls, .string name] wx fun e w' => e = .returned (fieldV (fieldC (allC l) cls name)) ∧ Below wx.heap.size wx w' ∧ Below w1.heap.size w1 w' ∧ w'.cell? ⟨sb, 0, none⟩ = some (.map (some B)) ∧ w'.cell? ⟨ws.heap.size, 4, none⟩ = some (.string cls) ∧ w'.cell? ⟨ws.heap.size, 5, none⟩ = some (.string name)) := fun wx hb =>
      (fieldOf_any w0 wx B l (HT1.out.over hb).env.map cls name HKn.out).mono fun e w' ⟨he, hB⟩ => by
        have hb' := below_call hb (Nat.le_refl _) hB
        have T2 := HT1.out.over hb'
        obtain ⟨_, _, _, _, k4, k5⟩ := T2.cells
        exact ⟨he, hB, hb', T2.step.blk.cell 0, k4, k5⟩
    have hw1 := T1.step.blk.lt
    have hbs := T1.step.low
    have hsz1 := T1.box.lt
    clear T0 T1 hB1 hS1 hk1 hP
    cases hf : fieldC (allC l) cls name with
    | none =>
      rw [hf] at HR HFO
      unfold fieldV at HFO
      go_region_held3 (fun w' => w'.cell? ⟨sb, 0, none⟩ = some (.map (some B)) ∧ w'.cell? ⟨ws.heap.size, 4, none⟩ = some (.string cls) ∧ w'.cell? ⟨ws.heap.size, 5, none⟩ = some (.string name)) (first | go_keep | exact ⟨(cell2_other (a := ⟨sb, 0, none⟩) (Nat.ne_of_lt hw1) _ _).trans k0, (cell2_other (a := ⟨ws.heap.size, 4, none⟩) (Nat.ne_of_lt hsz1) _ _).trans k4, (cell2_other (a := ⟨ws.heap.size, 5, none⟩) (Nat.ne_of_lt hsz1) _ _).trans k5⟩)
        (first
          | (go_at_call 186; (with_reducible refine (HFO.out _ ?_).mono ?_); (first | exact (Below.refl _ _).drew | exact ((Below.refl _ _).alloc (Nat.le_refl _) _).drew); rintro e w2 ⟨rfl, hB2, hB12, k0, k4, k5⟩; (first | (have KB : Blk w2 w1.heap.size 130 [.string ⟨#[]⟩, .string ⟨#[]⟩] := Blk.step (w := (w1.alloc (.cells #[.string ⟨#[]⟩, .string ⟨#[]⟩] 130)).drew) (Blk.new w1 130 [.string ⟨#[]⟩, .string ⟨#[]⟩]) hB2; obtain ⟨x0, x1⟩ := KB.cells2; (have f0 := KB.frozen 0); (have f1 := KB.frozen 1)) | skip)))
      · have Tw := (HT1.out.over hB12).alloc (.cells #[.string ⟨#[]⟩, .string ⟨#[]⟩] 130)
        generalize (w2.alloc (.cells #[.string ⟨#[]⟩, .string ⟨#[]⟩] 130)) = W at *
        have HTw := Lib.hid Tw
        clear Tw k0 k4 k5 i0 i1 i2 i3 i4 i5 q0
        go_wp2_with (first
          | (go_at_call 137; (with_reducible refine (HF.out _).mono ?_); rintro e wq ⟨rfl, rfl⟩))
        exact And.intro rfl (HTw.out.stop (Below.refl _ _) HR.out.symm)
      · have Tw := ((HT1.out.over hB12).aside (b := w1.heap.size) (Nat.le_of_lt hsz1) (Nat.le_trans hbs (Nat.le_of_lt hw1)) (Nat.ne_of_gt hsz1) (HT1.out.step.fresh (Nat.le_refl _)) 0 (.string ⟨#[]⟩)).aside (b := w1.heap.size) (Nat.le_of_lt hsz1) (Nat.le_trans hbs (Nat.le_of_lt hw1)) (Nat.ne_of_gt hsz1) (HT1.out.step.fresh (Nat.le_refl _)) 1 (.string ⟨#[]⟩)
        generalize ((w2.setCell ⟨w1.heap.size, 0, none⟩ (.string ⟨#[]⟩)).setCell ⟨w1.heap.size, 1, none⟩ (.string ⟨#[]⟩)) = W at *
        have HTw := Lib.hid Tw
        clear Tw k0 k4 k5 i0 i1 i2 i3 i4 i5 q0
        go_wp2_with (first
          | (go_at_call 137; (with_reducible refine (HF.out _).mono ?_); rintro e wq ⟨rfl, rfl⟩))
        exact And.intro rfl (HTw.out.stop (Below.refl _ _) HR.out.symm)
    | some p =>
      obtain ⟨c, f⟩ := p
      have hfs : f.type.size ≤ maxLen := by
        obtain ⟨y, hy⟩ := ty_of_type (class_fields_type HRg.out c f (fieldGo_mem hf))
        exact hy.size
      rw [hf] at HR HFO
      unfold fieldV at HFO
      dsimp only at HR
      go_region_held3 (fun w' => w'.cell? ⟨sb, 0, none⟩ = some (.map (some B)) ∧ w'.cell? ⟨ws.heap.size, 4, none⟩ = some (.string cls) ∧ w'.cell? ⟨ws.heap.size, 5, none⟩ = some (.string name)) (first | go_keep | exact ⟨(cell2_other (a := ⟨sb, 0, none⟩) (Nat.ne_of_lt hw1) _ _).trans k0, (cell2_other (a := ⟨ws.heap.size, 4, none⟩) (Nat.ne_of_lt hsz1) _ _).trans k4, (cell2_other (a := ⟨ws.heap.size, 5, none⟩) (Nat.ne_of_lt hsz1) _ _).trans k5⟩)
        (first
          | (go_at_call 186; (with_reducible refine (HFO.out _ ?_).mono ?_); (first | exact (Below.refl _ _).drew | exact ((Below.refl _ _).alloc (Nat.le_refl _) _).drew); rintro e w2 ⟨rfl, hB2, hB12, k0, k4, k5⟩; (first | (have KB : Blk w2 w1.heap.size 130 [.string ⟨#[]⟩, .string ⟨#[]⟩] := Blk.step (w := (w1.alloc (.cells #[.string ⟨#[]⟩, .string ⟨#[]⟩] 130)).drew) (Blk.new w1 130 [.string ⟨#[]⟩, .string ⟨#[]⟩]) hB2; obtain ⟨x0, x1⟩ := KB.cells2; (have f0 := KB.frozen 0); (have f1 := KB.frozen 1)) | skip)))
      · have Tw := (HT1.out.over hB12).alloc (.cells #[.string f.name, .string f.type] 130)
        have KW : Blk (w2.alloc (.cells #[.string f.name, .string f.type] 130)) w2.heap.size 130 [.string f.name, .string f.type] := Blk.new w2 130 [.string f.name, .string f.type]
        have hAp : Apart sb lv1 sv1 w2.heap.size := (HT1.out.over hB12).step.fresh (Nat.le_refl _)
        generalize (w2.alloc (.cells #[.string f.name, .string f.type] 130)) = W at *
        obtain ⟨y0, y1⟩ := KW.cells2
        have HTw := Lib.hid Tw
        have HKW := Lib.hid KW
        clear Tw KW k0 k4 k5 i0 i1 i2 i3 i4 i5 q0
        by_cases hkf : kindR (allC l) f.type = 0
        · rw [if_pos hkf] at HR
          go_wp2_with (first
            | (go_at_call 137; (with_reducible refine (HT.out _).mono ?_); rintro e wq ⟨rfl, rfl⟩)
            | (go_at_call 143; (with_reducible refine (HTw.out.knowsY f.type hfs hkf).mono ?_); rintro e w3 hP; obtain ⟨hB3, rfl, lv3, sv3, hS3, hk3⟩ := hP.ok'; (have T3 := HTw.out.next hB3 hS3 hk3); obtain ⟨x0, x1⟩ := (hk3.blk HKW.out hAp).cells2))
          go_ret
          exact T3.done HR.out.symm
        · rw [if_neg hkf] at HR
          go_wp2_with (first
            | (go_at_call 137; (with_reducible refine (HT.out _).mono ?_); rintro e wq ⟨rfl, rfl⟩)
            | (go_at_call 143; (with_reducible refine (HTw.out.knowsN f.type hfs hkf).mono ?_); rintro e w3 hP; obtain ⟨hB3, rfl⟩ := hP.no'))
          exact And.intro rfl (HTw.out.stop hB3 HR.out.symm)
      · have Tw := ((HT1.out.over hB12).aside (b := w1.heap.size) (Nat.le_of_lt hsz1) (Nat.le_trans hbs (Nat.le_of_lt hw1)) (Nat.ne_of_gt hsz1) (HT1.out.step.fresh (Nat.le_refl _)) 0 (.string f.name)).aside (b := w1.heap.size) (Nat.le_of_lt hsz1) (Nat.le_trans hbs (Nat.le_of_lt hw1)) (Nat.ne_of_gt hsz1) (HT1.out.step.fresh (Nat.le_refl _)) 1 (.string f.type)
        have KW : Blk ((w2.setCell ⟨w1.heap.size, 0, none⟩ (.string f.name)).setCell ⟨w1.heap.size, 1, none⟩ (.string f.type)) w1.heap.size 130 [.string f.name, .string f.type] := KB.put2 _ _
        have hAp : Apart sb lv1 sv1 w1.heap.size := HT1.out.step.fresh (Nat.le_refl _)
        generalize ((w2.setCell ⟨w1.heap.size, 0, none⟩ (.string f.name)).setCell ⟨w1.heap.size, 1, none⟩ (.string f.type)) = W at *
        obtain ⟨y0, y1⟩ := KW.cells2
        have HTw := Lib.hid Tw
        have HKW := Lib.hid KW
        clear Tw KW k0 k4 k5 i0 i1 i2 i3 i4 i5 q0
        by_cases hkf : kindR (allC l) f.type = 0
        · rw [if_pos hkf] at HR
          go_wp2_with (first
            | (go_at_call 137; (with_reducible refine (HT.out _).mono ?_); rintro e wq ⟨rfl, rfl⟩)
            | (go_at_call 143; (with_reducible refine (HTw.out.knowsY f.type hfs hkf).mono ?_); rintro e w3 hP; obtain ⟨hB3, rfl, lv3, sv3, hS3, hk3⟩ := hP.ok'; (have T3 := HTw.out.next hB3 hS3 hk3); obtain ⟨x0, x1⟩ := (hk3.blk HKW.out hAp).cells2))
          go_ret
          exact T3.done HR.out.symm
        · rw [if_neg hkf] at HR
          go_wp2_with (first
            | (go_at_call 137; (with_reducible refine (HT.out _).mono ?_); rintro e wq ⟨rfl, rfl⟩)
            | (go_at_call 143; (with_reducible refine (HTw.out.knowsN f.type hfs hkf).mono ?_); rintro e w3 hP; obtain ⟨hB3, rfl⟩ := hP.no'))
          exact And.intro rfl (HTw.out.stop hB3 HR.out.symm)
  · rw [if_pos hk] at HR
    go_enter Tryz.func144, Tryz.ntmps144
    go_wp2_with (first
      | (go_at_call 142; (with_reducible refine (HTh.out _).mono ?_); rintro e wq ⟨rfl, rfl⟩)
      | (go_at_call 143; (with_reducible refine (T0.knowsN (thText cls) hsz hk).mono ?_); rintro e w1 hP; obtain ⟨hB1, rfl⟩ := hP.no'))
    exact And.intro rfl (T0.stop hB1 HR.out.symm)
end Go.Proofs.YtlmfmioljeppfaaGreatDoor
namespace Go.Proofs.YtlmfmioljeppfaaGreatDoor
open Go.RowKit Go.Shelf Go.Lib
def MethodAny (v : Value) : Prop := ∃ a b c d e n p1 n1 k1 p2 n2 k2, v = .agg #[.string a, .string b, .bool c, .bool d, .bool e, .int .i64 n, .slice p1 n1 k1, .slice p2 n2 k2]
def FoundPost (w : World) (f : Nat) (e : Ending) (w' : World) : Prop := (∃ s v, e = .returned (.tuple #[.string s, v, errV f]) ∧ MethodAny v) ∧ Below w.heap.size w w'
def rightF (o : Option (Str × Method)) (iss : Bool) (src : Str) (static : Bool) : Nat :=
  match o with
  | none => 3
  | some (d, m) => if (!iss) = true then 3 else if m.static ≠ static then 7 else if m.priv && decide (d ≠ src) then 9 else 0
theorem rightF_some (d : Str) (m : Method) (iss : Bool) (src : Str) (static : Bool) : rightF (some (d, m)) iss src static = if iss = false then 3 else if (m.static == static) = false then 7 else if (m.priv && !decide (d = src)) = true then 9 else 0 := by
  unfold rightF
  cases iss with
  | false => rfl
  | true =>
    obtain ⟨p, hp⟩ : ∃ p, m.priv = p := ⟨_, rfl⟩
    cases p <;> by_cases h1 : m.static = static <;> by_cases h2 : d = src <;> simp [h1, h2, hp]
theorem callFault_is (cs : List Class) (src c n t : Str) (static : Bool) : callFault cs src c n t static = if (!(findC cs c).isSome) = true then 3 else rightF (methodC cs c n t) (findC cs src).isSome src static := by
  unfold callFault rightF
  cases findC cs c <;> cases findC cs src <;> cases methodC cs c n t <;> rfl
set_option maxHeartbeats 4000000 in
set_option maxRecDepth 100000 in
theorem found_any (w0 w : World) (B : Nat) (l : List Class) (hm : WorldMap w0 w B l) (src c n t : Str) (static : Bool) (hsc : c.size ≤ maxLen) (hss : src.size ≤ maxLen) :
    Calls Tryz.prog 188 #[.map (some B), .string src, .string c, .string n, .string t, .bool static] w (FoundPost w (callFault (allC l) src c n t static)) := by
  obtain ⟨p1, k1, p2, k2, p3, k3, _, _, _, hlk⟩ := hm.map.look3 hm.right.nodup c hsc
  obtain ⟨p4, k4, p5, k5, p6, k6, _, _, _, hls⟩ := hm.map.look3 hm.right.nodup src hss
  have hB1 : Below w.heap.size w (w.alloc (.cells #[.string ⟨#[]⟩, .string ⟨#[]⟩, .bool false, .bool false, .bool false, .int .i64 0, .slice none 0 0, .slice none 0 0] 53)) := (Below.refl _ _).alloc (Nat.le_refl _) _
  have hlk1 := (hlk _ hB1).1
  have HMO : Hid ((findC (allC l) c).isSome = true → ∀ wx, Below w.heap.size w wx → _) := fun hk wx hb => methodOf_any w0 wx B l (hm.step hb) c n t hk
  unfold MethodPost3 at HMO
  have HLs := Lib.hid hls
  have hblk : Blk (w.alloc (.cells #[.string ⟨#[]⟩, .string ⟨#[]⟩, .bool false, .bool false, .bool false, .int .i64 0, .slice none 0 0, .slice none 0 0] 53)) w.heap.size 53 zMethod := Blk.new w _ zMethod
  have HCF := Lib.hid (callFault_is (allC l) src c n t static)
  unfold FoundPost
  clear hm hsc hss hlk hls
  generalize callFault (allC l) src c n t static = f at *
  generalize (findC (allC l) c).isSome = isc at *
  generalize (findC (allC l) src).isSome = iss at *
  generalize (findC (allC l) c).getD noClass = dc at *
  generalize (findC (allC l) src).getD noClass = ds at *
  generalize methodC (allC l) c n t = o at *
  obtain ⟨n2, s2, f2, b2, d2, m2⟩ := dc
  obtain ⟨n3, s3, f3, b3, d3, m3⟩ := ds
  unfold classV at hlk1 HLs
  dsimp only at hlk1 HLs
  have hBc := (hB1.alloc hB1.size (.cells #[.string n2, .string s2, .slice p1 f2.length k1, .bool b2, .slice p2 d2.length k2, .slice p3 m2.length k3] 36))
  have hblc := hblk.step ((Below.refl _ _).alloc (Nat.le_refl _) (.cells #[.string n2, .string s2, .slice p1 f2.length k1, .bool b2, .slice p2 d2.length k2, .slice p3 m2.length k3] 36))
  cases isc with
  | false =>
    have hf : f = 3 := HCF.out
    subst hf
    obtain ⟨q0, q1, q2, q3, q4, q5, q6, q7⟩ := hblk.method
    have hfz := hblk.frozen
    have HB1 := Lib.hid hB1
    have hlt := hblk.lt
    clear HCF hblc hblk hBc HMO HLs hB1
    go_enter Tryz.func188, Tryz.ntmps188
    go_wp2_with (first | fail)
    exact bodyPost_ret (v := .tuple #[.string ⟨#[]⟩, .agg zMethod.toArray, .iface 29 (.int .i64 3)]) (by simp [results, Tryz.results188, go_sem, *, zMethod]) rfl ⟨⟨_, _, rfl, ⟨_, _, _, _, _, _, _, _, _, _, _, _, rfl⟩⟩, HB1.out.alloc HB1.out.size _⟩
  | true =>
    have HMo : Hid (∀ wx, Below w.heap.size w wx → _) := fun wx hb => HMO.out rfl wx hb
    replace HCF : Hid (f = rightF o iss src static) := HCF.out
    clear HMO hblk hB1
    cases o with
    | none =>
      simp only [methodV3, Option.map_none, Option.getD_none] at HMo
      have hf : f = 3 := HCF.out
      subst hf
      clear HCF HLs
      go_enter Tryz.func188, Tryz.ntmps188
      go_upto_region 6 with (go_at_call 214; (with_reducible refine (HMo.out _ hBc).mono ?_); rintro e w3 ⟨⟨v3, rfl, pc, kc, ph, kh, rfl, _, _⟩, hB3⟩)
      have hBl := hblc.step hB3
      obtain ⟨q0, q1, q2, q3, q4, q5, q6, q7⟩ := hBl.method
      have hfz := hBl.frozen
      have hlt := hBl.lt
      have hBe := below_call hBc (Nat.le_refl _) hB3
      have HE := Lib.hid ((below_set8 hBe (Nat.le_refl w.heap.size) (.string ⟨#[]⟩) (.string ⟨#[]⟩) (.bool false) (.bool false) (.bool false) (.int .i64 0) (.slice none 0 0) (.slice none 0 0)).alloc (Nat.le_trans hBe.size (by simp)) (.cells #[.string noMethod.name, .string noMethod.type, .bool noMethod.static, .bool noMethod.abs, .bool noMethod.priv, .int .i64 noMethod.locals, .slice pc noMethod.code.length kc, .slice ph noMethod.handlers.length kh] 53))
      clear hBl hBe hblc hBc hB3
      go_wp2_with (first | fail)
      exact bodyPost_ret (v := .tuple #[.string ⟨#[]⟩, .agg zMethod.toArray, .iface 29 (.int .i64 3)]) (by simp [results, Tryz.results188, go_sem, *, zMethod]) rfl ⟨⟨_, _, rfl, ⟨_, _, _, _, _, _, _, _, _, _, _, _, rfl⟩⟩, HE.out⟩
    | some x =>
      obtain ⟨d, m⟩ := x
      simp only [methodV3, Option.map_some, Option.getD_some] at HMo
      go_enter Tryz.func188, Tryz.ntmps188
      go_upto_region 7 with (go_at_call 214; (with_reducible refine (HMo.out _ hBc).mono ?_); rintro e w3 ⟨⟨v3, rfl, pc, kc, ph, kh, rfl, _, _⟩, hB3⟩)
      have hBe := below_call hBc (Nat.le_refl _) hB3
      have B18 := Blk.new w3 53 [.string m.name, .string m.type, .bool m.static, .bool m.abs, .bool m.priv, .int .i64 m.locals, .slice pc m.code.length kc, .slice ph m.handlers.length kh]
      have hBa := (Below.refl w3.heap.size w3).alloc (Nat.le_refl _) (.cells #[.string m.name, .string m.type, .bool m.static, .bool m.abs, .bool m.priv, .int .i64 m.locals, .slice pc m.code.length kc, .slice ph m.handlers.length kh] 53)
      have B13 := (hblc.step hB3).step hBa
      have hB4 := below_call hBe (Nat.le_refl _) hBa
      have hne : w.heap.size < w3.heap.size := (hblc.step hB3).lt
      have B18 : Blk (w3.alloc (.cells #[.string m.name, .string m.type, .bool m.static, .bool m.abs, .bool m.priv, .int .i64 m.locals, .slice pc m.code.length kc, .slice ph m.handlers.length kh] 53)) w3.heap.size 53 [.string m.name, .string m.type, .bool m.static, .bool m.abs, .bool m.priv, .int .i64 m.locals, .slice pc m.code.length kc, .slice ph m.handlers.length kh] := B18
      clear hblc hBc hB3 hBe hBa
      generalize w3.alloc (.cells #[.string m.name, .string m.type, .bool m.static, .bool m.abs, .bool m.priv, .int .i64 m.locals, .slice pc m.code.length kc, .slice ph m.handlers.length kh] 53) = w4 at *
      generalize w3.heap.size = x18 at *
      have hls := (HLs.out w4 hB4).1
      obtain ⟨q0, q1, q2, q3, q4, q5, q6, q7⟩ := B13.method
      have hfz := B13.frozen
      have hlt := B13.lt
      obtain ⟨t0, t1, t2, t3, t4, t5, t6, t7⟩ := B18.cells8
      have hl18 := B18.lt
      have HBz := Lib.hid ((below_set8 hB4 (Nat.le_refl w.heap.size) (.string ⟨#[]⟩) (.string ⟨#[]⟩) (.bool false) (.bool false) (.bool false) (.int .i64 0) (.slice none 0 0) (.slice none 0 0)).alloc (Nat.le_trans hB4.size (by simp)) (.cells #[.string n3, .string s3, .slice p4 f3.length k4, .bool b3, .slice p5 d3.length k5, .slice p6 m3.length k6] 36))
      have HBm := Lib.hid (((below_set8 hB4 (Nat.le_refl w.heap.size) (.string m.name) (.string m.type) (.bool m.static) (.bool m.abs) (.bool m.priv) (.int .i64 m.locals) (.slice pc m.code.length kc) (.slice ph m.handlers.length kh)).alloc (Nat.le_trans hB4.size (by simp)) (.cells #[.string n3, .string s3, .slice p4 f3.length k4, .bool b3, .slice p5 d3.length k5, .slice p6 m3.length k6] 36)).drew)
      clear B13 B18 hB4 HLs
      have hst := strEq d src
      obtain ⟨st, hs1⟩ : ∃ q, (m.static == static) = q := ⟨_, rfl⟩
      have hs1n : (m.static != static) = !st := by rw [← hs1]; rfl
      obtain ⟨ne, hs2⟩ : ∃ q, (d.toList == src.toList) = q := ⟨_, rfl⟩
      have HFin : Hid (f = if iss = false then 3 else if st = false then 7 else if (m.priv && !ne) = true then 9 else 0) := by
        unfold Hid
        rw [HCF.out, rightF_some, ← hs1, ← hs2, hst]
      clear HCF hst
      obtain ⟨pv, hpv⟩ : ∃ q, m.priv = q := ⟨_, rfl⟩
      rw [hpv] at HFin t4 HBm
      cases iss with
      | false =>
        have hf : f = 3 := HFin.out
        subst hf
        go_wp2_with (first | fail)
        exact bodyPost_ret (v := .tuple #[.string ⟨#[]⟩, .agg zMethod.toArray, .iface 29 (.int .i64 3)]) (by simp [results, Tryz.results188, go_sem, *, zMethod]) rfl ⟨⟨_, _, rfl, ⟨_, _, _, _, _, _, _, _, _, _, _, _, rfl⟩⟩, HBz.out⟩
      | true =>
        cases st with
        | false =>
          have hf : f = 7 := HFin.out
          subst hf
          go_wp2_with (first | fail)
          exact bodyPost_ret (v := .tuple #[.string ⟨#[]⟩, .agg zMethod.toArray, .iface 29 (.int .i64 7)]) (by simp [results, Tryz.results188, go_sem, *, zMethod]) rfl ⟨⟨_, _, rfl, ⟨_, _, _, _, _, _, _, _, _, _, _, _, rfl⟩⟩, HBz.out⟩
        | true =>
          cases pv <;> cases ne
          case true.false =>
            have hf : f = 9 := HFin.out
            subst hf
            go_wp2_with (first | fail)
            exact bodyPost_ret (v := .tuple #[.string ⟨#[]⟩, .agg zMethod.toArray, .iface 29 (.int .i64 9)]) (by simp [results, Tryz.results188, go_sem, *, zMethod]) rfl ⟨⟨_, _, rfl, ⟨_, _, _, _, _, _, _, _, _, _, _, _, rfl⟩⟩, HBz.out⟩
          all_goals
            have hf : f = 0 := HFin.out
            subst hf
            go_upto_region 14 with (first | fail)
            go_region
            all_goals go_wp2
            all_goals exact bodyPost_ret (v := .tuple #[.string d, .agg #[.string m.name, .string m.type, .bool m.static, .bool m.abs, .bool _, .int .i64 m.locals, .slice pc m.code.length kc, .slice ph m.handlers.length kh], .nilIface]) (by simp [results, Tryz.results188, go_sem, *]; rfl) rfl ⟨⟨_, _, rfl, ⟨_, _, _, _, _, _, _, _, _, _, _, _, rfl⟩⟩, HBm.out⟩
end Go.Proofs.YtlmfmioljeppfaaGreatDoor
namespace Go.Proofs.YtlmfmioljeppfaaGreatDoor
open Go.RowKit Go.Shelf Go.Lib
def DescOwn (w : World) (m : Option (List ByteArray × ByteArray)) (e : Ending) (w' : World) : Prop :=
  Below w.heap.size w w' ∧ match m with
    | none => e = .returned (.tuple #[.slice none 0 0, .string .empty, .iface 29 (.int .i64 1)])
    | some (args, g) => ∃ v, e = .returned (.tuple #[v, .string g, .nilIface]) ∧ w'.ownsRow w.heap.size 9 1 v args.length (args.map Value.string)
theorem dOwn_no {w w' : World} {m : Option (List ByteArray × ByteArray)} (hm : m = none) (hb : Below w.heap.size w w') :
    DescOwn w m (.returned (.tuple #[.slice none 0 0, .string .empty, .iface 29 (.int .i64 1)])) w' := by subst hm; exact ⟨hb, rfl⟩
theorem dOwn_yes {w w' : World} {m : Option (List ByteArray × ByteArray)} {args : List ByteArray} {g : ByteArray} {v : Value} (hm : m = some (args, g)) (hb : Below w.heap.size w w') (hv : w'.ownsRow w.heap.size 9 1 v args.length (args.map Value.string)) :
    DescOwn w m (.returned (.tuple #[v, .string g, .nilIface])) w' := by subst hm; exact ⟨hb, v, rfl, hv⟩
set_option maxRecDepth 100000 in
set_option maxHeartbeats 1000000 in
theorem dOwn_loop (s r0 : ByteArray) (is0 : Bool) (w : World) (hs : s.size ≤ 1048576) (hr0 : r0.size ≤ s.size) (h0 : Lib.trimPrefix s.data.toList [40] = r0.data.toList) (hi0 : Lib.hasPrefix s.data.toList [40] = is0) (r : ByteArray) (acc : List ByteArray) (is : Bool) (hf : argsFin r0 is0 [] = (r, acc, is)) (m : Option (List ByteArray × ByteArray)) (hm : methodFin (r, acc, is) = m) :
    Calls Tryz.prog 132 #[.string s] w (DescOwn w m) := by
  have HMF := Lib.hid hm
  clear hm
  have HF := Lib.hid hf
  obtain ⟨i0, hi, hz0, hz1, hz2⟩ := info_parts info_string
  clear hf
  go_enter Tryz.func132, Tryz.ntmps132
  go_wp2_with (go_at_call 175; (with_reducible refine (cutPrefix_any _ _ _).mono ?_); rintro e w' ⟨rfl, rfl⟩)
  clear h0 hi0
  go_loopw [5, 6, 7] (fun x y v wr => ∃ (r1 : ByteArray) (is1 : Bool) (acc1 : List ByteArray), Hid (argsFin r1 is1 acc1 = (r, acc, is)) ∧ r1.size + acc1.length ≤ s.size ∧ wr.ownsRow w.heap.size 9 1 v acc1.length (acc1.map Value.string) ∧ Below w.heap.size w wr ∧ x = .string r1 ∧ y = .bool is1)
    (fun x y _ _ => if boolOf y then strSize x + 1 else 0)
  case atStart => exact ⟨r0, is0, [], HF, by simpa using hr0, World.ownsRow_nil _ _ _ _, Below.refl _ _, rfl, rfl⟩
  case round =>
    clear HF
    obtain ⟨r1, is1, acc1, hfin, hsz, hown, hbel, rfl, rfl⟩ := hrel
    cases is1 with
    | false =>
      have hfo := hfin.out
      unfold argsFin at hfo
      simp only [Bool.false_eq_true, if_false, Prod.mk.injEq] at hfo
      obtain ⟨rfl, rfl, rfl⟩ := hfo
      have hno : Hid (m = none) := by unfold Hid; rw [← HMF.out]; simp [methodFin]
      clear hfin HMF hown
      go_wp2_with (go_at_call 176; (with_reducible refine (trimParen_any _ _).mono ?_); rintro e w' ⟨rfl, rfl⟩)
      go_ret3
      exact dOwn_no hno.out hbel
    | true =>
      cases hp : Lib.hasPrefix r1.data.toList [41] with
      | true =>
        have hfo := hfin.out
        rw [fin_stop hp] at hfo
        simp only [Prod.mk.injEq] at hfo
        obtain ⟨rfl, rfl, rfl⟩ := hfo
        clear hfin
        have hgs : (givesOf r1).size ≤ maxLen := maxLen_of (by have := gives_size r1; omega)
        have HMF2 : Hid (methodFin (r1, acc1, true) = m) := HMF.out
        clear HMF
        obtain ⟨va, vc, rfl⟩ := ownsRow_shape hown
        generalize hg : givesOf r1 = g at *
        by_cases h5 : acc1.length ≤ 5
        · cases hV : (g.toList == [86]) with
          | true =>
            have hyes : Hid (m = some (acc1, g)) := by unfold Hid; rw [← HMF2.out]; exact methodFin_yes h5 hg (by simp [goodGives, hV])
            have hv := Lib.hid hown
            have HG := Lib.hid hgs
            clear hown HMF2 hgs
            go_wp2_with (first | (go_at_call 145; (with_reducible refine (hasPrefix_any _ _ _).mono ?_); rintro e w' ⟨rfl, rfl⟩) | (go_at_call 176; (with_reducible refine (trimParen_any _ _).mono ?_); rintro e w' ⟨rfl, rfl⟩))
            go_ret3
            exact dOwn_yes hyes.out hbel hv.out
          | false =>
            cases hT : typeB g.data.toList with
            | true =>
              have hyes : Hid (m = some (acc1, g)) := by unfold Hid; rw [← HMF2.out]; exact methodFin_yes h5 hg (by simp [goodGives, hT])
              have hC := Lib.hid (descCheck_good hgs hT)
              have HO := Lib.hid hown
              clear hown HMF2 hgs hT
              go_wp2_with (first | (go_at_call 145; (with_reducible refine (hasPrefix_any _ _ _).mono ?_); rintro e w' ⟨rfl, rfl⟩) | (go_at_call 176; (with_reducible refine (trimParen_any _ _).mono ?_); rintro e w' ⟨rfl, rfl⟩) | (go_at_call 53; (with_reducible refine (hC.out _).mono ?_); rintro e w2 ⟨rfl, hB⟩))
              go_ret3
              exact dOwn_yes hyes.out (hbel.trans (hB.mono hbel.size)) (ownsRow_below HO.out hB)
            | false =>
              have hno : Hid (m = none) := by unfold Hid; rw [← HMF2.out]; exact methodFin_bad hg (by simp [goodGives, hT, hV])
              have hC := Lib.hid (descCheck_bad hgs hT)
              clear hown HMF2 hgs hT
              go_wp2_with (first | (go_at_call 145; (with_reducible refine (hasPrefix_any _ _ _).mono ?_); rintro e w' ⟨rfl, rfl⟩) | (go_at_call 176; (with_reducible refine (trimParen_any _ _).mono ?_); rintro e w' ⟨rfl, rfl⟩) | (go_at_call 53; (with_reducible refine (hC.out _).mono ?_); rintro e w2 ⟨rfl, hB⟩))
              go_ret3
              exact dOwn_no hno.out (hbel.trans (hB.mono hbel.size))
        · have hno : Hid (m = none) := by unfold Hid; rw [← HMF2.out]; exact methodFin_len h5
          clear HMF2 hgs hown
          go_wp2_with (first | (go_at_call 145; (with_reducible refine (hasPrefix_any _ _ _).mono ?_); rintro e w' ⟨rfl, rfl⟩) | (go_at_call 176; (with_reducible refine (trimParen_any _ _).mono ?_); rintro e w' ⟨rfl, rfl⟩))
          go_ret3
          exact dOwn_no hno.out hbel
      | false =>
        cases ht : typeLen r1.data.toList with
        | zero =>
          have HT := Lib.hid ht
          have HN : Hid (argsFin r1 false acc1 = (r, acc, is)) := by unfold Hid; rw [← fin_bad hp ht]; exact hfin.out
          clear ht hfin
          go_wp2_with (first | (go_at_call 145; (with_reducible refine (hasPrefix_any _ _ _).mono ?_); rintro e w' ⟨rfl, rfl⟩) | (go_at_call 98; (with_reducible refine (cut_bad (maxLen_of (by omega)) HT.out _).mono ?_); rintro e w2 ⟨rfl, hB⟩))
          go_roundw
          case rel => exact ⟨r1, false, acc1, HN, hsz, ownsRow_below hown hB, hbel.trans (hB.mono hbel.size), rfl, rfl⟩
          case measure => simp [boolOf]
        | succ n =>
          have hle := typeLen_le r1.data.toList
          rw [length_eq, ht] at hle
          have HT := Lib.hid ht
          have HN : Hid (argsFin (r1.extract (n + 1) r1.size) true (acc1 ++ [r1.extract 0 (n + 1)]) = (r, acc, is)) := by unfold Hid; rw [← fin_step hp ht]; exact hfin.out
          have hx1 : (r1.extract (n + 1) r1.size).size = r1.size - (n + 1) := by simp
          have HX := Lib.hid hx1
          clear ht hfin hx1
          generalize hr2 : r1.extract (n + 1) r1.size = r2 at HN HX
          generalize hx : r1.extract 0 (n + 1) = x1 at HN
          go_wp2_with (go_at_call 145; (with_reducible refine (hasPrefix_any _ _ _).mono ?_); rintro e w' ⟨rfl, rfl⟩)
          (with_reducible refine (cut_good (maxLen_of (by omega)) HT.out _).mono ?_)
          rintro e w2 ⟨rfl, hB⟩
          have ho := ownsRow_below hown hB
          have hb2 : Below w.heap.size w (w2.alloc (.cells #[.string x1] 9)) := (hbel.trans (hB.mono hbel.size)).alloc (Nat.le_trans hbel.size hB.size) _
          have c2 : ∀ u ∈ [Value.string x1], u.oneCell' = true := fun u hu => by simp at hu; subst hu; rfl
          have c3 : acc1.length + 1 ≤ maxLen := maxLen_of (by omega)
          have c4 : (acc1.length + 1) * 16 ≤ 140737488355328 := by omega
          have c5 := hb2.size
          have HB2 := Lib.hid hb2
          have HZ : Hid ((r2.size : Nat) + (acc1 ++ [x1]).length ≤ s.size) := by unfold Hid; rw [HX.out]; simp; omega
          have HM : Hid (r2.size < r1.size) := by unfold Hid; rw [HX.out]; omega
          clear hown hB hbel hb2 hle hsz hr0 HX HT
          go_wp2_with (at_builtin; refine wpList_append_own _ rfl _ _ 25 rfl w.heap.size 9 i0 (.string .empty) 1 16 Tryz.underlying25 hi hz0 hz1 hz2 rfl (by decide) _ _ _ rfl (ho.alloc _) ⟨w2.heap.size, 0, none⟩ 1 1 [.string x1] rfl rfl (cell_one_new _ _ _) c2 c3 c4 c5 ?_; intro v2 w3 hown3 hgrow3 _)
          have hb3 : Below w.heap.size w w3 := HB2.out.grown hgrow3 c5 (fun k hk => (ho.lt k hk).1)
          have hown4 : w3.ownsRow w.heap.size 9 1 v2 (acc1 ++ [x1]).length ((acc1 ++ [x1]).map Value.string) := by simpa using hown3
          go_roundw
          case rel => exact ⟨r2, true, acc1 ++ [x1], HN, HZ.out, hown4, hb3, rfl, rfl⟩
          case measure => have := HM.out; simp [boolOf, strSize]; omega
theorem descOwn_any (s : ByteArray) (w : World) (hs : s.size ≤ 1048576) : Calls Tryz.prog 132 #[.string s] w (DescOwn w (methodR s)) := by
  have hsz : (Lib.trimPrefix s.data.toList [40]).length ≤ s.data.toList.length := by unfold Lib.trimPrefix; split <;> simp
  rw [length_eq] at hsz
  exact dOwn_loop s ⟨(Lib.trimPrefix s.data.toList [40]).toArray⟩ (Lib.hasPrefix s.data.toList [40]) w hs (by show (Lib.trimPrefix s.data.toList [40]).toArray.size ≤ s.size; rw [List.size_toArray]; exact hsz) rfl rfl _ _ _ rfl _ rfl
theorem argsGo_sizes (N : Nat) : ∀ (n : Nat) (r : ByteArray) (acc : List ByteArray), r.size ≤ N → (∀ x ∈ acc, x.size ≤ N) → (argsGo n r acc).1.size ≤ N ∧ ∀ x ∈ (argsGo n r acc).2.1, x.size ≤ N
  | 0, r, acc, hr, ha => ⟨hr, ha⟩
  | n + 1, r, acc, hr, ha => by
    unfold argsGo
    split
    · exact ⟨hr, ha⟩
    · split
      · exact ⟨hr, ha⟩
      · refine argsGo_sizes N n _ _ ?_ ?_
        · rw [ByteArray.size_extract]; omega
        · intro x hx
          rcases List.mem_append.1 hx with hx | hx
          · exact ha x hx
          · simp at hx
            subst hx
            rw [ByteArray.size_extract]; omega
theorem methodR_sizes {s : ByteArray} {args : List ByteArray} {g : ByteArray} (h : methodR s = some (args, g)) : (∀ x ∈ args, x.size ≤ s.size) ∧ g.size ≤ s.size := by
  have hsz : (Lib.trimPrefix s.data.toList [40]).length ≤ s.data.toList.length := by unfold Lib.trimPrefix; split <;> simp
  rw [length_eq] at hsz
  unfold methodR methodFin at h
  have hA : (argsFin ⟨(Lib.trimPrefix s.data.toList [40]).toArray⟩ (Lib.hasPrefix s.data.toList [40]) []).1.size ≤ s.size ∧ ∀ x ∈ (argsFin ⟨(Lib.trimPrefix s.data.toList [40]).toArray⟩ (Lib.hasPrefix s.data.toList [40]) []).2.1, x.size ≤ s.size := by
    have hr0 : (⟨(Lib.trimPrefix s.data.toList [40]).toArray⟩ : ByteArray).size ≤ s.size := by show (Lib.trimPrefix s.data.toList [40]).toArray.size ≤ s.size; rw [List.size_toArray]; exact hsz
    unfold argsFin
    split
    · exact argsGo_sizes s.size _ _ _ hr0 (fun x hx => by cases hx)
    · exact ⟨hr0, fun x hx => by cases hx⟩
  split at h
  · injection h with h
    injection h with h1 h2
    subst h1 h2
    refine ⟨hA.2, ?_⟩
    have h3 : (givesOf (argsFin ⟨(Lib.trimPrefix s.data.toList [40]).toArray⟩ (Lib.hasPrefix s.data.toList [40]) []).1).size ≤ (argsFin ⟨(Lib.trimPrefix s.data.toList [40]).toArray⟩ (Lib.hasPrefix s.data.toList [40]) []).1.size := by
      generalize (argsFin ⟨(Lib.trimPrefix s.data.toList [40]).toArray⟩ (Lib.hasPrefix s.data.toList [40]) []).1 = r
      show (Lib.trimPrefix r.data.toList [41]).toArray.size ≤ r.size
      rw [List.size_toArray, ← length_eq r]
      unfold Lib.trimPrefix
      split <;> simp
    exact Nat.le_trans h3 hA.1
  · cases h
end Go.Proofs.YtlmfmioljeppfaaGreatDoor
namespace Go.Proofs.YtlmfmioljeppfaaGreatDoor
open Go.RowKit Go.Shelf Go.Lib
def putK (cs : List Class) (L S : List Str) (g : Str) : Option (List Str × List Str) := if kindR cs g = 0 then putL L S g else none
def endS (cs : List Class) (L S : List Str) (g : Str) : Option (List Str × List Str) := if (g.toList == [86]) = true then some (L, S) else putK cs L S g
def thisS (cs : List Class) (static : Bool) (cls : Str) (S : List Str) : Option (List Str) := if static = true then some S else takeS cs [thText cls] S
def callF (cs : List Class) (from' cls name type : Str) (static : Bool) (L S : List Str) : Option (List Str × List Str) :=
  if callFault cs from' cls name type static ≠ 0 then none else match methodR type with
    | none => none
    | some (args, g) => (takeS cs args.reverse S).bind fun S1 => (thisS cs static cls S1).bind fun S2 => endS cs L S2 g
theorem endS_v {cs : List Class} {L S : List Str} {g : Str} (h : (g.toList == [86]) = true) : endS cs L S g = some (L, S) := by unfold endS; rw [if_pos h]
theorem endS_no {cs : List Class} {L S : List Str} {g : Str} (h : (g.toList == [86]) = false) (hk : kindR cs g ≠ 0) : endS cs L S g = none := by unfold endS putK; rw [if_neg (by rw [h]; decide), if_neg hk]
theorem endS_none {cs : List Class} {L S : List Str} {g : Str} (h : (g.toList == [86]) = false) (hk : kindR cs g = 0) (hq : putS S g = none) : endS cs L S g = none := by unfold endS putK; rw [if_neg (by rw [h]; decide), if_pos hk]; exact putL_none hq
theorem endS_some {cs : List Class} {L S S' : List Str} {g : Str} (h : (g.toList == [86]) = false) (hk : kindR cs g = 0) (hq : putS S g = some S') : endS cs L S g = some (L, S') := by unfold endS putK; rw [if_neg (by rw [h]; decide), if_pos hk]; exact putL_some hq
theorem StepAt.grown {base : Nat} {w w' : World} {sb B : Nat} {from' gives : Str} {lv sv v : Value} {L S : List Str} (h : StepAt base w sb B from' gives lv sv L S) (hg : w.grownBy w' v.ownBlock) (hv : ∀ g, v.ownBlock = some g → Apart sb lv sv g) : StepAt base w' sb B from' gives lv sv L S :=
  ⟨h.blk.grown hg (fun e => (hv sb e).1 rfl), h.locals.kept hg (by
    cases hl : lv.ownBlock with
    | none => exact Or.inl rfl
    | some g => exact Or.inr (fun e => (hv g e.symm).2.1 hl)), h.stack.kept hg (by
    cases hl : sv.ownBlock with
    | none => exact Or.inl rfl
    | some g => exact Or.inr (fun e => (hv g e.symm).2.2 hl)), h.apart, h.lfar, h.sfar, h.low⟩
theorem SA.grown {w0 w : World} {B : Nat} {l : List Class} {base : Nat} {ws : World} {lv0 sv0 : Value} {sb : Nat} {from' gives : Str} {xb : Nat} {xv : List Value} {wx : World} {lv sv v : Value} {L S : List Str} (T : SA w0 w B l base ws lv0 sv0 sb from' gives xb xv wx lv sv L S) {w' : World} (hg : wx.grownBy w' v.ownBlock) (hb : base ≤ wx.heap.size) (hv : ∀ g, v.ownBlock = some g → ws.heap.size ≤ g ∧ base ≤ g ∧ g ≠ xb ∧ Apart sb lv sv g) : SA w0 w B l base ws lv0 sv0 sb from' gives xb xv w' lv sv L S :=
  have hB : Below base wx w' := (Below.refl base wx).grown hg hb (fun g e => (hv g e).2.1)
  ⟨T.env.step hB, T.step.grown hg (fun g e => (hv g e).2.2.2), T.box.grown hg (fun e => (hv xb e).2.2.1 rfl), T.apart, T.below.trans hB, ⟨T.kp.1, fun g hg' ha => ⟨(hg.block g (Nat.lt_of_lt_of_le hg' T.below.size) (fun e => absurd (hv g e.symm).1 (Nat.not_le_of_lt hg'))).trans (T.kp.2 g hg' ha).1, (T.kp.2 g hg' ha).2⟩⟩⟩
theorem cell8_other {w : World} {a : Addr} {b : Nat} {v0 v1 v2 v3 v4 v5 v6 v7 : Value} (h : a.block ≠ b) : ((((((((w.setCell ⟨b, 0, none⟩ v0).setCell ⟨b, 1, none⟩ v1).setCell ⟨b, 2, none⟩ v2).setCell ⟨b, 3, none⟩ v3).setCell ⟨b, 4, none⟩ v4).setCell ⟨b, 5, none⟩ v5).setCell ⟨b, 6, none⟩ v6).setCell ⟨b, 7, none⟩ v7).cell? a = w.cell? a := World.cell?_of_block (by rw [heap_setCell_other _ _ _ _ h, heap_setCell_other _ _ _ _ h, heap_setCell_other _ _ _ _ h, heap_setCell_other _ _ _ _ h, heap_setCell_other _ _ _ _ h, heap_setCell_other _ _ _ _ h, heap_setCell_other _ _ _ _ h, heap_setCell_other _ _ _ _ h])
set_option maxHeartbeats 4000000 in
set_option maxRecDepth 100000 in
theorem call_no (w0 w : World) (B : Nat) (l : List Class) (base : Nat) (ws : World) (hE : Env w0 w B l base ws) (sb : Nat) (from' gives : Str) (lv sv : Value) (L S : List Str) (h : StepAt base ws sb B from' gives lv sv L S) (op a b : Int) (type cls name : Str) (static : Bool) (hc : cls.size ≤ 1048576) (hfr : from'.size ≤ maxLen) (hf : callFault (allC l) from' cls name type static ≠ 0) :
    Calls Tryz.prog 147 #[.pointer (some ⟨sb, 0, none⟩), .agg #[.int .i64 op, .int .i64 a, .int .i64 b, .string type, .string cls, .string name], .bool static] ws (StepRun base ws sb B from' gives lv sv (none)) := by
  have T0 : SA w0 w B l base ws lv sv sb from' gives ws.heap.size [.int .i64 op, .int .i64 a, .int .i64 b, .string type, .string cls, .string name] (ws.alloc (.cells #[.int .i64 op, .int .i64 a, .int .i64 b, .string type, .string cls, .string name] 24)) lv sv L S := SA.new hE h _
  obtain ⟨i0, i1, i2, i3, i4, i5⟩ := T0.cells
  have HF : Hid (∀ wx, _) := fun wx => need_false wx
  have q0 : (ws.alloc (.cells #[.int .i64 op, .int .i64 a, .int .i64 b, .string type, .string cls, .string name] 24)).cell? ⟨sb, 0, none⟩ = some (.map (some B)) := T0.step.blk.cell 0
  have q1 : (ws.alloc (.cells #[.int .i64 op, .int .i64 a, .int .i64 b, .string type, .string cls, .string name] 24)).cell? ⟨sb, 1, none⟩ = some (.string from') := T0.step.blk.cell 1
  obtain ⟨w1, hw1⟩ : ∃ w1, ws.alloc (.cells #[.int .i64 op, .int .i64 a, .int .i64 b, .string type, .string cls, .string name] 24) = w1 := ⟨_, rfl⟩
  rw [hw1] at T0 i0 i1 i2 i3 i4 i5 q0 q1
  have HT1 := Lib.hid T0
  have HFO : Hid (∀ wx, Below w1.heap.size w1 wx → Calls Tryz.prog 188 #[.map (some B), .string from', .string cls, .string name, .string type, .bool static] wx fun e w' => (∃ s m1 m2 m3 m4 m5 m6 m7 m8 m9 m10 m11 m12, e = .returned (.tuple #[.string s, .agg #[.string m1, .string m2, .bool m3, .bool m4, .bool m5, .int .i64 m6, .slice m7 m8 m9, .slice m10 m11 m12], errV (callFault (allC l) from' cls name type static)])) ∧ Below wx.heap.size wx w' ∧ Below w1.heap.size w1 w' ∧ w'.cell? ⟨sb, 0, none⟩ = some (.map (some B)) ∧ w'.cell? ⟨sb, 1, none⟩ = some (.string from') ∧ w'.cell? ⟨ws.heap.size, 3, none⟩ = some (.string type) ∧ w'.cell? ⟨ws.heap.size, 4, none⟩ = some (.string cls) ∧ w'.cell? ⟨ws.heap.size, 5, none⟩ = some (.string name)) := fun wx hb =>
    (found_any w0 wx B l (HT1.out.over hb).env.map from' cls name type static (Nat.le_trans hc (by decide)) hfr).mono fun e w' ⟨⟨s, v, he, m1, m2, m3, m4, m5, m6, m7, m8, m9, m10, m11, m12, hm⟩, hB⟩ => by
      have hb' := below_call hb (Nat.le_refl _) hB
      have T2 := HT1.out.over hb'
      obtain ⟨_, _, _, k3, k4, k5⟩ := T2.cells
      subst hm
      exact ⟨⟨s, m1, m2, m3, m4, m5, m6, m7, m8, m9, m10, m11, m12, he⟩, hB, hb', T2.step.blk.cell 0, T2.step.blk.cell 1, k3, k4, k5⟩
  have hw1l := T0.step.blk.lt
  have hbs := T0.step.low
  have hsz1 := T0.box.lt
  rcases errV_cases (callFault (allC l) from' cls name type static) with ⟨_, hz⟩ | ⟨hv, _⟩
  · exact absurd hz hf
  rw [hv] at HFO
  clear hv
  generalize callFault (allC l) from' cls name type static = n at *
  go_enter Tryz.func147, Tryz.ntmps147
  go_upto_region 1 with (first | fail)
  clear T0 h hE hw1
  go_region_held3 (fun w' => w'.cell? ⟨sb, 0, none⟩ = some (.map (some B)) ∧ w'.cell? ⟨sb, 1, none⟩ = some (.string from') ∧ w'.cell? ⟨ws.heap.size, 3, none⟩ = some (.string type) ∧ w'.cell? ⟨ws.heap.size, 4, none⟩ = some (.string cls) ∧ w'.cell? ⟨ws.heap.size, 5, none⟩ = some (.string name)) (first | go_keep | exact ⟨(cell8_other (a := ⟨sb, 0, none⟩) (Nat.ne_of_lt hw1l)).trans k0, (cell8_other (a := ⟨sb, 1, none⟩) (Nat.ne_of_lt hw1l)).trans k1, (cell8_other (a := ⟨ws.heap.size, 3, none⟩) (Nat.ne_of_lt hsz1)).trans k3, (cell8_other (a := ⟨ws.heap.size, 4, none⟩) (Nat.ne_of_lt hsz1)).trans k4, (cell8_other (a := ⟨ws.heap.size, 5, none⟩) (Nat.ne_of_lt hsz1)).trans k5⟩)
    (first
      | (go_at_call 188; (with_reducible refine (HFO.out _ ?_).mono ?_); (first | exact (Below.refl _ _).drew | exact ((Below.refl _ _).alloc (Nat.le_refl _) _).drew); rintro e w2 ⟨⟨s, m1, m2, m3, m4, m5, m6, m7, m8, m9, m10, m11, m12, rfl⟩, hB2, hB12, k0, k1, k3, k4, k5⟩; (first | (have KB : Blk w2 w1.heap.size 53 [.string ⟨#[]⟩, .string ⟨#[]⟩, .bool false, .bool false, .bool false, .int .i64 0, .slice none 0 0, .slice none 0 0] := Blk.step (w := (w1.alloc (.cells #[.string ⟨#[]⟩, .string ⟨#[]⟩, .bool false, .bool false, .bool false, .int .i64 0, .slice none 0 0, .slice none 0 0] 53)).drew) (Blk.new w1 53 [.string ⟨#[]⟩, .string ⟨#[]⟩, .bool false, .bool false, .bool false, .int .i64 0, .slice none 0 0, .slice none 0 0]) hB2; obtain ⟨x0, x1, x2, x3, x4, x5, x6, x7⟩ := KB.cells8; (have f0 := KB.frozen 0); (have f1 := KB.frozen 1); (have f2 := KB.frozen 2); (have f3 := KB.frozen 3); (have f4 := KB.frozen 4); (have f5 := KB.frozen 5); (have f6 := KB.frozen 6); (have f7 := KB.frozen 7)) | skip)))
  · have Tw := (HT1.out.over hB12).alloc (.cells #[.string m1, .string m2, .bool m3, .bool m4, .bool m5, .int .i64 m6, .slice m7 m8 m9, .slice m10 m11 m12] 53)
    generalize (w2.alloc (.cells #[.string m1, .string m2, .bool m3, .bool m4, .bool m5, .int .i64 m6, .slice m7 m8 m9, .slice m10 m11 m12] 53)) = W at *
    have HTw := Lib.hid Tw
    obtain ⟨i0, i1, i2, i3, i4, i5⟩ := Tw.cells
    clear Tw k0 k1 k3 k4 k5 HT1 HFO q0 q1
    go_wp2_with (first
      | (go_at_call 137; (with_reducible refine (HF.out _).mono ?_); rintro e wq ⟨rfl, rfl⟩))
    exact And.intro rfl (HTw.out.stop (Below.refl _ _) rfl)
  · have Tw := (((((((((HT1.out.over hB12).aside (b := w1.heap.size) (Nat.le_of_lt hsz1) (Nat.le_trans hbs (Nat.le_of_lt hw1l)) (Nat.ne_of_gt hsz1) (HT1.out.step.fresh (Nat.le_refl _)) 0 (.string m1)).aside (b := w1.heap.size) (Nat.le_of_lt hsz1) (Nat.le_trans hbs (Nat.le_of_lt hw1l)) (Nat.ne_of_gt hsz1) (HT1.out.step.fresh (Nat.le_refl _)) 1 (.string m2)).aside (b := w1.heap.size) (Nat.le_of_lt hsz1) (Nat.le_trans hbs (Nat.le_of_lt hw1l)) (Nat.ne_of_gt hsz1) (HT1.out.step.fresh (Nat.le_refl _)) 2 (.bool m3)).aside (b := w1.heap.size) (Nat.le_of_lt hsz1) (Nat.le_trans hbs (Nat.le_of_lt hw1l)) (Nat.ne_of_gt hsz1) (HT1.out.step.fresh (Nat.le_refl _)) 3 (.bool m4)).aside (b := w1.heap.size) (Nat.le_of_lt hsz1) (Nat.le_trans hbs (Nat.le_of_lt hw1l)) (Nat.ne_of_gt hsz1) (HT1.out.step.fresh (Nat.le_refl _)) 4 (.bool m5)).aside (b := w1.heap.size) (Nat.le_of_lt hsz1) (Nat.le_trans hbs (Nat.le_of_lt hw1l)) (Nat.ne_of_gt hsz1) (HT1.out.step.fresh (Nat.le_refl _)) 5 (.int .i64 m6)).aside (b := w1.heap.size) (Nat.le_of_lt hsz1) (Nat.le_trans hbs (Nat.le_of_lt hw1l)) (Nat.ne_of_gt hsz1) (HT1.out.step.fresh (Nat.le_refl _)) 6 (.slice m7 m8 m9)).aside (b := w1.heap.size) (Nat.le_of_lt hsz1) (Nat.le_trans hbs (Nat.le_of_lt hw1l)) (Nat.ne_of_gt hsz1) (HT1.out.step.fresh (Nat.le_refl _)) 7 (.slice m10 m11 m12))
    generalize ((((((((w2.setCell ⟨w1.heap.size, 0, none⟩ (.string m1)).setCell ⟨w1.heap.size, 1, none⟩ (.string m2)).setCell ⟨w1.heap.size, 2, none⟩ (.bool m3)).setCell ⟨w1.heap.size, 3, none⟩ (.bool m4)).setCell ⟨w1.heap.size, 4, none⟩ (.bool m5)).setCell ⟨w1.heap.size, 5, none⟩ (.int .i64 m6)).setCell ⟨w1.heap.size, 6, none⟩ (.slice m7 m8 m9)).setCell ⟨w1.heap.size, 7, none⟩ (.slice m10 m11 m12)) = W at *
    have HTw := Lib.hid Tw
    obtain ⟨i0, i1, i2, i3, i4, i5⟩ := Tw.cells
    clear Tw k0 k1 k3 k4 k5 HT1 HFO q0 q1
    go_wp2_with (first
      | (go_at_call 137; (with_reducible refine (HF.out _).mono ?_); rintro e wq ⟨rfl, rfl⟩))
    exact And.intro rfl (HTw.out.stop (Below.refl _ _) rfl)
set_option maxHeartbeats 4000000 in
set_option maxRecDepth 100000 in
theorem call_s (w0 w : World) (B : Nat) (l : List Class) (base : Nat) (ws : World) (hE : Env w0 w B l base ws) (sb : Nat) (from' gives : Str) (lv sv : Value) (L S : List Str) (h : StepAt base ws sb B from' gives lv sv L S) (hS : Known (allC l) S) (op a b : Int) (type cls name : Str) (hc : cls.size ≤ 1048576) (hfr : from'.size ≤ maxLen) (hty : type.size ≤ 1048576) (hf : callFault (allC l) from' cls name type true = 0) :
    Calls Tryz.prog 147 #[.pointer (some ⟨sb, 0, none⟩), .agg #[.int .i64 op, .int .i64 a, .int .i64 b, .string type, .string cls, .string name], .bool true] ws (StepRun base ws sb B from' gives lv sv (unitS (match methodR type with | none => none | some (args, g) => (takeS (allC l) args.reverse S).bind fun S1 => (thisS (allC l) true cls S1).bind fun S2 => endS (allC l) L S2 g))) := by
  have T0 : SA w0 w B l base ws lv sv sb from' gives ws.heap.size [.int .i64 op, .int .i64 a, .int .i64 b, .string type, .string cls, .string name] (ws.alloc (.cells #[.int .i64 op, .int .i64 a, .int .i64 b, .string type, .string cls, .string name] 24)) lv sv L S := SA.new hE h _
  obtain ⟨i0, i1, i2, i3, i4, i5⟩ := T0.cells
  have HT : Hid (∀ wx, _) := fun wx => need_true wx
  have HF : Hid (∀ wx, _) := fun wx => need_false wx
  have q0 : (ws.alloc (.cells #[.int .i64 op, .int .i64 a, .int .i64 b, .string type, .string cls, .string name] 24)).cell? ⟨sb, 0, none⟩ = some (.map (some B)) := T0.step.blk.cell 0
  have q1 : (ws.alloc (.cells #[.int .i64 op, .int .i64 a, .int .i64 b, .string type, .string cls, .string name] 24)).cell? ⟨sb, 1, none⟩ = some (.string from') := T0.step.blk.cell 1
  obtain ⟨w1, hw1⟩ : ∃ w1, ws.alloc (.cells #[.int .i64 op, .int .i64 a, .int .i64 b, .string type, .string cls, .string name] 24) = w1 := ⟨_, rfl⟩
  rw [hw1] at T0 i0 i1 i2 i3 i4 i5 q0 q1
  have HT1 := Lib.hid T0
  have HFO : Hid (∀ wx, Below w1.heap.size w1 wx → Calls Tryz.prog 188 #[.map (some B), .string from', .string cls, .string name, .string type, .bool true] wx fun e w' => (∃ s m1 m2 m3 m4 m5 m6 m7 m8 m9 m10 m11 m12, e = .returned (.tuple #[.string s, .agg #[.string m1, .string m2, .bool m3, .bool m4, .bool m5, .int .i64 m6, .slice m7 m8 m9, .slice m10 m11 m12], errV (callFault (allC l) from' cls name type true)])) ∧ Below wx.heap.size wx w' ∧ Below w1.heap.size w1 w' ∧ w'.cell? ⟨sb, 0, none⟩ = some (.map (some B)) ∧ w'.cell? ⟨sb, 1, none⟩ = some (.string from') ∧ w'.cell? ⟨ws.heap.size, 3, none⟩ = some (.string type) ∧ w'.cell? ⟨ws.heap.size, 4, none⟩ = some (.string cls) ∧ w'.cell? ⟨ws.heap.size, 5, none⟩ = some (.string name)) := fun wx hb =>
    (found_any w0 wx B l (HT1.out.over hb).env.map from' cls name type true (Nat.le_trans hc (by decide)) hfr).mono fun e w' ⟨⟨s, v, he, m1, m2, m3, m4, m5, m6, m7, m8, m9, m10, m11, m12, hm⟩, hB⟩ => by
      have hb' := below_call hb (Nat.le_refl _) hB
      have T2 := HT1.out.over hb'
      obtain ⟨_, _, _, k3, k4, k5⟩ := T2.cells
      subst hm
      exact ⟨⟨s, m1, m2, m3, m4, m5, m6, m7, m8, m9, m10, m11, m12, he⟩, hB, hb', T2.step.blk.cell 0, T2.step.blk.cell 1, k3, k4, k5⟩
  have hw1l := T0.step.blk.lt
  have hbs := T0.step.low
  have hsz1 := T0.box.lt
  have HD : Hid (∀ wx, _) := fun wx => descOwn_any type wx hty
  unfold DescOwn at HD
  obtain ⟨res, hres⟩ : ∃ r, unitS (match methodR type with | none => none | some (args, g) => (takeS (allC l) args.reverse S).bind fun S1 => (thisS (allC l) true cls S1).bind fun S2 => endS (allC l) L S2 g) = r := ⟨_, rfl⟩
  have HR := Lib.hid hres
  rw [hres]
  clear hres
  rw [hf, show errV 0 = .nilIface from rfl] at HFO
  clear hf
  go_enter Tryz.func147, Tryz.ntmps147
  go_upto_region 1 with (first | fail)
  clear T0 h hE hw1
  go_region_held3 (fun w' => w'.cell? ⟨sb, 0, none⟩ = some (.map (some B)) ∧ w'.cell? ⟨sb, 1, none⟩ = some (.string from') ∧ w'.cell? ⟨ws.heap.size, 3, none⟩ = some (.string type) ∧ w'.cell? ⟨ws.heap.size, 4, none⟩ = some (.string cls) ∧ w'.cell? ⟨ws.heap.size, 5, none⟩ = some (.string name)) (first | go_keep | exact ⟨(cell8_other (a := ⟨sb, 0, none⟩) (Nat.ne_of_lt hw1l)).trans k0, (cell8_other (a := ⟨sb, 1, none⟩) (Nat.ne_of_lt hw1l)).trans k1, (cell8_other (a := ⟨ws.heap.size, 3, none⟩) (Nat.ne_of_lt hsz1)).trans k3, (cell8_other (a := ⟨ws.heap.size, 4, none⟩) (Nat.ne_of_lt hsz1)).trans k4, (cell8_other (a := ⟨ws.heap.size, 5, none⟩) (Nat.ne_of_lt hsz1)).trans k5⟩)
    (first
      | (go_at_call 188; (with_reducible refine (HFO.out _ ?_).mono ?_); (first | exact (Below.refl _ _).drew | exact ((Below.refl _ _).alloc (Nat.le_refl _) _).drew); rintro e w2 ⟨⟨s, m1, m2, m3, m4, m5, m6, m7, m8, m9, m10, m11, m12, rfl⟩, hB2, hB12, k0, k1, k3, k4, k5⟩; (first | (have KB : Blk w2 w1.heap.size 53 [.string ⟨#[]⟩, .string ⟨#[]⟩, .bool false, .bool false, .bool false, .int .i64 0, .slice none 0 0, .slice none 0 0] := Blk.step (w := (w1.alloc (.cells #[.string ⟨#[]⟩, .string ⟨#[]⟩, .bool false, .bool false, .bool false, .int .i64 0, .slice none 0 0, .slice none 0 0] 53)).drew) (Blk.new w1 53 [.string ⟨#[]⟩, .string ⟨#[]⟩, .bool false, .bool false, .bool false, .int .i64 0, .slice none 0 0, .slice none 0 0]) hB2; obtain ⟨x0, x1, x2, x3, x4, x5, x6, x7⟩ := KB.cells8; (have f0 := KB.frozen 0); (have f1 := KB.frozen 1); (have f2 := KB.frozen 2); (have f3 := KB.frozen 3); (have f4 := KB.frozen 4); (have f5 := KB.frozen 5); (have f6 := KB.frozen 6); (have f7 := KB.frozen 7)) | skip)))
  · have Tw := (HT1.out.over hB12).alloc (.cells #[.string m1, .string m2, .bool m3, .bool m4, .bool m5, .int .i64 m6, .slice m7 m8 m9, .slice m10 m11 m12] 53)
    generalize (w2.alloc (.cells #[.string m1, .string m2, .bool m3, .bool m4, .bool m5, .int .i64 m6, .slice m7 m8 m9, .slice m10 m11 m12] 53)) = W at *
    have HTw := Lib.hid Tw
    obtain ⟨i0, i1, i2, i3, i4, i5⟩ := Tw.cells
    clear Tw k0 k1 k3 k4 k5 HT1 HFO q0 q1
    go_upto_region 3 with (first
      | (go_at_call 137; (with_reducible refine (HT.out _).mono ?_); rintro e wq ⟨rfl, rfl⟩))
    cases hm : methodR type with
    | none =>
      rw [hm] at HR HD
      have hre := HR.out
      go_wp2_with (first
        | (go_at_call 132; (with_reducible refine (HD.out _).mono ?_); rintro e w3 ⟨hB3, rfl⟩)
        | (go_at_call 137; (with_reducible refine (HF.out _).mono ?_); rintro e wq ⟨rfl, rfl⟩))
      exact And.intro rfl (HTw.out.stop (HTw.out.step.over hB3) hre.symm)
    | some p =>
      obtain ⟨args, g⟩ := p
      rw [hm] at HR HD
      obtain ⟨hsa, hgs0⟩ := methodR_sizes hm
      have hl5 := methodR_len hm
      have hgs : g.size ≤ maxLen := Nat.le_trans hgs0 (Nat.le_trans hty (by decide))
      have hsz : ∀ k ∈ args.reverse, k.size ≤ maxLen := fun k hk => Nat.le_trans (hsa k (List.mem_reverse.1 hk)) (Nat.le_trans hty (by decide))
      have hln : args.reverse.length ≤ 4194304 := by rw [List.length_reverse]; omega
      have hl6 : args.length ≤ 9223372036854775807 := by omega
      dsimp only at HR
      go_upto_region 5 with (first
        | (go_at_call 132; (with_reducible refine (HD.out _).mono ?_); rintro e w3 ⟨hB3, v, rfl, hO3⟩; obtain ⟨vp, vc, rfl⟩ := ownsRow_shape hO3)
        | (go_at_call 137; (with_reducible refine (HT.out _).mono ?_); rintro e wq ⟨rfl, rfl⟩))
      have T3 := HTw.out.over hB3
      have hfar : ∀ b, (Value.slice vp args.length vc).ownBlock = some b → W.heap.size ≤ b ∧ b < w3.heap.size := fun b hb => hO3.lt b hb
      go_upto_region 6 with (first
        | (go_at_call 189; (with_reducible refine (reverse_at hO3 rfl hl6).mono ?_); rintro e w4 ⟨rfl, hO4, hg4⟩))
      have T4 := T3.grown hg4 T3.step.size (fun b hb => ⟨Nat.le_trans HTw.out.below.size (hfar b hb).1, Nat.le_trans HTw.out.step.size (hfar b hb).1, Nat.ne_of_gt (Nat.lt_of_lt_of_le HTw.out.box.lt (hfar b hb).1), HTw.out.step.fresh (hfar b hb).1⟩)
      have hKs : KindsAt w4 (.slice vp args.length vc) args.reverse sb lv sv := ⟨strsAt_of_owns (l := args.reverse) (by rw [List.length_reverse]; exact hO4), fun b hb => ⟨(hO4.lt b hb).2, HTw.out.step.fresh (hfar b hb).1⟩⟩
      obtain ⟨i0, i1, i2, i3, i4, i5⟩ := T4.cells
      clear T3 HTw hB3 hO3 hg4 HD hsa hgs0 hl5 hl6 hm
      cases hV : (g.toList == [86]) with
      | true =>
        go_wp2_with (first
          | (go_at_call 139; rcases hq0 : takeS (allC l) args.reverse S with _ | S1; (with_reducible refine (T4.takeAN hS args.reverse _ hKs hsz hln hq0).mono ?_); (rintro e w5 hP; obtain ⟨hB, rfl⟩ := hP.no'; exact And.intro rfl (T4.stop hB (HR.out.symm.trans (unitS_none (ob_none hq0))))); (with_reducible refine (T4.takeAY hS args.reverse _ hKs hsz hln hq0).mono ?_); rintro e w5 hP; obtain ⟨hB5, rfl, lv5, sv5, hS5, hk5⟩ := hP.ok'; (have T5 := T4.next hB5 hS5 hk5); (have hN5 := takeS_known hq0 hS); obtain ⟨i0, i1, i2, i3, i4, i5⟩ := T5.cells))
        go_end0
        exact T5.done (HR.out.symm.trans (unitS_some ((ob_some hq0).trans ((ob_some (x := S1) rfl).trans (endS_v hV)))))
      | false =>
        by_cases hkg : kindR (allC l) g = 0
        · go_wp2_with (first
            | (go_at_call 139; rcases hq0 : takeS (allC l) args.reverse S with _ | S1; (with_reducible refine (T4.takeAN hS args.reverse _ hKs hsz hln hq0).mono ?_); (rintro e w5 hP; obtain ⟨hB, rfl⟩ := hP.no'; exact And.intro rfl (T4.stop hB (HR.out.symm.trans (unitS_none (ob_none hq0))))); (with_reducible refine (T4.takeAY hS args.reverse _ hKs hsz hln hq0).mono ?_); rintro e w5 hP; obtain ⟨hB5, rfl, lv5, sv5, hS5, hk5⟩ := hP.ok'; (have T5 := T4.next hB5 hS5 hk5); (have hN5 := takeS_known hq0 hS); obtain ⟨i0, i1, i2, i3, i4, i5⟩ := T5.cells)
            | (go_at_call 143; (with_reducible refine (T5.knowsY g hgs hkg).mono ?_); rintro e w7 hP; obtain ⟨hB7, rfl, lv7, sv7, hS7, hk7⟩ := hP.ok'; (have T7 := T5.next hB7 hS7 hk7))
            | (go_at_call 136; rcases hq2 : putS S1 g with _ | S3; (with_reducible refine (T7.putN g hq2).mono ?_); (rintro e w8 hP; obtain ⟨hB, rfl⟩ := hP.no'; exact And.intro rfl (T7.stop hB (HR.out.symm.trans (unitS_none ((ob_some hq0).trans ((ob_some (x := S1) rfl).trans (endS_none hV hkg hq2))))))); (with_reducible refine (T7.putY g hq2).mono ?_); rintro e w8 hP; obtain ⟨hB8, rfl, lv8, sv8, hS8, hk8⟩ := hP.ok'; (have T8 := T7.next hB8 hS8 hk8)))
          go_end0
          exact T8.done (HR.out.symm.trans (unitS_some ((ob_some hq0).trans ((ob_some (x := S1) rfl).trans (endS_some hV hkg hq2)))))
        · go_wp2_with (first
            | (go_at_call 139; rcases hq0 : takeS (allC l) args.reverse S with _ | S1; (with_reducible refine (T4.takeAN hS args.reverse _ hKs hsz hln hq0).mono ?_); (rintro e w5 hP; obtain ⟨hB, rfl⟩ := hP.no'; exact And.intro rfl (T4.stop hB (HR.out.symm.trans (unitS_none (ob_none hq0))))); (with_reducible refine (T4.takeAY hS args.reverse _ hKs hsz hln hq0).mono ?_); rintro e w5 hP; obtain ⟨hB5, rfl, lv5, sv5, hS5, hk5⟩ := hP.ok'; (have T5 := T4.next hB5 hS5 hk5); (have hN5 := takeS_known hq0 hS); obtain ⟨i0, i1, i2, i3, i4, i5⟩ := T5.cells)
            | (go_at_call 143; (with_reducible refine (T5.knowsN g hgs hkg).mono ?_); rintro e w7 hP; obtain ⟨hB7, rfl⟩ := hP.no'))
          exact And.intro rfl (T5.stop hB7 (HR.out.symm.trans (unitS_none ((ob_some hq0).trans ((ob_some (x := S1) rfl).trans (endS_no hV hkg))))))
  · have Tw := (((((((((HT1.out.over hB12).aside (b := w1.heap.size) (Nat.le_of_lt hsz1) (Nat.le_trans hbs (Nat.le_of_lt hw1l)) (Nat.ne_of_gt hsz1) (HT1.out.step.fresh (Nat.le_refl _)) 0 (.string m1)).aside (b := w1.heap.size) (Nat.le_of_lt hsz1) (Nat.le_trans hbs (Nat.le_of_lt hw1l)) (Nat.ne_of_gt hsz1) (HT1.out.step.fresh (Nat.le_refl _)) 1 (.string m2)).aside (b := w1.heap.size) (Nat.le_of_lt hsz1) (Nat.le_trans hbs (Nat.le_of_lt hw1l)) (Nat.ne_of_gt hsz1) (HT1.out.step.fresh (Nat.le_refl _)) 2 (.bool m3)).aside (b := w1.heap.size) (Nat.le_of_lt hsz1) (Nat.le_trans hbs (Nat.le_of_lt hw1l)) (Nat.ne_of_gt hsz1) (HT1.out.step.fresh (Nat.le_refl _)) 3 (.bool m4)).aside (b := w1.heap.size) (Nat.le_of_lt hsz1) (Nat.le_trans hbs (Nat.le_of_lt hw1l)) (Nat.ne_of_gt hsz1) (HT1.out.step.fresh (Nat.le_refl _)) 4 (.bool m5)).aside (b := w1.heap.size) (Nat.le_of_lt hsz1) (Nat.le_trans hbs (Nat.le_of_lt hw1l)) (Nat.ne_of_gt hsz1) (HT1.out.step.fresh (Nat.le_refl _)) 5 (.int .i64 m6)).aside (b := w1.heap.size) (Nat.le_of_lt hsz1) (Nat.le_trans hbs (Nat.le_of_lt hw1l)) (Nat.ne_of_gt hsz1) (HT1.out.step.fresh (Nat.le_refl _)) 6 (.slice m7 m8 m9)).aside (b := w1.heap.size) (Nat.le_of_lt hsz1) (Nat.le_trans hbs (Nat.le_of_lt hw1l)) (Nat.ne_of_gt hsz1) (HT1.out.step.fresh (Nat.le_refl _)) 7 (.slice m10 m11 m12))
    generalize ((((((((w2.setCell ⟨w1.heap.size, 0, none⟩ (.string m1)).setCell ⟨w1.heap.size, 1, none⟩ (.string m2)).setCell ⟨w1.heap.size, 2, none⟩ (.bool m3)).setCell ⟨w1.heap.size, 3, none⟩ (.bool m4)).setCell ⟨w1.heap.size, 4, none⟩ (.bool m5)).setCell ⟨w1.heap.size, 5, none⟩ (.int .i64 m6)).setCell ⟨w1.heap.size, 6, none⟩ (.slice m7 m8 m9)).setCell ⟨w1.heap.size, 7, none⟩ (.slice m10 m11 m12)) = W at *
    have HTw := Lib.hid Tw
    obtain ⟨i0, i1, i2, i3, i4, i5⟩ := Tw.cells
    clear Tw k0 k1 k3 k4 k5 HT1 HFO q0 q1
    go_upto_region 3 with (first
      | (go_at_call 137; (with_reducible refine (HT.out _).mono ?_); rintro e wq ⟨rfl, rfl⟩))
    cases hm : methodR type with
    | none =>
      rw [hm] at HR HD
      have hre := HR.out
      go_wp2_with (first
        | (go_at_call 132; (with_reducible refine (HD.out _).mono ?_); rintro e w3 ⟨hB3, rfl⟩)
        | (go_at_call 137; (with_reducible refine (HF.out _).mono ?_); rintro e wq ⟨rfl, rfl⟩))
      exact And.intro rfl (HTw.out.stop (HTw.out.step.over hB3) hre.symm)
    | some p =>
      obtain ⟨args, g⟩ := p
      rw [hm] at HR HD
      obtain ⟨hsa, hgs0⟩ := methodR_sizes hm
      have hl5 := methodR_len hm
      have hgs : g.size ≤ maxLen := Nat.le_trans hgs0 (Nat.le_trans hty (by decide))
      have hsz : ∀ k ∈ args.reverse, k.size ≤ maxLen := fun k hk => Nat.le_trans (hsa k (List.mem_reverse.1 hk)) (Nat.le_trans hty (by decide))
      have hln : args.reverse.length ≤ 4194304 := by rw [List.length_reverse]; omega
      have hl6 : args.length ≤ 9223372036854775807 := by omega
      dsimp only at HR
      go_upto_region 5 with (first
        | (go_at_call 132; (with_reducible refine (HD.out _).mono ?_); rintro e w3 ⟨hB3, v, rfl, hO3⟩; obtain ⟨vp, vc, rfl⟩ := ownsRow_shape hO3)
        | (go_at_call 137; (with_reducible refine (HT.out _).mono ?_); rintro e wq ⟨rfl, rfl⟩))
      have T3 := HTw.out.over hB3
      have hfar : ∀ b, (Value.slice vp args.length vc).ownBlock = some b → W.heap.size ≤ b ∧ b < w3.heap.size := fun b hb => hO3.lt b hb
      go_upto_region 6 with (first
        | (go_at_call 189; (with_reducible refine (reverse_at hO3 rfl hl6).mono ?_); rintro e w4 ⟨rfl, hO4, hg4⟩))
      have T4 := T3.grown hg4 T3.step.size (fun b hb => ⟨Nat.le_trans HTw.out.below.size (hfar b hb).1, Nat.le_trans HTw.out.step.size (hfar b hb).1, Nat.ne_of_gt (Nat.lt_of_lt_of_le HTw.out.box.lt (hfar b hb).1), HTw.out.step.fresh (hfar b hb).1⟩)
      have hKs : KindsAt w4 (.slice vp args.length vc) args.reverse sb lv sv := ⟨strsAt_of_owns (l := args.reverse) (by rw [List.length_reverse]; exact hO4), fun b hb => ⟨(hO4.lt b hb).2, HTw.out.step.fresh (hfar b hb).1⟩⟩
      obtain ⟨i0, i1, i2, i3, i4, i5⟩ := T4.cells
      clear T3 HTw hB3 hO3 hg4 HD hsa hgs0 hl5 hl6 hm
      cases hV : (g.toList == [86]) with
      | true =>
        go_wp2_with (first
          | (go_at_call 139; rcases hq0 : takeS (allC l) args.reverse S with _ | S1; (with_reducible refine (T4.takeAN hS args.reverse _ hKs hsz hln hq0).mono ?_); (rintro e w5 hP; obtain ⟨hB, rfl⟩ := hP.no'; exact And.intro rfl (T4.stop hB (HR.out.symm.trans (unitS_none (ob_none hq0))))); (with_reducible refine (T4.takeAY hS args.reverse _ hKs hsz hln hq0).mono ?_); rintro e w5 hP; obtain ⟨hB5, rfl, lv5, sv5, hS5, hk5⟩ := hP.ok'; (have T5 := T4.next hB5 hS5 hk5); (have hN5 := takeS_known hq0 hS); obtain ⟨i0, i1, i2, i3, i4, i5⟩ := T5.cells))
        go_end0
        exact T5.done (HR.out.symm.trans (unitS_some ((ob_some hq0).trans ((ob_some (x := S1) rfl).trans (endS_v hV)))))
      | false =>
        by_cases hkg : kindR (allC l) g = 0
        · go_wp2_with (first
            | (go_at_call 139; rcases hq0 : takeS (allC l) args.reverse S with _ | S1; (with_reducible refine (T4.takeAN hS args.reverse _ hKs hsz hln hq0).mono ?_); (rintro e w5 hP; obtain ⟨hB, rfl⟩ := hP.no'; exact And.intro rfl (T4.stop hB (HR.out.symm.trans (unitS_none (ob_none hq0))))); (with_reducible refine (T4.takeAY hS args.reverse _ hKs hsz hln hq0).mono ?_); rintro e w5 hP; obtain ⟨hB5, rfl, lv5, sv5, hS5, hk5⟩ := hP.ok'; (have T5 := T4.next hB5 hS5 hk5); (have hN5 := takeS_known hq0 hS); obtain ⟨i0, i1, i2, i3, i4, i5⟩ := T5.cells)
            | (go_at_call 143; (with_reducible refine (T5.knowsY g hgs hkg).mono ?_); rintro e w7 hP; obtain ⟨hB7, rfl, lv7, sv7, hS7, hk7⟩ := hP.ok'; (have T7 := T5.next hB7 hS7 hk7))
            | (go_at_call 136; rcases hq2 : putS S1 g with _ | S3; (with_reducible refine (T7.putN g hq2).mono ?_); (rintro e w8 hP; obtain ⟨hB, rfl⟩ := hP.no'; exact And.intro rfl (T7.stop hB (HR.out.symm.trans (unitS_none ((ob_some hq0).trans ((ob_some (x := S1) rfl).trans (endS_none hV hkg hq2))))))); (with_reducible refine (T7.putY g hq2).mono ?_); rintro e w8 hP; obtain ⟨hB8, rfl, lv8, sv8, hS8, hk8⟩ := hP.ok'; (have T8 := T7.next hB8 hS8 hk8)))
          go_end0
          exact T8.done (HR.out.symm.trans (unitS_some ((ob_some hq0).trans ((ob_some (x := S1) rfl).trans (endS_some hV hkg hq2)))))
        · go_wp2_with (first
            | (go_at_call 139; rcases hq0 : takeS (allC l) args.reverse S with _ | S1; (with_reducible refine (T4.takeAN hS args.reverse _ hKs hsz hln hq0).mono ?_); (rintro e w5 hP; obtain ⟨hB, rfl⟩ := hP.no'; exact And.intro rfl (T4.stop hB (HR.out.symm.trans (unitS_none (ob_none hq0))))); (with_reducible refine (T4.takeAY hS args.reverse _ hKs hsz hln hq0).mono ?_); rintro e w5 hP; obtain ⟨hB5, rfl, lv5, sv5, hS5, hk5⟩ := hP.ok'; (have T5 := T4.next hB5 hS5 hk5); (have hN5 := takeS_known hq0 hS); obtain ⟨i0, i1, i2, i3, i4, i5⟩ := T5.cells)
            | (go_at_call 143; (with_reducible refine (T5.knowsN g hgs hkg).mono ?_); rintro e w7 hP; obtain ⟨hB7, rfl⟩ := hP.no'))
          exact And.intro rfl (T5.stop hB7 (HR.out.symm.trans (unitS_none ((ob_some hq0).trans ((ob_some (x := S1) rfl).trans (endS_no hV hkg))))))
set_option maxHeartbeats 4000000 in
set_option maxRecDepth 100000 in
theorem call_v (w0 w : World) (B : Nat) (l : List Class) (base : Nat) (ws : World) (hE : Env w0 w B l base ws) (sb : Nat) (from' gives : Str) (lv sv : Value) (L S : List Str) (h : StepAt base ws sb B from' gives lv sv L S) (hS : Known (allC l) S) (op a b : Int) (type cls name : Str) (hc : cls.size ≤ 1048576) (hfr : from'.size ≤ maxLen) (hty : type.size ≤ 1048576) (hf : callFault (allC l) from' cls name type false = 0) :
    Calls Tryz.prog 147 #[.pointer (some ⟨sb, 0, none⟩), .agg #[.int .i64 op, .int .i64 a, .int .i64 b, .string type, .string cls, .string name], .bool false] ws (StepRun base ws sb B from' gives lv sv (unitS (match methodR type with | none => none | some (args, g) => (takeS (allC l) args.reverse S).bind fun S1 => (thisS (allC l) false cls S1).bind fun S2 => endS (allC l) L S2 g))) := by
  have T0 : SA w0 w B l base ws lv sv sb from' gives ws.heap.size [.int .i64 op, .int .i64 a, .int .i64 b, .string type, .string cls, .string name] (ws.alloc (.cells #[.int .i64 op, .int .i64 a, .int .i64 b, .string type, .string cls, .string name] 24)) lv sv L S := SA.new hE h _
  obtain ⟨i0, i1, i2, i3, i4, i5⟩ := T0.cells
  have HT : Hid (∀ wx, _) := fun wx => need_true wx
  have HF : Hid (∀ wx, _) := fun wx => need_false wx
  have q0 : (ws.alloc (.cells #[.int .i64 op, .int .i64 a, .int .i64 b, .string type, .string cls, .string name] 24)).cell? ⟨sb, 0, none⟩ = some (.map (some B)) := T0.step.blk.cell 0
  have q1 : (ws.alloc (.cells #[.int .i64 op, .int .i64 a, .int .i64 b, .string type, .string cls, .string name] 24)).cell? ⟨sb, 1, none⟩ = some (.string from') := T0.step.blk.cell 1
  obtain ⟨w1, hw1⟩ : ∃ w1, ws.alloc (.cells #[.int .i64 op, .int .i64 a, .int .i64 b, .string type, .string cls, .string name] 24) = w1 := ⟨_, rfl⟩
  rw [hw1] at T0 i0 i1 i2 i3 i4 i5 q0 q1
  have HT1 := Lib.hid T0
  have HFO : Hid (∀ wx, Below w1.heap.size w1 wx → Calls Tryz.prog 188 #[.map (some B), .string from', .string cls, .string name, .string type, .bool false] wx fun e w' => (∃ s m1 m2 m3 m4 m5 m6 m7 m8 m9 m10 m11 m12, e = .returned (.tuple #[.string s, .agg #[.string m1, .string m2, .bool m3, .bool m4, .bool m5, .int .i64 m6, .slice m7 m8 m9, .slice m10 m11 m12], errV (callFault (allC l) from' cls name type false)])) ∧ Below wx.heap.size wx w' ∧ Below w1.heap.size w1 w' ∧ w'.cell? ⟨sb, 0, none⟩ = some (.map (some B)) ∧ w'.cell? ⟨sb, 1, none⟩ = some (.string from') ∧ w'.cell? ⟨ws.heap.size, 3, none⟩ = some (.string type) ∧ w'.cell? ⟨ws.heap.size, 4, none⟩ = some (.string cls) ∧ w'.cell? ⟨ws.heap.size, 5, none⟩ = some (.string name)) := fun wx hb =>
    (found_any w0 wx B l (HT1.out.over hb).env.map from' cls name type false (Nat.le_trans hc (by decide)) hfr).mono fun e w' ⟨⟨s, v, he, m1, m2, m3, m4, m5, m6, m7, m8, m9, m10, m11, m12, hm⟩, hB⟩ => by
      have hb' := below_call hb (Nat.le_refl _) hB
      have T2 := HT1.out.over hb'
      obtain ⟨_, _, _, k3, k4, k5⟩ := T2.cells
      subst hm
      exact ⟨⟨s, m1, m2, m3, m4, m5, m6, m7, m8, m9, m10, m11, m12, he⟩, hB, hb', T2.step.blk.cell 0, T2.step.blk.cell 1, k3, k4, k5⟩
  have hw1l := T0.step.blk.lt
  have hbs := T0.step.low
  have hsz1 := T0.box.lt
  have HD : Hid (∀ wx, _) := fun wx => descOwn_any type wx hty
  unfold DescOwn at HD
  have HTh : Hid (∀ wx, _) := fun wx => thing_any cls wx (Nat.le_trans hc (by decide))
  have hth : (thText cls).size ≤ maxLen := by rw [th_size]; exact Nat.le_trans (Nat.add_le_add_right hc 2) (by decide)
  obtain ⟨res, hres⟩ : ∃ r, unitS (match methodR type with | none => none | some (args, g) => (takeS (allC l) args.reverse S).bind fun S1 => (thisS (allC l) false cls S1).bind fun S2 => endS (allC l) L S2 g) = r := ⟨_, rfl⟩
  have HR := Lib.hid hres
  rw [hres]
  clear hres
  rw [hf, show errV 0 = .nilIface from rfl] at HFO
  clear hf
  go_enter Tryz.func147, Tryz.ntmps147
  go_upto_region 1 with (first | fail)
  clear T0 h hE hw1
  go_region_held3 (fun w' => w'.cell? ⟨sb, 0, none⟩ = some (.map (some B)) ∧ w'.cell? ⟨sb, 1, none⟩ = some (.string from') ∧ w'.cell? ⟨ws.heap.size, 3, none⟩ = some (.string type) ∧ w'.cell? ⟨ws.heap.size, 4, none⟩ = some (.string cls) ∧ w'.cell? ⟨ws.heap.size, 5, none⟩ = some (.string name)) (first | go_keep | exact ⟨(cell8_other (a := ⟨sb, 0, none⟩) (Nat.ne_of_lt hw1l)).trans k0, (cell8_other (a := ⟨sb, 1, none⟩) (Nat.ne_of_lt hw1l)).trans k1, (cell8_other (a := ⟨ws.heap.size, 3, none⟩) (Nat.ne_of_lt hsz1)).trans k3, (cell8_other (a := ⟨ws.heap.size, 4, none⟩) (Nat.ne_of_lt hsz1)).trans k4, (cell8_other (a := ⟨ws.heap.size, 5, none⟩) (Nat.ne_of_lt hsz1)).trans k5⟩)
    (first
      | (go_at_call 188; (with_reducible refine (HFO.out _ ?_).mono ?_); (first | exact (Below.refl _ _).drew | exact ((Below.refl _ _).alloc (Nat.le_refl _) _).drew); rintro e w2 ⟨⟨s, m1, m2, m3, m4, m5, m6, m7, m8, m9, m10, m11, m12, rfl⟩, hB2, hB12, k0, k1, k3, k4, k5⟩; (first | (have KB : Blk w2 w1.heap.size 53 [.string ⟨#[]⟩, .string ⟨#[]⟩, .bool false, .bool false, .bool false, .int .i64 0, .slice none 0 0, .slice none 0 0] := Blk.step (w := (w1.alloc (.cells #[.string ⟨#[]⟩, .string ⟨#[]⟩, .bool false, .bool false, .bool false, .int .i64 0, .slice none 0 0, .slice none 0 0] 53)).drew) (Blk.new w1 53 [.string ⟨#[]⟩, .string ⟨#[]⟩, .bool false, .bool false, .bool false, .int .i64 0, .slice none 0 0, .slice none 0 0]) hB2; obtain ⟨x0, x1, x2, x3, x4, x5, x6, x7⟩ := KB.cells8; (have f0 := KB.frozen 0); (have f1 := KB.frozen 1); (have f2 := KB.frozen 2); (have f3 := KB.frozen 3); (have f4 := KB.frozen 4); (have f5 := KB.frozen 5); (have f6 := KB.frozen 6); (have f7 := KB.frozen 7)) | skip)))
  · have Tw := (HT1.out.over hB12).alloc (.cells #[.string m1, .string m2, .bool m3, .bool m4, .bool m5, .int .i64 m6, .slice m7 m8 m9, .slice m10 m11 m12] 53)
    generalize (w2.alloc (.cells #[.string m1, .string m2, .bool m3, .bool m4, .bool m5, .int .i64 m6, .slice m7 m8 m9, .slice m10 m11 m12] 53)) = W at *
    have HTw := Lib.hid Tw
    obtain ⟨i0, i1, i2, i3, i4, i5⟩ := Tw.cells
    clear Tw k0 k1 k3 k4 k5 HT1 HFO q0 q1
    go_upto_region 3 with (first
      | (go_at_call 137; (with_reducible refine (HT.out _).mono ?_); rintro e wq ⟨rfl, rfl⟩))
    cases hm : methodR type with
    | none =>
      rw [hm] at HR HD
      have hre := HR.out
      go_wp2_with (first
        | (go_at_call 132; (with_reducible refine (HD.out _).mono ?_); rintro e w3 ⟨hB3, rfl⟩)
        | (go_at_call 137; (with_reducible refine (HF.out _).mono ?_); rintro e wq ⟨rfl, rfl⟩))
      exact And.intro rfl (HTw.out.stop (HTw.out.step.over hB3) hre.symm)
    | some p =>
      obtain ⟨args, g⟩ := p
      rw [hm] at HR HD
      obtain ⟨hsa, hgs0⟩ := methodR_sizes hm
      have hl5 := methodR_len hm
      have hgs : g.size ≤ maxLen := Nat.le_trans hgs0 (Nat.le_trans hty (by decide))
      have hsz : ∀ k ∈ args.reverse, k.size ≤ maxLen := fun k hk => Nat.le_trans (hsa k (List.mem_reverse.1 hk)) (Nat.le_trans hty (by decide))
      have hln : args.reverse.length ≤ 4194304 := by rw [List.length_reverse]; omega
      have hl6 : args.length ≤ 9223372036854775807 := by omega
      dsimp only at HR
      go_upto_region 5 with (first
        | (go_at_call 132; (with_reducible refine (HD.out _).mono ?_); rintro e w3 ⟨hB3, v, rfl, hO3⟩; obtain ⟨vp, vc, rfl⟩ := ownsRow_shape hO3)
        | (go_at_call 137; (with_reducible refine (HT.out _).mono ?_); rintro e wq ⟨rfl, rfl⟩))
      have T3 := HTw.out.over hB3
      have hfar : ∀ b, (Value.slice vp args.length vc).ownBlock = some b → W.heap.size ≤ b ∧ b < w3.heap.size := fun b hb => hO3.lt b hb
      go_upto_region 6 with (first
        | (go_at_call 189; (with_reducible refine (reverse_at hO3 rfl hl6).mono ?_); rintro e w4 ⟨rfl, hO4, hg4⟩))
      have T4 := T3.grown hg4 T3.step.size (fun b hb => ⟨Nat.le_trans HTw.out.below.size (hfar b hb).1, Nat.le_trans HTw.out.step.size (hfar b hb).1, Nat.ne_of_gt (Nat.lt_of_lt_of_le HTw.out.box.lt (hfar b hb).1), HTw.out.step.fresh (hfar b hb).1⟩)
      have hKs : KindsAt w4 (.slice vp args.length vc) args.reverse sb lv sv := ⟨strsAt_of_owns (l := args.reverse) (by rw [List.length_reverse]; exact hO4), fun b hb => ⟨(hO4.lt b hb).2, HTw.out.step.fresh (hfar b hb).1⟩⟩
      obtain ⟨i0, i1, i2, i3, i4, i5⟩ := T4.cells
      clear T3 HTw hB3 hO3 hg4 HD hsa hgs0 hl5 hl6 hm
      cases hV : (g.toList == [86]) with
      | true =>
        go_wp2_with (first
          | (go_at_call 139; rcases hq0 : takeS (allC l) args.reverse S with _ | S1; (with_reducible refine (T4.takeAN hS args.reverse _ hKs hsz hln hq0).mono ?_); (rintro e w5 hP; obtain ⟨hB, rfl⟩ := hP.no'; exact And.intro rfl (T4.stop hB (HR.out.symm.trans (unitS_none (ob_none hq0))))); (with_reducible refine (T4.takeAY hS args.reverse _ hKs hsz hln hq0).mono ?_); rintro e w5 hP; obtain ⟨hB5, rfl, lv5, sv5, hS5, hk5⟩ := hP.ok'; (have T5 := T4.next hB5 hS5 hk5); (have hN5 := takeS_known hq0 hS); obtain ⟨i0, i1, i2, i3, i4, i5⟩ := T5.cells)
          | (go_at_call 142; (with_reducible refine (HTh.out _).mono ?_); rintro e wq ⟨rfl, rfl⟩)
          | (go_at_call 139; (have T5a := T5.alloc (.cells #[.string (thText cls)] 9)); rcases hq1 : takeS (allC l) [thText cls] S1 with _ | S2; (with_reducible refine (T5.takeON hN5 (thText cls) hth _ (by simp) hq1).mono ?_); (rintro e w6 hP; obtain ⟨hB, rfl⟩ := hP.no'; exact And.intro rfl (T5a.stop hB (HR.out.symm.trans (unitS_none ((ob_some hq0).trans (ob_none hq1)))))); (with_reducible refine (T5.takeOY hN5 (thText cls) hth _ (by simp) hq1).mono ?_); rintro e w6 hP; obtain ⟨hB6, rfl, lv6, sv6, hS6, hk6⟩ := hP.ok'; (have T6 := T5a.next hB6 hS6 hk6)))
        go_end0
        exact T6.done (HR.out.symm.trans (unitS_some ((ob_some hq0).trans ((ob_some hq1).trans (endS_v hV)))))
      | false =>
        by_cases hkg : kindR (allC l) g = 0
        · go_wp2_with (first
            | (go_at_call 139; rcases hq0 : takeS (allC l) args.reverse S with _ | S1; (with_reducible refine (T4.takeAN hS args.reverse _ hKs hsz hln hq0).mono ?_); (rintro e w5 hP; obtain ⟨hB, rfl⟩ := hP.no'; exact And.intro rfl (T4.stop hB (HR.out.symm.trans (unitS_none (ob_none hq0))))); (with_reducible refine (T4.takeAY hS args.reverse _ hKs hsz hln hq0).mono ?_); rintro e w5 hP; obtain ⟨hB5, rfl, lv5, sv5, hS5, hk5⟩ := hP.ok'; (have T5 := T4.next hB5 hS5 hk5); (have hN5 := takeS_known hq0 hS); obtain ⟨i0, i1, i2, i3, i4, i5⟩ := T5.cells)
            | (go_at_call 142; (with_reducible refine (HTh.out _).mono ?_); rintro e wq ⟨rfl, rfl⟩)
            | (go_at_call 139; (have T5a := T5.alloc (.cells #[.string (thText cls)] 9)); rcases hq1 : takeS (allC l) [thText cls] S1 with _ | S2; (with_reducible refine (T5.takeON hN5 (thText cls) hth _ (by simp) hq1).mono ?_); (rintro e w6 hP; obtain ⟨hB, rfl⟩ := hP.no'; exact And.intro rfl (T5a.stop hB (HR.out.symm.trans (unitS_none ((ob_some hq0).trans (ob_none hq1)))))); (with_reducible refine (T5.takeOY hN5 (thText cls) hth _ (by simp) hq1).mono ?_); rintro e w6 hP; obtain ⟨hB6, rfl, lv6, sv6, hS6, hk6⟩ := hP.ok'; (have T6 := T5a.next hB6 hS6 hk6))
            | (go_at_call 143; (with_reducible refine (T6.knowsY g hgs hkg).mono ?_); rintro e w7 hP; obtain ⟨hB7, rfl, lv7, sv7, hS7, hk7⟩ := hP.ok'; (have T7 := T6.next hB7 hS7 hk7))
            | (go_at_call 136; rcases hq2 : putS S2 g with _ | S3; (with_reducible refine (T7.putN g hq2).mono ?_); (rintro e w8 hP; obtain ⟨hB, rfl⟩ := hP.no'; exact And.intro rfl (T7.stop hB (HR.out.symm.trans (unitS_none ((ob_some hq0).trans ((ob_some hq1).trans (endS_none hV hkg hq2))))))); (with_reducible refine (T7.putY g hq2).mono ?_); rintro e w8 hP; obtain ⟨hB8, rfl, lv8, sv8, hS8, hk8⟩ := hP.ok'; (have T8 := T7.next hB8 hS8 hk8)))
          go_end0
          exact T8.done (HR.out.symm.trans (unitS_some ((ob_some hq0).trans ((ob_some hq1).trans (endS_some hV hkg hq2)))))
        · go_wp2_with (first
            | (go_at_call 139; rcases hq0 : takeS (allC l) args.reverse S with _ | S1; (with_reducible refine (T4.takeAN hS args.reverse _ hKs hsz hln hq0).mono ?_); (rintro e w5 hP; obtain ⟨hB, rfl⟩ := hP.no'; exact And.intro rfl (T4.stop hB (HR.out.symm.trans (unitS_none (ob_none hq0))))); (with_reducible refine (T4.takeAY hS args.reverse _ hKs hsz hln hq0).mono ?_); rintro e w5 hP; obtain ⟨hB5, rfl, lv5, sv5, hS5, hk5⟩ := hP.ok'; (have T5 := T4.next hB5 hS5 hk5); (have hN5 := takeS_known hq0 hS); obtain ⟨i0, i1, i2, i3, i4, i5⟩ := T5.cells)
            | (go_at_call 142; (with_reducible refine (HTh.out _).mono ?_); rintro e wq ⟨rfl, rfl⟩)
            | (go_at_call 139; (have T5a := T5.alloc (.cells #[.string (thText cls)] 9)); rcases hq1 : takeS (allC l) [thText cls] S1 with _ | S2; (with_reducible refine (T5.takeON hN5 (thText cls) hth _ (by simp) hq1).mono ?_); (rintro e w6 hP; obtain ⟨hB, rfl⟩ := hP.no'; exact And.intro rfl (T5a.stop hB (HR.out.symm.trans (unitS_none ((ob_some hq0).trans (ob_none hq1)))))); (with_reducible refine (T5.takeOY hN5 (thText cls) hth _ (by simp) hq1).mono ?_); rintro e w6 hP; obtain ⟨hB6, rfl, lv6, sv6, hS6, hk6⟩ := hP.ok'; (have T6 := T5a.next hB6 hS6 hk6))
            | (go_at_call 143; (with_reducible refine (T6.knowsN g hgs hkg).mono ?_); rintro e w7 hP; obtain ⟨hB7, rfl⟩ := hP.no'))
          exact And.intro rfl (T6.stop hB7 (HR.out.symm.trans (unitS_none ((ob_some hq0).trans ((ob_some hq1).trans (endS_no hV hkg))))))
  · have Tw := (((((((((HT1.out.over hB12).aside (b := w1.heap.size) (Nat.le_of_lt hsz1) (Nat.le_trans hbs (Nat.le_of_lt hw1l)) (Nat.ne_of_gt hsz1) (HT1.out.step.fresh (Nat.le_refl _)) 0 (.string m1)).aside (b := w1.heap.size) (Nat.le_of_lt hsz1) (Nat.le_trans hbs (Nat.le_of_lt hw1l)) (Nat.ne_of_gt hsz1) (HT1.out.step.fresh (Nat.le_refl _)) 1 (.string m2)).aside (b := w1.heap.size) (Nat.le_of_lt hsz1) (Nat.le_trans hbs (Nat.le_of_lt hw1l)) (Nat.ne_of_gt hsz1) (HT1.out.step.fresh (Nat.le_refl _)) 2 (.bool m3)).aside (b := w1.heap.size) (Nat.le_of_lt hsz1) (Nat.le_trans hbs (Nat.le_of_lt hw1l)) (Nat.ne_of_gt hsz1) (HT1.out.step.fresh (Nat.le_refl _)) 3 (.bool m4)).aside (b := w1.heap.size) (Nat.le_of_lt hsz1) (Nat.le_trans hbs (Nat.le_of_lt hw1l)) (Nat.ne_of_gt hsz1) (HT1.out.step.fresh (Nat.le_refl _)) 4 (.bool m5)).aside (b := w1.heap.size) (Nat.le_of_lt hsz1) (Nat.le_trans hbs (Nat.le_of_lt hw1l)) (Nat.ne_of_gt hsz1) (HT1.out.step.fresh (Nat.le_refl _)) 5 (.int .i64 m6)).aside (b := w1.heap.size) (Nat.le_of_lt hsz1) (Nat.le_trans hbs (Nat.le_of_lt hw1l)) (Nat.ne_of_gt hsz1) (HT1.out.step.fresh (Nat.le_refl _)) 6 (.slice m7 m8 m9)).aside (b := w1.heap.size) (Nat.le_of_lt hsz1) (Nat.le_trans hbs (Nat.le_of_lt hw1l)) (Nat.ne_of_gt hsz1) (HT1.out.step.fresh (Nat.le_refl _)) 7 (.slice m10 m11 m12))
    generalize ((((((((w2.setCell ⟨w1.heap.size, 0, none⟩ (.string m1)).setCell ⟨w1.heap.size, 1, none⟩ (.string m2)).setCell ⟨w1.heap.size, 2, none⟩ (.bool m3)).setCell ⟨w1.heap.size, 3, none⟩ (.bool m4)).setCell ⟨w1.heap.size, 4, none⟩ (.bool m5)).setCell ⟨w1.heap.size, 5, none⟩ (.int .i64 m6)).setCell ⟨w1.heap.size, 6, none⟩ (.slice m7 m8 m9)).setCell ⟨w1.heap.size, 7, none⟩ (.slice m10 m11 m12)) = W at *
    have HTw := Lib.hid Tw
    obtain ⟨i0, i1, i2, i3, i4, i5⟩ := Tw.cells
    clear Tw k0 k1 k3 k4 k5 HT1 HFO q0 q1
    go_upto_region 3 with (first
      | (go_at_call 137; (with_reducible refine (HT.out _).mono ?_); rintro e wq ⟨rfl, rfl⟩))
    cases hm : methodR type with
    | none =>
      rw [hm] at HR HD
      have hre := HR.out
      go_wp2_with (first
        | (go_at_call 132; (with_reducible refine (HD.out _).mono ?_); rintro e w3 ⟨hB3, rfl⟩)
        | (go_at_call 137; (with_reducible refine (HF.out _).mono ?_); rintro e wq ⟨rfl, rfl⟩))
      exact And.intro rfl (HTw.out.stop (HTw.out.step.over hB3) hre.symm)
    | some p =>
      obtain ⟨args, g⟩ := p
      rw [hm] at HR HD
      obtain ⟨hsa, hgs0⟩ := methodR_sizes hm
      have hl5 := methodR_len hm
      have hgs : g.size ≤ maxLen := Nat.le_trans hgs0 (Nat.le_trans hty (by decide))
      have hsz : ∀ k ∈ args.reverse, k.size ≤ maxLen := fun k hk => Nat.le_trans (hsa k (List.mem_reverse.1 hk)) (Nat.le_trans hty (by decide))
      have hln : args.reverse.length ≤ 4194304 := by rw [List.length_reverse]; omega
      have hl6 : args.length ≤ 9223372036854775807 := by omega
      dsimp only at HR
      go_upto_region 5 with (first
        | (go_at_call 132; (with_reducible refine (HD.out _).mono ?_); rintro e w3 ⟨hB3, v, rfl, hO3⟩; obtain ⟨vp, vc, rfl⟩ := ownsRow_shape hO3)
        | (go_at_call 137; (with_reducible refine (HT.out _).mono ?_); rintro e wq ⟨rfl, rfl⟩))
      have T3 := HTw.out.over hB3
      have hfar : ∀ b, (Value.slice vp args.length vc).ownBlock = some b → W.heap.size ≤ b ∧ b < w3.heap.size := fun b hb => hO3.lt b hb
      go_upto_region 6 with (first
        | (go_at_call 189; (with_reducible refine (reverse_at hO3 rfl hl6).mono ?_); rintro e w4 ⟨rfl, hO4, hg4⟩))
      have T4 := T3.grown hg4 T3.step.size (fun b hb => ⟨Nat.le_trans HTw.out.below.size (hfar b hb).1, Nat.le_trans HTw.out.step.size (hfar b hb).1, Nat.ne_of_gt (Nat.lt_of_lt_of_le HTw.out.box.lt (hfar b hb).1), HTw.out.step.fresh (hfar b hb).1⟩)
      have hKs : KindsAt w4 (.slice vp args.length vc) args.reverse sb lv sv := ⟨strsAt_of_owns (l := args.reverse) (by rw [List.length_reverse]; exact hO4), fun b hb => ⟨(hO4.lt b hb).2, HTw.out.step.fresh (hfar b hb).1⟩⟩
      obtain ⟨i0, i1, i2, i3, i4, i5⟩ := T4.cells
      clear T3 HTw hB3 hO3 hg4 HD hsa hgs0 hl5 hl6 hm
      cases hV : (g.toList == [86]) with
      | true =>
        go_wp2_with (first
          | (go_at_call 139; rcases hq0 : takeS (allC l) args.reverse S with _ | S1; (with_reducible refine (T4.takeAN hS args.reverse _ hKs hsz hln hq0).mono ?_); (rintro e w5 hP; obtain ⟨hB, rfl⟩ := hP.no'; exact And.intro rfl (T4.stop hB (HR.out.symm.trans (unitS_none (ob_none hq0))))); (with_reducible refine (T4.takeAY hS args.reverse _ hKs hsz hln hq0).mono ?_); rintro e w5 hP; obtain ⟨hB5, rfl, lv5, sv5, hS5, hk5⟩ := hP.ok'; (have T5 := T4.next hB5 hS5 hk5); (have hN5 := takeS_known hq0 hS); obtain ⟨i0, i1, i2, i3, i4, i5⟩ := T5.cells)
          | (go_at_call 142; (with_reducible refine (HTh.out _).mono ?_); rintro e wq ⟨rfl, rfl⟩)
          | (go_at_call 139; (have T5a := T5.alloc (.cells #[.string (thText cls)] 9)); rcases hq1 : takeS (allC l) [thText cls] S1 with _ | S2; (with_reducible refine (T5.takeON hN5 (thText cls) hth _ (by simp) hq1).mono ?_); (rintro e w6 hP; obtain ⟨hB, rfl⟩ := hP.no'; exact And.intro rfl (T5a.stop hB (HR.out.symm.trans (unitS_none ((ob_some hq0).trans (ob_none hq1)))))); (with_reducible refine (T5.takeOY hN5 (thText cls) hth _ (by simp) hq1).mono ?_); rintro e w6 hP; obtain ⟨hB6, rfl, lv6, sv6, hS6, hk6⟩ := hP.ok'; (have T6 := T5a.next hB6 hS6 hk6)))
        go_end0
        exact T6.done (HR.out.symm.trans (unitS_some ((ob_some hq0).trans ((ob_some hq1).trans (endS_v hV)))))
      | false =>
        by_cases hkg : kindR (allC l) g = 0
        · go_wp2_with (first
            | (go_at_call 139; rcases hq0 : takeS (allC l) args.reverse S with _ | S1; (with_reducible refine (T4.takeAN hS args.reverse _ hKs hsz hln hq0).mono ?_); (rintro e w5 hP; obtain ⟨hB, rfl⟩ := hP.no'; exact And.intro rfl (T4.stop hB (HR.out.symm.trans (unitS_none (ob_none hq0))))); (with_reducible refine (T4.takeAY hS args.reverse _ hKs hsz hln hq0).mono ?_); rintro e w5 hP; obtain ⟨hB5, rfl, lv5, sv5, hS5, hk5⟩ := hP.ok'; (have T5 := T4.next hB5 hS5 hk5); (have hN5 := takeS_known hq0 hS); obtain ⟨i0, i1, i2, i3, i4, i5⟩ := T5.cells)
            | (go_at_call 142; (with_reducible refine (HTh.out _).mono ?_); rintro e wq ⟨rfl, rfl⟩)
            | (go_at_call 139; (have T5a := T5.alloc (.cells #[.string (thText cls)] 9)); rcases hq1 : takeS (allC l) [thText cls] S1 with _ | S2; (with_reducible refine (T5.takeON hN5 (thText cls) hth _ (by simp) hq1).mono ?_); (rintro e w6 hP; obtain ⟨hB, rfl⟩ := hP.no'; exact And.intro rfl (T5a.stop hB (HR.out.symm.trans (unitS_none ((ob_some hq0).trans (ob_none hq1)))))); (with_reducible refine (T5.takeOY hN5 (thText cls) hth _ (by simp) hq1).mono ?_); rintro e w6 hP; obtain ⟨hB6, rfl, lv6, sv6, hS6, hk6⟩ := hP.ok'; (have T6 := T5a.next hB6 hS6 hk6))
            | (go_at_call 143; (with_reducible refine (T6.knowsY g hgs hkg).mono ?_); rintro e w7 hP; obtain ⟨hB7, rfl, lv7, sv7, hS7, hk7⟩ := hP.ok'; (have T7 := T6.next hB7 hS7 hk7))
            | (go_at_call 136; rcases hq2 : putS S2 g with _ | S3; (with_reducible refine (T7.putN g hq2).mono ?_); (rintro e w8 hP; obtain ⟨hB, rfl⟩ := hP.no'; exact And.intro rfl (T7.stop hB (HR.out.symm.trans (unitS_none ((ob_some hq0).trans ((ob_some hq1).trans (endS_none hV hkg hq2))))))); (with_reducible refine (T7.putY g hq2).mono ?_); rintro e w8 hP; obtain ⟨hB8, rfl, lv8, sv8, hS8, hk8⟩ := hP.ok'; (have T8 := T7.next hB8 hS8 hk8)))
          go_end0
          exact T8.done (HR.out.symm.trans (unitS_some ((ob_some hq0).trans ((ob_some hq1).trans (endS_some hV hkg hq2)))))
        · go_wp2_with (first
            | (go_at_call 139; rcases hq0 : takeS (allC l) args.reverse S with _ | S1; (with_reducible refine (T4.takeAN hS args.reverse _ hKs hsz hln hq0).mono ?_); (rintro e w5 hP; obtain ⟨hB, rfl⟩ := hP.no'; exact And.intro rfl (T4.stop hB (HR.out.symm.trans (unitS_none (ob_none hq0))))); (with_reducible refine (T4.takeAY hS args.reverse _ hKs hsz hln hq0).mono ?_); rintro e w5 hP; obtain ⟨hB5, rfl, lv5, sv5, hS5, hk5⟩ := hP.ok'; (have T5 := T4.next hB5 hS5 hk5); (have hN5 := takeS_known hq0 hS); obtain ⟨i0, i1, i2, i3, i4, i5⟩ := T5.cells)
            | (go_at_call 142; (with_reducible refine (HTh.out _).mono ?_); rintro e wq ⟨rfl, rfl⟩)
            | (go_at_call 139; (have T5a := T5.alloc (.cells #[.string (thText cls)] 9)); rcases hq1 : takeS (allC l) [thText cls] S1 with _ | S2; (with_reducible refine (T5.takeON hN5 (thText cls) hth _ (by simp) hq1).mono ?_); (rintro e w6 hP; obtain ⟨hB, rfl⟩ := hP.no'; exact And.intro rfl (T5a.stop hB (HR.out.symm.trans (unitS_none ((ob_some hq0).trans (ob_none hq1)))))); (with_reducible refine (T5.takeOY hN5 (thText cls) hth _ (by simp) hq1).mono ?_); rintro e w6 hP; obtain ⟨hB6, rfl, lv6, sv6, hS6, hk6⟩ := hP.ok'; (have T6 := T5a.next hB6 hS6 hk6))
            | (go_at_call 143; (with_reducible refine (T6.knowsN g hgs hkg).mono ?_); rintro e w7 hP; obtain ⟨hB7, rfl⟩ := hP.no'))
          exact And.intro rfl (T6.stop hB7 (HR.out.symm.trans (unitS_none ((ob_some hq0).trans ((ob_some hq1).trans (endS_no hV hkg))))))
end Go.Proofs.YtlmfmioljeppfaaGreatDoor
