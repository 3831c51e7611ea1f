/-
  WALK over the law FrameSteps. Conditions: as in XRead; the instruction's texts of at most 1048576 signs, kinds' texts of at most 4194304.
-/
import Derived.Test.YtlmfmioljeppfaaGreatDoorRefStep
import Derived.Test.YtlmfmioljeppfaaGreatDoorFrameEnds
import Derived.Test.YtlmfmioljeppfaaGreatDoorRefNames
import Derived.Test.YtlmfmioljeppfaaGreatDoorRefFault
namespace Go.Proofs.YtlmfmioljeppfaaGreatDoor
open Go.RowKit Go.Shelf Go.Lib
/-- an instruction and a frame, boxed -/
structure ET (w wx : World) (xv : List Value) (f1 f2 : Value) : Prop where
  below : Below w.heap.size w wx
  ki : Blk wx w.heap.size 24 xv
  kf : Blk wx (w.heap.size + 1) 27 [f1, f2]
theorem ET.step {w wx wy : World} {xv : List Value} {f1 f2 : Value} (h : ET w wx xv f1 f2) (hb : Below wx.heap.size wx wy) : ET w wy xv f1 f2 := ⟨below_call h.below (Nat.le_refl _) hb, h.ki.step hb, h.kf.step hb⟩
theorem ET.alloc {w wx : World} {xv : List Value} {f1 f2 : Value} (h : ET w wx xv f1 f2) (o : Obj) : ET w (wx.alloc o) xv f1 f2 := h.step ((Below.refl _ _).alloc (Nat.le_refl _) o)
theorem ET.grown {w wx wy : World} {xv : List Value} {f1 f2 : Value} (h : ET w wx xv f1 f2) {g : Nat} (hg : wx.grownBy wy (some g)) (hb : w.heap.size + 1 < g) : ET w wy xv f1 f2 :=
  ⟨h.below.grown hg h.below.size (fun k e => by injection e with e; omega), h.ki.grown hg (fun e => by injection e with e; omega), h.kf.grown hg (fun e => by injection e with e; omega)⟩
theorem ET.put {w wx : World} {xv : List Value} {f1 f2 : Value} (h : ET w wx xv f1 f2) {b : Nat} (hb : w.heap.size + 1 < b) (u v : Value) : ET w ((wx.setCell ⟨b, 0, none⟩ u).setCell ⟨b, 1, none⟩ v) xv f1 f2 :=
  ⟨below_set2 h.below (by omega) u v, (h.ki.other (by omega) 0 u).other (by omega) 1 v, (h.kf.other (by omega) 0 u).other (by omega) 1 v⟩
theorem ET.get {w wx : World} {x0 x1 x2 x3 x4 x5 f1 f2 : Value} (h : ET w wx [x0, x1, x2, x3, x4, x5] f1 f2) : (wx.cell? ⟨w.heap.size, 0, none⟩ = some x0 ∧ wx.cell? ⟨w.heap.size, 1, none⟩ = some x1 ∧ wx.cell? ⟨w.heap.size, 2, none⟩ = some x2 ∧ wx.cell? ⟨w.heap.size, 3, none⟩ = some x3 ∧ wx.cell? ⟨w.heap.size, 4, none⟩ = some x4 ∧ wx.cell? ⟨w.heap.size, 5, none⟩ = some x5) ∧ wx.cell? ⟨w.heap.size + 1, 0, none⟩ = some f1 ∧ wx.cell? ⟨w.heap.size + 1, 1, none⟩ = some f2 := ⟨h.ki.cells6, h.kf.cells2⟩
theorem ET.new (w : World) (x0 x1 x2 x3 x4 x5 f1 f2 : Value) : ET w ((w.alloc (.cells #[x0, x1, x2, x3, x4, x5] 24)).alloc (.cells #[f1, f2] 27)) [x0, x1, x2, x3, x4, x5] f1 f2 := by
  refine ⟨((Below.refl _ _).alloc (Nat.le_refl _) _).alloc (by simp) _, (Blk.new w 24 [x0, x1, x2, x3, x4, x5]).step ((Below.refl _ _).alloc (Nat.le_refl _) _), ?_⟩
  have := Blk.new (w.alloc (.cells #[x0, x1, x2, x3, x4, x5] 24)) 27 [f1, f2]
  simpa using this
theorem refIns_all (x : Ins) (w : World) (hs : InsOk x) : Calls Tryz.prog 13 #[insV x] w fun e w' => e = .returned (.int .i64 (insFault x)) ∧ Below w.heap.size w w' := by
  by_cases h : x.op < 1 ∨ 28 < x.op
  · exact refIns_bad x w h
  · obtain ⟨op, a, b, type, cls, name⟩ := x
    exact refIns_good op a b type cls name w (by dsimp only at h; omega) (by dsimp only at h; omega) hs
theorem type_bad {g : Str} (h : typeFault g ≠ 0) : typeB g.data.toList = false := by
  unfold typeFault at h
  cases hq : typeB g.data.toList with
  | false => rfl
  | true => exact absurd (by rw [if_pos (by simpa using hq)]) h
theorem type_good {g : Str} (h : ¬ ((g.toList == [86]) = false ∧ typeFault g ≠ 0)) (e : (g.toList == [86]) = false) : typeB g.data.toList = true := by
  cases hq : typeB g.data.toList with
  | true => rfl
  | false => exact absurd ⟨e, by unfold typeFault; rw [if_neg (by rw [hq]; decide)]; decide⟩ h
set_option maxHeartbeats 4000000 in
set_option maxRecDepth 100000 in
theorem frameSteps_any (l : List Class) (lv : Value) (from' gives : Str) (x : Ins) (f : Frm) (f1 f2 : Value) (w : World) (hl : Laid w) (ho : ∀ c ∈ l, ClassOk c) (hlv : ClassesAt w lv l) (hf : FrameAt w f1 f2 f) (hS : FrmShort f) (hx : InsOk x) (hfr : from'.size ≤ maxLen) (hg : gives.size ≤ maxLen) :
    Calls Tryz.prog 3 #[lv, .string from', .string gives, insV x, .agg #[f1, f2]] w fun e w' => e = .returned (.bool true) ∧ Below w.heap.size w w' := by
  have HSt : Hid (∀ wx, Below w.heap.size w wx → _) := fun wx hx => stepped_any wx (hl.mono hx hl.1)
  have HRw : Hid (∀ wx, Below w.heap.size w wx → _) := fun wx hx => refWorld_any l lv wx ho (hlv.mono hx)
  have HFa : Hid (∀ wx, Below w.heap.size w wx → _) := fun wx hx => refFrameFault_any l lv wx (hlv.mono hx) f f1 f2 (hf.mono hx) hS
  have HIn : Hid (∀ wx, Below w.heap.size w wx → _) := fun wx _ => refIns_all x wx hx
  have HCO : Hid (∀ wx, Below w.heap.size w wx → _) := fun wx hb => refClassOf_any l lv from' wx (hlv.mono hb)
  unfold ClassGives at HCO
  have HIt : Hid (∀ wx, _) := fun wx => refIsType_any gives wx hg
  have HSp : Hid (∀ wx, Below w.heap.size w wx → _) := fun wx hb => frameStep_any l lv from' gives x f f1 f2 wx (hl.mono hb hl.1) ho (hlv.mono hb) (hf.mono hb) hS hx hfr hg
  have HQS : Hid (Right l → (∀ c ∈ l, classFault c = 0) → frameR (allC l) f = 0 → insFault x = 0 → ∀ wx, Below w.heap.size w wx → _) := fun h1 h2 h3 h4 wx hb => refStep_any l lv h1 h2 wx (hlv.mono hb) from' gives x.op x.a x.b x.type x.cls x.name f.locals f.stack f1 f2 (hf.mono hb) h3 hx.type (Nat.le_trans hx.cls (by decide)) hg h4
  have HSn : Hid (∀ wx, _) := fun wx => sameFrame_any ⟨[], []⟩ ⟨[], []⟩ (.slice none 0 0) (.slice none 0 0) (.slice none 0 0) (.slice none 0 0) wx (frameAt_nil wx) (frameAt_nil wx)
  rw [decide_eq_true rfl] at HSn
  have HA := Lib.hid below_alloc
  obtain ⟨pl, cap, rfl, _⟩ := hlv.open
  obtain ⟨p1, c1, rfl, _⟩ := hf.1.open
  obtain ⟨p2, c2, rfl, _⟩ := hf.2.open
  clear hl ho hlv hf hS hfr hg
  unfold StepRes at HSp
  generalize hd : (findC (allC l) from').getD noClass = d at *
  clear hd
  obtain ⟨n2, s2, f2, b2, d2, m2⟩ := d
  dsimp only at HCO
  generalize hr : stepF (allC l) from' gives x f.locals f.stack = res at *
  obtain ⟨op, a, b, type, cls, name⟩ := x
  dsimp only at HQS
  clear hr hx
  unfold insV at HSp HIn ⊢
  have T0 := ET.new w (.int .i64 op) (.int .i64 a) (.int .i64 b) (.string type) (.string cls) (.string name) (.slice p1 f.locals.length c1) (.slice p2 f.stack.length c2)
  by_cases hz : readFault l = 0
  rotate_left
  · rw [stepN_fault (stepF_read hz) hz] at HSp
    generalize readFault l = N at *
    have hN := hz; have hz2 : ((N : Int) == 0) = false := by rw [beq_eq_false_iff_ne]; omega
    have HNz : Hid (¬ N = 0) := Lib.hid hN
    have HE1 : Hid (∀ wx, _) := fun wx => errIs N hN wx
    clear hz hN HQS
    go_enter Tryz.func3, Tryz.ntmps3
    go_upto_region 15 with (first
      | (go_at_call 10; (with_reducible refine (HSt.out _ T0.below).mono ?_); rintro e w2 ⟨rfl, hB2⟩; (have T2 := T0.step hB2); obtain ⟨⟨q0, q1, q2, q3, q4, q5⟩, q6, q7⟩ := T2.get)
      | (go_at_call 11; (with_reducible refine (HRw.out _ T2.below).mono ?_); rintro e w3 ⟨rfl, hB3⟩; (have T3 := T2.step hB3); obtain ⟨⟨q0, q1, q2, q3, q4, q5⟩, q6, q7⟩ := T3.get)
      | (go_at_call 14; (with_reducible refine (HCO.out _ T3.below).mono ?_); rintro e w6 ⟨pf2, kf2, pd2, kd2, pm2, km2, rfl, _, _, _, hB6, _⟩; (have T6 := (T3.step hB6).alloc (.cells #[.string n2, .string s2, .slice pf2 f2.length kf2, .bool b2, .slice pd2 d2.length kd2, .slice pm2 m2.length km2] 36)); obtain ⟨⟨q0, q1, q2, q3, q4, q5⟩, q6, q7⟩ := T6.get)
      | (go_at_call 15; (with_reducible refine (HIt.out _).mono ?_); rintro e wi ⟨rfl, rfl⟩))
    have hlt6 := T3.kf.lt
    have hle6 := hB6.size
    have T7 := T6.alloc (.cells #[.slice none 0 0, .slice none 0 0] 27)
    have K7 := Blk.new (w6.alloc (.cells #[.string n2, .string s2, .slice pf2 f2.length kf2, .bool b2, .slice pd2 d2.length kd2, .slice pm2 m2.length km2] 36)) 27 [.slice none 0 0, .slice none 0 0]
    rw [World.size_alloc] at K7
    have hgb : w.heap.size + 1 < w6.heap.size + 1 := by omega
    clear hlt6 hle6 q0 q1 q2 q3 q4 q5 q6 q7
    generalize (w6.alloc (.cells #[.string n2, .string s2, .slice pf2 f2.length kf2, .bool b2, .slice pd2 d2.length kd2, .slice pm2 m2.length km2] 36)).alloc (.cells #[.slice none 0 0, .slice none 0 0] 27) = w7 at *
    generalize w6.heap.size + 1 = gb at *
    obtain ⟨⟨q0, q1, q2, q3, q4, q5⟩, q6, q7⟩ := T7.get
    obtain ⟨k0, k1⟩ := K7.cells2
    have HT7 := Lib.hid T7; have HK7 := Lib.hid K7
    clear T7 K7
    go_wp2_with (first
      | (go_at_call 17; (with_reducible refine (HSp.out _ HT7.out.below).mono ?_); rintro e w8 ⟨hB8, ⟨hz, _⟩ | ⟨_, rfl⟩⟩; (exact absurd hz HNz.out); (have T8 := (HT7.out.step hB8).alloc (.cells #[.slice none 0 0, .slice none 0 0] 27)); obtain ⟨k0, k1⟩ := ((HK7.out.step hB8).step (HA.out _ (.cells #[.slice none 0 0, .slice none 0 0] 27))).cells2; obtain ⟨k2, k3⟩ := (Blk.new w8 27 [.slice none 0 0, .slice none 0 0]).cells2)
      | (go_at_call 18; (with_reducible refine (HE1.out _).mono ?_); rintro e wz ⟨rfl, rfl⟩)
      | (go_at_call 19; (with_reducible refine (HSn.out _).mono ?_); rintro e w12 ⟨rfl, hB12⟩))
    go_ret
    exact ⟨rfl, (T8.step hB12).below⟩
  rw [hz] at HRw
  by_cases hfa : frameR (allC l) f = 0
  rotate_left
  · rw [stepN_fault (stepF_frame hz hfa) hfa] at HSp
    generalize frameR (allC l) f = N at *
    have hN := hfa; have hz2 : ((N : Int) == 0) = false := by rw [beq_eq_false_iff_ne]; omega
    have HNz : Hid (¬ N = 0) := Lib.hid hN
    have HE1 : Hid (∀ wx, _) := fun wx => errIs N hN wx
    clear hz hfa hN HQS
    go_enter Tryz.func3, Tryz.ntmps3
    go_upto_region 15 with (first
      | (go_at_call 10; (with_reducible refine (HSt.out _ T0.below).mono ?_); rintro e w2 ⟨rfl, hB2⟩; (have T2 := T0.step hB2); obtain ⟨⟨q0, q1, q2, q3, q4, q5⟩, q6, q7⟩ := T2.get)
      | (go_at_call 11; (with_reducible refine (HRw.out _ T2.below).mono ?_); rintro e w3 ⟨rfl, hB3⟩; (have T3 := T2.step hB3); obtain ⟨⟨q0, q1, q2, q3, q4, q5⟩, q6, q7⟩ := T3.get)
      | (go_at_call 12; (with_reducible refine (HFa.out _ T3.below).mono ?_); rintro e w4 ⟨rfl, hB4⟩; (have T4 := T3.step hB4); obtain ⟨⟨q0, q1, q2, q3, q4, q5⟩, q6, q7⟩ := T4.get)
      | (go_at_call 14; (with_reducible refine (HCO.out _ T4.below).mono ?_); rintro e w6 ⟨pf2, kf2, pd2, kd2, pm2, km2, rfl, _, _, _, hB6, _⟩; (have T6 := (T4.step hB6).alloc (.cells #[.string n2, .string s2, .slice pf2 f2.length kf2, .bool b2, .slice pd2 d2.length kd2, .slice pm2 m2.length km2] 36)); obtain ⟨⟨q0, q1, q2, q3, q4, q5⟩, q6, q7⟩ := T6.get)
      | (go_at_call 15; (with_reducible refine (HIt.out _).mono ?_); rintro e wi ⟨rfl, rfl⟩))
    have hlt6 := T4.kf.lt
    have hle6 := hB6.size
    have T7 := T6.alloc (.cells #[.slice none 0 0, .slice none 0 0] 27)
    have K7 := Blk.new (w6.alloc (.cells #[.string n2, .string s2, .slice pf2 f2.length kf2, .bool b2, .slice pd2 d2.length kd2, .slice pm2 m2.length km2] 36)) 27 [.slice none 0 0, .slice none 0 0]
    rw [World.size_alloc] at K7
    have hgb : w.heap.size + 1 < w6.heap.size + 1 := by omega
    clear hlt6 hle6 q0 q1 q2 q3 q4 q5 q6 q7
    generalize (w6.alloc (.cells #[.string n2, .string s2, .slice pf2 f2.length kf2, .bool b2, .slice pd2 d2.length kd2, .slice pm2 m2.length km2] 36)).alloc (.cells #[.slice none 0 0, .slice none 0 0] 27) = w7 at *
    generalize w6.heap.size + 1 = gb at *
    obtain ⟨⟨q0, q1, q2, q3, q4, q5⟩, q6, q7⟩ := T7.get
    obtain ⟨k0, k1⟩ := K7.cells2
    have HT7 := Lib.hid T7; have HK7 := Lib.hid K7
    clear T7 K7
    go_wp2_with (first
      | (go_at_call 17; (with_reducible refine (HSp.out _ HT7.out.below).mono ?_); rintro e w8 ⟨hB8, ⟨hz, _⟩ | ⟨_, rfl⟩⟩; (exact absurd hz HNz.out); (have T8 := (HT7.out.step hB8).alloc (.cells #[.slice none 0 0, .slice none 0 0] 27)); obtain ⟨k0, k1⟩ := ((HK7.out.step hB8).step (HA.out _ (.cells #[.slice none 0 0, .slice none 0 0] 27))).cells2; obtain ⟨k2, k3⟩ := (Blk.new w8 27 [.slice none 0 0, .slice none 0 0]).cells2)
      | (go_at_call 18; (with_reducible refine (HE1.out _).mono ?_); rintro e wz ⟨rfl, rfl⟩)
      | (go_at_call 19; (with_reducible refine (HSn.out _).mono ?_); rintro e w12 ⟨rfl, hB12⟩))
    go_ret
    exact ⟨rfl, (T8.step hB12).below⟩
  rw [hfa] at HFa
  by_cases hi : insFault ⟨op, a, b, type, cls, name⟩ = 0
  rotate_left
  · rw [stepN_fault (stepF_ins hz hfa hi) hi] at HSp
    generalize insFault ⟨op, a, b, type, cls, name⟩ = N at *
    have hN := hi; have hz2 : ((N : Int) == 0) = false := by rw [beq_eq_false_iff_ne]; omega
    have HNz : Hid (¬ N = 0) := Lib.hid hN
    have HE1 : Hid (∀ wx, _) := fun wx => errIs N hN wx
    clear hz hfa hi hN HQS
    go_enter Tryz.func3, Tryz.ntmps3
    go_upto_region 15 with (first
      | (go_at_call 10; (with_reducible refine (HSt.out _ T0.below).mono ?_); rintro e w2 ⟨rfl, hB2⟩; (have T2 := T0.step hB2); obtain ⟨⟨q0, q1, q2, q3, q4, q5⟩, q6, q7⟩ := T2.get)
      | (go_at_call 11; (with_reducible refine (HRw.out _ T2.below).mono ?_); rintro e w3 ⟨rfl, hB3⟩; (have T3 := T2.step hB3); obtain ⟨⟨q0, q1, q2, q3, q4, q5⟩, q6, q7⟩ := T3.get)
      | (go_at_call 12; (with_reducible refine (HFa.out _ T3.below).mono ?_); rintro e w4 ⟨rfl, hB4⟩; (have T4 := T3.step hB4); obtain ⟨⟨q0, q1, q2, q3, q4, q5⟩, q6, q7⟩ := T4.get)
      | (go_at_call 13; (with_reducible refine (HIn.out _ T4.below).mono ?_); rintro e w5 ⟨rfl, hB5⟩; (have T5 := T4.step hB5); obtain ⟨⟨q0, q1, q2, q3, q4, q5⟩, q6, q7⟩ := T5.get)
      | (go_at_call 14; (with_reducible refine (HCO.out _ T5.below).mono ?_); rintro e w6 ⟨pf2, kf2, pd2, kd2, pm2, km2, rfl, _, _, _, hB6, _⟩; (have T6 := (T5.step hB6).alloc (.cells #[.string n2, .string s2, .slice pf2 f2.length kf2, .bool b2, .slice pd2 d2.length kd2, .slice pm2 m2.length km2] 36)); obtain ⟨⟨q0, q1, q2, q3, q4, q5⟩, q6, q7⟩ := T6.get)
      | (go_at_call 15; (with_reducible refine (HIt.out _).mono ?_); rintro e wi ⟨rfl, rfl⟩))
    have hlt6 := T5.kf.lt
    have hle6 := hB6.size
    have T7 := T6.alloc (.cells #[.slice none 0 0, .slice none 0 0] 27)
    have K7 := Blk.new (w6.alloc (.cells #[.string n2, .string s2, .slice pf2 f2.length kf2, .bool b2, .slice pd2 d2.length kd2, .slice pm2 m2.length km2] 36)) 27 [.slice none 0 0, .slice none 0 0]
    rw [World.size_alloc] at K7
    have hgb : w.heap.size + 1 < w6.heap.size + 1 := by omega
    clear hlt6 hle6 q0 q1 q2 q3 q4 q5 q6 q7
    generalize (w6.alloc (.cells #[.string n2, .string s2, .slice pf2 f2.length kf2, .bool b2, .slice pd2 d2.length kd2, .slice pm2 m2.length km2] 36)).alloc (.cells #[.slice none 0 0, .slice none 0 0] 27) = w7 at *
    generalize w6.heap.size + 1 = gb at *
    obtain ⟨⟨q0, q1, q2, q3, q4, q5⟩, q6, q7⟩ := T7.get
    obtain ⟨k0, k1⟩ := K7.cells2
    have HT7 := Lib.hid T7; have HK7 := Lib.hid K7
    clear T7 K7
    go_wp2_with (first
      | (go_at_call 17; (with_reducible refine (HSp.out _ HT7.out.below).mono ?_); rintro e w8 ⟨hB8, ⟨hz, _⟩ | ⟨_, rfl⟩⟩; (exact absurd hz HNz.out); (have T8 := (HT7.out.step hB8).alloc (.cells #[.slice none 0 0, .slice none 0 0] 27)); obtain ⟨k0, k1⟩ := ((HK7.out.step hB8).step (HA.out _ (.cells #[.slice none 0 0, .slice none 0 0] 27))).cells2; obtain ⟨k2, k3⟩ := (Blk.new w8 27 [.slice none 0 0, .slice none 0 0]).cells2)
      | (go_at_call 18; (with_reducible refine (HE1.out _).mono ?_); rintro e wz ⟨rfl, rfl⟩)
      | (go_at_call 19; (with_reducible refine (HSn.out _).mono ?_); rintro e w12 ⟨rfl, hB12⟩))
    go_ret
    exact ⟨rfl, (T8.step hB12).below⟩
  rw [hi] at HIn
  cases his : (findC (allC l) from').isSome with
  | false =>
    rw [stepN_fault (stepF_from hz hfa hi his) (by decide)] at HSp
    rw [his] at HCO
    have hN : ¬ (3 : Nat) = 0 := by decide
    have HNz : Hid (¬ 3 = 0) := Lib.hid hN
    have HE1 : Hid (∀ wx, _) := fun wx => errIs 3 hN wx
    rw [show ((3 : Nat) : Int) = 3 from rfl] at HE1 HSp
    clear hz hfa hi his hN HQS
    go_enter Tryz.func3, Tryz.ntmps3
    go_upto_region 15 with (first
      | (go_at_call 10; (with_reducible refine (HSt.out _ T0.below).mono ?_); rintro e w2 ⟨rfl, hB2⟩; (have T2 := T0.step hB2); obtain ⟨⟨q0, q1, q2, q3, q4, q5⟩, q6, q7⟩ := T2.get)
      | (go_at_call 11; (with_reducible refine (HRw.out _ T2.below).mono ?_); rintro e w3 ⟨rfl, hB3⟩; (have T3 := T2.step hB3); obtain ⟨⟨q0, q1, q2, q3, q4, q5⟩, q6, q7⟩ := T3.get)
      | (go_at_call 12; (with_reducible refine (HFa.out _ T3.below).mono ?_); rintro e w4 ⟨rfl, hB4⟩; (have T4 := T3.step hB4); obtain ⟨⟨q0, q1, q2, q3, q4, q5⟩, q6, q7⟩ := T4.get)
      | (go_at_call 13; (with_reducible refine (HIn.out _ T4.below).mono ?_); rintro e w5 ⟨rfl, hB5⟩; (have T5 := T4.step hB5); obtain ⟨⟨q0, q1, q2, q3, q4, q5⟩, q6, q7⟩ := T5.get)
      | (go_at_call 14; (with_reducible refine (HCO.out _ T5.below).mono ?_); rintro e w6 ⟨pf2, kf2, pd2, kd2, pm2, km2, rfl, _, _, _, hB6, _⟩; (have T6 := (T5.step hB6).alloc (.cells #[.string n2, .string s2, .slice pf2 f2.length kf2, .bool b2, .slice pd2 d2.length kd2, .slice pm2 m2.length km2] 36)); obtain ⟨⟨q0, q1, q2, q3, q4, q5⟩, q6, q7⟩ := T6.get)
      | (go_at_call 15; (with_reducible refine (HIt.out _).mono ?_); rintro e wi ⟨rfl, rfl⟩))
    have hlt6 := T5.kf.lt
    have hle6 := hB6.size
    have T7 := T6.alloc (.cells #[.slice none 0 0, .slice none 0 0] 27)
    have K7 := Blk.new (w6.alloc (.cells #[.string n2, .string s2, .slice pf2 f2.length kf2, .bool b2, .slice pd2 d2.length kd2, .slice pm2 m2.length km2] 36)) 27 [.slice none 0 0, .slice none 0 0]
    rw [World.size_alloc] at K7
    have hgb : w.heap.size + 1 < w6.heap.size + 1 := by omega
    clear hlt6 hle6 q0 q1 q2 q3 q4 q5 q6 q7
    generalize (w6.alloc (.cells #[.string n2, .string s2, .slice pf2 f2.length kf2, .bool b2, .slice pd2 d2.length kd2, .slice pm2 m2.length km2] 36)).alloc (.cells #[.slice none 0 0, .slice none 0 0] 27) = w7 at *
    generalize w6.heap.size + 1 = gb at *
    obtain ⟨⟨q0, q1, q2, q3, q4, q5⟩, q6, q7⟩ := T7.get
    obtain ⟨k0, k1⟩ := K7.cells2
    have HT7 := Lib.hid T7; have HK7 := Lib.hid K7
    clear T7 K7
    go_wp2_with (first
      | (go_at_call 17; (with_reducible refine (HSp.out _ HT7.out.below).mono ?_); rintro e w8 ⟨hB8, ⟨hz, _⟩ | ⟨_, rfl⟩⟩; (exact absurd hz HNz.out); (have T8 := (HT7.out.step hB8).alloc (.cells #[.slice none 0 0, .slice none 0 0] 27)); obtain ⟨k0, k1⟩ := ((HK7.out.step hB8).step (HA.out _ (.cells #[.slice none 0 0, .slice none 0 0] 27))).cells2; obtain ⟨k2, k3⟩ := (Blk.new w8 27 [.slice none 0 0, .slice none 0 0]).cells2)
      | (go_at_call 18; (with_reducible refine (HE1.out _).mono ?_); rintro e wz ⟨rfl, rfl⟩)
      | (go_at_call 19; (with_reducible refine (HSn.out _).mono ?_); rintro e w12 ⟨rfl, hB12⟩))
    go_ret
    exact ⟨rfl, (T8.step hB12).below⟩
  | true =>
    rw [his] at HCO
    have hF := stepF_gives (gives := gives) hz hfa hi his
    by_cases hgv : (gives.toList == [86]) = false ∧ typeFault gives ≠ 0
    · rw [if_pos hgv] at hF
      rw [stepN_fault hF (by decide)] at HSp
      obtain ⟨gv, gt⟩ := hgv
      have ht : typeB gives.data.toList = false := type_bad gt
      rw [ht] at HIt
      have hN : ¬ (1 : Nat) = 0 := by decide
      have HNz : Hid (¬ 1 = 0) := Lib.hid hN
      have HE1 : Hid (∀ wx, _) := fun wx => errIs 1 hN wx
      rw [show ((1 : Nat) : Int) = 1 from rfl] at HE1 HSp
      clear hz hfa hi his hN HQS hF gt ht
      go_enter Tryz.func3, Tryz.ntmps3
      go_upto_region 15 with (first
        | (go_at_call 10; (with_reducible refine (HSt.out _ T0.below).mono ?_); rintro e w2 ⟨rfl, hB2⟩; (have T2 := T0.step hB2); obtain ⟨⟨q0, q1, q2, q3, q4, q5⟩, q6, q7⟩ := T2.get)
        | (go_at_call 11; (with_reducible refine (HRw.out _ T2.below).mono ?_); rintro e w3 ⟨rfl, hB3⟩; (have T3 := T2.step hB3); obtain ⟨⟨q0, q1, q2, q3, q4, q5⟩, q6, q7⟩ := T3.get)
        | (go_at_call 12; (with_reducible refine (HFa.out _ T3.below).mono ?_); rintro e w4 ⟨rfl, hB4⟩; (have T4 := T3.step hB4); obtain ⟨⟨q0, q1, q2, q3, q4, q5⟩, q6, q7⟩ := T4.get)
        | (go_at_call 13; (with_reducible refine (HIn.out _ T4.below).mono ?_); rintro e w5 ⟨rfl, hB5⟩; (have T5 := T4.step hB5); obtain ⟨⟨q0, q1, q2, q3, q4, q5⟩, q6, q7⟩ := T5.get)
        | (go_at_call 14; (with_reducible refine (HCO.out _ T5.below).mono ?_); rintro e w6 ⟨pf2, kf2, pd2, kd2, pm2, km2, rfl, _, _, _, hB6, _⟩; (have T6 := (T5.step hB6).alloc (.cells #[.string n2, .string s2, .slice pf2 f2.length kf2, .bool b2, .slice pd2 d2.length kd2, .slice pm2 m2.length km2] 36)); obtain ⟨⟨q0, q1, q2, q3, q4, q5⟩, q6, q7⟩ := T6.get)
        | (go_at_call 15; (with_reducible refine (HIt.out _).mono ?_); rintro e wi ⟨rfl, rfl⟩))
      have hlt6 := T5.kf.lt
      have hle6 := hB6.size
      have T7 := T6.alloc (.cells #[.slice none 0 0, .slice none 0 0] 27)
      have K7 := Blk.new (w6.alloc (.cells #[.string n2, .string s2, .slice pf2 f2.length kf2, .bool b2, .slice pd2 d2.length kd2, .slice pm2 m2.length km2] 36)) 27 [.slice none 0 0, .slice none 0 0]
      rw [World.size_alloc] at K7
      have hgb : w.heap.size + 1 < w6.heap.size + 1 := by omega
      clear hlt6 hle6 q0 q1 q2 q3 q4 q5 q6 q7
      generalize (w6.alloc (.cells #[.string n2, .string s2, .slice pf2 f2.length kf2, .bool b2, .slice pd2 d2.length kd2, .slice pm2 m2.length km2] 36)).alloc (.cells #[.slice none 0 0, .slice none 0 0] 27) = w7 at *
      generalize w6.heap.size + 1 = gb at *
      obtain ⟨⟨q0, q1, q2, q3, q4, q5⟩, q6, q7⟩ := T7.get
      obtain ⟨k0, k1⟩ := K7.cells2
      have HT7 := Lib.hid T7; have HK7 := Lib.hid K7
      clear T7 K7
      go_wp2_with (first
        | (go_at_call 17; (with_reducible refine (HSp.out _ HT7.out.below).mono ?_); rintro e w8 ⟨hB8, ⟨hz, _⟩ | ⟨_, rfl⟩⟩; (exact absurd hz HNz.out); (have T8 := (HT7.out.step hB8).alloc (.cells #[.slice none 0 0, .slice none 0 0] 27)); obtain ⟨k0, k1⟩ := ((HK7.out.step hB8).step (HA.out _ (.cells #[.slice none 0 0, .slice none 0 0] 27))).cells2; obtain ⟨k2, k3⟩ := (Blk.new w8 27 [.slice none 0 0, .slice none 0 0]).cells2)
        | (go_at_call 18; (with_reducible refine (HE1.out _).mono ?_); rintro e wz ⟨rfl, rfl⟩)
        | (go_at_call 19; (with_reducible refine (HSn.out _).mono ?_); rintro e w12 ⟨rfl, hB12⟩))
      go_ret
      exact ⟨rfl, (T8.step hB12).below⟩
    · rw [if_neg hgv] at hF
      rw [stepN_after hF] at HSp
      have HQ := Lib.hid (HQS.out (right_of hz) (read_faults hz) hfa hi)
      have HGv := Lib.hid hgv
      clear hz hfa hi his HQS hF hgv
      have hgt : Hid ((gives.toList == [86]) = false → typeB gives.data.toList = true) := fun e => type_good HGv.out e
      cases hv86 : (gives.toList == [86]) with
      | true =>
        clear HGv hgt
        cases res with
        | none =>
          rw [if_pos rfl] at HSp
          have hN : ¬ (7 : Nat) = 0 := by decide
          have HNz : Hid (¬ 7 = 0) := Lib.hid hN
          have HE1 : Hid (∀ wx, _) := fun wx => errIs 7 hN wx
          rw [show ((7 : Nat) : Int) = 7 from rfl] at HE1 HSp
          clear hN
          go_enter Tryz.func3, Tryz.ntmps3
          go_upto_region 15 with (first
            | (go_at_call 10; (with_reducible refine (HSt.out _ T0.below).mono ?_); rintro e w2 ⟨rfl, hB2⟩; (have T2 := T0.step hB2); obtain ⟨⟨q0, q1, q2, q3, q4, q5⟩, q6, q7⟩ := T2.get)
            | (go_at_call 11; (with_reducible refine (HRw.out _ T2.below).mono ?_); rintro e w3 ⟨rfl, hB3⟩; (have T3 := T2.step hB3); obtain ⟨⟨q0, q1, q2, q3, q4, q5⟩, q6, q7⟩ := T3.get)
            | (go_at_call 12; (with_reducible refine (HFa.out _ T3.below).mono ?_); rintro e w4 ⟨rfl, hB4⟩; (have T4 := T3.step hB4); obtain ⟨⟨q0, q1, q2, q3, q4, q5⟩, q6, q7⟩ := T4.get)
            | (go_at_call 13; (with_reducible refine (HIn.out _ T4.below).mono ?_); rintro e w5 ⟨rfl, hB5⟩; (have T5 := T4.step hB5); obtain ⟨⟨q0, q1, q2, q3, q4, q5⟩, q6, q7⟩ := T5.get)
            | (go_at_call 14; (with_reducible refine (HCO.out _ T5.below).mono ?_); rintro e w6 ⟨pf2, kf2, pd2, kd2, pm2, km2, rfl, _, _, _, hB6, _⟩; (have T6 := (T5.step hB6).alloc (.cells #[.string n2, .string s2, .slice pf2 f2.length kf2, .bool b2, .slice pd2 d2.length kd2, .slice pm2 m2.length km2] 36)); obtain ⟨⟨q0, q1, q2, q3, q4, q5⟩, q6, q7⟩ := T6.get)
            | (go_at_call 15; (with_reducible refine (HIt.out _).mono ?_); rintro e wi ⟨rfl, rfl⟩))
          have hlt6 := T5.kf.lt
          have hle6 := hB6.size
          have T7 := T6.alloc (.cells #[.slice none 0 0, .slice none 0 0] 27)
          have K7 := Blk.new (w6.alloc (.cells #[.string n2, .string s2, .slice pf2 f2.length kf2, .bool b2, .slice pd2 d2.length kd2, .slice pm2 m2.length km2] 36)) 27 [.slice none 0 0, .slice none 0 0]
          rw [World.size_alloc] at K7
          have hgb : w.heap.size + 1 < w6.heap.size + 1 := by omega
          clear hlt6 hle6 q0 q1 q2 q3 q4 q5 q6 q7
          generalize (w6.alloc (.cells #[.string n2, .string s2, .slice pf2 f2.length kf2, .bool b2, .slice pd2 d2.length kd2, .slice pm2 m2.length km2] 36)).alloc (.cells #[.slice none 0 0, .slice none 0 0] 27) = w7 at *
          generalize w6.heap.size + 1 = gb at *
          obtain ⟨⟨q0, q1, q2, q3, q4, q5⟩, q6, q7⟩ := T7.get
          obtain ⟨k0, k1⟩ := K7.cells2
          have HT7 := Lib.hid T7; have HK7 := Lib.hid K7
          clear T7 K7
          have f0 := HK7.out.frozen 0; have f1 := HK7.out.frozen 1
          go_upto_region 18 with (go_at_call 16; (with_reducible refine (HQ.out _ HT7.out.below).mono ?_); rintro e w8 ⟨hB8, ⟨_, p3, n3, c3, p4, n4, c4, rfl⟩ | ⟨_, _, _, _, h, _⟩⟩; rotate_left; (cases h); (have T8 := HT7.out.step hB8); (have K8 := HK7.out.step hB8); obtain ⟨k0, k1⟩ := K8.cells2; (have f0 := K8.frozen 0); (have f1 := K8.frozen 1))
          have T9 := Lib.hid (T8.put hgb (.slice p3 n3 c3) (.slice p4 n4 c4))
          have K9 := Lib.hid (K8.put2 (.slice p3 n3 c3) (.slice p4 n4 c4))
          clear T8 K8 k0 k1 f0 f1 q0 q1 q2 q3 q4 q5 q6 q7 HT7 HK7
          generalize (w8.setCell ⟨gb, 0, none⟩ (.slice p3 n3 c3)).setCell ⟨gb, 1, none⟩ (.slice p4 n4 c4) = w9 at *
          obtain ⟨k0, k1⟩ := K9.out.cells2; have f0 := K9.out.frozen 0; have f1 := K9.out.frozen 1
          go_upto_region 21 with (first | fail)
          have TA := Lib.hid (T9.out.put hgb (.slice none 0 0) (.slice none 0 0))
          have KA := Lib.hid (K9.out.put2 (.slice none 0 0) (.slice none 0 0))
          clear k0 k1 f0 f1 T9 K9
          generalize (w9.setCell ⟨gb, 0, none⟩ (.slice none 0 0)).setCell ⟨gb, 1, none⟩ (.slice none 0 0) = wA at *
          obtain ⟨⟨q0, q1, q2, q3, q4, q5⟩, q6, q7⟩ := TA.out.get
          obtain ⟨k0, k1⟩ := KA.out.cells2
          go_wp2_with (first
            | (go_at_call 17; (with_reducible refine (HSp.out _ TA.out.below).mono ?_); rintro e w8 ⟨hB8, ⟨hz, _⟩ | ⟨_, rfl⟩⟩; (exact absurd hz HNz.out); (have T8 := (TA.out.step hB8).alloc (.cells #[.slice none 0 0, .slice none 0 0] 27)); obtain ⟨k0, k1⟩ := ((KA.out.step hB8).step (HA.out _ (.cells #[.slice none 0 0, .slice none 0 0] 27))).cells2; obtain ⟨k2, k3⟩ := (Blk.new w8 27 [.slice none 0 0, .slice none 0 0]).cells2)
            | (go_at_call 18; (with_reducible refine (HE1.out _).mono ?_); rintro e wz ⟨rfl, rfl⟩)
            | (go_at_call 19; (with_reducible refine (HSn.out _).mono ?_); rintro e w12 ⟨rfl, hB12⟩))
          go_ret
          exact ⟨rfl, (T8.step hB12).below⟩
        | some r =>
          obtain ⟨L, S⟩ := r
          rw [if_neg (by intro h; cases h)] at HSp
          go_enter Tryz.func3, Tryz.ntmps3
          go_upto_region 15 with (first
            | (go_at_call 10; (with_reducible refine (HSt.out _ T0.below).mono ?_); rintro e w2 ⟨rfl, hB2⟩; (have T2 := T0.step hB2); obtain ⟨⟨q0, q1, q2, q3, q4, q5⟩, q6, q7⟩ := T2.get)
            | (go_at_call 11; (with_reducible refine (HRw.out _ T2.below).mono ?_); rintro e w3 ⟨rfl, hB3⟩; (have T3 := T2.step hB3); obtain ⟨⟨q0, q1, q2, q3, q4, q5⟩, q6, q7⟩ := T3.get)
            | (go_at_call 12; (with_reducible refine (HFa.out _ T3.below).mono ?_); rintro e w4 ⟨rfl, hB4⟩; (have T4 := T3.step hB4); obtain ⟨⟨q0, q1, q2, q3, q4, q5⟩, q6, q7⟩ := T4.get)
            | (go_at_call 13; (with_reducible refine (HIn.out _ T4.below).mono ?_); rintro e w5 ⟨rfl, hB5⟩; (have T5 := T4.step hB5); obtain ⟨⟨q0, q1, q2, q3, q4, q5⟩, q6, q7⟩ := T5.get)
            | (go_at_call 14; (with_reducible refine (HCO.out _ T5.below).mono ?_); rintro e w6 ⟨pf2, kf2, pd2, kd2, pm2, km2, rfl, _, _, _, hB6, _⟩; (have T6 := (T5.step hB6).alloc (.cells #[.string n2, .string s2, .slice pf2 f2.length kf2, .bool b2, .slice pd2 d2.length kd2, .slice pm2 m2.length km2] 36)); obtain ⟨⟨q0, q1, q2, q3, q4, q5⟩, q6, q7⟩ := T6.get)
            | (go_at_call 15; (with_reducible refine (HIt.out _).mono ?_); rintro e wi ⟨rfl, rfl⟩))
          have hlt6 := T5.kf.lt
          have hle6 := hB6.size
          have T7 := T6.alloc (.cells #[.slice none 0 0, .slice none 0 0] 27)
          have K7 := Blk.new (w6.alloc (.cells #[.string n2, .string s2, .slice pf2 f2.length kf2, .bool b2, .slice pd2 d2.length kd2, .slice pm2 m2.length km2] 36)) 27 [.slice none 0 0, .slice none 0 0]
          rw [World.size_alloc] at K7
          have hgb : w.heap.size + 1 < w6.heap.size + 1 := by omega
          clear hlt6 hle6 q0 q1 q2 q3 q4 q5 q6 q7
          generalize (w6.alloc (.cells #[.string n2, .string s2, .slice pf2 f2.length kf2, .bool b2, .slice pd2 d2.length kd2, .slice pm2 m2.length km2] 36)).alloc (.cells #[.slice none 0 0, .slice none 0 0] 27) = w7 at *
          generalize w6.heap.size + 1 = gb at *
          obtain ⟨⟨q0, q1, q2, q3, q4, q5⟩, q6, q7⟩ := T7.get
          obtain ⟨k0, k1⟩ := K7.cells2
          have HT7 := Lib.hid T7; have HK7 := Lib.hid K7
          clear T7 K7
          have f0 := HK7.out.frozen 0; have f1 := HK7.out.frozen 1
          go_upto_region 18 with (go_at_call 16; (with_reducible refine (HQ.out _ HT7.out.below).mono ?_); rintro e w8 ⟨hB8, ⟨h, _⟩ | ⟨L', S', v1, v2, h, rfl, hv⟩⟩; (cases h); injection h with h; injection h with e1 e2; subst e1 e2; obtain ⟨⟨pa, ka, rfl, _⟩, ⟨pb, kb, rfl, _⟩⟩ := And.intro hv.1.open hv.2.open; (have T8 := HT7.out.step hB8); (have K8 := HK7.out.step hB8); obtain ⟨k0, k1⟩ := K8.cells2; (have f0 := K8.frozen 0); (have f1 := K8.frozen 1))
          have T9 := Lib.hid (T8.put hgb (.slice pa L.length ka) (.slice pb S.length kb))
          have K9 := Lib.hid (K8.put2 (.slice pa L.length ka) (.slice pb S.length kb))
          have HFo : Hid (FrameAt ((w8.setCell ⟨gb, 0, none⟩ (.slice pa L.length ka)).setCell ⟨gb, 1, none⟩ (.slice pb S.length kb)) (.slice pa L.length ka) (.slice pb S.length kb) ⟨L, S⟩) := ⟨strs_put hv.1 K8 (by simp) (by simp) _ _, strs_put hv.2 K8 (by simp) (by simp) _ _⟩
          clear T8 K8 k0 k1 f0 f1 q0 q1 q2 q3 q4 q5 q6 q7 HT7 HK7 hv
          generalize (w8.setCell ⟨gb, 0, none⟩ (.slice pa L.length ka)).setCell ⟨gb, 1, none⟩ (.slice pb S.length kb) = w9 at *
          obtain ⟨⟨q0, q1, q2, q3, q4, q5⟩, q6, q7⟩ := T9.out.get
          obtain ⟨k0, k1⟩ := K9.out.cells2
          have HE0 := Lib.hid errNil
          have HSf : Hid (∀ wx v1 v2 u1 u2, FrameAt wx v1 v2 ⟨L, S⟩ → FrameAt wx u1 u2 ⟨L, S⟩ → _) := fun wx v1 v2 u1 u2 h1 h2 => sameFrame_any ⟨L, S⟩ ⟨L, S⟩ v1 v2 u1 u2 wx h1 h2
          rw [decide_eq_true rfl] at HSf
          go_wp2_with (first
            | (go_at_call 17; (with_reducible refine (HSp.out _ T9.out.below).mono ?_); rintro e wB ⟨hBB, ⟨_, L', S', g1, g2, h, rfl, hv⟩ | ⟨hz, _⟩⟩; rotate_left; (exact absurd rfl hz); injection h with h; injection h with e1 e2; subst e1 e2; obtain ⟨⟨pc, kc, rfl, _⟩, ⟨pd, kd, rfl, _⟩⟩ := And.intro hv.1.open hv.2.open; (have TB := (T9.out.step hBB).alloc (.cells #[.slice pc L.length kc, .slice pd S.length kd] 27)); obtain ⟨k0, k1⟩ := ((K9.out.step hBB).step (HA.out _ (.cells #[.slice pc L.length kc, .slice pd S.length kd] 27))).cells2; obtain ⟨k2, k3⟩ := (Blk.new wB 27 [.slice pc L.length kc, .slice pd S.length kd]).cells2; (have HF1 := Lib.hid (hv.mono (HA.out _ (.cells #[.slice pc L.length kc, .slice pd S.length kd] 27)))); (have HF2 := Lib.hid ((HFo.out.mono hBB).mono (HA.out _ (.cells #[.slice pc L.length kc, .slice pd S.length kd] 27)))); clear hv)
            | (go_at_call 18; (with_reducible refine (HE0.out _).mono ?_); rintro e wz ⟨rfl, rfl⟩)
            | (go_at_call 19; (with_reducible refine (HSf.out _ _ _ _ _ HF1.out HF2.out).mono ?_); rintro e wC ⟨rfl, hBC⟩))
          go_ret
          exact ⟨rfl, (TB.step hBC).below⟩
      | false =>
        rw [hgt.out hv86] at HIt
        clear HGv hgt
        cases res with
        | none =>
          rw [if_pos rfl] at HSp
          have hN : ¬ (7 : Nat) = 0 := by decide
          have HNz : Hid (¬ 7 = 0) := Lib.hid hN
          have HE1 : Hid (∀ wx, _) := fun wx => errIs 7 hN wx
          rw [show ((7 : Nat) : Int) = 7 from rfl] at HE1 HSp
          clear hN
          go_enter Tryz.func3, Tryz.ntmps3
          go_upto_region 15 with (first
            | (go_at_call 10; (with_reducible refine (HSt.out _ T0.below).mono ?_); rintro e w2 ⟨rfl, hB2⟩; (have T2 := T0.step hB2); obtain ⟨⟨q0, q1, q2, q3, q4, q5⟩, q6, q7⟩ := T2.get)
            | (go_at_call 11; (with_reducible refine (HRw.out _ T2.below).mono ?_); rintro e w3 ⟨rfl, hB3⟩; (have T3 := T2.step hB3); obtain ⟨⟨q0, q1, q2, q3, q4, q5⟩, q6, q7⟩ := T3.get)
            | (go_at_call 12; (with_reducible refine (HFa.out _ T3.below).mono ?_); rintro e w4 ⟨rfl, hB4⟩; (have T4 := T3.step hB4); obtain ⟨⟨q0, q1, q2, q3, q4, q5⟩, q6, q7⟩ := T4.get)
            | (go_at_call 13; (with_reducible refine (HIn.out _ T4.below).mono ?_); rintro e w5 ⟨rfl, hB5⟩; (have T5 := T4.step hB5); obtain ⟨⟨q0, q1, q2, q3, q4, q5⟩, q6, q7⟩ := T5.get)
            | (go_at_call 14; (with_reducible refine (HCO.out _ T5.below).mono ?_); rintro e w6 ⟨pf2, kf2, pd2, kd2, pm2, km2, rfl, _, _, _, hB6, _⟩; (have T6 := (T5.step hB6).alloc (.cells #[.string n2, .string s2, .slice pf2 f2.length kf2, .bool b2, .slice pd2 d2.length kd2, .slice pm2 m2.length km2] 36)); obtain ⟨⟨q0, q1, q2, q3, q4, q5⟩, q6, q7⟩ := T6.get)
            | (go_at_call 15; (with_reducible refine (HIt.out _).mono ?_); rintro e wi ⟨rfl, rfl⟩))
          have hlt6 := T5.kf.lt
          have hle6 := hB6.size
          have T7 := T6.alloc (.cells #[.slice none 0 0, .slice none 0 0] 27)
          have K7 := Blk.new (w6.alloc (.cells #[.string n2, .string s2, .slice pf2 f2.length kf2, .bool b2, .slice pd2 d2.length kd2, .slice pm2 m2.length km2] 36)) 27 [.slice none 0 0, .slice none 0 0]
          rw [World.size_alloc] at K7
          have hgb : w.heap.size + 1 < w6.heap.size + 1 := by omega
          clear hlt6 hle6 q0 q1 q2 q3 q4 q5 q6 q7
          generalize (w6.alloc (.cells #[.string n2, .string s2, .slice pf2 f2.length kf2, .bool b2, .slice pd2 d2.length kd2, .slice pm2 m2.length km2] 36)).alloc (.cells #[.slice none 0 0, .slice none 0 0] 27) = w7 at *
          generalize w6.heap.size + 1 = gb at *
          obtain ⟨⟨q0, q1, q2, q3, q4, q5⟩, q6, q7⟩ := T7.get
          obtain ⟨k0, k1⟩ := K7.cells2
          have HT7 := Lib.hid T7; have HK7 := Lib.hid K7
          clear T7 K7
          have f0 := HK7.out.frozen 0; have f1 := HK7.out.frozen 1
          go_upto_region 18 with (go_at_call 16; (with_reducible refine (HQ.out _ HT7.out.below).mono ?_); rintro e w8 ⟨hB8, ⟨_, p3, n3, c3, p4, n4, c4, rfl⟩ | ⟨_, _, _, _, h, _⟩⟩; rotate_left; (cases h); (have T8 := HT7.out.step hB8); (have K8 := HK7.out.step hB8); obtain ⟨k0, k1⟩ := K8.cells2; (have f0 := K8.frozen 0); (have f1 := K8.frozen 1))
          have T9 := Lib.hid (T8.put hgb (.slice p3 n3 c3) (.slice p4 n4 c4))
          have K9 := Lib.hid (K8.put2 (.slice p3 n3 c3) (.slice p4 n4 c4))
          clear T8 K8 k0 k1 f0 f1 q0 q1 q2 q3 q4 q5 q6 q7 HT7 HK7
          generalize (w8.setCell ⟨gb, 0, none⟩ (.slice p3 n3 c3)).setCell ⟨gb, 1, none⟩ (.slice p4 n4 c4) = w9 at *
          obtain ⟨k0, k1⟩ := K9.out.cells2; have f0 := K9.out.frozen 0; have f1 := K9.out.frozen 1
          go_upto_region 21 with (first | fail)
          have TA := Lib.hid (T9.out.put hgb (.slice none 0 0) (.slice none 0 0))
          have KA := Lib.hid (K9.out.put2 (.slice none 0 0) (.slice none 0 0))
          clear k0 k1 f0 f1 T9 K9
          generalize (w9.setCell ⟨gb, 0, none⟩ (.slice none 0 0)).setCell ⟨gb, 1, none⟩ (.slice none 0 0) = wA at *
          obtain ⟨⟨q0, q1, q2, q3, q4, q5⟩, q6, q7⟩ := TA.out.get
          obtain ⟨k0, k1⟩ := KA.out.cells2
          go_wp2_with (first
            | (go_at_call 17; (with_reducible refine (HSp.out _ TA.out.below).mono ?_); rintro e w8 ⟨hB8, ⟨hz, _⟩ | ⟨_, rfl⟩⟩; (exact absurd hz HNz.out); (have T8 := (TA.out.step hB8).alloc (.cells #[.slice none 0 0, .slice none 0 0] 27)); obtain ⟨k0, k1⟩ := ((KA.out.step hB8).step (HA.out _ (.cells #[.slice none 0 0, .slice none 0 0] 27))).cells2; obtain ⟨k2, k3⟩ := (Blk.new w8 27 [.slice none 0 0, .slice none 0 0]).cells2)
            | (go_at_call 18; (with_reducible refine (HE1.out _).mono ?_); rintro e wz ⟨rfl, rfl⟩)
            | (go_at_call 19; (with_reducible refine (HSn.out _).mono ?_); rintro e w12 ⟨rfl, hB12⟩))
          go_ret
          exact ⟨rfl, (T8.step hB12).below⟩
        | some r =>
          obtain ⟨L, S⟩ := r
          rw [if_neg (by intro h; cases h)] at HSp
          go_enter Tryz.func3, Tryz.ntmps3
          go_upto_region 15 with (first
            | (go_at_call 10; (with_reducible refine (HSt.out _ T0.below).mono ?_); rintro e w2 ⟨rfl, hB2⟩; (have T2 := T0.step hB2); obtain ⟨⟨q0, q1, q2, q3, q4, q5⟩, q6, q7⟩ := T2.get)
            | (go_at_call 11; (with_reducible refine (HRw.out _ T2.below).mono ?_); rintro e w3 ⟨rfl, hB3⟩; (have T3 := T2.step hB3); obtain ⟨⟨q0, q1, q2, q3, q4, q5⟩, q6, q7⟩ := T3.get)
            | (go_at_call 12; (with_reducible refine (HFa.out _ T3.below).mono ?_); rintro e w4 ⟨rfl, hB4⟩; (have T4 := T3.step hB4); obtain ⟨⟨q0, q1, q2, q3, q4, q5⟩, q6, q7⟩ := T4.get)
            | (go_at_call 13; (with_reducible refine (HIn.out _ T4.below).mono ?_); rintro e w5 ⟨rfl, hB5⟩; (have T5 := T4.step hB5); obtain ⟨⟨q0, q1, q2, q3, q4, q5⟩, q6, q7⟩ := T5.get)
            | (go_at_call 14; (with_reducible refine (HCO.out _ T5.below).mono ?_); rintro e w6 ⟨pf2, kf2, pd2, kd2, pm2, km2, rfl, _, _, _, hB6, _⟩; (have T6 := (T5.step hB6).alloc (.cells #[.string n2, .string s2, .slice pf2 f2.length kf2, .bool b2, .slice pd2 d2.length kd2, .slice pm2 m2.length km2] 36)); obtain ⟨⟨q0, q1, q2, q3, q4, q5⟩, q6, q7⟩ := T6.get)
            | (go_at_call 15; (with_reducible refine (HIt.out _).mono ?_); rintro e wi ⟨rfl, rfl⟩))
          have hlt6 := T5.kf.lt
          have hle6 := hB6.size
          have T7 := T6.alloc (.cells #[.slice none 0 0, .slice none 0 0] 27)
          have K7 := Blk.new (w6.alloc (.cells #[.string n2, .string s2, .slice pf2 f2.length kf2, .bool b2, .slice pd2 d2.length kd2, .slice pm2 m2.length km2] 36)) 27 [.slice none 0 0, .slice none 0 0]
          rw [World.size_alloc] at K7
          have hgb : w.heap.size + 1 < w6.heap.size + 1 := by omega
          clear hlt6 hle6 q0 q1 q2 q3 q4 q5 q6 q7
          generalize (w6.alloc (.cells #[.string n2, .string s2, .slice pf2 f2.length kf2, .bool b2, .slice pd2 d2.length kd2, .slice pm2 m2.length km2] 36)).alloc (.cells #[.slice none 0 0, .slice none 0 0] 27) = w7 at *
          generalize w6.heap.size + 1 = gb at *
          obtain ⟨⟨q0, q1, q2, q3, q4, q5⟩, q6, q7⟩ := T7.get
          obtain ⟨k0, k1⟩ := K7.cells2
          have HT7 := Lib.hid T7; have HK7 := Lib.hid K7
          clear T7 K7
          have f0 := HK7.out.frozen 0; have f1 := HK7.out.frozen 1
          go_upto_region 18 with (go_at_call 16; (with_reducible refine (HQ.out _ HT7.out.below).mono ?_); rintro e w8 ⟨hB8, ⟨h, _⟩ | ⟨L', S', v1, v2, h, rfl, hv⟩⟩; (cases h); injection h with h; injection h with e1 e2; subst e1 e2; obtain ⟨⟨pa, ka, rfl, _⟩, ⟨pb, kb, rfl, _⟩⟩ := And.intro hv.1.open hv.2.open; (have T8 := HT7.out.step hB8); (have K8 := HK7.out.step hB8); obtain ⟨k0, k1⟩ := K8.cells2; (have f0 := K8.frozen 0); (have f1 := K8.frozen 1))
          have T9 := Lib.hid (T8.put hgb (.slice pa L.length ka) (.slice pb S.length kb))
          have K9 := Lib.hid (K8.put2 (.slice pa L.length ka) (.slice pb S.length kb))
          have HFo : Hid (FrameAt ((w8.setCell ⟨gb, 0, none⟩ (.slice pa L.length ka)).setCell ⟨gb, 1, none⟩ (.slice pb S.length kb)) (.slice pa L.length ka) (.slice pb S.length kb) ⟨L, S⟩) := ⟨strs_put hv.1 K8 (by simp) (by simp) _ _, strs_put hv.2 K8 (by simp) (by simp) _ _⟩
          clear T8 K8 k0 k1 f0 f1 q0 q1 q2 q3 q4 q5 q6 q7 HT7 HK7 hv
          generalize (w8.setCell ⟨gb, 0, none⟩ (.slice pa L.length ka)).setCell ⟨gb, 1, none⟩ (.slice pb S.length kb) = w9 at *
          obtain ⟨⟨q0, q1, q2, q3, q4, q5⟩, q6, q7⟩ := T9.out.get
          obtain ⟨k0, k1⟩ := K9.out.cells2
          have HE0 := Lib.hid errNil
          have HSf : Hid (∀ wx v1 v2 u1 u2, FrameAt wx v1 v2 ⟨L, S⟩ → FrameAt wx u1 u2 ⟨L, S⟩ → _) := fun wx v1 v2 u1 u2 h1 h2 => sameFrame_any ⟨L, S⟩ ⟨L, S⟩ v1 v2 u1 u2 wx h1 h2
          rw [decide_eq_true rfl] at HSf
          go_wp2_with (first
            | (go_at_call 17; (with_reducible refine (HSp.out _ T9.out.below).mono ?_); rintro e wB ⟨hBB, ⟨_, L', S', g1, g2, h, rfl, hv⟩ | ⟨hz, _⟩⟩; rotate_left; (exact absurd rfl hz); injection h with h; injection h with e1 e2; subst e1 e2; obtain ⟨⟨pc, kc, rfl, _⟩, ⟨pd, kd, rfl, _⟩⟩ := And.intro hv.1.open hv.2.open; (have TB := (T9.out.step hBB).alloc (.cells #[.slice pc L.length kc, .slice pd S.length kd] 27)); obtain ⟨k0, k1⟩ := ((K9.out.step hBB).step (HA.out _ (.cells #[.slice pc L.length kc, .slice pd S.length kd] 27))).cells2; obtain ⟨k2, k3⟩ := (Blk.new wB 27 [.slice pc L.length kc, .slice pd S.length kd]).cells2; (have HF1 := Lib.hid (hv.mono (HA.out _ (.cells #[.slice pc L.length kc, .slice pd S.length kd] 27)))); (have HF2 := Lib.hid ((HFo.out.mono hBB).mono (HA.out _ (.cells #[.slice pc L.length kc, .slice pd S.length kd] 27)))); clear hv)
            | (go_at_call 18; (with_reducible refine (HE0.out _).mono ?_); rintro e wz ⟨rfl, rfl⟩)
            | (go_at_call 19; (with_reducible refine (HSf.out _ _ _ _ _ HF1.out HF2.out).mono ?_); rintro e wC ⟨rfl, hBC⟩))
          go_ret
          exact ⟨rfl, (TB.step hBC).below⟩
end Go.Proofs.YtlmfmioljeppfaaGreatDoor
