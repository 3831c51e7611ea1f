/-
  WALKS over the law's found and the law FindTells. Conditions: as in XRead; texts of at most maxLen signs.
-/
import Derived.Test.YtpjkpmmjehnahaaGreatDoorRefFind
import Derived.Test.YtpjkpmmjehnahaaGreatDoorFindOne
import Derived.Test.YtpjkpmmjehnahaaGreatDoorSameMethod
import Derived.Test.YtpjkpmmjehnahaaGreatDoorStructEq
import Derived.Test.YtpjkpmmjehnahaaGreatDoorWalks
import Derived.Test.YtpjkpmmjehnahaaGreatDoorFaults
namespace Go.Proofs.YtpjkpmmjehnahaaGreatDoor
open Go.RowKit Go.Shelf Go.Lib
theorem walks_field : fieldN walksL sCat sLegs = some (sBeast, ⟨sLegs, sI⟩) ∧ fieldFaultN walksL sCat sLegs = 0 := by decide +kernel
set_option maxRecDepth 100000 in
theorem found_any (w : World) (hl : Laid w) : Calls Tryz.prog 23 #[] w fun e w' => e = .returned (.bool true) ∧ Below w.heap.size w w' := by
  have HP : Hid (∀ wx lv, Below w.heap.size w wx → ClassesAt wx lv walksL → _) := fun wx lv hb h => findField_any walksL lv sCat sLegs wx (hl.mono hb hl.1) walks_ok h (by decide)
  rw [walks_field.1, walks_field.2, show errV 0 = .nilIface from rfl] at HP
  have HB : Hid (∀ wx, _) := fun wx => walks_any wx
  simp only [sCat, sLegs, fieldE, sBeast, sI] at HP
  go_enter Tryz.func23, Tryz.ntmps23
  go_wp2_with (first
    | (go_at_call 50; (with_reducible refine (HB.out _).mono ?_); rintro e w2 ⟨⟨v, rfl, hv⟩, hB2⟩; obtain ⟨pb, kb, rfl, _⟩ := hv.open)
    | (go_at_call 25; (with_reducible refine (HP.out _ _ hB2 hv).mono ?_); rintro e w3 ⟨rfl, hB3⟩))
  go_ret
  exact ⟨rfl, (below_call hB2 (Nat.le_refl _) hB3).alloc (below_call hB2 (Nat.le_refl _) hB3).size _⟩
theorem field_shape (o : Option (Str × Field)) : ∃ xs n1 t1 is1, (∀ v, fieldE v o = .tuple #[.string xs, .agg #[.string n1, .string t1], v]) ∧ fieldV o = .tuple #[.string xs, .agg #[.string n1, .string t1], .bool is1] ∧ o.isSome = is1 := by
  cases o with
  | none => exact ⟨⟨#[]⟩, ⟨#[]⟩, ⟨#[]⟩, false, fun _ => rfl, rfl, rfl⟩
  | some x => exact ⟨x.1, x.2.name, x.2.type, true, fun _ => rfl, rfl, rfl⟩
theorem method_shape (o : Option (Str × Method)) : ∃ ys mn mt b1 b2 b3 k, ∃ c1 c2 : Nat, ∃ is2, (∀ v, methodE v o = .tuple #[.string ys, .agg #[.string mn, .string mt, .bool b1, .bool b2, .bool b3, .int .i64 k, .slice none 0 0, .slice none 0 0], v]) ∧
    (∀ v, MethodForm ((o.map (·.2)).getD noMethod) v → ∃ pc kc ph kh, v = .agg #[.string mn, .string mt, .bool b1, .bool b2, .bool b3, .int .i64 k, .slice pc c1 kc, .slice ph c2 kh]) ∧ (∀ v, methodV3 v o = .tuple #[.string ys, v, .bool is2]) ∧ o.isSome = is2 := by
  cases o with
  | none => exact ⟨⟨#[]⟩, ⟨#[]⟩, ⟨#[]⟩, false, false, false, 0, 0, 0, false, fun _ => rfl, fun v h => h, fun _ => rfl, rfl⟩
  | some x => exact ⟨x.1, x.2.name, x.2.type, x.2.static, x.2.abs, x.2.priv, x.2.locals, x.2.code.length, x.2.handlers.length, true, fun _ => rfl, fun v h => h, fun _ => rfl, rfl⟩
set_option maxHeartbeats 4000000 in
set_option maxRecDepth 100000 in
theorem findTells_any (l : List Class) (lv : Value) (c n t : Str) (w : World) (hl : Laid w) (ho : ∀ c ∈ l, ClassOk c) (hlv : ClassesAt w lv l) (hn : c.size ≤ maxLen) :
    Calls Tryz.prog 5 #[lv, .string c, .string n, .string t] w fun e w' => e = .returned (.bool true) ∧ Below w.heap.size w w' := by
  have HLi : Hid (∀ wx, Below w.heap.size w wx → _) := fun wx hb => found_any wx (hl.mono hb hl.1)
  have HRN : Hid (∀ wx, Below w.heap.size w wx → _) := fun wx hb => refNamed_any l lv c wx ho (hlv.mono hb)
  have HFi : Hid (∀ wx, Below w.heap.size w wx → _) := fun wx hb => findField_any l lv c n wx (hl.mono hb hl.1) ho (hlv.mono hb) hn
  have HMe : Hid (∀ wx, Below w.heap.size w wx → _) := fun wx hb => findMethod_any l lv c n t wx (hl.mono hb hl.1) ho (hlv.mono hb) hn
  have HLV : Hid (∀ wx, Below w.heap.size w wx → ClassesAt wx lv l) := fun wx hb => hlv.mono hb
  have HE := Lib.hid error_nil
  have HE3 := Lib.hid error_none
  have HSM := Lib.hid sameMethod_bare
  by_cases hz : namedFault l c = 0
  · obtain ⟨hr, hk⟩ := named_zero hz
    have hR := right_of hr
    have hcf := read_faults hr
    have HRF : Hid (∀ wx, Below w.heap.size w wx → _) := fun wx hb => refFieldOf_any l lv c n wx hR (HLV.out wx hb) hk
    have HRM : Hid (∀ wx, Below w.heap.size w wx → _) := fun wx hb => refFound_any l lv c n t wx hR hcf (HLV.out wx hb) hk
    have h1 : fieldN l c n = fieldC (allC l) c n := by unfold fieldN; rw [if_pos hz]
    have h2 : fieldFaultN l c n = if (fieldC (allC l) c n).isSome then 0 else 3 := by unfold fieldFaultN; rw [if_pos hz]
    have h3 : methodN l c n t = methodC (allC l) c n t := by unfold methodN; rw [if_pos hz]
    have h4 : methodFaultN l c n t = if (methodC (allC l) c n t).isSome then 0 else 3 := by unfold methodFaultN; rw [if_pos hz]
    rw [h1, h2] at HFi
    rw [h3, h4] at HMe
    rw [hz] at HRN
    obtain ⟨pl, cap, rfl, _⟩ := hlv.open
    clear hl ho hlv hR hcf hk hr hz hn HLV h1 h2 h3 h4
    unfold RefFoundPost at HRM
    generalize fieldC (allC l) c n = o1 at *
    generalize methodC (allC l) c n t = o2 at *
    obtain ⟨xs, n1, t1, is1, g1, g2, g3⟩ := field_shape o1
    obtain ⟨ys, mn, mt, b1, b2, b3, k, c1, c2, is2, k1, k2, k3, k4⟩ := method_shape o2
    rw [g1, g3] at HFi
    rw [g2] at HRF
    rw [k1, k4] at HMe
    have HK2 := Lib.hid k2
    simp only [k3] at HRM
    have he := field_eql n1 t1 n1 t1
    rw [decide_eq_true rfl] at he
    clear g1 g2 g3 k1 k3 k4 k2
    cases is1 <;> cases is2
    all_goals
      simp only [if_true, Bool.false_eq_true, if_false, show errV 0 = .nilIface from rfl, show errV 3 = .iface 24 (.int .i64 3) from rfl] at HFi HMe
      go_enter Tryz.func5, Tryz.ntmps5
      go_upto_region 15 with (first
        | (go_at_call 23; (with_reducible refine (HLi.out _ (Below.refl _ _)).mono ?_); rintro e w2 ⟨rfl, hB2⟩)
        | (go_at_call 24; (with_reducible refine (HRN.out _ hB2).mono ?_); rintro e w3 ⟨rfl, hB3'⟩; (have hB3 := below_call hB2 (Nat.le_refl _) hB3'); clear hB3')
        | (go_at_call 25; (with_reducible refine (HFi.out _ hB3).mono ?_); rintro e w4 ⟨rfl, hB4'⟩; (have hB4 := below_call hB3 (Nat.le_refl _) hB4'); (have hB4a := hB4.alloc hB4.size (.cells #[.string n1, .string t1] 50)); clear hB4')
        | (go_at_call 26; (with_reducible refine (HMe.out _ hB4a).mono ?_); rintro e w5 ⟨rfl, hB5⟩))
      have B14 := (((Blk.new w4 50 [.string n1, .string t1]).step hB5).step ((Below.refl w5.heap.size w5).alloc (Nat.le_refl _) (.cells #[.string mn, .string mt, .bool b1, .bool b2, .bool b3, .int .i64 k, .slice none 0 0, .slice none 0 0] 56))).step (below_alloc2 _ (.cells #[.string ⟨#[]⟩, .string ⟨#[]⟩] 50) (.cells #[.string ⟨#[]⟩, .string ⟨#[]⟩, .bool false, .bool false, .bool false, .int .i64 0, .slice none 0 0, .slice none 0 0] 56))
      have B17 := (Blk.new w5 56 [.string mn, .string mt, .bool b1, .bool b2, .bool b3, .int .i64 k, .slice none 0 0, .slice none 0 0]).step (below_alloc2 _ (.cells #[.string ⟨#[]⟩, .string ⟨#[]⟩] 50) (.cells #[.string ⟨#[]⟩, .string ⟨#[]⟩, .bool false, .bool false, .bool false, .int .i64 0, .slice none 0 0, .slice none 0 0] 56))
      have B21 := (Blk.new (w5.alloc (.cells #[.string mn, .string mt, .bool b1, .bool b2, .bool b3, .int .i64 k, .slice none 0 0, .slice none 0 0] 56)) 50 zField).step ((Below.refl _ _).alloc (Nat.le_refl _) (.cells #[.string ⟨#[]⟩, .string ⟨#[]⟩, .bool false, .bool false, .bool false, .int .i64 0, .slice none 0 0, .slice none 0 0] 56))
      have B22 := Blk.new ((w5.alloc (.cells #[.string mn, .string mt, .bool b1, .bool b2, .bool b3, .int .i64 k, .slice none 0 0, .slice none 0 0] 56)).alloc (.cells #[.string ⟨#[]⟩, .string ⟨#[]⟩] 50)) 56 zMethod
      have hB6 := ((below_call hB4a (Nat.le_refl _) hB5).alloc (below_call hB4a (Nat.le_refl _) hB5).size (.cells #[.string mn, .string mt, .bool b1, .bool b2, .bool b3, .int .i64 k, .slice none 0 0, .slice none 0 0] 56))
      have hB7 := below_call hB6 (Nat.le_refl _) (below_alloc2 _ (.cells #[.string ⟨#[]⟩, .string ⟨#[]⟩] 50) (.cells #[.string ⟨#[]⟩, .string ⟨#[]⟩, .bool false, .bool false, .bool false, .int .i64 0, .slice none 0 0, .slice none 0 0] 56))
      simp only [World.size_alloc] at B21 B22
      have hw5 : w.heap.size ≤ w5.heap.size := (below_call hB4a (Nat.le_refl _) hB5).size
      have h45 : w4.heap.size < w5.heap.size := Nat.lt_of_lt_of_le (by simp) hB5.size
      have B14 : Blk (((w5.alloc (.cells #[.string mn, .string mt, .bool b1, .bool b2, .bool b3, .int .i64 k, .slice none 0 0, .slice none 0 0] 56)).alloc (.cells #[.string ⟨#[]⟩, .string ⟨#[]⟩] 50)).alloc (.cells #[.string ⟨#[]⟩, .string ⟨#[]⟩, .bool false, .bool false, .bool false, .int .i64 0, .slice none 0 0, .slice none 0 0] 56)) w4.heap.size 50 [.string n1, .string t1] := B14
      have B17 : Blk (((w5.alloc (.cells #[.string mn, .string mt, .bool b1, .bool b2, .bool b3, .int .i64 k, .slice none 0 0, .slice none 0 0] 56)).alloc (.cells #[.string ⟨#[]⟩, .string ⟨#[]⟩] 50)).alloc (.cells #[.string ⟨#[]⟩, .string ⟨#[]⟩, .bool false, .bool false, .bool false, .int .i64 0, .slice none 0 0, .slice none 0 0] 56)) w5.heap.size 56 [.string mn, .string mt, .bool b1, .bool b2, .bool b3, .int .i64 k, .slice none 0 0, .slice none 0 0] := B17
      have B21 : Blk (((w5.alloc (.cells #[.string mn, .string mt, .bool b1, .bool b2, .bool b3, .int .i64 k, .slice none 0 0, .slice none 0 0] 56)).alloc (.cells #[.string ⟨#[]⟩, .string ⟨#[]⟩] 50)).alloc (.cells #[.string ⟨#[]⟩, .string ⟨#[]⟩, .bool false, .bool false, .bool false, .int .i64 0, .slice none 0 0, .slice none 0 0] 56)) (w5.heap.size + 1) 50 [.string ⟨#[]⟩, .string ⟨#[]⟩] := B21
      have B22 : Blk (((w5.alloc (.cells #[.string mn, .string mt, .bool b1, .bool b2, .bool b3, .int .i64 k, .slice none 0 0, .slice none 0 0] 56)).alloc (.cells #[.string ⟨#[]⟩, .string ⟨#[]⟩] 50)).alloc (.cells #[.string ⟨#[]⟩, .string ⟨#[]⟩, .bool false, .bool false, .bool false, .int .i64 0, .slice none 0 0, .slice none 0 0] 56)) (w5.heap.size + 1 + 1) 56 [.string ⟨#[]⟩, .string ⟨#[]⟩, .bool false, .bool false, .bool false, .int .i64 0, .slice none 0 0, .slice none 0 0] := B22
      clear hB6 hB5 hB4 hB4a hB3 hB2
      generalize ((w5.alloc (.cells #[.string mn, .string mt, .bool b1, .bool b2, .bool b3, .int .i64 k, .slice none 0 0, .slice none 0 0] 56)).alloc (.cells #[.string ⟨#[]⟩, .string ⟨#[]⟩] 50)).alloc (.cells #[.string ⟨#[]⟩, .string ⟨#[]⟩, .bool false, .bool false, .bool false, .int .i64 0, .slice none 0 0, .slice none 0 0] 56) = w6 at *
      generalize w4.heap.size = x14 at *
      generalize w5.heap.size = x17 at *
      have H14 := Lib.hid B14
      have H17 := Lib.hid B17
      have H21 := Lib.hid B21
      have H22 := Lib.hid B22
      have H7 := Lib.hid hB7
      clear B14 B17 B21 B22 hB7
      -- the reference's field
      go_upto_region 16 with (go_at_call 27; (with_reducible refine (HRF.out _ H7.out).mono ?_); rintro e w7 ⟨rfl, hB8⟩; (have b21 := H21.out.step hB8); obtain ⟨s0, s1⟩ := b21.cells2; (have sf := b21.frozen); (have sl := b21.lt))
      have C14 := (((H14.out.step hB8).other (by omega) 0 (.string n1)).other (by omega) 1 (.string t1) : Blk ((w7.setCell ⟨x17 + 1, 0, none⟩ (.string n1)).setCell ⟨x17 + 1, 1, none⟩ (.string t1)) _ _ _)
      have C17 := (((H17.out.step hB8).other (by omega) 0 (.string n1)).other (by omega) 1 (.string t1) : Blk ((w7.setCell ⟨x17 + 1, 0, none⟩ (.string n1)).setCell ⟨x17 + 1, 1, none⟩ (.string t1)) _ _ _)
      have C22 := (((H22.out.step hB8).other (by omega) 0 (.string n1)).other (by omega) 1 (.string t1) : Blk ((w7.setCell ⟨x17 + 1, 0, none⟩ (.string n1)).setCell ⟨x17 + 1, 1, none⟩ (.string t1)) _ _ _)
      have C21 := b21.put2 (.string n1) (.string t1)
      have C7 := below_set2 (below_call H7.out (Nat.le_refl _) hB8) (show w.heap.size ≤ x17 + 1 by omega) (.string n1) (.string t1)
      clear H14 H17 H21 H22 H7 b21 s0 s1 sf sl hB8
      generalize (w7.setCell ⟨x17 + 1, 0, none⟩ (.string n1)).setCell ⟨x17 + 1, 1, none⟩ (.string t1) = w8 at *
      have H14 := Lib.hid C14
      have H17 := Lib.hid C17
      have H21 := Lib.hid C21
      have H22 := Lib.hid C22
      have H7 := Lib.hid C7
      clear C14 C17 C21 C22 C7
      -- the reference's method
      go_upto_region 19 with (go_at_call 28; (with_reducible refine (HRM.out _ H7.out).mono ?_); rintro e w9 ⟨⟨v9, rfl, hv9⟩, hB8⟩; obtain ⟨pc, kc, ph, kh, rfl⟩ := HK2.out _ hv9; (have b22 := H22.out.step hB8); obtain ⟨s0, s1, s2, s3, s4, s5, s6, s7⟩ := b22.cells8; (have sf := b22.frozen); (have sl := b22.lt))
      have D14 := (H14.out.step hB8).other8 (b' := x17 + 1 + 1) (by omega) (.string mn) (.string mt) (.bool b1) (.bool b2) (.bool b3) (.int .i64 k) (.slice pc c1 kc) (.slice ph c2 kh)
      have D17 := (H17.out.step hB8).other8 (b' := x17 + 1 + 1) (by omega) (.string mn) (.string mt) (.bool b1) (.bool b2) (.bool b3) (.int .i64 k) (.slice pc c1 kc) (.slice ph c2 kh)
      have D21 := (H21.out.step hB8).other8 (b' := x17 + 1 + 1) (by omega) (.string mn) (.string mt) (.bool b1) (.bool b2) (.bool b3) (.int .i64 k) (.slice pc c1 kc) (.slice ph c2 kh)
      have D22 := b22.put8 (.string mn) (.string mt) (.bool b1) (.bool b2) (.bool b3) (.int .i64 k) (.slice pc c1 kc) (.slice ph c2 kh)
      have D7 := below_set8 (below_call H7.out (Nat.le_refl _) hB8) (show w.heap.size ≤ x17 + 1 + 1 by omega) (.string mn) (.string mt) (.bool b1) (.bool b2) (.bool b3) (.int .i64 k) (.slice pc c1 kc) (.slice ph c2 kh)
      clear H14 H17 H21 H22 H7 b22 s0 s1 s2 s3 s4 s5 s6 s7 sf sl hB8
      generalize ((((((((w9.setCell ⟨x17 + 1 + 1, 0, none⟩ (.string mn)).setCell ⟨x17 + 1 + 1, 1, none⟩ (.string mt)).setCell ⟨x17 + 1 + 1, 2, none⟩ (.bool b1)).setCell ⟨x17 + 1 + 1, 3, none⟩ (.bool b2)).setCell ⟨x17 + 1 + 1, 4, none⟩ (.bool b3)).setCell ⟨x17 + 1 + 1, 5, none⟩ (.int .i64 k)).setCell ⟨x17 + 1 + 1, 6, none⟩ (.slice pc c1 kc)).setCell ⟨x17 + 1 + 1, 7, none⟩ (.slice ph c2 kh)) = w10 at *
      obtain ⟨s0, s1, s2, s3, s4, s5, s6, s7⟩ := D22.cells8
      have sf := D22.frozen
      have sl := D22.lt
      have H14 := Lib.hid D14
      have H17 := Lib.hid D17
      have H21 := Lib.hid D21
      have H22 := Lib.hid D22
      have H7 := Lib.hid D7
      clear D14 D17 D21 D22 D7
      -- without code and handlers
      go_upto_region 23 with (first | fail)
      have F14 := (H14.out.other (b' := x17 + 1 + 1) (by omega) 6 (.slice none 0 0)).other (b' := x17 + 1 + 1) (by omega) 7 (.slice none 0 0)
      have F17 := (H17.out.other (b' := x17 + 1 + 1) (by omega) 6 (.slice none 0 0)).other (b' := x17 + 1 + 1) (by omega) 7 (.slice none 0 0)
      have F21 := (H21.out.other (b' := x17 + 1 + 1) (by omega) 6 (.slice none 0 0)).other (b' := x17 + 1 + 1) (by omega) 7 (.slice none 0 0)
      have F22 : Blk ((w10.setCell ⟨x17 + 1 + 1, 6, none⟩ (.slice none 0 0)).setCell ⟨x17 + 1 + 1, 7, none⟩ (.slice none 0 0)) (x17 + 1 + 1) 56 [.string mn, .string mt, .bool b1, .bool b2, .bool b3, .int .i64 k, .slice none 0 0, .slice none 0 0] := (H22.out.put 6 (.slice none 0 0)).put 7 (.slice none 0 0)
      have F7 := (H7.out.setCell (p := ⟨x17 + 1 + 1, 6, none⟩) (show w.heap.size ≤ x17 + 1 + 1 by omega) (.slice none 0 0)).setCell (p := ⟨x17 + 1 + 1, 7, none⟩) (show w.heap.size ≤ x17 + 1 + 1 by omega) (.slice none 0 0)
      clear s0 s1 s2 s3 s4 s5 s6 s7 sf sl H14 H17 H21 H22 H7
      generalize (w10.setCell ⟨x17 + 1 + 1, 6, none⟩ (.slice none 0 0)).setCell ⟨x17 + 1 + 1, 7, none⟩ (.slice none 0 0) = w11 at *
      obtain ⟨s0, s1, s2, s3, s4, s5, s6, s7⟩ := F22.cells8
      obtain ⟨t0, t1, t2, t3, t4, t5, t6, t7⟩ := F17.cells8
      have H14 := Lib.hid F14
      have H21 := Lib.hid F21
      have H7 := Lib.hid F7
      clear F14 F17 F21 F22 F7
      go_wp2_with (first
        | (go_at_call 16; (with_reducible refine (HE.out _).mono ?_); rintro e w12 ⟨rfl, rfl⟩)
        | (go_at_call 16; (with_reducible refine (HE3.out _).mono ?_); rintro e w12 ⟨rfl, rfl⟩)
        | (go_at_call 29; (with_reducible refine (HSM.out mn mt b1 b2 b3 k _).mono ?_); rintro e w13 ⟨rfl, hB13⟩; obtain ⟨y0, y1⟩ := (H14.out.step hB13).cells2; obtain ⟨z0, z1⟩ := (H21.out.step hB13).cells2))
      go_ret
      exact ⟨by simp, below_call H7.out (Nat.le_refl _) hB13⟩
  · have HZ := Lib.hid hz
    have h1 : fieldN l c n = none := by unfold fieldN; rw [if_neg hz]
    have h2 : fieldFaultN l c n = namedFault l c := by unfold fieldFaultN; rw [if_neg hz]
    have h3 : methodN l c n t = none := by unfold methodN; rw [if_neg hz]
    have h4 : methodFaultN l c n t = namedFault l c := by unfold methodFaultN; rw [if_neg hz]
    rcases errV_cases (namedFault l c) with ⟨_, h0⟩ | ⟨hv, _⟩
    · exact absurd h0 hz
    rw [h1, h2, hv] at HFi
    rw [h3, h4, hv] at HMe
    have hf0 : ((namedFault l c : Int) == 0) = false := by simpa using hz
    have HE2 : Hid (∀ wx, _) := fun wx => error_is (namedFault l c) hz wx
    obtain ⟨pl, cap, rfl, _⟩ := hlv.open
    have he := field_eql ⟨#[]⟩ ⟨#[]⟩ ⟨#[]⟩ ⟨#[]⟩
    rw [decide_eq_true rfl] at he
    clear hl ho hlv hz hn HLV h1 h2 h3 h4 hv HE HE3
    generalize namedFault l c = f at *
    replace HMe : Hid (∀ wx, Below w.heap.size w wx → Calls Tryz.prog 26 #[.slice pl l.length cap, .string c, .string n, .string t] wx fun e w' => e = .returned (.tuple #[.string ⟨#[]⟩, .agg #[.string ⟨#[]⟩, .string ⟨#[]⟩, .bool false, .bool false, .bool false, .int .i64 0, .slice none 0 0, .slice none 0 0], .iface 24 (.int .i64 f)]) ∧ Below wx.heap.size wx w') := HMe
    simp only [fieldE] at HFi
    go_enter Tryz.func5, Tryz.ntmps5
    go_upto_region 21 with (first
      | (go_at_call 23; (with_reducible refine (HLi.out _ (Below.refl _ _)).mono ?_); rintro e w2 ⟨rfl, hB2⟩)
      | (go_at_call 24; (with_reducible refine (HRN.out _ hB2).mono ?_); rintro e w3 ⟨rfl, hB3'⟩; (have hB3 := below_call hB2 (Nat.le_refl _) hB3'); clear hB3')
      | (go_at_call 25; (with_reducible refine (HFi.out _ hB3).mono ?_); rintro e w4 ⟨rfl, hB4'⟩; (have hB4 := below_call hB3 (Nat.le_refl _) hB4'); (have hB4a := hB4.alloc hB4.size (.cells #[.string ⟨#[]⟩, .string ⟨#[]⟩] 50)); clear hB4')
      | (go_at_call 26; (with_reducible refine (HMe.out _ hB4a).mono ?_); rintro e w5 ⟨rfl, hB5⟩))
    have bel1 := (Below.refl w5.heap.size w5).alloc (Nat.le_refl _) (.cells #[.string ⟨#[]⟩, .string ⟨#[]⟩, .bool false, .bool false, .bool false, .int .i64 0, .slice none 0 0, .slice none 0 0] 56)
    have bel2 := below_alloc2 (w5.alloc (.cells #[.string ⟨#[]⟩, .string ⟨#[]⟩, .bool false, .bool false, .bool false, .int .i64 0, .slice none 0 0, .slice none 0 0] 56)) (.cells #[.string ⟨#[]⟩, .string ⟨#[]⟩] 50) (.cells #[.string ⟨#[]⟩, .string ⟨#[]⟩, .bool false, .bool false, .bool false, .int .i64 0, .slice none 0 0, .slice none 0 0] 56)
    have B14 : Blk _ _ _ [.string ⟨#[]⟩, .string ⟨#[]⟩] := (((Blk.new w4 50 [.string ⟨#[]⟩, .string ⟨#[]⟩]).step hB5).step bel1).step bel2
    have B17 := (Blk.new w5 56 [.string ⟨#[]⟩, .string ⟨#[]⟩, .bool false, .bool false, .bool false, .int .i64 0, .slice none 0 0, .slice none 0 0]).step bel2
    have B21 := (Blk.new (w5.alloc (.cells #[.string ⟨#[]⟩, .string ⟨#[]⟩, .bool false, .bool false, .bool false, .int .i64 0, .slice none 0 0, .slice none 0 0] 56)) 50 [.string ⟨#[]⟩, .string ⟨#[]⟩]).step ((Below.refl _ _).alloc (Nat.le_refl _) (.cells #[.string ⟨#[]⟩, .string ⟨#[]⟩, .bool false, .bool false, .bool false, .int .i64 0, .slice none 0 0, .slice none 0 0] 56))
    have B22 := Blk.new ((w5.alloc (.cells #[.string ⟨#[]⟩, .string ⟨#[]⟩, .bool false, .bool false, .bool false, .int .i64 0, .slice none 0 0, .slice none 0 0] 56)).alloc (.cells #[.string ⟨#[]⟩, .string ⟨#[]⟩] 50)) 56 [.string ⟨#[]⟩, .string ⟨#[]⟩, .bool false, .bool false, .bool false, .int .i64 0, .slice none 0 0, .slice none 0 0]
    have hB7 := below_call (below_call (below_call hB4a (Nat.le_refl _) hB5) (Nat.le_refl _) bel1) (Nat.le_refl _) bel2
    simp only [World.size_alloc] at B21 B22
    have hw5 : w.heap.size ≤ w5.heap.size := (below_call hB4a (Nat.le_refl _) hB5).size
    have h45 : w4.heap.size < w5.heap.size := Nat.lt_of_lt_of_le (by simp) hB5.size
    have B14 : Blk (((w5.alloc (.cells #[.string ⟨#[]⟩, .string ⟨#[]⟩, .bool false, .bool false, .bool false, .int .i64 0, .slice none 0 0, .slice none 0 0] 56)).alloc (.cells #[.string ⟨#[]⟩, .string ⟨#[]⟩] 50)).alloc (.cells #[.string ⟨#[]⟩, .string ⟨#[]⟩, .bool false, .bool false, .bool false, .int .i64 0, .slice none 0 0, .slice none 0 0] 56)) w4.heap.size 50 [.string ⟨#[]⟩, .string ⟨#[]⟩] := B14
    have B17 : Blk (((w5.alloc (.cells #[.string ⟨#[]⟩, .string ⟨#[]⟩, .bool false, .bool false, .bool false, .int .i64 0, .slice none 0 0, .slice none 0 0] 56)).alloc (.cells #[.string ⟨#[]⟩, .string ⟨#[]⟩] 50)).alloc (.cells #[.string ⟨#[]⟩, .string ⟨#[]⟩, .bool false, .bool false, .bool false, .int .i64 0, .slice none 0 0, .slice none 0 0] 56)) w5.heap.size 56 [.string ⟨#[]⟩, .string ⟨#[]⟩, .bool false, .bool false, .bool false, .int .i64 0, .slice none 0 0, .slice none 0 0] := B17
    have B21 : Blk (((w5.alloc (.cells #[.string ⟨#[]⟩, .string ⟨#[]⟩, .bool false, .bool false, .bool false, .int .i64 0, .slice none 0 0, .slice none 0 0] 56)).alloc (.cells #[.string ⟨#[]⟩, .string ⟨#[]⟩] 50)).alloc (.cells #[.string ⟨#[]⟩, .string ⟨#[]⟩, .bool false, .bool false, .bool false, .int .i64 0, .slice none 0 0, .slice none 0 0] 56)) (w5.heap.size + 1) 50 [.string ⟨#[]⟩, .string ⟨#[]⟩] := B21
    have B22 : Blk (((w5.alloc (.cells #[.string ⟨#[]⟩, .string ⟨#[]⟩, .bool false, .bool false, .bool false, .int .i64 0, .slice none 0 0, .slice none 0 0] 56)).alloc (.cells #[.string ⟨#[]⟩, .string ⟨#[]⟩] 50)).alloc (.cells #[.string ⟨#[]⟩, .string ⟨#[]⟩, .bool false, .bool false, .bool false, .int .i64 0, .slice none 0 0, .slice none 0 0] 56)) (w5.heap.size + 1 + 1) 56 [.string ⟨#[]⟩, .string ⟨#[]⟩, .bool false, .bool false, .bool false, .int .i64 0, .slice none 0 0, .slice none 0 0] := B22
    clear bel1 bel2 hB5 hB4 hB4a hB3 hB2
    generalize ((w5.alloc (.cells #[.string ⟨#[]⟩, .string ⟨#[]⟩, .bool false, .bool false, .bool false, .int .i64 0, .slice none 0 0, .slice none 0 0] 56)).alloc (.cells #[.string ⟨#[]⟩, .string ⟨#[]⟩] 50)).alloc (.cells #[.string ⟨#[]⟩, .string ⟨#[]⟩, .bool false, .bool false, .bool false, .int .i64 0, .slice none 0 0, .slice none 0 0] 56) = w10 at *
    generalize w4.heap.size = x14 at *
    generalize w5.heap.size = x17 at *
    obtain ⟨s0, s1, s2, s3, s4, s5, s6, s7⟩ := B22.cells8
    have sf := B22.frozen
    have sl := B22.lt
    have H14 := Lib.hid B14
    have H17 := Lib.hid B17
    have H21 := Lib.hid B21
    have H22 := Lib.hid B22
    have H7 := Lib.hid hB7
    clear B14 B17 B21 B22 hB7
    go_upto_region 23 with (first | fail)
    have F14 := (H14.out.other (b' := x17 + 1 + 1) (by omega) 6 (.slice none 0 0)).other (b' := x17 + 1 + 1) (by omega) 7 (.slice none 0 0)
    have F17 := (H17.out.other (b' := x17 + 1 + 1) (by omega) 6 (.slice none 0 0)).other (b' := x17 + 1 + 1) (by omega) 7 (.slice none 0 0)
    have F21 := (H21.out.other (b' := x17 + 1 + 1) (by omega) 6 (.slice none 0 0)).other (b' := x17 + 1 + 1) (by omega) 7 (.slice none 0 0)
    have F22 : Blk ((w10.setCell ⟨x17 + 1 + 1, 6, none⟩ (.slice none 0 0)).setCell ⟨x17 + 1 + 1, 7, none⟩ (.slice none 0 0)) (x17 + 1 + 1) 56 [.string ⟨#[]⟩, .string ⟨#[]⟩, .bool false, .bool false, .bool false, .int .i64 0, .slice none 0 0, .slice none 0 0] := (H22.out.put 6 (.slice none 0 0)).put 7 (.slice none 0 0)
    have F7 := (H7.out.setCell (p := ⟨x17 + 1 + 1, 6, none⟩) (show w.heap.size ≤ x17 + 1 + 1 by omega) (.slice none 0 0)).setCell (p := ⟨x17 + 1 + 1, 7, none⟩) (show w.heap.size ≤ x17 + 1 + 1 by omega) (.slice none 0 0)
    clear s0 s1 s2 s3 s4 s5 s6 s7 sf sl H14 H17 H21 H22 H7
    generalize (w10.setCell ⟨x17 + 1 + 1, 6, none⟩ (.slice none 0 0)).setCell ⟨x17 + 1 + 1, 7, none⟩ (.slice none 0 0) = w11 at *
    obtain ⟨s0, s1, s2, s3, s4, s5, s6, s7⟩ := F22.cells8
    obtain ⟨t0, t1, t2, t3, t4, t5, t6, t7⟩ := F17.cells8
    have H14 := Lib.hid F14
    have H21 := Lib.hid F21
    have H7 := Lib.hid F7
    clear F14 F17 F21 F22 F7
    go_wp2_with (first
      | (go_at_call 16; (with_reducible refine (HE2.out _).mono ?_); rintro e w12 ⟨rfl, rfl⟩)
      | (go_at_call 29; (with_reducible refine (HSM.out ⟨#[]⟩ ⟨#[]⟩ false false false 0 _).mono ?_); rintro e w13 ⟨rfl, hB13⟩; obtain ⟨y0, y1⟩ := (H14.out.step hB13).cells2; obtain ⟨z0, z1⟩ := (H21.out.step hB13).cells2))
    go_ret
    exact ⟨rfl, below_call H7.out (Nat.le_refl _) hB13⟩
end Go.Proofs.YtpjkpmmjehnahaaGreatDoor
