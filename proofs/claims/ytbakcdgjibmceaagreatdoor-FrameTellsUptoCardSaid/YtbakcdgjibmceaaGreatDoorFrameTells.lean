/-
  WALK over the law FrameTells. Conditions: as in XRead; kinds' texts of at most 4194304 signs.
-/
import Derived.Test.YtbakcdgjibmceaaGreatDoorStepper
import Derived.Test.YtbakcdgjibmceaaGreatDoorRefFrame
import Derived.Test.YtbakcdgjibmceaaGreatDoorFaults
namespace Go.Proofs.YtbakcdgjibmceaaGreatDoor
open Go.RowKit Go.Shelf Go.Lib
theorem errIs (k : Nat) (hk : k ≠ 0) (w : World) : Calls Tryz.prog 14 #[.iface 35 (.int .i64 k), .int .i64 k] w fun e w' => e = .returned (.bool true) ∧ w = w' := by
  have := error_any k k w
  rcases errV_cases k with ⟨_, h⟩ | ⟨h, _⟩
  · exact absurd h hk
  · rw [h, decide_eq_true rfl] at this; exact this
theorem errNil (w : World) : Calls Tryz.prog 14 #[.nilIface, .int .i64 0] w fun e w' => e = .returned (.bool true) ∧ w = w' := error_any 0 0 w
/-- two frames, boxed -/
structure FT (w wx : World) (a1 a2 b1 b2 : Value) : Prop where
  below : Below w.heap.size w wx
  k0 : Blk wx w.heap.size 64 [a1, a2]
  k1 : Blk wx (w.heap.size + 1) 64 [b1, b2]
theorem FT.get {w wx : World} {a1 a2 b1 b2 : Value} (h : FT w wx a1 a2 b1 b2) : wx.cell? ⟨w.heap.size, 0, none⟩ = some a1 ∧ wx.cell? ⟨w.heap.size, 1, none⟩ = some a2 ∧ wx.cell? ⟨w.heap.size + 1, 0, none⟩ = some b1 ∧ wx.cell? ⟨w.heap.size + 1, 1, none⟩ = some b2 := ⟨h.k0.cell 0, h.k0.cell 1, h.k1.cell 0, h.k1.cell 1⟩
theorem FT.step {w wx wy : World} {a1 a2 b1 b2 : Value} (h : FT w wx a1 a2 b1 b2) (hb : Below wx.heap.size wx wy) : FT w wy a1 a2 b1 b2 := ⟨below_call h.below (Nat.le_refl _) hb, h.k0.step hb, h.k1.step hb⟩
theorem FT.new (w : World) (a1 a2 b1 b2 : Value) : FT w ((w.alloc (.cells #[a1, a2] 64)).alloc (.cells #[b1, b2] 64)) a1 a2 b1 b2 := by
  refine ⟨((Below.refl _ _).alloc (Nat.le_refl _) _).alloc (by simp) _, (Blk.new w 64 [a1, a2]).step ((Below.refl _ _).alloc (Nat.le_refl _) _), ?_⟩
  have := Blk.new (w.alloc (.cells #[a1, a2] 64)) 64 [b1, b2]
  simpa using this
theorem FT.put {w wx : World} {a1 a2 b1 b2 : Value} (h : FT w wx a1 a2 b1 b2) {b : Nat} (hb : w.heap.size + 1 < b) (u v : Value) : FT w ((wx.setCell ⟨b, 0, none⟩ u).setCell ⟨b, 1, none⟩ v) a1 a2 b1 b2 :=
  ⟨below_set2 h.below (by omega) u v, (h.k0.other (by omega) 0 u).other (by omega) 1 v, (h.k1.other (by omega) 0 u).other (by omega) 1 v⟩
theorem below_alloc (w : World) (o : Obj) : Below w.heap.size w (w.alloc o) := (Below.refl _ _).alloc (Nat.le_refl _) o
theorem belowF_no {l : List Class} {a b : Frm} (h : framesFault l a b ≠ 0) : belowF l a b = false := by unfold belowF; rw [decide_eq_false h]; rfl
theorem belowF_yes {l : List Class} {a b : Frm} (h : framesFault l a b = 0) : belowF l a b = decide (bothF (allC l) a b = b) := by unfold belowF; rw [decide_eq_true h]; rfl
theorem frameAt_nil (w : World) : FrameAt w (.slice none 0 0) (.slice none 0 0) ⟨[], []⟩ := ⟨Or.inl ⟨rfl, rfl⟩, Or.inl ⟨rfl, rfl⟩⟩
set_option maxHeartbeats 4000000 in
set_option maxRecDepth 100000 in
theorem frameTells_any (l : List Class) (lv : Value) (a : Frm) (a1 a2 : Value) (b : Frm) (b1 b2 : Value) (w : World) (hl : Laid w) (ho : ∀ c ∈ l, ClassOk c) (hlv : ClassesAt w lv l) (ha : FrameAt w a1 a2 a) (hb : FrameAt w b1 b2 b) (hSa : FrmShort a) (hSb : FrmShort b) :
    Calls Tryz.prog 9 #[lv, .agg #[a1, a2], .agg #[b1, b2]] w fun e w' => e = .returned (.bool true) ∧ Below w.heap.size w w' := by
  have HSt : Hid (∀ wx, Below w.heap.size w wx → _) := fun wx hx => stepped_any wx (hl.mono hx hl.1)
  have HRw : Hid (∀ wx, Below w.heap.size w wx → _) := fun wx hx => refWorld_any l lv wx ho (hlv.mono hx)
  have HFa : Hid (∀ wx, Below w.heap.size w wx → _) := fun wx hx => refFrameFault_any l lv wx (hlv.mono hx) a a1 a2 (ha.mono hx) hSa
  have HFb : Hid (∀ wx, Below w.heap.size w wx → _) := fun wx hx => refFrameFault_any l lv wx (hlv.mono hx) b b1 b2 (hb.mono hx) hSb
  have HCh : Hid (∀ wx, Below w.heap.size w wx → _) := fun wx hx => frameCheckL_any l lv a a1 a2 wx (hl.mono hx hl.1) ho (hlv.mono hx) (ha.mono hx) hSa
  have HJo : Hid (∀ wx, Below w.heap.size w wx → _) := fun wx hx => frameJoin_any l lv a b a1 a2 b1 b2 wx (hl.mono hx hl.1) ho (hlv.mono hx) (ha.mono hx) (hb.mono hx) hSa hSb
  have HBe : Hid (∀ wx, Below w.heap.size w wx → _) := fun wx hx => frameBelow_any l lv a b a1 a2 b1 b2 wx (hl.mono hx hl.1) ho (hlv.mono hx) (ha.mono hx) (hb.mono hx) hSa hSb
  have HJf : Hid (Right l → (∀ c ∈ l, classFault c = 0) → frameR (allC l) a = 0 → frameR (allC l) b = 0 → ∀ wx, Below w.heap.size w wx → _) := fun h1 h2 h3 h4 wx hx => refJoinFrames_any l lv h1 h2 wx (hlv.mono hx) a b a1 a2 b1 b2 (ha.mono hx) (hb.mono hx) hSa hSb h3 h4
  have HFB : Hid (∀ wx, Below w.heap.size w wx → FrameAt wx b1 b2 b) := fun wx hx => hb.mono hx
  have HSn : Hid (∀ wx, _) := fun wx => sameFrame_any ⟨[], []⟩ ⟨[], []⟩ (.slice none 0 0) (.slice none 0 0) (.slice none 0 0) (.slice none 0 0) wx (frameAt_nil wx) (frameAt_nil wx)
  rw [decide_eq_true rfl] at HSn
  have HE0 := Lib.hid errNil
  obtain ⟨pl, cap, rfl, _⟩ := hlv.open
  obtain ⟨p1, c1, rfl, _⟩ := ha.1.open
  obtain ⟨p2, c2, rfl, _⟩ := ha.2.open
  obtain ⟨p3, c3, rfl, _⟩ := hb.1.open
  obtain ⟨p4, c4, rfl, _⟩ := hb.2.open
  clear hl ho hlv ha hb hSa hSb
  unfold FJoinPost at HJo
  have T0 := FT.new w (.slice p1 a.locals.length c1) (.slice p2 a.stack.length c2) (.slice p3 b.locals.length c3) (.slice p4 b.stack.length c4)
  have HA := Lib.hid below_alloc
  by_cases hz : readFault l = 0
  · by_cases hfa : frameR (allC l) a = 0
    · by_cases hfb : frameR (allC l) b = 0
      · have HJF := Lib.hid (HJf.out (right_of hz) (read_faults hz) hfa hfb)
        have hff := (framesFault_yes (a := a) (b := b) hz).trans (framesR_shape hfa hfb)
        rw [frameFault_yes hz, hfa, show errV 0 = .nilIface from rfl] at HCh
        rw [hz] at HRw
        rw [hfa] at HFa
        rw [hfb] at HFb
        unfold BothPost at HJF
        clear hfb hfa hz HJf
        go_enter Tryz.func9, Tryz.ntmps9
        go_upto_region 14 with (first
        | (go_at_call 26; (with_reducible refine (HSt.out _ T0.below).mono ?_); rintro e w2 ⟨rfl, hB2⟩; (have T2 := T0.step hB2); obtain ⟨q0, q1, q2, q3⟩ := T2.get)
        | (go_at_call 27; (with_reducible refine (HRw.out _ T2.below).mono ?_); rintro e w3 ⟨rfl, hB3⟩; (have T3 := T2.step hB3); obtain ⟨r0, r1, r2, r3⟩ := T3.get)
        | (go_at_call 28; (with_reducible refine (HFa.out _ T3.below).mono ?_); rintro e w4 ⟨rfl, hB4⟩; (have T4 := T3.step hB4); obtain ⟨s0, s1, s2, s3⟩ := T4.get)
        | (go_at_call 33; (with_reducible refine (HCh.out _ T4.below).mono ?_); rintro e w5 ⟨rfl, hB5⟩; (have T5 := T4.step hB5); obtain ⟨t0, t1, t2, t3⟩ := T5.get)
        | (go_at_call 28; (with_reducible refine (HFb.out _ T5.below).mono ?_); rintro e w6 ⟨rfl, hB6⟩)
        | (go_at_call 14; (with_reducible refine (HE0.out _).mono ?_); rintro e wz ⟨rfl, rfl⟩))
        have T6 := T5.step hB6
        have T7 := T6.step (HA.out _ (.cells #[.slice none 0 0, .slice none 0 0] 64))
        have K7 := Blk.new w6 64 [.slice none 0 0, .slice none 0 0]
        have hw6 := T6.k1.lt
        obtain ⟨v0, v1, v2, v3⟩ := T7.get
        clear T0 T2 T3 T4 T5 q0 q1 q2 q3 r0 r1 r2 r3 s0 s1 s2 s3 t0 t1 t2 t3
        cases hsh : shapedB a b with
        | false =>
          rw [hsh, if_neg (by decide)] at hff
          have HNz : Hid (¬ (8 : Nat) = 0) := Lib.hid (by decide)
          rw [belowF_no (by rw [hff]; decide), hff, show errV 8 = .iface 35 (.int .i64 8) from rfl] at HBe
          rw [hff] at HJo
          rw [hsh] at HJF
          have HE1 : Hid (∀ wx, _) := fun wx => errIs 8 (by decide) wx
          rw [show ((8 : Nat) : Int) = 8 from rfl] at HE1 HJo
          clear hff hsh HFB
          go_upto_region 15 with (go_at_call 35; (with_reducible refine (HJF.out _ T7.below).mono ?_); rintro e w8 ⟨hB8, ⟨hz, _⟩ | ⟨_, rfl⟩⟩; (exact absurd hz (by decide)); (have T8 := T7.step hB8); (have K8 := K7.step hB8); obtain ⟨k0, k1⟩ := K8.cells2; (have f0 := K8.frozen 0); (have f1 := K8.frozen 1))
          have T9 := T8.put hw6 (.slice none 0 0) (.slice none 0 0)
          have K9 := K8.put2 (.slice none 0 0) (.slice none 0 0)
          clear T8 K8 k0 k1 f0 f1 v0 v1 v2 v3 T7 K7
          generalize ((w8.setCell ⟨w6.heap.size, 0, none⟩ (.slice none 0 0)).setCell ⟨w6.heap.size, 1, none⟩ (.slice none 0 0)) = w9 at *
          obtain ⟨v0, v1, v2, v3⟩ := T9.get
          go_wp2_with (first
            | (go_at_call 37; (with_reducible refine (HJo.out _ T9.below).mono ?_); rintro e w10 ⟨hB10, ⟨hz, _⟩ | ⟨_, rfl⟩⟩; (exact absurd hz HNz.out); (have T10 := T9.step hB10); (have K10 := K9.step hB10); obtain ⟨x0, x1, x2, x3⟩ := (T10.step (HA.out _ (.cells #[.slice none 0 0, .slice none 0 0] 64))).get)
            | (go_at_call 34; (with_reducible refine (HBe.out _ (T10.step (HA.out _ _)).below).mono ?_); rintro e w11 ⟨rfl, hB11⟩; (have T11 := (T10.step (HA.out _ (.cells #[.slice none 0 0, .slice none 0 0] 64))).step hB11); obtain ⟨y0, y1⟩ := ((K10.step (HA.out _ (.cells #[.slice none 0 0, .slice none 0 0] 64))).step hB11).cells2; obtain ⟨z0, z1⟩ := ((Blk.new w10 64 [.slice none 0 0, .slice none 0 0]).step hB11).cells2)
            | (go_at_call 14; (with_reducible refine (HE1.out _).mono ?_); rintro e wz ⟨rfl, rfl⟩)
            | (go_at_call 32; (with_reducible refine (HSn.out _).mono ?_); rintro e w12 ⟨rfl, hB12⟩))
          go_ret
          exact ⟨rfl, (T11.step hB12).below⟩
        | true =>
          rw [hsh, if_pos rfl] at hff
          rw [belowF_yes hff, hff, show errV 0 = .nilIface from rfl] at HBe
          rw [hff] at HJo
          rw [hsh] at HJF
          have HSf : Hid (∀ wx v1 v2 u1 u2, FrameAt wx v1 v2 (bothF (allC l) a b) → FrameAt wx u1 u2 (bothF (allC l) a b) → _) := fun wx v1 v2 u1 u2 h1 h2 => sameFrame_any (bothF (allC l) a b) (bothF (allC l) a b) v1 v2 u1 u2 wx h1 h2
          have HSq : Hid (∀ wx v1 v2, Below w.heap.size w wx → FrameAt wx v1 v2 (bothF (allC l) a b) → _) := fun wx v1 v2 hx h1 => refSameFrame_any (bothF (allC l) a b) b v1 v2 _ _ wx h1 (HFB.out wx hx)
          rw [decide_eq_true rfl] at HSf
          clear hff hsh HFB HSn
          go_upto_region 15 with (go_at_call 35; (with_reducible refine (HJF.out _ T7.below).mono ?_); rintro e w8 ⟨hB8, ⟨_, d1, d2, rfl, hv⟩ | ⟨hz, _⟩⟩; rotate_left; (exact absurd hz (by decide)); obtain ⟨⟨pa, ka, rfl, _⟩, ⟨pb, kb, rfl, _⟩⟩ := And.intro hv.1.open hv.2.open; (have T8 := T7.step hB8); (have K8 := K7.step hB8); obtain ⟨k0, k1⟩ := K8.cells2; (have f0 := K8.frozen 0); (have f1 := K8.frozen 1))
          have T9 := T8.put hw6 (.slice pa (bothF (allC l) a b).locals.length ka) (.slice pb (bothF (allC l) a b).stack.length kb)
          have K9 := K8.put2 (.slice pa (bothF (allC l) a b).locals.length ka) (.slice pb (bothF (allC l) a b).stack.length kb)
          have hr1 := StrsAt.apart hv.1 K8 (fun s h => by cases h) (fun s h => by cases h) (w' := ((w8.setCell ⟨w6.heap.size, 0, none⟩ (.slice pa (bothF (allC l) a b).locals.length ka)).setCell ⟨w6.heap.size, 1, none⟩ (.slice pb (bothF (allC l) a b).stack.length kb))) (fun g hg => by rw [heap_setCell_other _ _ _ _ hg, heap_setCell_other _ _ _ _ hg])
          have hr2 := StrsAt.apart hv.2 K8 (fun s h => by cases h) (fun s h => by cases h) (w' := ((w8.setCell ⟨w6.heap.size, 0, none⟩ (.slice pa (bothF (allC l) a b).locals.length ka)).setCell ⟨w6.heap.size, 1, none⟩ (.slice pb (bothF (allC l) a b).stack.length kb))) (fun g hg => by rw [heap_setCell_other _ _ _ _ hg, heap_setCell_other _ _ _ _ hg])
          clear T8 K8 k0 k1 f0 f1 v0 v1 v2 v3 T7 K7 hv
          generalize ((w8.setCell ⟨w6.heap.size, 0, none⟩ (.slice pa (bothF (allC l) a b).locals.length ka)).setCell ⟨w6.heap.size, 1, none⟩ (.slice pb (bothF (allC l) a b).stack.length kb)) = w9 at *
          have hv9 : FrameAt w9 (.slice pa (bothF (allC l) a b).locals.length ka) (.slice pb (bothF (allC l) a b).stack.length kb) (bothF (allC l) a b) := ⟨hr1, hr2⟩
          have HFo := Lib.hid hv9
          clear hr1 hr2 hv9
          obtain ⟨v0, v1, v2, v3⟩ := T9.get
          obtain ⟨k0, k1⟩ := K9.cells2
          generalize decide (bothF (allC l) a b = b) = res at *
          go_upto_region 18 with (go_at_call 36; (with_reducible refine (HSq.out _ _ _ T9.below HFo.out).mono ?_); rintro e w10 ⟨rfl, hB10⟩)
          have T10 := T9.step hB10
          have K10 := K9.step hB10
          have HFo10 := Lib.hid (HFo.out.mono hB10)
          clear v0 v1 v2 v3 k0 k1 T9 K9
          obtain ⟨v0, v1, v2, v3⟩ := T10.get
          go_upto_region 19 with (first
            | (go_at_call 37; (with_reducible refine (HJo.out _ T10.below).mono ?_); rintro e w11 ⟨hB11, ⟨_, d3, d4, rfl, hu⟩ | ⟨hz, _⟩⟩; rotate_left; (exact absurd rfl hz); obtain ⟨⟨pc, kc, rfl, _⟩, ⟨pd, kd, rfl, _⟩⟩ := And.intro hu.1.open hu.2.open; (have hB12 := below_call hB11 (Nat.le_refl _) (HA.out _ (.cells #[.slice pc (bothF (allC l) a b).locals.length kc, .slice pd (bothF (allC l) a b).stack.length kd] 64)))))
          have T12 := T10.step hB12
          have K12 := K10.step hB12
          have HFo12 := Lib.hid (HFo10.out.mono hB12)
          have hBa := HA.out w11 (.cells #[.slice pc (bothF (allC l) a b).locals.length kc, .slice pd (bothF (allC l) a b).stack.length kd] 64)
          have KF := Blk.new w11 64 [(.slice pc (bothF (allC l) a b).locals.length kc), (.slice pd (bothF (allC l) a b).stack.length kd)]
          have HU12 := Lib.hid (hu.mono hBa)
          clear v0 v1 v2 v3 T10 K10 hu hB11 hB12 hBa HFo HFo10
          obtain ⟨v0, v1, v2, v3⟩ := T12.get
          go_wp2_with (first
            | (go_at_call 34; (with_reducible refine (HBe.out _ T12.below).mono ?_); rintro e w13 ⟨rfl, hB13⟩; (have T13 := T12.step hB13); obtain ⟨y0, y1⟩ := (K12.step hB13).cells2; obtain ⟨z0, z1⟩ := (KF.step hB13).cells2; (have HSz := Lib.hid (HSf.out _ _ _ _ _ (HU12.out.mono hB13) (HFo12.out.mono hB13))))
            | (go_at_call 14; (with_reducible refine (HE0.out _).mono ?_); rintro e wz ⟨rfl, rfl⟩)
            | (go_at_call 32; (with_reducible refine HSz.out.mono ?_); rintro e w14 ⟨rfl, hB14⟩))
          go_ret
          exact ⟨by simp, (T13.step hB14).below⟩
      · have hff : framesFault l a b = frameR (allC l) b := (framesFault_yes hz).trans (framesR_b hfa hfb)
        have HNz := Lib.hid hfb
        have hk0 : (((frameR (allC l) b : Nat) : Int) == 0) = false := by simpa using hfb
        rcases errV_cases (frameR (allC l) b) with ⟨_, h0⟩ | ⟨hv, _⟩
        · exact absurd h0 hfb
        rw [belowF_no (by rw [hff]; exact hfb), hff, hv] at HBe
        rw [hff] at HJo
        rw [frameFault_yes hz, hfa, show errV 0 = .nilIface from rfl] at HCh
        rw [hz] at HRw
        rw [hfa] at HFa
        have HE1 : Hid (∀ wx, _) := fun wx => errIs (frameR (allC l) b) hfb wx
        clear hff hv hfb hfa hz HJf HFB
        generalize frameR (allC l) b = n at *
        go_enter Tryz.func9, Tryz.ntmps9
        go_wp2_with (first
          | (go_at_call 26; (with_reducible refine (HSt.out _ T0.below).mono ?_); rintro e w2 ⟨rfl, hB2⟩; (have T2 := T0.step hB2); obtain ⟨q0, q1, q2, q3⟩ := T2.get)
          | (go_at_call 27; (with_reducible refine (HRw.out _ T2.below).mono ?_); rintro e w3 ⟨rfl, hB3⟩; (have T3 := T2.step hB3); obtain ⟨r0, r1, r2, r3⟩ := T3.get)
          | (go_at_call 28; (with_reducible refine (HFa.out _ T3.below).mono ?_); rintro e w4 ⟨rfl, hB4⟩; (have T4 := T3.step hB4); obtain ⟨s0, s1, s2, s3⟩ := T4.get)
          | (go_at_call 33; (with_reducible refine (HCh.out _ T4.below).mono ?_); rintro e w5 ⟨rfl, hB5⟩; (have T5 := T4.step hB5); obtain ⟨t0, t1, t2, t3⟩ := T5.get; obtain ⟨v0, v1, v2, v3⟩ := (T5.step (HA.out _ (.cells #[.slice none 0 0, .slice none 0 0] 64))).get)
          | (go_at_call 28; (with_reducible refine (HFb.out _ T5.below).mono ?_); rintro e w6 ⟨rfl, hB6⟩; (have T6 := T5.step hB6); obtain ⟨u0, u1, u2, u3⟩ := T6.get; obtain ⟨v0, v1, v2, v3⟩ := (T6.step (HA.out _ (.cells #[.slice none 0 0, .slice none 0 0] 64))).get)
          | (go_at_call 14; (with_reducible refine (HE1.out _).mono ?_); rintro e wz ⟨rfl, rfl⟩)
          | (go_at_call 14; (with_reducible refine (HE0.out _).mono ?_); rintro e wz ⟨rfl, rfl⟩)
          | (go_at_call 37; (with_reducible refine (HJo.out _ (T6.step (HA.out _ _)).below).mono ?_); rintro e w7 ⟨hB7, ⟨hz, _⟩ | ⟨_, rfl⟩⟩; (exact absurd hz HNz.out); (have T7 := (T6.step (HA.out _ (.cells #[.slice none 0 0, .slice none 0 0] 64))).step hB7); (have K7 := (Blk.new w6 64 [.slice none 0 0, .slice none 0 0]).step hB7); obtain ⟨x0, x1, x2, x3⟩ := (T7.step (HA.out _ (.cells #[.slice none 0 0, .slice none 0 0] 64))).get)
          | (go_at_call 34; (with_reducible refine (HBe.out _ (T7.step (HA.out _ _)).below).mono ?_); rintro e w8 ⟨rfl, hB8⟩; (have T8 := (T7.step (HA.out _ (.cells #[.slice none 0 0, .slice none 0 0] 64))).step hB8); obtain ⟨y0, y1⟩ := ((K7.step (HA.out _ (.cells #[.slice none 0 0, .slice none 0 0] 64))).step hB8).cells2; obtain ⟨z0, z1⟩ := ((Blk.new w7 64 [.slice none 0 0, .slice none 0 0]).step hB8).cells2)
          | (go_at_call 32; (with_reducible refine (HSn.out _).mono ?_); rintro e w9 ⟨rfl, hB9⟩))
        go_ret
        exact ⟨rfl, (T8.step hB9).below⟩
    · have hff : framesFault l a b = frameR (allC l) a := (framesFault_yes hz).trans (framesR_a hfa)
      have HNz := Lib.hid hfa
      have hk0 : (((frameR (allC l) a : Nat) : Int) == 0) = false := by simpa using hfa
      rcases errV_cases (frameR (allC l) a) with ⟨_, h0⟩ | ⟨hv, _⟩
      · exact absurd h0 hfa
      rw [belowF_no (by rw [hff]; exact hfa), hff, hv] at HBe
      rw [hff] at HJo
      rw [frameFault_yes hz, hv] at HCh
      rw [hz] at HRw
      have HE1 : Hid (∀ wx, _) := fun wx => errIs (frameR (allC l) a) hfa wx
      clear hff hv hfa hz HJf HFB HFb HE0
      generalize frameR (allC l) a = n at *
      go_enter Tryz.func9, Tryz.ntmps9
      go_wp2_with (first
        | (go_at_call 26; (with_reducible refine (HSt.out _ T0.below).mono ?_); rintro e w2 ⟨rfl, hB2⟩; (have T2 := T0.step hB2); obtain ⟨q0, q1, q2, q3⟩ := T2.get)
        | (go_at_call 27; (with_reducible refine (HRw.out _ T2.below).mono ?_); rintro e w3 ⟨rfl, hB3⟩; (have T3 := T2.step hB3); obtain ⟨r0, r1, r2, r3⟩ := T3.get)
        | (go_at_call 28; (with_reducible refine (HFa.out _ T3.below).mono ?_); rintro e w4 ⟨rfl, hB4⟩; (have T4 := T3.step hB4); obtain ⟨s0, s1, s2, s3⟩ := T4.get)
        | (go_at_call 33; (with_reducible refine (HCh.out _ T4.below).mono ?_); rintro e w5 ⟨rfl, hB5⟩; (have T5 := T4.step hB5); obtain ⟨t0, t1, t2, t3⟩ := T5.get; obtain ⟨v0, v1, v2, v3⟩ := (T5.step (HA.out _ (.cells #[.slice none 0 0, .slice none 0 0] 64))).get)
        | (go_at_call 14; (with_reducible refine (HE1.out _).mono ?_); rintro e wz ⟨rfl, rfl⟩)
        | (go_at_call 37; (with_reducible refine (HJo.out _ (T5.step (HA.out _ _)).below).mono ?_); rintro e w7 ⟨hB7, ⟨hz, _⟩ | ⟨_, rfl⟩⟩; (exact absurd hz HNz.out); (have T7 := (T5.step (HA.out _ (.cells #[.slice none 0 0, .slice none 0 0] 64))).step hB7); (have K7 := (Blk.new w5 64 [.slice none 0 0, .slice none 0 0]).step hB7); obtain ⟨x0, x1, x2, x3⟩ := (T7.step (HA.out _ (.cells #[.slice none 0 0, .slice none 0 0] 64))).get)
        | (go_at_call 34; (with_reducible refine (HBe.out _ (T7.step (HA.out _ _)).below).mono ?_); rintro e w8 ⟨rfl, hB8⟩; (have T8 := (T7.step (HA.out _ (.cells #[.slice none 0 0, .slice none 0 0] 64))).step hB8); obtain ⟨y0, y1⟩ := ((K7.step (HA.out _ (.cells #[.slice none 0 0, .slice none 0 0] 64))).step hB8).cells2; obtain ⟨z0, z1⟩ := ((Blk.new w7 64 [.slice none 0 0, .slice none 0 0]).step hB8).cells2)
        | (go_at_call 32; (with_reducible refine (HSn.out _).mono ?_); rintro e w9 ⟨rfl, hB9⟩))
      go_ret
      exact ⟨rfl, (T8.step hB9).below⟩
  · have hff : framesFault l a b = readFault l := framesFault_no hz
    have HNz := Lib.hid hz
    have hk0 : (((readFault l : Nat) : Int) == 0) = false := by simpa using hz
    rcases errV_cases (readFault l) with ⟨_, h0⟩ | ⟨hv, _⟩
    · exact absurd h0 hz
    rw [belowF_no (by rw [hff]; exact hz), hff, hv] at HBe
    rw [hff] at HJo
    rw [frameFault_no hz, hv] at HCh
    have HE1 : Hid (∀ wx, _) := fun wx => errIs (readFault l) hz wx
    clear hff hv hz HJf HFB HFa HFb HE0
    generalize readFault l = n at *
    go_enter Tryz.func9, Tryz.ntmps9
    go_wp2_with (first
      | (go_at_call 26; (with_reducible refine (HSt.out _ T0.below).mono ?_); rintro e w2 ⟨rfl, hB2⟩; (have T2 := T0.step hB2); obtain ⟨q0, q1, q2, q3⟩ := T2.get)
      | (go_at_call 27; (with_reducible refine (HRw.out _ T2.below).mono ?_); rintro e w3 ⟨rfl, hB3⟩; (have T3 := T2.step hB3); obtain ⟨r0, r1, r2, r3⟩ := T3.get)
      | (go_at_call 33; (with_reducible refine (HCh.out _ T3.below).mono ?_); rintro e w5 ⟨rfl, hB5⟩; (have T5 := T3.step hB5); obtain ⟨t0, t1, t2, t3⟩ := T5.get; obtain ⟨v0, v1, v2, v3⟩ := (T5.step (HA.out _ (.cells #[.slice none 0 0, .slice none 0 0] 64))).get)
      | (go_at_call 14; (with_reducible refine (HE1.out _).mono ?_); rintro e wz ⟨rfl, rfl⟩)
      | (go_at_call 37; (with_reducible refine (HJo.out _ (T5.step (HA.out _ _)).below).mono ?_); rintro e w7 ⟨hB7, ⟨hz, _⟩ | ⟨_, rfl⟩⟩; (exact absurd hz HNz.out); (have T7 := (T5.step (HA.out _ (.cells #[.slice none 0 0, .slice none 0 0] 64))).step hB7); (have K7 := (Blk.new w5 64 [.slice none 0 0, .slice none 0 0]).step hB7); obtain ⟨x0, x1, x2, x3⟩ := (T7.step (HA.out _ (.cells #[.slice none 0 0, .slice none 0 0] 64))).get)
      | (go_at_call 34; (with_reducible refine (HBe.out _ (T7.step (HA.out _ _)).below).mono ?_); rintro e w8 ⟨rfl, hB8⟩; (have T8 := (T7.step (HA.out _ (.cells #[.slice none 0 0, .slice none 0 0] 64))).step hB8); obtain ⟨y0, y1⟩ := ((K7.step (HA.out _ (.cells #[.slice none 0 0, .slice none 0 0] 64))).step hB8).cells2; obtain ⟨z0, z1⟩ := ((Blk.new w7 64 [.slice none 0 0, .slice none 0 0]).step hB8).cells2)
      | (go_at_call 32; (with_reducible refine (HSn.out _).mono ?_); rintro e w9 ⟨rfl, hB9⟩))
    go_ret
    exact ⟨rfl, (T8.step hB9).below⟩
end Go.Proofs.YtbakcdgjibmceaaGreatDoor
