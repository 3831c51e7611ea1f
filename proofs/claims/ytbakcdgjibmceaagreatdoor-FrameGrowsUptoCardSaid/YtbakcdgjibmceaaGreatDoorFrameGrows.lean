/-
  WALK over the law FrameGrows. Conditions: as in XRead; the instruction's texts of at most 1048576 signs, kinds' texts of at most 4194304.
-/
import Derived.Test.YtbakcdgjibmceaaGreatDoorGrowStep
import Derived.Test.YtbakcdgjibmceaaGreatDoorFaults
namespace Go.Proofs.YtbakcdgjibmceaaGreatDoor
open Go.RowKit Go.Shelf Go.Lib
/-- an instruction and two frames, boxed -/
structure GT (w wx : World) (xv : List Value) (a1 a2 b1 b2 : Value) : Prop where
  below : Below w.heap.size w wx
  ki : Blk wx w.heap.size 62 xv
  ka : Blk wx (w.heap.size + 1) 64 [a1, a2]
  kb : Blk wx (w.heap.size + 1 + 1) 64 [b1, b2]
theorem GT.step {w wx wy : World} {xv : List Value} {a1 a2 b1 b2 : Value} (h : GT w wx xv a1 a2 b1 b2) (hb : Below wx.heap.size wx wy) : GT w wy xv a1 a2 b1 b2 := ⟨below_call h.below (Nat.le_refl _) hb, h.ki.step hb, h.ka.step hb, h.kb.step hb⟩
theorem GT.alloc {w wx : World} {xv : List Value} {a1 a2 b1 b2 : Value} (h : GT w wx xv a1 a2 b1 b2) (o : Obj) : GT w (wx.alloc o) xv a1 a2 b1 b2 := h.step ((Below.refl _ _).alloc (Nat.le_refl _) o)
theorem GT.get {w wx : World} {x0 x1 x2 x3 x4 x5 a1 a2 b1 b2 : Value} (h : GT w wx [x0, x1, x2, x3, x4, x5] a1 a2 b1 b2) : (wx.cell? ⟨w.heap.size, 0, none⟩ = some x0 ∧ wx.cell? ⟨w.heap.size, 1, none⟩ = some x1 ∧ wx.cell? ⟨w.heap.size, 2, none⟩ = some x2 ∧ wx.cell? ⟨w.heap.size, 3, none⟩ = some x3 ∧ wx.cell? ⟨w.heap.size, 4, none⟩ = some x4 ∧ wx.cell? ⟨w.heap.size, 5, none⟩ = some x5) ∧ wx.cell? ⟨w.heap.size + 1, 0, none⟩ = some a1 ∧ wx.cell? ⟨w.heap.size + 1, 1, none⟩ = some a2 ∧ wx.cell? ⟨w.heap.size + 1 + 1, 0, none⟩ = some b1 ∧ wx.cell? ⟨w.heap.size + 1 + 1, 1, none⟩ = some b2 := ⟨h.ki.cells6, h.ka.cell 0, h.ka.cell 1, h.kb.cell 0, h.kb.cell 1⟩
theorem GT.new (w : World) (x0 x1 x2 x3 x4 x5 a1 a2 b1 b2 : Value) : GT w (((w.alloc (.cells #[x0, x1, x2, x3, x4, x5] 62)).alloc (.cells #[a1, a2] 64)).alloc (.cells #[b1, b2] 64)) [x0, x1, x2, x3, x4, x5] a1 a2 b1 b2 := by
  have A1 : ∀ (wz : World) (o : Obj), Below wz.heap.size wz (wz.alloc o) := fun wz o => (Below.refl _ _).alloc (Nat.le_refl _) o
  refine ⟨below_call (below_call (A1 _ _) (Nat.le_refl _) (A1 _ _)) (Nat.le_refl _) (A1 _ _), ((Blk.new w 62 [x0, x1, x2, x3, x4, x5]).step (A1 _ _)).step (A1 _ _), ?_, ?_⟩
  · have := (Blk.new (w.alloc (.cells #[x0, x1, x2, x3, x4, x5] 62)) 64 [a1, a2]).step (A1 _ (.cells #[b1, b2] 64))
    simpa using this
  · have := Blk.new ((w.alloc (.cells #[x0, x1, x2, x3, x4, x5] 62)).alloc (.cells #[a1, a2] 64)) 64 [b1, b2]
    simpa using this
set_option maxHeartbeats 4000000 in
set_option maxRecDepth 100000 in
theorem frameGrows_any (l : List Class) (lv : Value) (from' gives : Str) (x : Ins) (a : Frm) (a1 a2 : Value) (b : Frm) (b1 b2 : Value) (w : World) (hl : Laid w) (ho : ∀ c ∈ l, ClassOk c) (hlv : ClassesAt w lv l) (ha : FrameAt w a1 a2 a) (hb : FrameAt w b1 b2 b) (hSa : FrmShort a) (hSb : FrmShort b) (hx : InsOk x) (hfr : from'.size ≤ maxLen) (hg : gives.size ≤ maxLen) :
    Calls Tryz.prog 8 #[lv, .string from', .string gives, insV x, .agg #[a1, a2], .agg #[b1, b2]] w fun e w' => e = .returned (.bool true) ∧ Below w.heap.size w w' := by
  have HSt : Hid (∀ wx, Below w.heap.size w wx → _) := fun wx hx => stepped_any wx (hl.mono hx hl.1)
  have HBe : Hid (∀ wx, Below w.heap.size w wx → _) := fun wx hx => frameBelow_any l lv a b a1 a2 b1 b2 wx (hl.mono hx hl.1) ho (hlv.mono hx) (ha.mono hx) (hb.mono hx) hSa hSb
  have HSa : Hid (∀ wx, Below w.heap.size w wx → _) := fun wx hq => frameStep_any l lv from' gives x a a1 a2 wx (hl.mono hq hl.1) ho (hlv.mono hq) (ha.mono hq) hSa hx hfr hg
  have HSb : Hid (∀ wx, Below w.heap.size w wx → _) := fun wx hq => frameStep_any l lv from' gives x b b1 b2 wx (hl.mono hq hl.1) ho (hlv.mono hq) (hb.mono hq) hSb hx hfr hg
  have HB2 : Hid (∀ (f g : Frm) (f1 f2 g1 g2 : Value) wx, Below w.heap.size w wx → FrameAt wx f1 f2 f → FrameAt wx g1 g2 g → FrmShort f → FrmShort g → _) := fun f g f1 f2 g1 g2 wx hq h1 h2 h3 h4 => frameBelow_any l lv f g f1 f2 g1 g2 wx (hl.mono hq hl.1) ho (hlv.mono hq) h1 h2 h3 h4
  obtain ⟨pl, cap, rfl, _⟩ := hlv.open
  obtain ⟨p1, c1, rfl, _⟩ := ha.1.open
  obtain ⟨p2, c2, rfl, _⟩ := ha.2.open
  obtain ⟨p3, c3, rfl, _⟩ := hb.1.open
  obtain ⟨p4, c4, rfl, _⟩ := hb.2.open
  clear hl ho hlv ha hb hSa hSb hfr hg hx
  unfold StepRes at HSa HSb
  have HG := Lib.hid (fun (L S : List Str) => step_grows (l := l) (from' := from') (gives := gives) (x := x) (a := a) (b := b) (L := L) (S := S))
  obtain ⟨NA, hNA⟩ : ∃ n, stepN l from' gives x a (stepF (allC l) from' gives x a.locals a.stack) = n := ⟨_, rfl⟩
  obtain ⟨NB, hNB⟩ : ∃ n, stepN l from' gives x b (stepF (allC l) from' gives x b.locals b.stack) = n := ⟨_, rfl⟩
  have HN : Hid (NB = 0 → ∃ L S, stepF (allC l) from' gives x b.locals b.stack = some (L, S)) := fun h => by
    obtain ⟨_, hr⟩ := stepN_nought (hNB.trans h)
    cases hq : stepF (allC l) from' gives x b.locals b.stack with
    | none => exact absurd hq hr
    | some p => exact ⟨p.1, p.2, rfl⟩
  rw [hNA] at HSa HG
  rw [hNB] at HSb HG
  clear hNA hNB
  obtain ⟨op, a0, b0, type, cls, name⟩ := x
  unfold insV at HSa HSb ⊢
  have T0 := GT.new w (.int .i64 op) (.int .i64 a0) (.int .i64 b0) (.string type) (.string cls) (.string name) (.slice p1 a.locals.length c1) (.slice p2 a.stack.length c2) (.slice p3 b.locals.length c3) (.slice p4 b.stack.length c4)
  rcases errV_cases (framesFault l a b) with ⟨hv0, hz⟩ | ⟨hv0, hz⟩
  rotate_left
  · rw [hv0] at HBe
    clear hv0 hz HSa HSb HG HB2
    generalize framesFault l a b = n at *
    generalize belowF l a b = bl at *
    go_enter Tryz.func8, Tryz.ntmps8
    go_wp2_with (first
        | (go_at_call 26; (with_reducible refine (HSt.out _ T0.below).mono ?_); rintro e w2 ⟨rfl, hB2⟩; (have T2 := T0.step hB2); obtain ⟨⟨q0, q1, q2, q3, q4, q5⟩, q6, q7, q8, q9⟩ := T2.get)
        | (go_at_call 34; (with_reducible refine (HBe.out _ T2.below).mono ?_); rintro e w3 ⟨rfl, hB3⟩; (have T3 := T2.step hB3); obtain ⟨⟨q0, q1, q2, q3, q4, q5⟩, q6, q7, q8, q9⟩ := T3.get))
    go_ret
    exact ⟨rfl, T3.below⟩
  rw [hv0] at HBe
  clear hv0 hz
  cases hbl : belowF l a b with
  | false =>
    rw [hbl] at HBe
    clear HSa HSb HG HB2
    go_enter Tryz.func8, Tryz.ntmps8
    go_wp2_with (first
        | (go_at_call 26; (with_reducible refine (HSt.out _ T0.below).mono ?_); rintro e w2 ⟨rfl, hB2⟩; (have T2 := T0.step hB2); obtain ⟨⟨q0, q1, q2, q3, q4, q5⟩, q6, q7, q8, q9⟩ := T2.get)
        | (go_at_call 34; (with_reducible refine (HBe.out _ T2.below).mono ?_); rintro e w3 ⟨rfl, hB3⟩; (have T3 := T2.step hB3); obtain ⟨⟨q0, q1, q2, q3, q4, q5⟩, q6, q7, q8, q9⟩ := T3.get))
    go_ret
    exact ⟨rfl, T3.below⟩
  | true =>
    rw [hbl] at HBe
    have HBl := Lib.hid hbl
    clear hbl
    by_cases hzb : NB = 0
    · by_cases hza : NA = 0
      · subst hza hzb
        go_enter Tryz.func8, Tryz.ntmps8
        go_upto_region 9 with (first
        | (go_at_call 26; (with_reducible refine (HSt.out _ T0.below).mono ?_); rintro e w2 ⟨rfl, hB2⟩; (have T2 := T0.step hB2); obtain ⟨⟨q0, q1, q2, q3, q4, q5⟩, q6, q7, q8, q9⟩ := T2.get)
        | (go_at_call 34; (with_reducible refine (HBe.out _ T2.below).mono ?_); rintro e w3 ⟨rfl, hB3⟩; (have T3 := T2.step hB3); obtain ⟨⟨q0, q1, q2, q3, q4, q5⟩, q6, q7, q8, q9⟩ := T3.get)
        | (go_at_call 31; (with_reducible refine (HSb.out _ T3.below).mono ?_); rintro e w4 ⟨hB4, ⟨_, L, S, g1, g2, hr, rfl, hv⟩ | ⟨hz, _⟩⟩; rotate_left; (exact absurd rfl hz); obtain ⟨⟨pa, ka, rfl, _⟩, ⟨pb, kb, rfl, _⟩⟩ := And.intro hv.1.open hv.2.open; (have T4 := (T3.step hB4).alloc (.cells #[.slice pa L.length ka, .slice pb S.length kb] 64)); obtain ⟨⟨q0, q1, q2, q3, q4, q5⟩, q6, q7, q8, q9⟩ := T4.get)
        | (go_at_call 31; (with_reducible refine (HSa.out _ T4.below).mono ?_); rintro e w5 ⟨hB5, ⟨_, L', S', h1, h2, hr', rfl, hu⟩ | ⟨hz, _⟩⟩; rotate_left; (exact absurd rfl hz); obtain ⟨⟨pc, kc, rfl, _⟩, ⟨pd, kd, rfl, _⟩⟩ := And.intro hu.1.open hu.2.open))
        obtain ⟨L2, S2, e1, _, e2, e3, e4, e5⟩ := HG.out L S HBl.out trivial hr
        rw [hr'] at e1
        injection e1 with e1
        obtain ⟨x1, x2⟩ := pair_eq e1
        subst x1 x2
        have hA4 := (Below.refl w4.heap.size w4).alloc (Nat.le_refl _) (.cells #[.slice pa L.length ka, .slice pb S.length kb] 64)
        have hA5 := (Below.refl w5.heap.size w5).alloc (Nat.le_refl _) (.cells #[.slice pc L'.length kc, .slice pd S'.length kd] 64)
        have T6 := (T4.step hB5).step hA5
        have KG := ((Blk.new w4 64 [.slice pa L.length ka, .slice pb S.length kb]).step hB5).step hA5
        have KF := Blk.new w5 64 [.slice pc L'.length kc, .slice pd S'.length kd]
        have hv6 := ((hv.mono hA4).mono hB5).mono hA5
        have hu6 := hu.mono hA5
        have HBx := Lib.hid (HB2.out _ _ _ _ _ _ _ T6.below hu6 hv6 e4 e5)
        rw [e2, e3, show errV 0 = .nilIface from rfl] at HBx
        obtain ⟨k0, k1⟩ := KG.cells2
        obtain ⟨k2, k3⟩ := KF.cells2
        have HT6 := Lib.hid T6
        clear T6 KG KF hv6 hu6 e1 e2 e3 e4 e5 hv hu hA4 hA5 hB4 hB5 T4 T3 T2 T0 HG HB2 HSa HSb
        go_wp2_with (first
          | (go_at_call 34; (with_reducible refine HBx.out.mono ?_); rintro e w7 ⟨rfl, hB7⟩))
        go_ret
        exact ⟨rfl, (HT6.out.step hB7).below⟩
      · exfalso
        obtain ⟨L, S, hr⟩ := HN.out hzb
        obtain ⟨_, _, _, e0, _⟩ := HG.out L S HBl.out hzb hr
        exact hza e0
    · have HNb := Lib.hid hzb
      clear HG HB2 HN HBl hzb
      by_cases hza : NA = 0
      · subst hza
        go_enter Tryz.func8, Tryz.ntmps8
        go_wp2_with (first
        | (go_at_call 26; (with_reducible refine (HSt.out _ T0.below).mono ?_); rintro e w2 ⟨rfl, hB2⟩; (have T2 := T0.step hB2); obtain ⟨⟨q0, q1, q2, q3, q4, q5⟩, q6, q7, q8, q9⟩ := T2.get)
        | (go_at_call 34; (with_reducible refine (HBe.out _ T2.below).mono ?_); rintro e w3 ⟨rfl, hB3⟩; (have T3 := T2.step hB3); obtain ⟨⟨q0, q1, q2, q3, q4, q5⟩, q6, q7, q8, q9⟩ := T3.get)
        | (go_at_call 31; (with_reducible refine (HSb.out _ T3.below).mono ?_); rintro e w4 ⟨hB4, ⟨hz, _⟩ | ⟨_, rfl⟩⟩; (exact absurd hz HNb.out); (have T4 := (T3.step hB4).alloc (.cells #[.slice none 0 0, .slice none 0 0] 64)); obtain ⟨⟨q0, q1, q2, q3, q4, q5⟩, q6, q7, q8, q9⟩ := T4.get)
        | (go_at_call 31; (with_reducible refine (HSa.out _ T4.below).mono ?_); rintro e w5 ⟨hB5, ⟨_, L', S', h1, h2, hr', rfl, hu⟩ | ⟨hz, _⟩⟩; rotate_left; (exact absurd rfl hz); obtain ⟨⟨pc, kc, rfl, _⟩, ⟨pd, kd, rfl, _⟩⟩ := And.intro hu.1.open hu.2.open))
        go_ret
        exact ⟨rfl, ((T4.step hB5).alloc _).below⟩
      · have HNa := Lib.hid hza
        clear hza
        go_enter Tryz.func8, Tryz.ntmps8
        go_wp2_with (first
        | (go_at_call 26; (with_reducible refine (HSt.out _ T0.below).mono ?_); rintro e w2 ⟨rfl, hB2⟩; (have T2 := T0.step hB2); obtain ⟨⟨q0, q1, q2, q3, q4, q5⟩, q6, q7, q8, q9⟩ := T2.get)
        | (go_at_call 34; (with_reducible refine (HBe.out _ T2.below).mono ?_); rintro e w3 ⟨rfl, hB3⟩; (have T3 := T2.step hB3); obtain ⟨⟨q0, q1, q2, q3, q4, q5⟩, q6, q7, q8, q9⟩ := T3.get)
        | (go_at_call 31; (with_reducible refine (HSb.out _ T3.below).mono ?_); rintro e w4 ⟨hB4, ⟨hz, _⟩ | ⟨_, rfl⟩⟩; (exact absurd hz HNb.out); (have T4 := (T3.step hB4).alloc (.cells #[.slice none 0 0, .slice none 0 0] 64)); obtain ⟨⟨q0, q1, q2, q3, q4, q5⟩, q6, q7, q8, q9⟩ := T4.get)
        | (go_at_call 31; (with_reducible refine (HSa.out _ T4.below).mono ?_); rintro e w5 ⟨hB5, ⟨hz, _⟩ | ⟨_, rfl⟩⟩; (exact absurd hz HNa.out)))
        go_ret
        exact ⟨rfl, ((T4.step hB5).alloc _).below⟩
end Go.Proofs.YtbakcdgjibmceaaGreatDoor
