/-
  WALK over (*walker).caught. Conditions: a world that was read, right frames.
-/
import Derived.Test.YtlmfmioljeppfaaGreatDoorWalker
import Derived.Test.YtlmfmioljeppfaaGreatDoorClassMethod
namespace Go.Proofs.YtlmfmioljeppfaaGreatDoor
open Go.RowKit Go.Shelf Go.Lib
set_option maxHeartbeats 1000000 in
theorem idxFunc_handler {α : Type} (R : α → List Value → Prop) (f : α → Bool) (g : Nat) (lb : Array Value) (eg : ∀ args w, (callFunc g args).run Tryz.prog w = .ok (.enter g args) w) (l : List α) (v : Value) (w : World) (h : SliceOf w 4 R v l)
    (hp : ∀ W x a0 a1 a2 a3, x ∈ l → R x [a0, a1, a2, a3] → Below w.heap.size w W → Calls Tryz.prog g (#[.agg #[a0, a1, a2, a3]] ++ lb) W fun e w' => e = .returned (.bool (f x)) ∧ Below W.heap.size W w') :
    Calls Tryz.prog 191 #[v, .func (.func g) #[] lb] w fun e w' => e = .returned (.int .i64 (idxR f l)) ∧ Below w.heap.size w w' := by
  obtain ⟨p, cap, rfl, h1, h2, hcc⟩ := h.open
  have HC := Lib.hid hcc; clear hcc h
  have HP := Lib.hid hp; clear hp
  have hlen : l.length ≤ 9223372036854775807 := Nat.le_trans h1 h2
  go_enter Tryz.func191, Tryz.ntmps191
  go_wp2_with (first | fail)
  go_loopw [5, 8] (fun _ x wr => ∃ k, k ≤ l.length ∧ Hid (∀ j y, j < k → l[j]? = some y → f y = false) ∧ Below w.heap.size w wr ∧ x = .int .i64 k) (fun _ x _ => l.length - (intOf x).toNat)
  case atStart => exact ⟨0, by omega, fun j y h => by omega, Below.refl _ _, rfl⟩
  case round =>
    obtain ⟨k, hk, hff, hB, rfl⟩ := hrel
    by_cases hkl : k < l.length
    · obtain ⟨x, hx⟩ : ∃ x, l[k]? = some x := ⟨l[k], by simp [hkl]⟩
      obtain ⟨b, o, vs, rfl, hR, hvl, hcells⟩ := HC.out k x hx
      have hcells := hcells.mono hB (by match vs, hvl with | _ :: _, _ => exact hcells.lt)
      match vs, hvl with
      | [a0, a1, a2, a3], _ =>
      have hcall := HP.out wr x a0 a1 a2 a3 (List.mem_of_getElem? hx) hR hB
      have HX := Lib.hid hx; clear hx hR
      obtain ⟨c0, c1, c2, c3, _⟩ := hcells
      cases hq : f x with
      | true =>
        rw [hq] at hcall
        have HQ := Lib.hid hq
        clear hq HP HC
        go_wp2_with (go_at_fn g; refine hcall.mono ?_; rintro e w' ⟨rfl, hb'⟩)
        go_ret
        exact ⟨by rw [idxR_hit HX.out HQ.out hff.out]; rfl, below_call hB (Nat.le_refl _) hb'⟩
      | false =>
        rw [hq] at hcall
        have HQ := Lib.hid hq
        clear hq HP HC
        go_wp2_with (go_at_fn g; refine hcall.mono ?_; rintro e w' ⟨rfl, hb'⟩)
        refine ⟨⟨k + 1, by omega, fun j y hj hy => ?_, below_call hB (Nat.le_refl _) hb', by simp⟩, by simp [intOf]; omega⟩
        by_cases e : j = k
        · subst e; have := HX.out; rw [hy] at this; injection this with this; rw [this]; exact HQ.out
        · exact hff.out j y (by omega) hy
    · obtain rfl : k = l.length := by omega
      go_wp2_with (first | fail)
      go_ret
      exact ⟨by rw [idxR_miss hff.out]; rfl, hB⟩
set_option maxHeartbeats 1000000 in
theorem anyFunc_handler {α : Type} (R : α → List Value → Prop) (f : α → Bool) (g : Nat) (lb : Array Value) (eg : ∀ args w, (callFunc g args).run Tryz.prog w = .ok (.enter g args) w) (l : List α) (v : Value) (w : World) (h : SliceOf w 4 R v l)
    (hp : ∀ W x a0 a1 a2 a3, x ∈ l → R x [a0, a1, a2, a3] → Below w.heap.size w W → Calls Tryz.prog g (#[.agg #[a0, a1, a2, a3]] ++ lb) W fun e w' => e = .returned (.bool (f x)) ∧ Below W.heap.size W w') :
    Calls Tryz.prog 153 #[v, .func (.func g) #[] lb] w fun e w' => e = .returned (.bool (l.any f)) ∧ Below w.heap.size w w' := by
  rw [← idxR_any]
  have HI := Lib.hid (idxFunc_handler R f g lb eg l v w h hp)
  obtain ⟨p, cap, rfl, h1, h2, _⟩ := h.open
  clear hp h
  generalize idxR f l = r at *
  go_enter Tryz.func153, Tryz.ntmps153
  go_wp2_with (go_at_call 191; refine HI.out.mono ?_; rintro e w' ⟨rfl, hb'⟩)
  go_ret
  exact ⟨rfl, hb'⟩
def unfitH (cs : List Class) (M : Asg Frm) (i : Nat) (f : Frm) (h : Handler) : Bool := (decide (h.lo ≤ (i : Int)) && decide ((i : Int) < h.hi)) && !(faultB cs h.cls && meetsM cs M h.dest.toNat ⟨f.locals, [thText h.cls]⟩)
theorem caughtM_any (cs : List Class) (M : Asg Frm) (i : Nat) (f : Frm) : ∀ hs : List Handler, caughtM cs M i f hs = !hs.any (unfitH cs M i f)
  | [] => rfl
  | h :: r => by
    unfold caughtM
    rw [List.any_cons, Bool.not_or, ← caughtM_any cs M i f r]
    unfold unfitH
    by_cases hc : h.lo ≤ (i : Int) ∧ (i : Int) < h.hi
    · rw [if_pos hc, decide_eq_true hc.1, decide_eq_true hc.2]
      simp
    · rw [if_neg hc]
      have : (decide (h.lo ≤ (i : Int)) && decide ((i : Int) < h.hi)) = false := by
        rw [Bool.and_eq_false_iff, decide_eq_false_iff_not, decide_eq_false_iff_not]
        by_cases h1 : h.lo ≤ (i : Int)
        · exact Or.inr fun h2 => hc ⟨h1, h2⟩
        · exact Or.inl h1
      rw [this]; simp
def HandS (wx : World) (qb kb B hb fb d : Nat) (lo hi' : Int) (hcls : Str) (u v : Value) : Prop := wx.cell? ⟨qb, 0, none⟩ = some (.pointer (some ⟨kb, 0, none⟩)) ∧ wx.cell? ⟨kb, 0, none⟩ = some (.map (some B)) ∧ wx.cell? ⟨hb, 0, none⟩ = some (.int .i64 lo) ∧ wx.cell? ⟨hb, 1, none⟩ = some (.int .i64 hi') ∧ wx.cell? ⟨hb, 2, none⟩ = some (.int .i64 (d : Int)) ∧ wx.cell? ⟨hb, 3, none⟩ = some (.string hcls) ∧ wx.cell? ⟨fb, 0, none⟩ = some u ∧ wx.cell? ⟨fb, 1, none⟩ = some v
theorem HandS.step {w w' : World} {qb kb B hb fb d : Nat} {lo hi' : Int} {hcls : Str} {u v : Value} (h : HandS w qb kb B hb fb d lo hi' hcls u v) (hb' : Below w.heap.size w w') : HandS w' qb kb B hb fb d lo hi' hcls u v := by
  obtain ⟨k0, k1, k2, k3, k4, k5, k6, k7⟩ := h
  exact ⟨(hb'.cell (cell_lt k0)).trans k0, (hb'.cell (cell_lt k1)).trans k1, (hb'.cell (cell_lt k2)).trans k2, (hb'.cell (cell_lt k3)).trans k3, (hb'.cell (cell_lt k4)).trans k4, (hb'.cell (cell_lt k5)).trans k5, (hb'.cell (cell_lt k6)).trans k6, (hb'.cell (cell_lt k7)).trans k7⟩
theorem HandS.other {w : World} {qb kb B hb fb d : Nat} {lo hi' : Int} {hcls : Str} {u v : Value} (h : HandS w qb kb B hb fb d lo hi' hcls u v) {c : Nat} (n0 : qb < c) (n1 : kb < c) (n2 : hb < c) (n3 : fb < c) (p q : Value) : HandS ((w.setCell ⟨c, 0, none⟩ p).setCell ⟨c, 1, none⟩ q) qb kb B hb fb d lo hi' hcls u v := by
  obtain ⟨k0, k1, k2, k3, k4, k5, k6, k7⟩ := h
  have m0 := Nat.ne_of_lt n0
  have m1 := Nat.ne_of_lt n1
  have m2 := Nat.ne_of_lt n2
  have m3 := Nat.ne_of_lt n3
  exact ⟨(cell2_other (a := ⟨qb, _, none⟩) m0 _ _).trans k0, (cell2_other (a := ⟨kb, _, none⟩) m1 _ _).trans k1, (cell2_other (a := ⟨hb, _, none⟩) m2 _ _).trans k2, (cell2_other (a := ⟨hb, _, none⟩) m2 _ _).trans k3, (cell2_other (a := ⟨hb, _, none⟩) m2 _ _).trans k4, (cell2_other (a := ⟨hb, _, none⟩) m2 _ _).trans k5, (cell2_other (a := ⟨fb, _, none⟩) m3 _ _).trans k6, (cell2_other (a := ⟨fb, _, none⟩) m3 _ _).trans k7⟩
set_option maxHeartbeats 4000000 in
set_option maxRecDepth 100000 in
theorem caughtFn_any (l : List Class) (B : Nat) (ws w : World) (hm : WorldMap ws w B l) (kb mb : Nat) (hs : List Value) (M : Asg Frm) (h : WK w kb mb hs M) (h0 : hs[0]? = some (.map (some B)))
    (i : Nat) (f : Frm) (f1 f2 : Value) (hf : FrameAt w f1 f2 f) (hfr : frameR (allC l) f = 0) (hM : ∀ i g, M i = some g → frameR (allC l) g = 0) (pb qb fb : Nat) (hpb : w.cell? ⟨pb, 0, none⟩ = some (.int .i64 (i : Int))) (hqb : w.cell? ⟨qb, 0, none⟩ = some (.pointer (some ⟨kb, 0, none⟩))) (hfb : Blk w fb 27 [f1, f2])
    (lo hi' : Int) (d : Nat) (hcls : Str) (hd : d ≤ 64) (hcl : hcls.size ≤ 1048576) :
    Calls Tryz.prog 154 #[.agg #[.int .i64 lo, .int .i64 hi', .int .i64 (d : Int), .string hcls], .pointer (some ⟨pb, 0, none⟩), .pointer (some ⟨qb, 0, none⟩), .pointer (some ⟨fb, 0, none⟩)] w fun e w' => e = .returned (.bool (unfitH (allC l) M i f ⟨lo, hi', (d : Int), hcls⟩)) ∧ Below w.heap.size w w' := by
  have HA : Hid (∀ (wx : World) (o : Obj), Below wx.heap.size wx (wx.alloc o)) := fun wx o => (Below.refl _ _).alloc (Nat.le_refl _) o
  obtain ⟨⟨q1, m1, rfl, _⟩, ⟨q2, m2, rfl, _⟩⟩ := And.intro hf.1.open hf.2.open
  unfold unfitH
  dsimp only
  rw [Int.toNat_natCast]
  by_cases hrg : lo ≤ (i : Int) ∧ (i : Int) < hi'
  · obtain ⟨i1, i2⟩ := hrg
    rw [decide_eq_true i1, decide_eq_true i2, Bool.and_self, Bool.true_and]
    have B2 := HA.out w (.cells #[.int .i64 lo, .int .i64 hi', .int .i64 (d : Int), .string hcls] 126)
    have hb2 := Blk.new w 126 [.int .i64 lo, .int .i64 hi', .int .i64 (d : Int), .string hcls]
    have p2 : (w.alloc (.cells #[.int .i64 lo, .int .i64 hi', .int .i64 (d : Int), .string hcls] 126)).cell? ⟨pb, 0, none⟩ = some (.int .i64 (i : Int)) := (B2.cell (cell_lt hpb)).trans hpb
    obtain ⟨w2, hw2⟩ : ∃ w2, w2 = w.alloc (.cells #[.int .i64 lo, .int .i64 hi', .int .i64 (d : Int), .string hcls] 126) := ⟨_, rfl⟩
    rw [← hw2] at B2 hb2
    have HW2 := Lib.hid hw2.symm
    clear hw2
    have HK2 := Lib.hid (h.step B2)
    have Hf2 := Lib.hid (hf.mono B2)
    have HS : Hid (∀ wx, Below w2.heap.size w2 wx → HandS wx qb kb B w.heap.size fb d lo hi' hcls (.slice q1 f.locals.length m1) (.slice q2 f.stack.length m2)) := fun wx hb => HandS.step ⟨(B2.cell (cell_lt hqb)).trans hqb, HK2.out.cellh h0, hb2.cell 0, hb2.cell 1, hb2.cell 2, hb2.cell 3, (hfb.step B2).cell 0, (hfb.step B2).cell 1⟩ hb
    have HLt : Hid (qb < w2.heap.size ∧ kb < w2.heap.size ∧ w.heap.size < w2.heap.size ∧ fb < w2.heap.size) := ⟨Nat.lt_of_lt_of_le (cell_lt hqb) B2.size, HK2.out.box.lt, hb2.lt, (hfb.step B2).lt⟩
    have Hm2 := Lib.hid (hm.step B2)
    have HCa : Hid (∀ wx, Below w2.heap.size w2 wx → Calls Tryz.prog 149 #[.map (some B), .agg #[.int .i64 lo, .int .i64 hi', .int .i64 (d : Int), .string hcls], .agg #[.slice q1 f.locals.length m1, .slice q2 f.stack.length m2]] wx fun e w' => CaughtPost wx (faultB (allC l) hcls) hcls (.slice q1 f.locals.length m1) e w' ∧ HandS w' qb kb B w.heap.size fb d lo hi' hcls (.slice q1 f.locals.length m1) (.slice q2 f.stack.length m2)) := fun wx hb =>
      (caughtF_any ws wx B l (Hm2.out.step hb) lo hi' (d : Int) hcls (.slice q1 f.locals.length m1) (.slice q2 f.stack.length m2) ⟨_, _, _, rfl⟩ hcl).mono fun e w' hP => ⟨hP, HS.out w' (below_call hb (Nat.le_refl _) hP.1)⟩
    have HB2 := Lib.hid B2
    have Hfr := Lib.hid hfr
    have HM := Lib.hid hM
    obtain ⟨k0, k1, k2, k3, k4, k5, k6, k7⟩ := HS.out w2 (Below.refl _ _)
    unfold CaughtPost at HCa
    clear h hf hm hfr hM hfb B2 hb2
    go_enter Tryz.func154, Tryz.ntmps154
    cases hfb : faultB (allC l) hcls with
    | true =>
      rw [hfb] at HCa
      rw [Bool.true_and]
      have HFb := Lib.hid hfb
      clear hfb
      go_upto_region 3 with (first | fail)
      rw [HW2.out]
      clear hpb hqb p2
      go_cut [6, 7] (fun p b wx => b = .bool true ∧ GotAt w2 wx ⟨f.locals, [thText hcls]⟩ p)
      case first =>
        go_region_held3 (fun w' => w'.cell? ⟨qb, 0, none⟩ = some (.pointer (some ⟨kb, 0, none⟩)) ∧ w'.cell? ⟨kb, 0, none⟩ = some (.map (some B)) ∧ w'.cell? ⟨w.heap.size, 0, none⟩ = some (.int .i64 lo) ∧ w'.cell? ⟨w.heap.size, 1, none⟩ = some (.int .i64 hi') ∧ w'.cell? ⟨w.heap.size, 2, none⟩ = some (.int .i64 (d : Int)) ∧ w'.cell? ⟨w.heap.size, 3, none⟩ = some (.string hcls) ∧ w'.cell? ⟨fb, 0, none⟩ = some (.slice q1 f.locals.length m1) ∧ w'.cell? ⟨fb, 1, none⟩ = some (.slice q2 f.stack.length m2))
          (first | go_keep | exact HandS.other ⟨k0, k1, k2, k3, k4, k5, k6, k7⟩ HLt.out.1 HLt.out.2.1 HLt.out.2.2.1 HLt.out.2.2.2 _ _)
          (first
            | (go_at_call 149; (with_reducible refine (HCa.out _ ?_).mono ?_); (first | exact (Below.refl _ _).drew | exact ((Below.refl _ _).alloc (Nat.le_refl _) _).drew); rintro e w3 ⟨⟨hB3, ⟨_, p4, n4, c4, rfl, hs4, _⟩ | ⟨hz, _⟩⟩, k0, k1, k2, k3, k4, k5, k6, k7⟩; rotate_left; (exact absurd hz (by decide)); (first | (have KB : Blk w3 w2.heap.size 27 [.slice none 0 0, .slice none 0 0] := Blk.step (w := (w2.alloc (.cells #[.slice none 0 0, .slice none 0 0] 27)).drew) (Blk.new w2 27 [.slice none 0 0, .slice none 0 0]) hB3; obtain ⟨x0, x1⟩ := KB.cells2; (have g0 := KB.frozen 0); (have g1 := KB.frozen 1)) | skip)))
        all_goals (go_wp2_with (first | fail); go_meet; first
          | exact ⟨rfl, GotAt.late (below_call ((Below.refl _ _).drew) (Nat.le_refl _) hB3) ⟨(Hf2.out.mono (below_call ((Below.refl _ _).drew) (Nat.le_refl _) hB3)).1, hs4⟩⟩
          | exact ⟨rfl, GotAt.early (below_call ((Below.refl _ _).drew) (Nat.le_refl _) hB3) ⟨(Hf2.out.mono (below_call (((Below.refl _ _).alloc (Nat.le_refl _) _).drew) (Nat.le_refl _) hB3)).1, hs4⟩⟩)
      case rest =>
        obtain ⟨rfl, nb, v1, v2, rfl, hnb, Kb, hBw, hFv⟩ := hcut
        have hfr2 := fault_frame Hfr.out HFb.out
        have HMt := Lib.hid (walkMeets_any l B ws wc (Hm2.out.step hBw) kb mb hs M (HK2.out.step hBw) h0 d hd ⟨f.locals, [thText hcls]⟩ v1 v2 hFv hfr2 HM.out)
        obtain ⟨t0, t1, t2, t3, t4, t5, t6, t7⟩ := HS.out wc hBw
        have g0 := Kb.cell 0
        have g1 := Kb.cell 1
        have HBw := Lib.hid hBw
        clear k0 k1 k2 k3 k4 k5 k6 k7 Kb hFv hBw hnb hfr2 HCa
        go_wp2_with (go_at_call 111; (with_reducible refine (HMt.out).mono ?_); rintro e w5 ⟨rfl, hB5⟩)
        go_ret
        exact ⟨rfl, below_call HB2.out (Nat.le_refl _) (below_call HBw.out (Nat.le_refl _) hB5)⟩
    | false =>
      rw [hfb] at HCa
      rw [Bool.false_and]
      clear hfb
      go_upto_region 3 with (first | fail)
      rw [HW2.out]
      clear hpb hqb p2
      go_cut [6, 7] (fun _ b wx => b = .bool false ∧ Below w2.heap.size w2 wx)
      case first =>
        go_region_held3 (fun w' => w'.cell? ⟨qb, 0, none⟩ = some (.pointer (some ⟨kb, 0, none⟩)) ∧ w'.cell? ⟨kb, 0, none⟩ = some (.map (some B)) ∧ w'.cell? ⟨w.heap.size, 0, none⟩ = some (.int .i64 lo) ∧ w'.cell? ⟨w.heap.size, 1, none⟩ = some (.int .i64 hi') ∧ w'.cell? ⟨w.heap.size, 2, none⟩ = some (.int .i64 (d : Int)) ∧ w'.cell? ⟨w.heap.size, 3, none⟩ = some (.string hcls) ∧ w'.cell? ⟨fb, 0, none⟩ = some (.slice q1 f.locals.length m1) ∧ w'.cell? ⟨fb, 1, none⟩ = some (.slice q2 f.stack.length m2))
          (first | go_keep | exact HandS.other ⟨k0, k1, k2, k3, k4, k5, k6, k7⟩ HLt.out.1 HLt.out.2.1 HLt.out.2.2.1 HLt.out.2.2.2 _ _)
          (first
            | (go_at_call 149; (with_reducible refine (HCa.out _ ?_).mono ?_); (first | exact (Below.refl _ _).drew | exact ((Below.refl _ _).alloc (Nat.le_refl _) _).drew); rintro e w3 ⟨⟨hB3, ⟨hz, _⟩ | ⟨_, rfl⟩⟩, k0, k1, k2, k3, k4, k5, k6, k7⟩; (exact absurd hz (by decide)); (first | (have KB : Blk w3 w2.heap.size 27 [.slice none 0 0, .slice none 0 0] := Blk.step (w := (w2.alloc (.cells #[.slice none 0 0, .slice none 0 0] 27)).drew) (Blk.new w2 27 [.slice none 0 0, .slice none 0 0]) hB3; obtain ⟨x0, x1⟩ := KB.cells2; (have g0 := KB.frozen 0); (have g1 := KB.frozen 1)) | skip)))
        all_goals (go_wp2_with (first | fail); go_meet; first
          | exact ⟨rfl, (below_call ((Below.refl _ _).drew) (Nat.le_refl _) hB3).alloc hB3.size _⟩
          | exact ⟨rfl, ((below_call (w := w2) (((Below.refl _ _).alloc (Nat.le_refl _) _).drew) (Nat.le_refl _) hB3).setCell (Nat.le_refl _) _).setCell (Nat.le_refl _) _⟩)
      case rest =>
        obtain ⟨rfl, hB⟩ := hcut
        clear k0 k1 k2 k3 k4 k5 k6 k7 HCa
        go_wp2_with (first | fail)
        go_ret
        exact ⟨rfl, below_call HB2.out (Nat.le_refl _) hB⟩
  · have hno : (decide (lo ≤ (i : Int)) && decide ((i : Int) < hi')) = false := by
      rw [Bool.and_eq_false_iff, decide_eq_false_iff_not, decide_eq_false_iff_not]
      by_cases h1 : lo ≤ (i : Int)
      · exact Or.inr fun h2 => hrg ⟨h1, h2⟩
      · exact Or.inl h1
    rw [hno, Bool.false_and]
    have HI := Lib.hid hrg
    have HB := Lib.hid (HA.out w (.cells #[.int .i64 lo, .int .i64 hi', .int .i64 (d : Int), .string hcls] 126))
    have p2 : (w.alloc (.cells #[.int .i64 lo, .int .i64 hi', .int .i64 (d : Int), .string hcls] 126)).cell? ⟨pb, 0, none⟩ = some (.int .i64 (i : Int)) := (HB.out.cell (cell_lt hpb)).trans hpb
    clear hno hrg h hf hm hfr hM hfb
    go_enter Tryz.func154, Tryz.ntmps154
    go_wp2_with (first | fail)
    all_goals first | (exfalso; have := HI.out; omega) | skip
    all_goals
      go_ret
      exact ⟨rfl, HB.out⟩
set_option maxHeartbeats 4000000 in
set_option maxRecDepth 100000 in
theorem walkCaught_any (l : List Class) (B : Nat) (ws w : World) (hm : WorldMap ws w B l) (kb mb : Nat) (hs : List Value) (M : Asg Frm) (h : WK w kb mb hs M) (h0 : hs[0]? = some (.map (some B))) (ph : Option Addr) (kh : Nat) (hands : List Handler) (h8 : hs[8]? = some (.slice ph hands.length kh)) (hhv : SliceOf w 4 HandlerCells (.slice ph hands.length kh) hands)
    (n : Nat) (hn : n ≤ 40) (hh : handlersFault hands n = 0) (i : Nat) (f : Frm) (f1 f2 : Value) (hf : FrameAt w f1 f2 f) (hfr : frameR (allC l) f = 0) (hM : ∀ i g, M i = some g → frameR (allC l) g = 0) :
    Calls Tryz.prog 112 #[.pointer (some ⟨kb, 0, none⟩), .int .i64 (i : Int), .agg #[f1, f2]] w fun e w' => e = .returned (.bool (caughtM (allC l) M i f hands)) ∧ Below w.heap.size w w' := by
  have HA : Hid (∀ (wx : World) (o : Obj), Below wx.heap.size wx (wx.alloc o)) := fun wx o => (Below.refl _ _).alloc (Nat.le_refl _) o
  have B1 : Below w.heap.size w (((w.alloc (.cells #[.pointer (some ⟨kb, 0, none⟩)] 121)).alloc (.cells #[.int .i64 (i : Int)] 3)).alloc (.cells #[f1, f2] 27)) := (((Below.refl _ _).alloc (Nat.le_refl _) _).alloc (by simp) _).alloc (by simp; omega) _
  have Ba := HA.out (w.alloc (.cells #[.pointer (some ⟨kb, 0, none⟩)] 121)) (.cells #[.int .i64 (i : Int)] 3)
  have Bb := HA.out ((w.alloc (.cells #[.pointer (some ⟨kb, 0, none⟩)] 121)).alloc (.cells #[.int .i64 (i : Int)] 3)) (.cells #[f1, f2] 27)
  have x1 := ((Blk.new w 121 [.pointer (some ⟨kb, 0, none⟩)]).step Ba).step Bb
  have x2 := (Blk.new (w.alloc (.cells #[.pointer (some ⟨kb, 0, none⟩)] 121)) 3 [.int .i64 (i : Int)]).step Bb
  have x3 := Blk.new ((w.alloc (.cells #[.pointer (some ⟨kb, 0, none⟩)] 121)).alloc (.cells #[.int .i64 (i : Int)] 3)) 27 [f1, f2]
  simp only [World.size_alloc] at x2 x3
  have HK := Lib.hid (h.step B1)
  have c8 := HK.out.cellh h8
  have x0 := x1.cell 0
  have HAny := Lib.hid (anyFunc_handler HandlerCells (unfitH (allC l) M i f) 154 #[.pointer (some ⟨w.heap.size + 1, 0, none⟩), .pointer (some ⟨w.heap.size, 0, none⟩), .pointer (some ⟨w.heap.size + 1 + 1, 0, none⟩)] (enters_of Tryz.func154 (by kernel_rfl) rfl) hands (.slice ph hands.length kh) (((w.alloc (.cells #[.pointer (some ⟨kb, 0, none⟩)] 121)).alloc (.cells #[.int .i64 (i : Int)] 3)).alloc (.cells #[f1, f2] 27)) (hhv.mono B1 (by decide) (fun _ _ h => h))
    (fun W x a0 a1 a2 a3 hx hc hW => by
      unfold HandlerCells at hc
      simp only [List.cons.injEq, and_true] at hc
      obtain ⟨rfl, rfl, rfl, rfl⟩ := hc
      obtain ⟨o1, o2, o3, o4, o5⟩ := (handlersOk_of hh).2 x hx
      obtain ⟨lo, hi', dest, hcls⟩ := x
      dsimp only at o1 o2 o3 o4 o5 ⊢
      obtain ⟨d, rfl⟩ := Int.eq_ofNat_of_zero_le o3
      exact caughtFn_any l B ws W ((hm.step B1).step hW) kb mb hs M (HK.out.step hW) h0 i f f1 f2 ((hf.mono B1).mono hW) hfr hM _ _ _ ((x2.step hW).cell 0) ((x1.step hW).cell 0) (x3.step hW) lo hi' d hcls (by omega) (Nat.le_trans (name_small o5) (by decide))))
  rw [caughtM_any]
  have HB1 := Lib.hid B1
  clear B1 Ba Bb x1 x2 x3 hf hm h hfr hM hhv
  go_enter Tryz.func112, Tryz.ntmps112
  go_wp2_with (go_at_call 153; (with_reducible refine (HAny.out).mono ?_); rintro e w5 ⟨rfl, hB5⟩)
  go_ret
  exact ⟨rfl, below_call HB1.out (Nat.le_refl _) hB5⟩
end Go.Proofs.YtlmfmioljeppfaaGreatDoor
