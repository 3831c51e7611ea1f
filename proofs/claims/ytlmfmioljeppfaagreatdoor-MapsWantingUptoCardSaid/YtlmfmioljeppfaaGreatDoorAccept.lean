/-
  WALK over maps' walker: how it lies, and (*walker).meets. Conditions: a world that was read, right frames.
  WALK over (*walker).caught. Conditions: a world that was read, right frames.
  WALK over (*walker).walk. Conditions: a world that was read, a right method, right maps. DRAFT.
  WALK over maps.Accept. Conditions: as in XRead; the maps' texts are short.
-/
import Derived.Test.YtlmfmioljeppfaaGreatDoorLooker
import Derived.Test.YtlmfmioljeppfaaGreatDoorLeastLaw
import Derived.Test.YtlmfmioljeppfaaGreatDoorLook
import Derived.Test.YtlmfmioljeppfaaGreatDoorClassMethod
import Derived.Test.YtlmfmioljeppfaaGreatDoorLooked
import Derived.Test.YtlmfmioljeppfaaGreatDoorAcceptLaw
import Derived.Test.YtlmfmioljeppfaaGreatDoorNamed
namespace Go.Proofs.YtlmfmioljeppfaaGreatDoor
open Go.RowKit Go.Shelf Go.Lib
structure WK (w : World) (kb mb : Nat) (hs : List Value) (M : Asg Frm) : Prop where
  box : Blk w kb 123 (hs ++ [.map (some mb)])
  len : hs.length = 9
  map : FMap (FrameAt w) w mb M
theorem WK.step {w w' : World} {kb mb : Nat} {hs : List Value} {M : Asg Frm} (h : WK w kb mb hs M) (hb : Below w.heap.size w w') : WK w' kb mb hs M :=
  ⟨h.box.step hb, h.len, h.map.keep (hb.block mb h.map.lt) fun _ _ _ k => k.mono hb⟩
theorem WK.cell9 {w : World} {kb mb : Nat} {hs : List Value} {M : Asg Frm} (h : WK w kb mb hs M) : w.cell? ⟨kb, 9, none⟩ = some (.map (some mb)) := by
  rw [h.box.cell 9, List.getElem?_append_right (by rw [h.len]; omega), h.len]; rfl
theorem WK.cellh {w : World} {kb mb : Nat} {hs : List Value} {M : Asg Frm} (h : WK w kb mb hs M) {i : Nat} {v : Value} (hi : hs[i]? = some v) : w.cell? ⟨kb, i, none⟩ = some v := by
  rw [h.box.cell i, List.getElem?_append_left (List.getElem?_eq_some_iff.1 hi).1, hi]
def MeetS (wx : World) (kb B fb : Nat) (u v y z : Value) : Prop := wx.cell? ⟨kb, 0, none⟩ = some (.map (some B)) ∧ wx.cell? ⟨fb, 0, none⟩ = some u ∧ wx.cell? ⟨fb, 1, none⟩ = some v ∧ wx.cell? ⟨fb + 1, 0, none⟩ = some y ∧ wx.cell? ⟨fb + 1, 1, none⟩ = some z
theorem MeetS.step {w w' : World} {kb B fb : Nat} {u v y z : Value} (h : MeetS w kb B fb u v y z) (hb : Below w.heap.size w w') : MeetS w' kb B fb u v y z := by
  obtain ⟨k0, k1, k2, k3, k4⟩ := h
  exact ⟨(hb.cell (cell_lt k0)).trans k0, (hb.cell (cell_lt k1)).trans k1, (hb.cell (cell_lt k2)).trans k2, (hb.cell (cell_lt k3)).trans k3, (hb.cell (cell_lt k4)).trans k4⟩
theorem MeetS.other {w : World} {kb B fb : Nat} {u v y z : Value} (h : MeetS w kb B fb u v y z) {c : Nat} (n1 : kb < c) (n2 : fb + 1 < c) (p q : Value) : MeetS ((w.setCell ⟨c, 0, none⟩ p).setCell ⟨c, 1, none⟩ q) kb B fb u v y z := by
  obtain ⟨k0, k1, k2, k3, k4⟩ := h
  have m1 := Nat.ne_of_lt n1
  have m2 : fb ≠ c := by omega
  have m3 := Nat.ne_of_lt n2
  exact ⟨(cell2_other (a := ⟨kb, _, none⟩) m1 _ _).trans k0, (cell2_other (a := ⟨fb, _, none⟩) m2 _ _).trans k1, (cell2_other (a := ⟨fb, _, none⟩) m2 _ _).trans k2, (cell2_other (a := ⟨fb + 1, _, none⟩) m3 _ _).trans k3, (cell2_other (a := ⟨fb + 1, _, none⟩) m3 _ _).trans k4⟩
set_option maxHeartbeats 4000000 in
set_option maxRecDepth 100000 in
theorem walkMeets_any (l : List Class) (B : Nat) (ws w : World) (hm : WorldMap ws w B l) (kb mb : Nat) (hs : List Value) (M : Asg Frm) (h : WK w kb mb hs M) (h0 : hs[0]? = some (.map (some B)))
    (i : Nat) (hi : i ≤ 64) (f : Frm) (f1 f2 : Value) (hf : FrameAt w f1 f2 f) (hfr : frameR (allC l) f = 0) (hM : ∀ i g, M i = some g → frameR (allC l) g = 0) :
    Calls Tryz.prog 111 #[.pointer (some ⟨kb, 0, none⟩), .int .i64 (i : Int), .agg #[f1, f2]] w fun e w' => e = .returned (.bool (meetsM (allC l) M i f)) ∧ Below w.heap.size w w' := by
  have HA : Hid (∀ (wx : World) (o : Obj), Below wx.heap.size wx (wx.alloc o)) := fun wx o => (Below.refl _ _).alloc (Nat.le_refl _) o
  obtain ⟨⟨q1, m1, rfl, _⟩, ⟨q2, m2, rfl, _⟩⟩ := And.intro hf.1.open hf.2.open
  have HK1 := Lib.hid (h.step (HA.out w (.cells #[.slice q1 f.locals.length m1, .slice q2 f.stack.length m2] 27)))
  have k1 := Blk.new w 27 [.slice q1 f.locals.length m1, .slice q2 f.stack.length m2]
  have c9 := HK1.out.cell9
  obtain ⟨lv, sv, hlv, hlk⟩ := HK1.out.map.look hi
  have L1 := hlk (w.alloc (.cells #[.slice q1 f.locals.length m1, .slice q2 f.stack.length m2] 27)) true rfl
  rw [intV] at L1
  unfold meetsM
  clear hlk
  cases hMi : M i with
  | none =>
    rw [hMi] at L1 hlv
    dsimp only at hlv ⊢
    obtain ⟨rfl, rfl⟩ := hlv
    have HB := Lib.hid (((HA.out w (.cells #[.slice q1 f.locals.length m1, .slice q2 f.stack.length m2] 27)).alloc (by simp) (.cells #[.slice none 0 0, .slice none 0 0] 27)))
    go_enter Tryz.func111, Tryz.ntmps111
    go_wp2_with (first | fail)
    go_ret
    exact ⟨rfl, HB.out⟩
  | some g =>
    rw [hMi] at L1 hlv
    dsimp only at hlv ⊢
    have hgr := hM i g hMi
    obtain ⟨⟨p1, n1, rfl, _⟩, ⟨p2, n2, rfl, _⟩⟩ := And.intro hlv.1.open hlv.2.open
    have k2' := Blk.new (w.alloc (.cells #[.slice q1 f.locals.length m1, .slice q2 f.stack.length m2] 27)) 27 [.slice p1 g.locals.length n1, .slice p2 g.stack.length n2]
    have Bz := HA.out (w.alloc (.cells #[.slice q1 f.locals.length m1, .slice q2 f.stack.length m2] 27)) (.cells #[.slice p1 g.locals.length n1, .slice p2 g.stack.length n2] 27)
    have K2 := HK1.out.step Bz
    have k2 := k1.step Bz
    have hf2 := (hf.mono (HA.out w (.cells #[.slice q1 f.locals.length m1, .slice q2 f.stack.length m2] 27))).mono Bz
    have hv2 := hlv.mono Bz
    have B2 : Below w.heap.size w ((w.alloc (.cells #[.slice q1 f.locals.length m1, .slice q2 f.stack.length m2] 27)).alloc (.cells #[.slice p1 g.locals.length n1, .slice p2 g.stack.length n2] 27)) := ((Below.refl _ _).alloc (Nat.le_refl _) _).alloc (by simp) _
    obtain ⟨w2, hw2⟩ : ∃ w2, w2 = (w.alloc (.cells #[.slice q1 f.locals.length m1, .slice q2 f.stack.length m2] 27)).alloc (.cells #[.slice p1 g.locals.length n1, .slice p2 g.stack.length n2] 27) := ⟨_, rfl⟩
    rw [← hw2] at K2 k2 hf2 hv2 k2' B2
    rw [World.size_alloc] at k2'
    have HW2 := Lib.hid hw2.symm
    clear hw2 Bz
    have HS : Hid (∀ wx, Below w2.heap.size w2 wx → MeetS wx kb B w.heap.size (.slice q1 f.locals.length m1) (.slice q2 f.stack.length m2) (.slice p1 g.locals.length n1) (.slice p2 g.stack.length n2)) := fun wx hb => MeetS.step ⟨K2.cellh h0, k2.cell 0, k2.cell 1, k2'.cell 0, k2'.cell 1⟩ hb
    have HLt : Hid (kb < w2.heap.size ∧ w.heap.size + 1 < w2.heap.size) := ⟨K2.box.lt, k2'.lt⟩
    have hm2 := hm.step B2
    have HBo : Hid (∀ wx, Below w2.heap.size w2 wx → Calls Tryz.prog 64 #[.map (some B), .agg #[.slice q1 f.locals.length m1, .slice q2 f.stack.length m2], .agg #[.slice p1 g.locals.length n1, .slice p2 g.stack.length n2]] wx fun e w' => BothPost wx (allC l) f g e w' ∧ MeetS w' kb B w.heap.size (.slice q1 f.locals.length m1) (.slice q2 f.stack.length m2) (.slice p1 g.locals.length n1) (.slice p2 g.stack.length n2)) := fun wx hb =>
      (both_any ws wx B l (hm2.step hb) f g _ _ _ _ (hf2.mono hb) (hv2.mono hb) (frm_short hfr) (frm_short hgr) hfr hgr).mono fun e w' hP => ⟨hP, HS.out w' (below_call hb (Nat.le_refl _) hP.1)⟩
    have Hk2' := Lib.hid k2'
    have Hv2 := Lib.hid hv2
    have HB2 := Lib.hid B2
    obtain ⟨s0, s1, s2, s3, s4⟩ := HS.out w2 (Below.refl _ _)
    unfold BothPost at HBo
    clear hf hlv hf2 hv2 B2 K2 k2 k2' h hfr hgr HK1 k1 hm hm2 hM hMi
    go_enter Tryz.func111, Tryz.ntmps111
    go_upto_region 4 with (first | fail)
    rw [HW2.out]
    clear L1 c9
    cases hsh : shapedB f g with
    | true =>
      have HSh := Lib.hid hsh
      clear hsh
      go_cut [9, 10] (fun p b wx => b = .bool true ∧ GotAt w2 wx (bothF (allC l) f g) p)
      case first =>
        go_region_held3 (fun w' => w'.cell? ⟨kb, 0, none⟩ = some (.map (some B)) ∧ w'.cell? ⟨w.heap.size, 0, none⟩ = some (.slice q1 f.locals.length m1) ∧ w'.cell? ⟨w.heap.size, 1, none⟩ = some (.slice q2 f.stack.length m2) ∧ w'.cell? ⟨w.heap.size + 1, 0, none⟩ = some (.slice p1 g.locals.length n1) ∧ w'.cell? ⟨w.heap.size + 1, 1, none⟩ = some (.slice p2 g.stack.length n2))
          (first | go_keep | exact MeetS.other ⟨s0, s1, s2, s3, s4⟩ HLt.out.1 HLt.out.2 _ _)
          (first
            | (go_at_call 64; (with_reducible refine (HBo.out _ ?_).mono ?_); (first | exact (Below.refl _ _).drew | exact ((Below.refl _ _).alloc (Nat.le_refl _) _).drew); rintro e w3 ⟨⟨hB3, ⟨_, v1, v2, rfl, hv3⟩ | ⟨hz, _⟩⟩, s0, s1, s2, s3, s4⟩; rotate_left; (exact absurd (HSh.out.symm.trans hz) (by decide)); obtain ⟨⟨p3, n3, rfl, _⟩, ⟨p4, n4, rfl, _⟩⟩ := And.intro hv3.1.open hv3.2.open; (first | (have KB : Blk w3 w2.heap.size 27 [.slice none 0 0, .slice none 0 0] := Blk.step (w := (w2.alloc (.cells #[.slice none 0 0, .slice none 0 0] 27)).drew) (Blk.new w2 27 [.slice none 0 0, .slice none 0 0]) hB3; obtain ⟨x0, x1⟩ := KB.cells2; (have f0 := KB.frozen 0); (have f1 := KB.frozen 1)) | skip)))
        all_goals (go_wp2_with (first | fail); go_meet; first
          | exact ⟨rfl, GotAt.late (below_call ((Below.refl _ _).drew) (Nat.le_refl _) hB3) hv3⟩
          | exact ⟨rfl, GotAt.early (below_call ((Below.refl _ _).drew) (Nat.le_refl _) hB3) hv3⟩)
      case rest =>
        obtain ⟨rfl, nb, v1, v2, rfl, hnb, Kb, hBw, hFv⟩ := hcut
        have HSm : Hid (Calls _ _ _ wc _) := frameSame_any (bothF (allC l) f g) g v1 v2 _ _ wc hFv (Hv2.out.mono hBw)
        have g0 := Kb.cell 0
        have g1 := Kb.cell 1
        have b0 := (Hk2'.out.step hBw).cell 0
        have b1 := (Hk2'.out.step hBw).cell 1
        have HBw := Lib.hid hBw
        clear s0 s1 s2 s3 s4 Kb hFv hBw hnb HBo
        go_wp2_with (go_at_call 67; (with_reducible refine (HSm.out).mono ?_); rintro e w5 ⟨rfl, hB5⟩)
        go_ret
        exact ⟨by rw [HSh.out]; rfl, below_call HB2.out (Nat.le_refl _) (below_call HBw.out (Nat.le_refl _) hB5)⟩
    | false =>
      have HSh := Lib.hid hsh
      clear hsh
      go_cut [9, 10] (fun _ b wx => b = .bool false ∧ Below w2.heap.size w2 wx)
      case first =>
        go_region_held3 (fun w' => w'.cell? ⟨kb, 0, none⟩ = some (.map (some B)) ∧ w'.cell? ⟨w.heap.size, 0, none⟩ = some (.slice q1 f.locals.length m1) ∧ w'.cell? ⟨w.heap.size, 1, none⟩ = some (.slice q2 f.stack.length m2) ∧ w'.cell? ⟨w.heap.size + 1, 0, none⟩ = some (.slice p1 g.locals.length n1) ∧ w'.cell? ⟨w.heap.size + 1, 1, none⟩ = some (.slice p2 g.stack.length n2))
          (first | go_keep | exact MeetS.other ⟨s0, s1, s2, s3, s4⟩ HLt.out.1 HLt.out.2 _ _)
          (first
            | (go_at_call 64; (with_reducible refine (HBo.out _ ?_).mono ?_); (first | exact (Below.refl _ _).drew | exact ((Below.refl _ _).alloc (Nat.le_refl _) _).drew); rintro e w3 ⟨⟨hB3, ⟨hz, _⟩ | ⟨_, rfl⟩⟩, s0, s1, s2, s3, s4⟩; (exact absurd (HSh.out.symm.trans hz) (by decide)); (first | (have KB : Blk w3 w2.heap.size 27 [.slice none 0 0, .slice none 0 0] := Blk.step (w := (w2.alloc (.cells #[.slice none 0 0, .slice none 0 0] 27)).drew) (Blk.new w2 27 [.slice none 0 0, .slice none 0 0]) hB3; obtain ⟨x0, x1⟩ := KB.cells2; (have f0 := KB.frozen 0); (have f1 := KB.frozen 1)) | skip)))
        all_goals (go_wp2_with (first | fail); go_meet; first
          | exact ⟨rfl, (below_call ((Below.refl _ _).drew) (Nat.le_refl _) hB3).alloc hB3.size _⟩
          | exact ⟨rfl, ((below_call (w := w2) (((Below.refl _ _).alloc (Nat.le_refl _) _).drew) (Nat.le_refl _) hB3).setCell (Nat.le_refl _) _).setCell (Nat.le_refl _) _⟩)
      case rest =>
        obtain ⟨rfl, hB⟩ := hcut
        clear s0 s1 s2 s3 s4 HBo
        go_wp2_with (first | fail)
        go_ret
        exact ⟨by rw [HSh.out]; rfl, below_call HB2.out (Nat.le_refl _) hB⟩
end Go.Proofs.YtlmfmioljeppfaaGreatDoor
namespace Go.Proofs.YtlmfmioljeppfaaGreatDoor
open Go.RowKit Go.Shelf Go.Lib
set_option maxHeartbeats 1000000 in
theorem idxFunc_handler {α : Type} (R : α → List Value → Prop) (f : α → Bool) (g : Nat) (lb : Array Value) (eg : ∀ args w, (callFunc g args).run Tryz.prog w = .ok (.enter g args) w) (l : List α) (v : Value) (w : World) (h : SliceOf w 4 R v l)
    (hp : ∀ W x a0 a1 a2 a3, x ∈ l → R x [a0, a1, a2, a3] → Below w.heap.size w W → Calls Tryz.prog g (#[.agg #[a0, a1, a2, a3]] ++ lb) W fun e w' => e = .returned (.bool (f x)) ∧ Below W.heap.size W w') :
    Calls Tryz.prog 191 #[v, .func (.func g) #[] lb] w fun e w' => e = .returned (.int .i64 (idxR f l)) ∧ Below w.heap.size w w' := by
  obtain ⟨p, cap, rfl, h1, h2, hcc⟩ := h.open
  have HC := Lib.hid hcc; clear hcc h
  have HP := Lib.hid hp; clear hp
  have hlen : l.length ≤ 9223372036854775807 := Nat.le_trans h1 h2
  go_enter Tryz.func191, Tryz.ntmps191
  go_wp2_with (first | fail)
  go_loopw [5, 8] (fun _ x wr => ∃ k, k ≤ l.length ∧ Hid (∀ j y, j < k → l[j]? = some y → f y = false) ∧ Below w.heap.size w wr ∧ x = .int .i64 k) (fun _ x _ => l.length - (intOf x).toNat)
  case atStart => exact ⟨0, by omega, fun j y h => by omega, Below.refl _ _, rfl⟩
  case round =>
    obtain ⟨k, hk, hff, hB, rfl⟩ := hrel
    by_cases hkl : k < l.length
    · obtain ⟨x, hx⟩ : ∃ x, l[k]? = some x := ⟨l[k], by simp [hkl]⟩
      obtain ⟨b, o, vs, rfl, hR, hvl, hcells⟩ := HC.out k x hx
      have hcells := hcells.mono hB (by match vs, hvl with | _ :: _, _ => exact hcells.lt)
      match vs, hvl with
      | [a0, a1, a2, a3], _ =>
      have hcall := HP.out wr x a0 a1 a2 a3 (List.mem_of_getElem? hx) hR hB
      have HX := Lib.hid hx; clear hx hR
      obtain ⟨c0, c1, c2, c3, _⟩ := hcells
      cases hq : f x with
      | true =>
        rw [hq] at hcall
        have HQ := Lib.hid hq
        clear hq HP HC
        go_wp2_with (go_at_fn g; refine hcall.mono ?_; rintro e w' ⟨rfl, hb'⟩)
        go_ret
        exact ⟨by rw [idxR_hit HX.out HQ.out hff.out]; rfl, below_call hB (Nat.le_refl _) hb'⟩
      | false =>
        rw [hq] at hcall
        have HQ := Lib.hid hq
        clear hq HP HC
        go_wp2_with (go_at_fn g; refine hcall.mono ?_; rintro e w' ⟨rfl, hb'⟩)
        refine ⟨⟨k + 1, by omega, fun j y hj hy => ?_, below_call hB (Nat.le_refl _) hb', by simp⟩, by simp [intOf]; omega⟩
        by_cases e : j = k
        · subst e; have := HX.out; rw [hy] at this; injection this with this; rw [this]; exact HQ.out
        · exact hff.out j y (by omega) hy
    · obtain rfl : k = l.length := by omega
      go_wp2_with (first | fail)
      go_ret
      exact ⟨by rw [idxR_miss hff.out]; rfl, hB⟩
set_option maxHeartbeats 1000000 in
theorem anyFunc_handler {α : Type} (R : α → List Value → Prop) (f : α → Bool) (g : Nat) (lb : Array Value) (eg : ∀ args w, (callFunc g args).run Tryz.prog w = .ok (.enter g args) w) (l : List α) (v : Value) (w : World) (h : SliceOf w 4 R v l)
    (hp : ∀ W x a0 a1 a2 a3, x ∈ l → R x [a0, a1, a2, a3] → Below w.heap.size w W → Calls Tryz.prog g (#[.agg #[a0, a1, a2, a3]] ++ lb) W fun e w' => e = .returned (.bool (f x)) ∧ Below W.heap.size W w') :
    Calls Tryz.prog 153 #[v, .func (.func g) #[] lb] w fun e w' => e = .returned (.bool (l.any f)) ∧ Below w.heap.size w w' := by
  rw [← idxR_any]
  have HI := Lib.hid (idxFunc_handler R f g lb eg l v w h hp)
  obtain ⟨p, cap, rfl, h1, h2, _⟩ := h.open
  clear hp h
  generalize idxR f l = r at *
  go_enter Tryz.func153, Tryz.ntmps153
  go_wp2_with (go_at_call 191; refine HI.out.mono ?_; rintro e w' ⟨rfl, hb'⟩)
  go_ret
  exact ⟨rfl, hb'⟩
def unfitH (cs : List Class) (M : Asg Frm) (i : Nat) (f : Frm) (h : Handler) : Bool := (decide (h.lo ≤ (i : Int)) && decide ((i : Int) < h.hi)) && !(faultB cs h.cls && meetsM cs M h.dest.toNat ⟨f.locals, [thText h.cls]⟩)
theorem caughtM_any (cs : List Class) (M : Asg Frm) (i : Nat) (f : Frm) : ∀ hs : List Handler, caughtM cs M i f hs = !hs.any (unfitH cs M i f)
  | [] => rfl
  | h :: r => by
    unfold caughtM
    rw [List.any_cons, Bool.not_or, ← caughtM_any cs M i f r]
    unfold unfitH
    by_cases hc : h.lo ≤ (i : Int) ∧ (i : Int) < h.hi
    · rw [if_pos hc, decide_eq_true hc.1, decide_eq_true hc.2]
      simp
    · rw [if_neg hc]
      have : (decide (h.lo ≤ (i : Int)) && decide ((i : Int) < h.hi)) = false := by
        rw [Bool.and_eq_false_iff, decide_eq_false_iff_not, decide_eq_false_iff_not]
        by_cases h1 : h.lo ≤ (i : Int)
        · exact Or.inr fun h2 => hc ⟨h1, h2⟩
        · exact Or.inl h1
      rw [this]; simp
def HandS (wx : World) (qb kb B hb fb d : Nat) (lo hi' : Int) (hcls : Str) (u v : Value) : Prop := wx.cell? ⟨qb, 0, none⟩ = some (.pointer (some ⟨kb, 0, none⟩)) ∧ wx.cell? ⟨kb, 0, none⟩ = some (.map (some B)) ∧ wx.cell? ⟨hb, 0, none⟩ = some (.int .i64 lo) ∧ wx.cell? ⟨hb, 1, none⟩ = some (.int .i64 hi') ∧ wx.cell? ⟨hb, 2, none⟩ = some (.int .i64 (d : Int)) ∧ wx.cell? ⟨hb, 3, none⟩ = some (.string hcls) ∧ wx.cell? ⟨fb, 0, none⟩ = some u ∧ wx.cell? ⟨fb, 1, none⟩ = some v
theorem HandS.step {w w' : World} {qb kb B hb fb d : Nat} {lo hi' : Int} {hcls : Str} {u v : Value} (h : HandS w qb kb B hb fb d lo hi' hcls u v) (hb' : Below w.heap.size w w') : HandS w' qb kb B hb fb d lo hi' hcls u v := by
  obtain ⟨k0, k1, k2, k3, k4, k5, k6, k7⟩ := h
  exact ⟨(hb'.cell (cell_lt k0)).trans k0, (hb'.cell (cell_lt k1)).trans k1, (hb'.cell (cell_lt k2)).trans k2, (hb'.cell (cell_lt k3)).trans k3, (hb'.cell (cell_lt k4)).trans k4, (hb'.cell (cell_lt k5)).trans k5, (hb'.cell (cell_lt k6)).trans k6, (hb'.cell (cell_lt k7)).trans k7⟩
theorem HandS.other {w : World} {qb kb B hb fb d : Nat} {lo hi' : Int} {hcls : Str} {u v : Value} (h : HandS w qb kb B hb fb d lo hi' hcls u v) {c : Nat} (n0 : qb < c) (n1 : kb < c) (n2 : hb < c) (n3 : fb < c) (p q : Value) : HandS ((w.setCell ⟨c, 0, none⟩ p).setCell ⟨c, 1, none⟩ q) qb kb B hb fb d lo hi' hcls u v := by
  obtain ⟨k0, k1, k2, k3, k4, k5, k6, k7⟩ := h
  have m0 := Nat.ne_of_lt n0
  have m1 := Nat.ne_of_lt n1
  have m2 := Nat.ne_of_lt n2
  have m3 := Nat.ne_of_lt n3
  exact ⟨(cell2_other (a := ⟨qb, _, none⟩) m0 _ _).trans k0, (cell2_other (a := ⟨kb, _, none⟩) m1 _ _).trans k1, (cell2_other (a := ⟨hb, _, none⟩) m2 _ _).trans k2, (cell2_other (a := ⟨hb, _, none⟩) m2 _ _).trans k3, (cell2_other (a := ⟨hb, _, none⟩) m2 _ _).trans k4, (cell2_other (a := ⟨hb, _, none⟩) m2 _ _).trans k5, (cell2_other (a := ⟨fb, _, none⟩) m3 _ _).trans k6, (cell2_other (a := ⟨fb, _, none⟩) m3 _ _).trans k7⟩
set_option maxHeartbeats 4000000 in
set_option maxRecDepth 100000 in
theorem caughtFn_any (l : List Class) (B : Nat) (ws w : World) (hm : WorldMap ws w B l) (kb mb : Nat) (hs : List Value) (M : Asg Frm) (h : WK w kb mb hs M) (h0 : hs[0]? = some (.map (some B)))
    (i : Nat) (f : Frm) (f1 f2 : Value) (hf : FrameAt w f1 f2 f) (hfr : frameR (allC l) f = 0) (hM : ∀ i g, M i = some g → frameR (allC l) g = 0) (pb qb fb : Nat) (hpb : w.cell? ⟨pb, 0, none⟩ = some (.int .i64 (i : Int))) (hqb : w.cell? ⟨qb, 0, none⟩ = some (.pointer (some ⟨kb, 0, none⟩))) (hfb : Blk w fb 27 [f1, f2])
    (lo hi' : Int) (d : Nat) (hcls : Str) (hd : d ≤ 64) (hcl : hcls.size ≤ 1048576) :
    Calls Tryz.prog 154 #[.agg #[.int .i64 lo, .int .i64 hi', .int .i64 (d : Int), .string hcls], .pointer (some ⟨pb, 0, none⟩), .pointer (some ⟨qb, 0, none⟩), .pointer (some ⟨fb, 0, none⟩)] w fun e w' => e = .returned (.bool (unfitH (allC l) M i f ⟨lo, hi', (d : Int), hcls⟩)) ∧ Below w.heap.size w w' := by
  have HA : Hid (∀ (wx : World) (o : Obj), Below wx.heap.size wx (wx.alloc o)) := fun wx o => (Below.refl _ _).alloc (Nat.le_refl _) o
  obtain ⟨⟨q1, m1, rfl, _⟩, ⟨q2, m2, rfl, _⟩⟩ := And.intro hf.1.open hf.2.open
  unfold unfitH
  dsimp only
  rw [Int.toNat_natCast]
  by_cases hrg : lo ≤ (i : Int) ∧ (i : Int) < hi'
  · obtain ⟨i1, i2⟩ := hrg
    rw [decide_eq_true i1, decide_eq_true i2, Bool.and_self, Bool.true_and]
    have B2 := HA.out w (.cells #[.int .i64 lo, .int .i64 hi', .int .i64 (d : Int), .string hcls] 126)
    have hb2 := Blk.new w 126 [.int .i64 lo, .int .i64 hi', .int .i64 (d : Int), .string hcls]
    have p2 : (w.alloc (.cells #[.int .i64 lo, .int .i64 hi', .int .i64 (d : Int), .string hcls] 126)).cell? ⟨pb, 0, none⟩ = some (.int .i64 (i : Int)) := (B2.cell (cell_lt hpb)).trans hpb
    obtain ⟨w2, hw2⟩ : ∃ w2, w2 = w.alloc (.cells #[.int .i64 lo, .int .i64 hi', .int .i64 (d : Int), .string hcls] 126) := ⟨_, rfl⟩
    rw [← hw2] at B2 hb2
    have HW2 := Lib.hid hw2.symm
    clear hw2
    have HK2 := Lib.hid (h.step B2)
    have Hf2 := Lib.hid (hf.mono B2)
    have HS : Hid (∀ wx, Below w2.heap.size w2 wx → HandS wx qb kb B w.heap.size fb d lo hi' hcls (.slice q1 f.locals.length m1) (.slice q2 f.stack.length m2)) := fun wx hb => HandS.step ⟨(B2.cell (cell_lt hqb)).trans hqb, HK2.out.cellh h0, hb2.cell 0, hb2.cell 1, hb2.cell 2, hb2.cell 3, (hfb.step B2).cell 0, (hfb.step B2).cell 1⟩ hb
    have HLt : Hid (qb < w2.heap.size ∧ kb < w2.heap.size ∧ w.heap.size < w2.heap.size ∧ fb < w2.heap.size) := ⟨Nat.lt_of_lt_of_le (cell_lt hqb) B2.size, HK2.out.box.lt, hb2.lt, (hfb.step B2).lt⟩
    have Hm2 := Lib.hid (hm.step B2)
    have HCa : Hid (∀ wx, Below w2.heap.size w2 wx → Calls Tryz.prog 149 #[.map (some B), .agg #[.int .i64 lo, .int .i64 hi', .int .i64 (d : Int), .string hcls], .agg #[.slice q1 f.locals.length m1, .slice q2 f.stack.length m2]] wx fun e w' => CaughtPost wx (faultB (allC l) hcls) hcls (.slice q1 f.locals.length m1) e w' ∧ HandS w' qb kb B w.heap.size fb d lo hi' hcls (.slice q1 f.locals.length m1) (.slice q2 f.stack.length m2)) := fun wx hb =>
      (caughtF_any ws wx B l (Hm2.out.step hb) lo hi' (d : Int) hcls (.slice q1 f.locals.length m1) (.slice q2 f.stack.length m2) ⟨_, _, _, rfl⟩ hcl).mono fun e w' hP => ⟨hP, HS.out w' (below_call hb (Nat.le_refl _) hP.1)⟩
    have HB2 := Lib.hid B2
    have Hfr := Lib.hid hfr
    have HM := Lib.hid hM
    obtain ⟨k0, k1, k2, k3, k4, k5, k6, k7⟩ := HS.out w2 (Below.refl _ _)
    unfold CaughtPost at HCa
    clear h hf hm hfr hM hfb B2 hb2
    go_enter Tryz.func154, Tryz.ntmps154
    cases hfb : faultB (allC l) hcls with
    | true =>
      rw [hfb] at HCa
      rw [Bool.true_and]
      have HFb := Lib.hid hfb
      clear hfb
      go_upto_region 3 with (first | fail)
      rw [HW2.out]
      clear hpb hqb p2
      go_cut [6, 7] (fun p b wx => b = .bool true ∧ GotAt w2 wx ⟨f.locals, [thText hcls]⟩ p)
      case first =>
        go_region_held3 (fun w' => w'.cell? ⟨qb, 0, none⟩ = some (.pointer (some ⟨kb, 0, none⟩)) ∧ w'.cell? ⟨kb, 0, none⟩ = some (.map (some B)) ∧ w'.cell? ⟨w.heap.size, 0, none⟩ = some (.int .i64 lo) ∧ w'.cell? ⟨w.heap.size, 1, none⟩ = some (.int .i64 hi') ∧ w'.cell? ⟨w.heap.size, 2, none⟩ = some (.int .i64 (d : Int)) ∧ w'.cell? ⟨w.heap.size, 3, none⟩ = some (.string hcls) ∧ w'.cell? ⟨fb, 0, none⟩ = some (.slice q1 f.locals.length m1) ∧ w'.cell? ⟨fb, 1, none⟩ = some (.slice q2 f.stack.length m2))
          (first | go_keep | exact HandS.other ⟨k0, k1, k2, k3, k4, k5, k6, k7⟩ HLt.out.1 HLt.out.2.1 HLt.out.2.2.1 HLt.out.2.2.2 _ _)
          (first
            | (go_at_call 149; (with_reducible refine (HCa.out _ ?_).mono ?_); (first | exact (Below.refl _ _).drew | exact ((Below.refl _ _).alloc (Nat.le_refl _) _).drew); rintro e w3 ⟨⟨hB3, ⟨_, p4, n4, c4, rfl, hs4, _⟩ | ⟨hz, _⟩⟩, k0, k1, k2, k3, k4, k5, k6, k7⟩; rotate_left; (exact absurd hz (by decide)); (first | (have KB : Blk w3 w2.heap.size 27 [.slice none 0 0, .slice none 0 0] := Blk.step (w := (w2.alloc (.cells #[.slice none 0 0, .slice none 0 0] 27)).drew) (Blk.new w2 27 [.slice none 0 0, .slice none 0 0]) hB3; obtain ⟨x0, x1⟩ := KB.cells2; (have g0 := KB.frozen 0); (have g1 := KB.frozen 1)) | skip)))
        all_goals (go_wp2_with (first | fail); go_meet; first
          | exact ⟨rfl, GotAt.late (below_call ((Below.refl _ _).drew) (Nat.le_refl _) hB3) ⟨(Hf2.out.mono (below_call ((Below.refl _ _).drew) (Nat.le_refl _) hB3)).1, hs4⟩⟩
          | exact ⟨rfl, GotAt.early (below_call ((Below.refl _ _).drew) (Nat.le_refl _) hB3) ⟨(Hf2.out.mono (below_call (((Below.refl _ _).alloc (Nat.le_refl _) _).drew) (Nat.le_refl _) hB3)).1, hs4⟩⟩)
      case rest =>
        obtain ⟨rfl, nb, v1, v2, rfl, hnb, Kb, hBw, hFv⟩ := hcut
        have hfr2 := fault_frame Hfr.out HFb.out
        have HMt := Lib.hid (walkMeets_any l B ws wc (Hm2.out.step hBw) kb mb hs M (HK2.out.step hBw) h0 d hd ⟨f.locals, [thText hcls]⟩ v1 v2 hFv hfr2 HM.out)
        obtain ⟨t0, t1, t2, t3, t4, t5, t6, t7⟩ := HS.out wc hBw
        have g0 := Kb.cell 0
        have g1 := Kb.cell 1
        have HBw := Lib.hid hBw
        clear k0 k1 k2 k3 k4 k5 k6 k7 Kb hFv hBw hnb hfr2 HCa
        go_wp2_with (go_at_call 111; (with_reducible refine (HMt.out).mono ?_); rintro e w5 ⟨rfl, hB5⟩)
        go_ret
        exact ⟨rfl, below_call HB2.out (Nat.le_refl _) (below_call HBw.out (Nat.le_refl _) hB5)⟩
    | false =>
      rw [hfb] at HCa
      rw [Bool.false_and]
      clear hfb
      go_upto_region 3 with (first | fail)
      rw [HW2.out]
      clear hpb hqb p2
      go_cut [6, 7] (fun _ b wx => b = .bool false ∧ Below w2.heap.size w2 wx)
      case first =>
        go_region_held3 (fun w' => w'.cell? ⟨qb, 0, none⟩ = some (.pointer (some ⟨kb, 0, none⟩)) ∧ w'.cell? ⟨kb, 0, none⟩ = some (.map (some B)) ∧ w'.cell? ⟨w.heap.size, 0, none⟩ = some (.int .i64 lo) ∧ w'.cell? ⟨w.heap.size, 1, none⟩ = some (.int .i64 hi') ∧ w'.cell? ⟨w.heap.size, 2, none⟩ = some (.int .i64 (d : Int)) ∧ w'.cell? ⟨w.heap.size, 3, none⟩ = some (.string hcls) ∧ w'.cell? ⟨fb, 0, none⟩ = some (.slice q1 f.locals.length m1) ∧ w'.cell? ⟨fb, 1, none⟩ = some (.slice q2 f.stack.length m2))
          (first | go_keep | exact HandS.other ⟨k0, k1, k2, k3, k4, k5, k6, k7⟩ HLt.out.1 HLt.out.2.1 HLt.out.2.2.1 HLt.out.2.2.2 _ _)
          (first
            | (go_at_call 149; (with_reducible refine (HCa.out _ ?_).mono ?_); (first | exact (Below.refl _ _).drew | exact ((Below.refl _ _).alloc (Nat.le_refl _) _).drew); rintro e w3 ⟨⟨hB3, ⟨hz, _⟩ | ⟨_, rfl⟩⟩, k0, k1, k2, k3, k4, k5, k6, k7⟩; (exact absurd hz (by decide)); (first | (have KB : Blk w3 w2.heap.size 27 [.slice none 0 0, .slice none 0 0] := Blk.step (w := (w2.alloc (.cells #[.slice none 0 0, .slice none 0 0] 27)).drew) (Blk.new w2 27 [.slice none 0 0, .slice none 0 0]) hB3; obtain ⟨x0, x1⟩ := KB.cells2; (have g0 := KB.frozen 0); (have g1 := KB.frozen 1)) | skip)))
        all_goals (go_wp2_with (first | fail); go_meet; first
          | exact ⟨rfl, (below_call ((Below.refl _ _).drew) (Nat.le_refl _) hB3).alloc hB3.size _⟩
          | exact ⟨rfl, ((below_call (w := w2) (((Below.refl _ _).alloc (Nat.le_refl _) _).drew) (Nat.le_refl _) hB3).setCell (Nat.le_refl _) _).setCell (Nat.le_refl _) _⟩)
      case rest =>
        obtain ⟨rfl, hB⟩ := hcut
        clear k0 k1 k2 k3 k4 k5 k6 k7 HCa
        go_wp2_with (first | fail)
        go_ret
        exact ⟨rfl, below_call HB2.out (Nat.le_refl _) hB⟩
  · have hno : (decide (lo ≤ (i : Int)) && decide ((i : Int) < hi')) = false := by
      rw [Bool.and_eq_false_iff, decide_eq_false_iff_not, decide_eq_false_iff_not]
      by_cases h1 : lo ≤ (i : Int)
      · exact Or.inr fun h2 => hrg ⟨h1, h2⟩
      · exact Or.inl h1
    rw [hno, Bool.false_and]
    have HI := Lib.hid hrg
    have HB := Lib.hid (HA.out w (.cells #[.int .i64 lo, .int .i64 hi', .int .i64 (d : Int), .string hcls] 126))
    have p2 : (w.alloc (.cells #[.int .i64 lo, .int .i64 hi', .int .i64 (d : Int), .string hcls] 126)).cell? ⟨pb, 0, none⟩ = some (.int .i64 (i : Int)) := (HB.out.cell (cell_lt hpb)).trans hpb
    clear hno hrg h hf hm hfr hM hfb
    go_enter Tryz.func154, Tryz.ntmps154
    go_wp2_with (first | fail)
    all_goals first | (exfalso; have := HI.out; omega) | skip
    all_goals
      go_ret
      exact ⟨rfl, HB.out⟩
set_option maxHeartbeats 4000000 in
set_option maxRecDepth 100000 in
theorem walkCaught_any (l : List Class) (B : Nat) (ws w : World) (hm : WorldMap ws w B l) (kb mb : Nat) (hs : List Value) (M : Asg Frm) (h : WK w kb mb hs M) (h0 : hs[0]? = some (.map (some B))) (ph : Option Addr) (kh : Nat) (hands : List Handler) (h8 : hs[8]? = some (.slice ph hands.length kh)) (hhv : SliceOf w 4 HandlerCells (.slice ph hands.length kh) hands)
    (n : Nat) (hn : n ≤ 40) (hh : handlersFault hands n = 0) (i : Nat) (f : Frm) (f1 f2 : Value) (hf : FrameAt w f1 f2 f) (hfr : frameR (allC l) f = 0) (hM : ∀ i g, M i = some g → frameR (allC l) g = 0) :
    Calls Tryz.prog 112 #[.pointer (some ⟨kb, 0, none⟩), .int .i64 (i : Int), .agg #[f1, f2]] w fun e w' => e = .returned (.bool (caughtM (allC l) M i f hands)) ∧ Below w.heap.size w w' := by
  have HA : Hid (∀ (wx : World) (o : Obj), Below wx.heap.size wx (wx.alloc o)) := fun wx o => (Below.refl _ _).alloc (Nat.le_refl _) o
  have B1 : Below w.heap.size w (((w.alloc (.cells #[.pointer (some ⟨kb, 0, none⟩)] 121)).alloc (.cells #[.int .i64 (i : Int)] 3)).alloc (.cells #[f1, f2] 27)) := (((Below.refl _ _).alloc (Nat.le_refl _) _).alloc (by simp) _).alloc (by simp; omega) _
  have Ba := HA.out (w.alloc (.cells #[.pointer (some ⟨kb, 0, none⟩)] 121)) (.cells #[.int .i64 (i : Int)] 3)
  have Bb := HA.out ((w.alloc (.cells #[.pointer (some ⟨kb, 0, none⟩)] 121)).alloc (.cells #[.int .i64 (i : Int)] 3)) (.cells #[f1, f2] 27)
  have x1 := ((Blk.new w 121 [.pointer (some ⟨kb, 0, none⟩)]).step Ba).step Bb
  have x2 := (Blk.new (w.alloc (.cells #[.pointer (some ⟨kb, 0, none⟩)] 121)) 3 [.int .i64 (i : Int)]).step Bb
  have x3 := Blk.new ((w.alloc (.cells #[.pointer (some ⟨kb, 0, none⟩)] 121)).alloc (.cells #[.int .i64 (i : Int)] 3)) 27 [f1, f2]
  simp only [World.size_alloc] at x2 x3
  have HK := Lib.hid (h.step B1)
  have c8 := HK.out.cellh h8
  have x0 := x1.cell 0
  have HAny := Lib.hid (anyFunc_handler HandlerCells (unfitH (allC l) M i f) 154 #[.pointer (some ⟨w.heap.size + 1, 0, none⟩), .pointer (some ⟨w.heap.size, 0, none⟩), .pointer (some ⟨w.heap.size + 1 + 1, 0, none⟩)] (enters_of Tryz.func154 (by kernel_rfl) rfl) hands (.slice ph hands.length kh) (((w.alloc (.cells #[.pointer (some ⟨kb, 0, none⟩)] 121)).alloc (.cells #[.int .i64 (i : Int)] 3)).alloc (.cells #[f1, f2] 27)) (hhv.mono B1 (by decide) (fun _ _ h => h))
    (fun W x a0 a1 a2 a3 hx hc hW => by
      unfold HandlerCells at hc
      simp only [List.cons.injEq, and_true] at hc
      obtain ⟨rfl, rfl, rfl, rfl⟩ := hc
      obtain ⟨o1, o2, o3, o4, o5⟩ := (handlersOk_of hh).2 x hx
      obtain ⟨lo, hi', dest, hcls⟩ := x
      dsimp only at o1 o2 o3 o4 o5 ⊢
      obtain ⟨d, rfl⟩ := Int.eq_ofNat_of_zero_le o3
      exact caughtFn_any l B ws W ((hm.step B1).step hW) kb mb hs M (HK.out.step hW) h0 i f f1 f2 ((hf.mono B1).mono hW) hfr hM _ _ _ ((x2.step hW).cell 0) ((x1.step hW).cell 0) (x3.step hW) lo hi' d hcls (by omega) (Nat.le_trans (name_small o5) (by decide))))
  rw [caughtM_any]
  have HB1 := Lib.hid B1
  clear B1 Ba Bb x1 x2 x3 hf hm h hfr hM hhv
  go_enter Tryz.func112, Tryz.ntmps112
  go_wp2_with (go_at_call 153; (with_reducible refine (HAny.out).mono ?_); rintro e w5 ⟨rfl, hB5⟩)
  go_ret
  exact ⟨rfl, below_call HB1.out (Nat.le_refl _) hB5⟩
end Go.Proofs.YtlmfmioljeppfaaGreatDoor
namespace Go.Proofs.YtlmfmioljeppfaaGreatDoor
open Go.RowKit Go.Shelf Go.Lib
theorem WK.other {w : World} {kb mb : Nat} {hs : List Value} {M : Asg Frm} (h : WK w kb mb hs M) {b j : Nat} {t : TypeId} {vals : List Value} {u : Value} (hb : Blk w b t vals) (hu : vals[j]? = some u) (hn : ∀ s, u ≠ .string s) (n1 : kb ≠ b) (n2 : mb ≠ b) (v : Value) : WK (w.setCell ⟨b, j, none⟩ v) kb mb hs M :=
  ⟨(heap_setCell_other _ _ _ _ n1).trans h.box, h.len, h.map.keep (heap_setCell_other _ _ _ _ n2) fun _ _ _ k => k.keepS (KeepS.put hb hu hn v)⟩
theorem walkM_drop {cs : List Class} {cls g : Str} {hs : List Handler} {M : Asg Frm} {code : List Ins} {j : Nat} {x : Ins} (hx : code[j]? = some x) (s : Option Frm) : walkM cs cls g hs M j (code.drop j) s = match enterM cs M j s with
    | none => false
    | some none => walkM cs cls g hs M (j + 1) (code.drop (j + 1)) none
    | some (some f) => match stepM cs cls g hs M j x f with
      | none => false
      | some s' => walkM cs cls g hs M (j + 1) (code.drop (j + 1)) s' := by
  obtain ⟨hj, rfl⟩ := List.getElem?_eq_some_iff.1 hx
  rw [List.drop_eq_getElem_cons hj]; rfl
theorem enterM_none {cs : List Class} {M : Asg Frm} {i : Nat} {s : Option Frm} (h : enterM cs M i s = none) : ∃ f g, s = some f ∧ M i = some g ∧ meetsM cs M i f = false := by
  unfold enterM at h
  cases hM : M i with
  | none => rw [hM] at h; cases h
  | some g =>
    rw [hM] at h
    cases s with
    | none => cases h
    | some f =>
      dsimp only at h
      cases hm : meetsM cs M i f with
      | true => rw [hm] at h; cases h
      | false => exact ⟨f, g, rfl, rfl, hm⟩
def isSlice (v : Value) : Prop := ∃ p n c, v = .slice p n c
structure WalkAt (w0 w : World) (kb mb fb : Nat) (hs : List Value) (M : Asg Frm) (cs : List Class) (s : Option Frm) : Prop where
  below : Below w0.heap.size w0 w
  wk : WK w kb mb hs M
  k0 : kb < w0.heap.size
  m0 : mb < w0.heap.size
  f0 : w0.heap.size ≤ fb
  at' : ∃ v1 v2, Blk w fb 27 [v1, v2] ∧ isSlice v1 ∧ isSlice v2 ∧ ∀ f, s = some f → FrameAt w v1 v2 f ∧ frameR cs f = 0
theorem WalkAt.step {w0 w w' : World} {kb mb fb : Nat} {hs : List Value} {M : Asg Frm} {cs : List Class} {s : Option Frm} (h : WalkAt w0 w kb mb fb hs M cs s) (hb : Below w.heap.size w w') : WalkAt w0 w' kb mb fb hs M cs s := by
  obtain ⟨v1, v2, k1, k2, k3, k4⟩ := h.at'
  exact ⟨below_call h.below (Nat.le_refl _) hb, h.wk.step hb, h.k0, h.m0, h.f0, v1, v2, k1.step hb, k2, k3, fun f e => ⟨(k4 f e).1.mono hb, (k4 f e).2⟩⟩
theorem WalkAt.store {w0 w : World} {kb mb fb : Nat} {hs : List Value} {M : Asg Frm} {cs : List Class} {s s' : Option Frm} (h : WalkAt w0 w kb mb fb hs M cs s) {u1 u2 : Value} (h1 : isSlice u1) (h2 : isSlice u2) (h3 : ∀ f, s' = some f → FrameAt w u1 u2 f ∧ frameR cs f = 0) :
    WalkAt w0 ((w.setCell ⟨fb, 0, none⟩ u1).setCell ⟨fb, 1, none⟩ u2) kb mb fb hs M cs s' := by
  obtain ⟨v1, v2, k1, ⟨p1, n1, c1, rfl⟩, ⟨p2, n2, c2, rfl⟩, _⟩ := h.at'
  obtain ⟨p3, n3, c3, rfl⟩ := h1
  obtain ⟨p4, n4, c4, rfl⟩ := h2
  have e1 : kb ≠ fb := by have := h.k0; have := h.f0; omega
  have e2 : mb ≠ fb := by have := h.m0; have := h.f0; omega
  have b1 := Blk.put (w := w) k1 0 (.slice p3 n3 c3)
  have b2 := Blk.put b1 1 (.slice p4 n4 c4)
  have s1 : KeepS w (w.setCell ⟨fb, 0, none⟩ (.slice p3 n3 c3)) := KeepS.put k1 (u := .slice p1 n1 c1) rfl (fun _ e => by cases e) _
  have s2 : KeepS (w.setCell ⟨fb, 0, none⟩ (.slice p3 n3 c3)) ((w.setCell ⟨fb, 0, none⟩ (.slice p3 n3 c3)).setCell ⟨fb, 1, none⟩ (.slice p4 n4 c4)) := KeepS.put b1 (u := .slice p2 n2 c2) rfl (fun _ e => by cases e) _
  exact ⟨(h.below.setCell h.f0 _).setCell h.f0 _, (h.wk.other k1 (u := .slice p1 n1 c1) rfl (fun _ e => by cases e) e1 e2 _).other b1 (u := .slice p2 n2 c2) rfl (fun _ e => by cases e) e1 e2 _, h.k0, h.m0, h.f0, _, _, b2, ⟨_, _, _, rfl⟩, ⟨_, _, _, rfl⟩, fun f e => ⟨((h3 f e).1.keepS s1).keepS s2, (h3 f e).2⟩⟩
def WalkS (wx : World) (kb B fb xb : Nat) (u v : Value) (x : Ins) : Prop := wx.cell? ⟨kb, 0, none⟩ = some (.map (some B)) ∧ wx.cell? ⟨fb, 0, none⟩ = some u ∧ wx.cell? ⟨fb, 1, none⟩ = some v ∧ wx.cell? ⟨xb, 0, none⟩ = some (.int .i64 x.op) ∧ wx.cell? ⟨xb, 1, none⟩ = some (.int .i64 x.a) ∧ wx.cell? ⟨xb, 2, none⟩ = some (.int .i64 x.b) ∧ wx.cell? ⟨xb, 3, none⟩ = some (.string x.type) ∧ wx.cell? ⟨xb, 4, none⟩ = some (.string x.cls) ∧ wx.cell? ⟨xb, 5, none⟩ = some (.string x.name)
theorem WalkS.step {w w' : World} {kb B fb xb : Nat} {u v : Value} {x : Ins} (h : WalkS w kb B fb xb u v x) (hb : Below w.heap.size w w') : WalkS w' kb B fb xb u v x := by
  obtain ⟨k0, k1, k2, k3, k4, k5, k6, k7, k8⟩ := h
  exact ⟨(hb.cell (cell_lt k0)).trans k0, (hb.cell (cell_lt k1)).trans k1, (hb.cell (cell_lt k2)).trans k2, (hb.cell (cell_lt k3)).trans k3, (hb.cell (cell_lt k4)).trans k4, (hb.cell (cell_lt k5)).trans k5, (hb.cell (cell_lt k6)).trans k6, (hb.cell (cell_lt k7)).trans k7, (hb.cell (cell_lt k8)).trans k8⟩
theorem WalkS.other {w : World} {kb B fb xb : Nat} {u v : Value} {x : Ins} (h : WalkS w kb B fb xb u v x) {c : Nat} (n1 : kb < c) (n2 : fb < c) (n3 : xb < c) (p q : Value) : WalkS ((w.setCell ⟨c, 0, none⟩ p).setCell ⟨c, 1, none⟩ q) kb B fb xb u v x := by
  obtain ⟨k0, k1, k2, k3, k4, k5, k6, k7, k8⟩ := h
  have m1 := Nat.ne_of_lt n1
  have m2 := Nat.ne_of_lt n2
  have m3 := Nat.ne_of_lt n3
  exact ⟨(cell2_other (a := ⟨kb, _, none⟩) m1 _ _).trans k0, (cell2_other (a := ⟨fb, _, none⟩) m2 _ _).trans k1, (cell2_other (a := ⟨fb, _, none⟩) m2 _ _).trans k2, (cell2_other (a := ⟨xb, _, none⟩) m3 _ _).trans k3, (cell2_other (a := ⟨xb, _, none⟩) m3 _ _).trans k4, (cell2_other (a := ⟨xb, _, none⟩) m3 _ _).trans k5, (cell2_other (a := ⟨xb, _, none⟩) m3 _ _).trans k6, (cell2_other (a := ⟨xb, _, none⟩) m3 _ _).trans k7, (cell2_other (a := ⟨xb, _, none⟩) m3 _ _).trans k8⟩
def EndS (wx : World) (nb xb : Nat) (u v : Value) (op : Int) : Prop := wx.cell? ⟨nb, 0, none⟩ = some u ∧ wx.cell? ⟨nb, 1, none⟩ = some v ∧ wx.cell? ⟨xb, 0, none⟩ = some (.int .i64 op)
theorem EndS.step {w w' : World} {nb xb : Nat} {u v : Value} {op : Int} (h : EndS w nb xb u v op) (hb : Below w.heap.size w w') : EndS w' nb xb u v op := by
  obtain ⟨k0, k1, k2⟩ := h
  exact ⟨(hb.cell (cell_lt k0)).trans k0, (hb.cell (cell_lt k1)).trans k1, (hb.cell (cell_lt k2)).trans k2⟩
theorem EndS.other {w : World} {nb xb : Nat} {u v : Value} {op : Int} (h : EndS w nb xb u v op) {c : Nat} (n1 : nb ≠ c) (n2 : xb ≠ c) (p q : Value) : EndS ((w.setCell ⟨c, 0, none⟩ p).setCell ⟨c, 1, none⟩ q) nb xb u v op := by
  obtain ⟨k0, k1, k2⟩ := h
  exact ⟨(cell2_other (a := ⟨nb, _, none⟩) n1 _ _).trans k0, (cell2_other (a := ⟨nb, _, none⟩) n1 _ _).trans k1, (cell2_other (a := ⟨xb, _, none⟩) n2 _ _).trans k2⟩
set_option maxHeartbeats 4000000 in
set_option maxRecDepth 100000 in
theorem walkWalk_any (l : List Class) (B : Nat) (ws w : World) (hm : WorldMap ws w B l) (m : Method) (cls g : Str) (args : List Str) (many : Nat) (pc ph : Option Addr) (kc kh : Nat) (hG : MethGood m args g many) (hmo : MethodOk m) (hcl : cls.size ≤ 1048576)
    (hcv : SliceOf w 6 InsCells (.slice pc m.code.length kc) m.code) (hhv : SliceOf w 4 HandlerCells (.slice ph m.handlers.length kh) m.handlers) (kb mb : Nat) (hs : List Value)
    (hhs : hs = [.map (some B), .string m.name, .string m.type, .bool m.static, .bool m.abs, .bool m.priv, .int .i64 m.locals, .slice pc m.code.length kc, .slice ph m.handlers.length kh]) (M : Asg Frm) (hK : WK w kb mb hs M) (hM : ∀ i f, M i = some f → frameR (allC l) f = 0) :
    Calls Tryz.prog 69 #[.pointer (some ⟨kb, 0, none⟩), .string cls] w fun e w' => e = .returned (.bool (walkB (allC l) cls g m M (firstL cls m.static args many))) ∧ Below w.heap.size w w' := by
  have HA : Hid (∀ (wx : World) (o : Obj), Below wx.heap.size wx (wx.alloc o)) := fun wx o => (Below.refl _ _).alloc (Nat.le_refl _) o
  have HF : Hid (∀ wx, _) := fun wx => checkFirst_any wx cls m.name m.type m.static m.abs m.priv many pc ph m.code.length kc m.handlers.length kh args g hG.type hmo.type hcl hG.small (methodR_len hG.type)
  rw [← hG.locals] at HF
  have hL8 := firstL_len (cls := cls) hG
  have HLs := Lib.hid (firstL_short hcl hmo.type hG)
  have hgs : g.size ≤ maxLen := Nat.le_trans (Nat.le_trans (methodR_sizes hG.type).2 hmo.type) (by decide)
  generalize firstL cls m.static args many = L at *
  have HKi : Hid (∀ (wx : World) (k : Str), Below w.heap.size w wx → k.size ≤ maxLen → _) := fun wx k hb hk => kind_any ws wx B (allC l) (hm.map.step hb) hm.right.nodup k hk
  unfold FirstPost at HF
  have m0 := hK.cellh (i := 1) (v := .string m.name) (by rw [hhs]; rfl)
  have m1 := hK.cellh (i := 2) (v := .string m.type) (by rw [hhs]; rfl)
  have m2 := hK.cellh (i := 3) (v := .bool m.static) (by rw [hhs]; rfl)
  have m3 := hK.cellh (i := 4) (v := .bool m.abs) (by rw [hhs]; rfl)
  have m4 := hK.cellh (i := 5) (v := .bool m.priv) (by rw [hhs]; rfl)
  have m5 := hK.cellh (i := 6) (v := .int .i64 m.locals) (by rw [hhs]; rfl)
  have m6 := hK.cellh (i := 7) (v := .slice pc m.code.length kc) (by rw [hhs]; rfl)
  have m7 := hK.cellh (i := 8) (v := .slice ph m.handlers.length kh) (by rw [hhs]; rfl)
  have HK := Lib.hid hK
  have Hm := Lib.hid hm
  have HG := Lib.hid hG
  have Hmo := Lib.hid hmo
  have Hcv := Lib.hid hcv
  have Hhv := Lib.hid hhv
  have Hcl := Lib.hid hcl
  have Hhs := Lib.hid hhs
  have HM := Lib.hid hM
  clear hK hm hG hmo hcv hhv hcl hhs hM
  go_enter Tryz.func69, Tryz.ntmps69
  go_upto_region 2 with (go_at_call 106; (with_reducible refine (HF.out _).mono ?_); rintro e w2 ⟨hB2, p, n, c, rfl, hS2, _⟩)
  obtain ⟨p', c', e, hn1, hn2, hcc⟩ := hS2.open
  injection e with e1 e2 e3
  subst e1 e2 e3
  have f3 := Blk.new w2 27 [.slice p L.length c, .slice none 0 0]
  have B3 := hB2.alloc hB2.size (.cells #[.slice p L.length c, .slice none 0 0] 27)
  have S3 : FrameAt (w2.alloc (.cells #[.slice p L.length c, .slice none 0 0] 27)) (.slice p L.length c) (.slice none 0 0) ⟨L, []⟩ := ⟨hS2.mono (HA.out w2 _), Or.inl ⟨rfl, rfl⟩⟩
  have HCc : Hid (∀ i x, L[i]? = some x → ∃ b o, p = some ⟨b, o, none⟩ ∧ (w2.alloc (.cells #[.slice p L.length c, .slice none 0 0] 27)).cell? ⟨b, o + i, none⟩ = some (.string x)) := fun i x hx => by
    obtain ⟨b, o, vs, h1, h2, _, h4⟩ := hcc i x hx
    have h2 : vs = [.string x] := h2
    subst h2
    have h5 := h4.1
    rw [Nat.mul_one] at h5
    exact ⟨b, o, h1, ((HA.out w2 _).cell (cell_lt h5)).trans h5⟩
  have hfbs : w.heap.size ≤ w2.heap.size := hB2.size
  generalize (w2.alloc (.cells #[.slice p L.length c, .slice none 0 0] 27)) = w3 at *
  generalize w2.heap.size = fb at *
  have f0 := f3.cell 0
  have f1 := f3.cell 1
  have HS3 := Lib.hid S3
  have Hf3 := Lib.hid f3
  have HB3 := Lib.hid B3
  have Hfb := Lib.hid hfbs
  clear S3 f3 hcc hS2 m0 m1 m2 m3 m4 m5 m6 m7 hB2 B3 hfbs
  go_wp2_with (first | fail)
  clear f0 f1
  go_loopw [28] (fun x wr => ∃ j : Nat, j ≤ L.length ∧ x = .int .i64 j ∧ Hid (Below w3.heap.size w3 wr) ∧ Hid (LookedIs (allC l) L j)) (fun x _ => L.length - (intOf x).toNat)
  case atStart => exact ⟨0, Nat.zero_le _, rfl, Below.refl _ _, fun k hk => by simp at hk⟩
  case round =>
    obtain ⟨j, hj, rfl, hB, hI⟩ := hrel
    have d0 := ((HK.out.step HB3.out).step hB.out).cellh (i := 0) (v := .map (some B)) (by rw [Hhs.out]; rfl)
    by_cases hjl : j < L.length
    · obtain ⟨k, hk⟩ : ∃ k, L[j]? = some k := ⟨L[j], by simp [hjl]⟩
      have hkm := List.mem_of_getElem? hk
      obtain ⟨b, o, rfl, c0⟩ := HCc.out j k hk
      replace c0 := (hB.out.cell (cell_lt c0)).trans c0
      have HKk := Lib.hid (HKi.out wr k (below_call HB3.out (Nat.le_refl _) hB.out) (Nat.le_trans (HLs.out k hkm) (by decide)))
      rcases errV_cases (kindR (allC l) k) with ⟨hv, hz⟩ | ⟨hv, hz⟩
      · rw [hv] at HKk
        have hI2 : Hid (LookedIs (allC l) L (j + 1)) := fun y hy => by
          rw [List.take_add_one, hk] at hy
          rcases List.mem_append.1 hy with hy | hy
          · exact hI.out y hy
          · rw [show y = k by simpa using hy]; exact hz
        clear hk hkm hv hz
        go_wp2_with (go_at_call 91; (with_reducible refine (HKk.out).mono ?_); rintro e w4 ⟨rfl, hB4⟩)
        go_roundw
        case rel => exact ⟨j + 1, by omega, by simp, below_call hB.out (Nat.le_refl _) hB4, hI2⟩
        case measure => simp [intOf]; omega
      · rw [hv] at HKk
        have hbad : Hid (startB (allC l) L g = false) := by
          unfold Hid startB
          rw [Bool.and_eq_false_iff]
          refine Or.inl ?_
          rw [List.all_eq_false]
          exact ⟨k, hkm, by simpa using hz⟩
        clear hk hkm hv hz
        go_wp2_with (go_at_call 91; (with_reducible refine (HKk.out).mono ?_); rintro e w4 ⟨rfl, hB4⟩)
        go_ret
        exact ⟨by unfold walkB; rw [hbad.out]; rfl, below_call HB3.out (Nat.le_refl _) (below_call hB.out (Nat.le_refl _) hB4)⟩
    · obtain rfl : j = L.length := by omega
      have hall : Hid (∀ k ∈ L, kindR (allC l) k = 0) := fun k hk => hI.out k (by rw [List.take_length]; exact hk)
      have HKg := Lib.hid (HKi.out wr g (below_call HB3.out (Nat.le_refl _) hB.out) hgs)
      have HSt : Hid (startB (allC l) L g = (decide (g = ⟨#[86]⟩) || kindR (allC l) g == 0)) := by
        unfold Hid startB
        rw [List.all_eq_true.2 fun k hk => beq_iff_eq.2 (hall.out k hk), Bool.true_and]
      by_cases hgood : g = ⟨#[86]⟩ ∨ kindR (allC l) g = 0
      · have hstB : startB (allC l) L g = true := by
          rw [HSt.out, Bool.or_eq_true]
          exact hgood.imp decide_eq_true beq_iff_eq.2
        go_upto_region 8 with (first | fail)
        go_cut [50] (fun s wx => s = .bool false ∧ Below wr.heap.size wr wx)
        case first =>
          by_cases hV : g = ⟨#[86]⟩
          · subst hV
            go_wp2_with (first | fail)
            go_meet
            exact ⟨rfl, Below.refl _ _⟩
          · have hz := hgood.resolve_left hV
            rw [hz, show errV 0 = .nilIface from rfl] at HKg
            have hne : ¬ g.toList = [86] := fun e => hV (ByteArray.ext (Array.ext' (by rw [← ByteArray.toList_eq]; exact e)))
            clear hz hgood
            go_wp2_with (go_at_call 91; (with_reducible refine (HKg.out).mono ?_); rintro e w4 ⟨rfl, hB4⟩)
            go_meet
            exact ⟨rfl, hB4⟩
        case rest =>
          obtain ⟨rfl, hB4⟩ := hcut
          have Bc := below_call hB.out (Nat.le_refl _) hB4
          have Bwc := below_call HB3.out (Nat.le_refl _) Bc
          have hfr0 := startB_frame hL8 hstB
          have HWA : Hid (WalkAt w wc kb mb fb hs M (allC l) (some ⟨L, []⟩)) := ⟨Bwc, HK.out.step Bwc, HK.out.box.lt, HK.out.map.lt, Hfb.out, _, _, Hf3.out.step Bc, ⟨_, _, _, rfl⟩, ⟨_, _, _, rfl⟩, fun f e => by
            injection e with e
            subst e
            exact ⟨HS3.out.mono Bc, hfr0⟩⟩
          obtain ⟨R, hR⟩ : ∃ R, walkM (allC l) cls g m.handlers M 0 m.code (some ⟨L, []⟩) = R := ⟨_, rfl⟩
          have HR : Hid (walkM (allC l) cls g m.handlers M 0 (m.code.drop 0) (some ⟨L, []⟩) = R) := hR
          have HWR : Hid (walkB (allC l) cls g m M L = R) := by
            unfold Hid walkB
            rw [hstB, hR]; rfl
          have d7 := (HK.out.step Bwc).cellh (i := 7) (v := .slice pc m.code.length kc) (by rw [Hhs.out]; rfl)
          have hc40 := (codeOk_of HG.out.code).small
          have HCo := Lib.hid (codeOk_of HG.out.code)
          have HRi := Lib.hid Hm.out.right
          clear hB4 Bc Bwc hfr0 hR hB hI d0 hall HKg HSt hgood hstB
          go_wp2_with (first | fail)
          clear d7
          go_loopw [9, 57] (fun y x wr => ∃ (j : Nat) (s : Option Frm), j ≤ m.code.length ∧ y = .bool s.isSome ∧ x = .int .i64 j ∧ Hid (WalkAt w wr kb mb fb hs M (allC l) s) ∧ Hid (walkM (allC l) cls g m.handlers M j (m.code.drop j) s = R)) (fun _ x _ => m.code.length - (intOf x).toNat)
          case atStart => exact ⟨0, some ⟨L, []⟩, Nat.zero_le _, rfl, rfl, HWA.out, HR.out⟩
          case round =>
            obtain ⟨j, s, hj, rfl, rfl, hWA, hWR⟩ := hrel
            by_cases hjl : j < m.code.length
            · obtain ⟨x, hx⟩ : ∃ x, m.code[j]? = some x := ⟨m.code[j], by simp [hjl]⟩
              have hxm := List.mem_of_getElem? hx
              obtain ⟨b0, o, cap, vs, e, hxv, hvl, hcells⟩ := Hcv.out.at hjl
              injection e with e1 _ e2
              subst e1 e2
              rw [show m.code[j] = x from Option.some.inj ((List.getElem?_eq_getElem hjl).symm.trans hx)] at hxv
              unfold InsCells at hxv
              subst hxv
              have hcells := hcells.mono hWA.out.below hcells.lt
              have hstep := walkM_drop (cs := allC l) (cls := cls) (g := g) (hs := m.handlers) (M := M) hx s
              rw [hWR.out] at hstep
              have Hxo := Lib.hid (And.intro (Hmo.out.code x hxm) (HCo.out.ins x hxm))
              have Hxj := Lib.hid (HCo.out.jumps x hxm)
              have HSt : Hid (∀ f L S, frameR (allC l) f = 0 → stepF (allC l) cls g x f.locals f.stack = some (L, S) → frameR (allC l) ⟨L, S⟩ = 0) := fun f L S hf e => step_frame HRi.out Hxo.out.2 hf e
              have HAf : Hid (∀ (wx : World) (f : Frm) (f1 f2 : Value), Below w.heap.size w wx → FrameAt wx f1 f2 f → frameR (allC l) f = 0 → _) := fun wx f f1 f2 hb hf hz => after_any ws wx B l (Hm.out.step hb) cls g x f f1 f2 hf hz Hxo.out.1 (insFault_place Hxo.out.2) (Nat.le_trans Hcl.out (by decide)) hgs
              clear hx hxm
              obtain ⟨op, xa, xb, type, xcls, name⟩ := x
              obtain ⟨c0, c1, c2, c3, c4, c5, _⟩ := hcells
              have Ba := HA.out wr (.cells #[.int .i64 op, .int .i64 xa, .int .i64 xb, .string type, .string xcls, .string name] 24)
              have kx := Blk.new wr 24 [.int .i64 op, .int .i64 xa, .int .i64 xb, .string type, .string xcls, .string name]
              have hxlt : fb < wr.heap.size := by
                obtain ⟨v1, v2, k1, _⟩ := hWA.out.at'
                exact k1.lt
              obtain ⟨w1, hw1⟩ : ∃ w1, w1 = wr.alloc (.cells #[.int .i64 op, .int .i64 xa, .int .i64 xb, .string type, .string xcls, .string name] 24) := ⟨_, rfl⟩
              rw [← hw1] at Ba kx
              have HW1 := Lib.hid hw1.symm
              clear hw1
              have HWA1 := Lib.hid (hWA.out.step Ba)
              have c9 := HWA1.out.wk.cell9
              obtain ⟨lv, sv, hlv, hlk⟩ := HWA1.out.wk.map.look (i := j) (by omega)
              have L1 := hlk w1 true rfl
              rw [intV] at L1
              clear hlk
              obtain ⟨⟨p1, n1, q1, rfl⟩, ⟨p2, n2, q2, rfl⟩⟩ : isSlice lv ∧ isSlice sv := by
                cases hMj : M j with
                | none =>
                  rw [hMj] at hlv
                  obtain ⟨rfl, rfl⟩ := hlv
                  exact ⟨⟨_, _, _, rfl⟩, ⟨_, _, _, rfl⟩⟩
                | some g =>
                  rw [hMj] at hlv
                  obtain ⟨⟨p1, n1, rfl, _⟩, ⟨p2, n2, rfl, _⟩⟩ := And.intro hlv.1.open hlv.2.open
                  exact ⟨⟨_, _, _, rfl⟩, ⟨_, _, _, rfl⟩⟩
              have Bb := HA.out w1 (.cells #[.slice p1 n1 q1, .slice p2 n2 q2] 27)
              have km := Blk.new w1 27 [.slice p1 n1 q1, .slice p2 n2 q2]
              have kx2 := kx.step Bb
              have hlv2 : Hid (∀ gf, M j = some gf → FrameAt (w1.alloc (.cells #[.slice p1 n1 q1, .slice p2 n2 q2] 27)) (.slice p1 n1 q1) (.slice p2 n2 q2) gf) := fun gf e => by
                rw [e] at hlv
                exact FrameAt.mono Bb hlv
              have HWA2 := Lib.hid (HWA1.out.step Bb)
              have hmb : w1.heap.size ≠ fb := by
                have := Ba.size
                omega
              have hfx : wr.heap.size ≠ fb := by omega
              obtain ⟨w2, hw2⟩ : ∃ w2, w2 = w1.alloc (.cells #[.slice p1 n1 q1, .slice p2 n2 q2] 27) := ⟨_, rfl⟩
              rw [← hw2] at km kx2 hlv2 HWA2
              have HW2 := Lib.hid hw2.symm
              clear hw2 hlv
              have Hkx := Lib.hid kx2
              have Hkm := Lib.hid km
              have Hne := Lib.hid (And.intro hmb hfx)
              have Hstep := Lib.hid hstep
              obtain ⟨bm, hbm⟩ : ∃ b, (M j).isSome = b := ⟨_, rfl⟩
              rw [hbm] at L1
              have Hbm := Lib.hid hbm
              clear hbm hstep hmb hfx Ba Bb kx kx2 km hxlt
              go_upto_region 14 with (first | fail)
              rw [HW1.out]
              go_upto_if 71 with (first | fail)
              rw [HW2.out]
              clear c0 c1 c2 c3 c4 c5 c9 L1
              have m0 := Hkm.out.cell 0
              have m1 := Hkm.out.cell 1
              obtain ⟨v1, v2, hFb, ⟨p3, n3, q3, rfl⟩, ⟨p4, n4, q4, rfl⟩, hFf⟩ := HWA2.out.at'
              have b0 := hFb.cell 0
              have b1 := hFb.cell 1
              have z0 := hFb.frozen 0
              have z1 := hFb.frozen 1
              have HFf := Lib.hid hFf
              clear hFf hFb
              cases hen : enterM (allC l) M j s with
              | none =>
                rw [hen] at Hstep
                have HR0 : Hid (R = false) := Hstep.out
                obtain ⟨f, gf, rfl, hMj, hmt⟩ := enterM_none hen
                rw [hMj] at Hbm
                have hb2 : true = bm := Hbm.out
                subst hb2
                have HMt : Hid (Calls _ _ _ w2 _) := walkMeets_any l B ws w2 (Hm.out.step HWA2.out.below) kb mb hs M HWA2.out.wk (by rw [Hhs.out]; rfl) j (by omega) f _ _ (HFf.out f rfl).1 (HFf.out f rfl).2 HM.out
                rw [hmt] at HMt
                clear hen hmt hMj
                go_wp2_with (first
                  | (go_at_call 111; (with_reducible refine (HMt.out).mono ?_); rintro e w5 ⟨rfl, hB5⟩))
                go_ret
                exact ⟨by rw [HWR.out, HR0.out]; rfl, below_call HWA2.out.below (Nat.le_refl _) hB5⟩
              | some s' =>
                rw [hen] at Hstep
                have Hen := Lib.hid hen
                clear hen
                go_cut [9] from 71 to 80 (fun y wy => y = .bool s'.isSome ∧ WalkAt w wy kb mb fb hs M (allC l) s' ∧ Blk wy wr.heap.size 24 [.int .i64 op, .int .i64 xa, .int .i64 xb, .string type, .string xcls, .string name])
                case first =>
                  have hen := Hen.out
                  unfold enterM at hen
                  cases hMj : M j with
                  | none =>
                    rw [hMj] at hen Hbm
                    have hb2 : false = bm := Hbm.out
                    subst hb2
                    injection hen with hen
                    subst hen
                    clear hMj
                    go_wp2_with (first | fail)
                    go_meet
                    exact ⟨rfl, HWA2.out, Hkx.out⟩
                  | some gf =>
                    rw [hMj] at hen Hbm
                    have hb2 : true = bm := Hbm.out
                    subst hb2
                    have HFg := Lib.hid (And.intro (hlv2.out gf hMj) (HM.out j gf hMj))
                    clear hMj
                    cases s with
                    | none =>
                      injection hen with hen
                      subst hen
                      dsimp only [Option.isSome]
                      go_wp2_with (first | fail)
                      go_meet
                      exact ⟨rfl, HWA2.out.store ⟨_, _, _, rfl⟩ ⟨_, _, _, rfl⟩ fun f e => by
                        injection e with e
                        subst e
                        exact HFg.out, (Hkx.out.other' (fun e => Hne.out.2 e.symm) _).other' (fun e => Hne.out.2 e.symm) _⟩
                    | some f =>
                      dsimp only at hen
                      cases hmt : meetsM (allC l) M j f with
                      | false => rw [hmt] at hen; cases hen
                      | true =>
                        rw [hmt, if_pos rfl] at hen
                        injection hen with hen
                        subst hen
                        have HMt : Hid (Calls _ _ _ w2 _) := walkMeets_any l B ws w2 (Hm.out.step HWA2.out.below) kb mb hs M HWA2.out.wk (by rw [Hhs.out]; rfl) j (by omega) f _ _ (HFf.out f rfl).1 (HFf.out f rfl).2 HM.out
                        rw [hmt] at HMt
                        clear hmt
                        dsimp only [Option.isSome]
                        go_upto_region 18 with (first
                          | (go_at_call 111; (with_reducible refine (HMt.out).mono ?_); rintro e w5 ⟨rfl, hB5⟩))
                        have HWA5 := Lib.hid (HWA2.out.step hB5)
                        have Hkx5 := Lib.hid (Hkx.out.step hB5)
                        have Hkm5 := Hkm.out.step hB5
                        have HFg5 : Hid (FrameAt w5 _ _ gf ∧ frameR (allC l) gf = 0) := ⟨HFg.out.1.mono hB5, HFg.out.2⟩
                        clear m0 m1 b0 b1 z0 z1 hB5
                        have m0 := Hkm5.cell 0
                        have m1 := Hkm5.cell 1
                        obtain ⟨v1, v2, hFb, ⟨p5, n5, q5, rfl⟩, ⟨p6, n6, q6, rfl⟩, _⟩ := HWA5.out.at'
                        have b0 := hFb.cell 0
                        have b1 := hFb.cell 1
                        have z0 := hFb.frozen 0
                        have z1 := hFb.frozen 1
                        clear hFb Hkm5
                        go_wp2_with (first | fail)
                        go_meet
                        exact ⟨rfl, HWA5.out.store ⟨_, _, _, rfl⟩ ⟨_, _, _, rfl⟩ fun f e => by
                          injection e with e
                          subst e
                          exact HFg5.out, (Hkx5.out.other' (fun e => Hne.out.2 e.symm) _).other' (fun e => Hne.out.2 e.symm) _⟩
                case rest =>
                  obtain ⟨rfl, hWc, hxc⟩ := hcut
                  have HWc := Lib.hid hWc
                  have Hxc := Lib.hid hxc
                  clear hWc hxc m0 m1 b0 b1 z0 z1
                  cases s' with
                  | none =>
                    dsimp only [Option.isSome] at Hstep ⊢
                    go_wp2_with (first | fail)
                    go_roundw
                    case rel => exact ⟨j + 1, none, by omega, rfl, by simp, HWc.out, Hstep.out.symm⟩
                    case measure => simp [intOf]; omega
                  | some f =>
                    dsimp only [Option.isSome] at Hstep ⊢
                    obtain ⟨v1, v2, hFb, ⟨p1, n1, q1, rfl⟩, ⟨p2, n2, q2, rfl⟩, hFf⟩ := HWc.out.at'
                    obtain ⟨hFv, hFr⟩ := hFf f rfl
                    have b0 := hFb.cell 0
                    have b1 := hFb.cell 1
                    have HFv := Lib.hid hFv
                    have HFr := Lib.hid hFr
                    have HFb := Lib.hid hFb
                    have HCt : Hid (Calls _ _ _ wc _) := walkCaught_any l B ws wc (Hm.out.step HWc.out.below) kb mb hs M HWc.out.wk (by rw [Hhs.out]; rfl) ph kh m.handlers (by rw [Hhs.out]; rfl) (Hhv.out.mono HWc.out.below (by decide) (fun _ _ h => h)) m.code.length hc40 HG.out.hands j f _ _ hFv hFr HM.out
                    clear hFf hFv hFr hFb
                    cases hct : caughtM (allC l) M j f m.handlers with
                    | false =>
                      have HR0 : Hid (R = false) := by
                        have := Hstep.out
                        unfold stepM at this
                        rw [hct] at this
                        exact this
                      rw [hct] at HCt
                      clear hct
                      go_wp2_with (first
                        | (go_at_call 112; (with_reducible refine (HCt.out).mono ?_); rintro e w5 ⟨rfl, hB5⟩))
                      go_ret
                      exact ⟨by rw [HWR.out, HR0.out]; rfl, below_call HWc.out.below (Nat.le_refl _) hB5⟩
                    | true =>
                      have Hct := Lib.hid hct
                      rw [hct] at HCt
                      clear hct
                      go_upto_region 22 with (first
                        | (go_at_call 112; (with_reducible refine (HCt.out).mono ?_); rintro e w5 ⟨rfl, hB5⟩))
                      have HWd := Lib.hid (HWc.out.step hB5)
                      have HFv5 := Lib.hid (HFv.out.mono hB5)
                      have HS : Hid (∀ wx, Below w5.heap.size w5 wx → WalkS wx kb B fb wr.heap.size (.slice p1 n1 q1) (.slice p2 n2 q2) ⟨op, xa, xb, type, xcls, name⟩) := by
                        have kx5 := Hxc.out.step hB5
                        have kf5 := HFb.out.step hB5
                        exact fun wx hb => WalkS.step ⟨HWd.out.wk.cellh (by rw [Hhs.out]; rfl), kf5.cell 0, kf5.cell 1, kx5.cell 0, kx5.cell 1, kx5.cell 2, kx5.cell 3, kx5.cell 4, kx5.cell 5⟩ hb
                      have HLt : Hid (kb < w5.heap.size ∧ fb < w5.heap.size ∧ wr.heap.size < w5.heap.size) := ⟨HWd.out.wk.box.lt, (HFb.out.step hB5).lt, (Hxc.out.step hB5).lt⟩
                      have Hxd := Lib.hid (Hxc.out.step hB5)
                      have HAf5 : Hid (∀ wx, Below w5.heap.size w5 wx → _) := fun wx hb => HAf.out wx f (.slice p1 n1 q1) (.slice p2 n2 q2) (below_call HWd.out.below (Nat.le_refl _) hb) (HFv5.out.mono hb) HFr.out
                      unfold AfterPost insV at HAf5
                      clear b0 b1 hB5 HCt HAf
                      obtain ⟨k0, k1, k2, k3, k4, k5, k6, k7, k8⟩ := HS.out w5 (Below.refl _ _)
                      dsimp only at HAf5
                      cases hst : stepF (allC l) cls g ⟨op, xa, xb, type, xcls, name⟩ f.locals f.stack with
                      | none =>
                        have HR0 : Hid (R = false) := by
                          have := Hstep.out
                          unfold stepM at this
                          rw [Hct.out, hst] at this
                          exact this
                        rw [hst] at HAf5
                        replace HAf5 : Hid (∀ wx, Below w5.heap.size w5 wx → Calls _ _ _ wx fun e w' => e = _ ∧ Below wx.heap.size wx w' ∧ WalkS w' kb B fb wr.heap.size (.slice p1 n1 q1) (.slice p2 n2 q2) ⟨op, xa, xb, type, xcls, name⟩) := fun wx hb => (HAf5.out wx hb).mono fun e w' ⟨hB, he⟩ => ⟨he, hB, HS.out w' (below_call hb (Nat.le_refl _) hB)⟩
                        clear hst
                        go_cut [14, 15] from 88 to 99 (fun _ b wx => b = .bool false ∧ Below w.heap.size w wx)
                        case first =>
                          go_region_held3 (fun w' => w'.cell? ⟨kb, 0, none⟩ = some (.map (some B)) ∧ w'.cell? ⟨fb, 0, none⟩ = some (.slice p1 n1 q1) ∧ w'.cell? ⟨fb, 1, none⟩ = some (.slice p2 n2 q2) ∧ w'.cell? ⟨wr.heap.size, 0, none⟩ = some (.int .i64 op) ∧ w'.cell? ⟨wr.heap.size, 1, none⟩ = some (.int .i64 xa) ∧ w'.cell? ⟨wr.heap.size, 2, none⟩ = some (.int .i64 xb) ∧ w'.cell? ⟨wr.heap.size, 3, none⟩ = some (.string type) ∧ w'.cell? ⟨wr.heap.size, 4, none⟩ = some (.string xcls) ∧ w'.cell? ⟨wr.heap.size, 5, none⟩ = some (.string name))
                            (first | go_keep | exact WalkS.other (x := ⟨op, xa, xb, type, xcls, name⟩) ⟨k0, k1, k2, k3, k4, k5, k6, k7, k8⟩ HLt.out.1 HLt.out.2.1 HLt.out.2.2 _ _)
                            (first
                              | (go_at_call 54; (with_reducible refine (HAf5.out _ ?_).mono ?_); (first | exact (Below.refl _ _).drew | exact ((Below.refl _ _).alloc (Nat.le_refl _) _).drew); rintro e w3 ⟨rfl, hB3, k0, k1, k2, k3, k4, k5, k6, k7, k8⟩; (first | (have KB : Blk w3 w5.heap.size 27 [.slice none 0 0, .slice none 0 0] := Blk.step (w := (w5.alloc (.cells #[.slice none 0 0, .slice none 0 0] 27)).drew) (Blk.new w5 27 [.slice none 0 0, .slice none 0 0]) hB3; obtain ⟨x0, x1⟩ := KB.cells2; (have f0 := KB.frozen 0); (have f1 := KB.frozen 1)) | skip)))
                          all_goals (go_wp2_with (first | fail); go_meet; first
                            | exact ⟨rfl, (below_call HWd.out.below (Nat.le_refl _) (below_call ((Below.refl _ _).drew) (Nat.le_refl _) hB3)).alloc (Nat.le_trans HWd.out.below.size hB3.size) _⟩
                            | exact ⟨rfl, ((below_call HWd.out.below (Nat.le_refl _) (below_call (w := w5) (((Below.refl _ _).alloc (Nat.le_refl _) _).drew) (Nat.le_refl _) hB3)).setCell HWd.out.below.size _).setCell HWd.out.below.size _⟩)
                        case rest =>
                          obtain ⟨rfl, hB⟩ := hcut
                          clear k0 k1 k2 k3 k4 k5 k6 k7 k8 HAf5
                          go_wp2_with (first | fail)
                          go_ret
                          exact ⟨by rw [HWR.out, HR0.out]; rfl, hB⟩
                      | some r =>
                        obtain ⟨L', S'⟩ := r
                        rw [hst] at HAf5
                        dsimp only at HAf5
                        have Hfr2 := Lib.hid (HSt.out f L' S' HFr.out hst)
                        have Hst2 : Hid (R = match (if jumpsB op && !meetsM (allC l) M xa.toNat ⟨L', S'⟩ then none else some (if endsB op then none else some (⟨L', S'⟩ : Frm))) with
                            | none => false
                            | some s' => walkM (allC l) cls g m.handlers M (j + 1) (m.code.drop (j + 1)) s') := by
                          have := Hstep.out
                          unfold stepM at this
                          rw [Hct.out, hst] at this
                          exact this
                        replace HAf5 : Hid (∀ wx, Below w5.heap.size w5 wx → Calls _ _ _ wx fun e w' => (∃ lv sv, e = .returned (.tuple #[.agg #[lv, sv], .bool true]) ∧ FrameAt w' lv sv ⟨L', S'⟩) ∧ Below wx.heap.size wx w' ∧ WalkS w' kb B fb wr.heap.size (.slice p1 n1 q1) (.slice p2 n2 q2) ⟨op, xa, xb, type, xcls, name⟩) := fun wx hb => (HAf5.out wx hb).mono fun e w' ⟨hB, he⟩ => ⟨he, hB, HS.out w' (below_call hb (Nat.le_refl _) hB)⟩
                        clear hst Hstep HSt
                        go_cut [14, 15] from 88 to 99 (fun p b wx => b = .bool true ∧ GotAt w5 wx ⟨L', S'⟩ p)
                        case first =>
                          go_region_held3 (fun w' => w'.cell? ⟨kb, 0, none⟩ = some (.map (some B)) ∧ w'.cell? ⟨fb, 0, none⟩ = some (.slice p1 n1 q1) ∧ w'.cell? ⟨fb, 1, none⟩ = some (.slice p2 n2 q2) ∧ w'.cell? ⟨wr.heap.size, 0, none⟩ = some (.int .i64 op) ∧ w'.cell? ⟨wr.heap.size, 1, none⟩ = some (.int .i64 xa) ∧ w'.cell? ⟨wr.heap.size, 2, none⟩ = some (.int .i64 xb) ∧ w'.cell? ⟨wr.heap.size, 3, none⟩ = some (.string type) ∧ w'.cell? ⟨wr.heap.size, 4, none⟩ = some (.string xcls) ∧ w'.cell? ⟨wr.heap.size, 5, none⟩ = some (.string name))
                            (first | go_keep | exact WalkS.other (x := ⟨op, xa, xb, type, xcls, name⟩) ⟨k0, k1, k2, k3, k4, k5, k6, k7, k8⟩ HLt.out.1 HLt.out.2.1 HLt.out.2.2 _ _)
                            (first
                              | (go_at_call 54; (with_reducible refine (HAf5.out _ ?_).mono ?_); (first | exact (Below.refl _ _).drew | exact ((Below.refl _ _).alloc (Nat.le_refl _) _).drew); rintro e w3 ⟨⟨lv3, sv3, rfl, hv3⟩, hB3, k0, k1, k2, k3, k4, k5, k6, k7, k8⟩; obtain ⟨⟨p3, n3, rfl, _⟩, ⟨p4, n4, rfl, _⟩⟩ := And.intro hv3.1.open hv3.2.open; (first | (have KB : Blk w3 w5.heap.size 27 [.slice none 0 0, .slice none 0 0] := Blk.step (w := (w5.alloc (.cells #[.slice none 0 0, .slice none 0 0] 27)).drew) (Blk.new w5 27 [.slice none 0 0, .slice none 0 0]) hB3; obtain ⟨x0, x1⟩ := KB.cells2; (have f0 := KB.frozen 0); (have f1 := KB.frozen 1)) | skip)))
                          all_goals (go_wp2_with (first | fail); go_meet; first
                            | exact ⟨rfl, GotAt.late (below_call ((Below.refl _ _).drew) (Nat.le_refl _) hB3) hv3⟩
                            | exact ⟨rfl, GotAt.early (below_call ((Below.refl _ _).drew) (Nat.le_refl _) hB3) hv3⟩)
                        case rest =>
                          obtain ⟨rfl, nb, u1, u2, rfl, hnb, Kb, hBw, hFv⟩ := hcut
                          obtain ⟨⟨p3, n3, rfl, hz1⟩, ⟨p4, n4, rfl, hz2⟩⟩ := And.intro hFv.1.open hFv.2.open
                          clear hz1 hz2 k0 k1 k2 k3 k4 k5 k6 k7 k8 HAf5
                          obtain ⟨d0, _, _, x0, x1, _⟩ := HS.out wc hBw
                          have HWe := Lib.hid (HWd.out.step hBw)
                          have Hxe := Lib.hid (Hxd.out.step hBw)
                          have HKb := Lib.hid Kb
                          have HFv := Lib.hid hFv
                          have Hnb := Lib.hid hnb
                          have g0 := Kb.cell 0
                          have g1 := Kb.cell 1
                          have HJ : Hid (∀ wx, _) := fun wx => jumps_any op wx
                          have HE : Hid (∀ wx, _) := fun wx => ends_any op wx
                          clear d0 Kb hBw hFv hnb
                          cases hbad : (jumpsB op && !meetsM (allC l) M xa.toNat ⟨L', S'⟩) with
                          | true =>
                            rw [hbad] at Hst2
                            have HR0 : Hid (R = false) := Hst2.out
                            rw [Bool.and_eq_true] at hbad
                            obtain ⟨hjm, hmt⟩ := hbad
                            rw [hjm] at HJ
                            obtain ⟨hx0, hx1⟩ := Hxj.out hjm
                            (try dsimp only at hx0 hx1)
                            obtain ⟨d, rfl⟩ := Int.eq_ofNat_of_zero_le hx0
                            rw [Int.toNat_natCast, Bool.not_eq_true'] at hmt
                            have HMt : Hid (Calls _ _ _ wc _) := walkMeets_any l B ws wc (Hm.out.step HWe.out.below) kb mb hs M HWe.out.wk (by rw [Hhs.out]; rfl) d (by omega) ⟨L', S'⟩ _ _ HFv.out Hfr2.out HM.out
                            rw [hmt] at HMt
                            clear hjm hmt hx0 hx1 Hst2
                            go_wp2_with (first
                              | (go_at_call 70; (with_reducible refine (HJ.out _).mono ?_); rintro e w6 ⟨rfl, rfl⟩)
                              | (go_at_call 111; (with_reducible refine (HMt.out).mono ?_); rintro e w7 ⟨rfl, hB7⟩))
                            go_ret
                            exact ⟨by rw [HWR.out, HR0.out]; rfl, below_call HWe.out.below (Nat.le_refl _) hB7⟩
                          | false =>
                            rw [hbad] at Hst2
                            have HR2 : Hid (R = walkM (allC l) cls g m.handlers M (j + 1) (m.code.drop (j + 1)) (if endsB op then none else some ⟨L', S'⟩)) := Hst2.out
                            have Hbad := Lib.hid hbad
                            clear hbad Hst2
                            generalize wc = w6 at *
                            go_upto_region 23 with (first | fail)
                            go_cut [114] from 100 to 113 (fun b wx => b = .bool false ∧ Below w6.heap.size w6 wx)
                            case first =>
                              cases hjm : jumpsB op with
                              | true =>
                                have hmt := Hbad.out
                                rw [hjm, Bool.true_and, Bool.not_eq_false'] at hmt
                                rw [hjm] at HJ
                                obtain ⟨hx0, hx1⟩ := Hxj.out hjm
                                (try dsimp only at hx0 hx1)
                                obtain ⟨d, rfl⟩ := Int.eq_ofNat_of_zero_le hx0
                                rw [Int.toNat_natCast] at hmt
                                have HMt : Hid (Calls _ _ _ w6 _) := walkMeets_any l B ws w6 (Hm.out.step HWe.out.below) kb mb hs M HWe.out.wk (by rw [Hhs.out]; rfl) d (by omega) ⟨L', S'⟩ _ _ HFv.out Hfr2.out HM.out
                                rw [hmt] at HMt
                                clear hjm hmt hx0 hx1
                                go_wp2_with (first
                                  | (go_at_call 70; (with_reducible refine (HJ.out _).mono ?_); rintro e w7 ⟨rfl, rfl⟩)
                                  | (go_at_call 111; (with_reducible refine (HMt.out).mono ?_); rintro e w7 ⟨rfl, hB7⟩))
                                go_meet
                                exact ⟨rfl, hB7⟩
                              | false =>
                                rw [hjm] at HJ
                                clear hjm
                                go_wp2_with (first
                                  | (go_at_call 70; (with_reducible refine (HJ.out _).mono ?_); rintro e w7 ⟨rfl, rfl⟩))
                                go_meet
                                exact ⟨rfl, Below.refl _ _⟩
                            case rest =>
                              obtain ⟨rfl, hB7⟩ := hcut
                              have HWg := Lib.hid (HWe.out.step hB7)
                              have HF7 := Lib.hid (HFv.out.mono hB7)
                              have kb7 := HKb.out.step hB7
                              have kx7 := Hxe.out.step hB7
                              have HS7 : Hid (∀ wx, Below wc.heap.size wc wx → EndS wx nb wr.heap.size (.slice p3 _ n3) (.slice p4 _ n4) op) := fun wx hb => EndS.step ⟨kb7.cell 0, kb7.cell 1, kx7.cell 0⟩ hb
                              have HLt7 : Hid (nb ≠ fb ∧ wr.heap.size ≠ fb) := ⟨by have := HLt.out.2.1; have := Hnb.out; omega, fun e => Hne.out.2 e⟩
                              obtain ⟨v1, v2, hFb, ⟨p5, n5, q5, rfl⟩, ⟨p6, n6, q6, rfl⟩, hFf⟩ := HWg.out.at'
                              have b0 := hFb.cell 0
                              have b1 := hFb.cell 1
                              have z0 := hFb.frozen 0
                              have z1 := hFb.frozen 1
                              clear g0 g1 x0 x1 hFf hFb kb7 kx7 hB7
                              obtain ⟨e0, e1, e2⟩ := HS7.out wc (Below.refl _ _)
                              generalize wc = w8 at *
                              have HWn : Hid (∀ s'' : Option Frm, (∀ f, s'' = some f → f = ⟨L', S'⟩) → WalkAt w (((w8.setCell ⟨fb, 0, none⟩ (.slice p3 L'.length n3)).setCell ⟨fb, 1, none⟩ (.slice p4 S'.length n4)).drew) kb mb fb hs M (allC l) s'') := fun s'' hs'' => (HWg.out.store ⟨_, _, _, rfl⟩ ⟨_, _, _, rfl⟩ fun f e => by
                                rw [hs'' f e]
                                exact ⟨HF7.out, Hfr2.out⟩).step ((Below.refl _ _).drew)
                              cases hen : endsB op with
                              | true =>
                                rw [hen] at HE HR2
                                have HR3 : Hid (walkM (allC l) cls g m.handlers M (j + 1) (m.code.drop (j + 1)) none = R) := HR2.out.symm
                                have HWs := Lib.hid (HWn.out none (fun f e => by cases e))
                                clear hen HR2 HWn
                                go_upto_region 25 with (first | fail)
                                go_region_law (first
                                  | (go_simp; go_at_call 113; (with_reducible refine (HE.out _).mono ?_); rintro e w9 ⟨rfl, rfl⟩))
                                all_goals
                                  go_wp2_with (first | fail)
                                  go_roundw
                                  case rel => exact ⟨j + 1, none, by omega, rfl, by simp, HWs.out, HR3.out⟩
                                  case measure => simp [intOf]; omega
                              | false =>
                                rw [hen] at HE HR2
                                have HR3 : Hid (walkM (allC l) cls g m.handlers M (j + 1) (m.code.drop (j + 1)) (some ⟨L', S'⟩) = R) := HR2.out.symm
                                have HWs := Lib.hid (HWn.out (some ⟨L', S'⟩) (fun f e => (Option.some.inj e).symm))
                                clear hen HR2 HWn
                                go_upto_region 25 with (first | fail)
                                go_region_law (first
                                  | (go_simp; go_at_call 113; (with_reducible refine (HE.out _).mono ?_); rintro e w9 ⟨rfl, rfl⟩))
                                all_goals
                                  go_wp2_with (first | fail)
                                  go_roundw
                                  case rel => exact ⟨j + 1, (some ⟨L', S'⟩), by omega, rfl, by simp, HWs.out, HR3.out⟩
                                  case measure => simp [intOf]; omega
            · obtain rfl : j = m.code.length := by omega
              have HR1 : Hid (R = true) := by
                have := hWR.out
                rw [List.drop_length] at this
                exact this.symm
              have hBw := Lib.hid hWA.out.below
              clear hWA
              go_wp2_with (first | fail)
              go_ret
              exact ⟨by rw [HWR.out, HR1.out]; rfl, hBw.out⟩
      · rw [not_or] at hgood
        obtain ⟨hV, hz⟩ := hgood
        have hne : ¬ g.toList = [86] := fun e => hV (ByteArray.ext (Array.ext' (by rw [← ByteArray.toList_eq]; exact e)))
        have hne2 : (g.toList == [86]) = false := by simpa using hne
        have hbad : Hid (startB (allC l) L g = false) := by
          unfold Hid
          rw [HSt.out, decide_eq_false hV, Bool.false_or]
          exact beq_eq_false_iff_ne.2 hz
        rcases errV_cases (kindR (allC l) g) with ⟨_, hz'⟩ | ⟨hv, _⟩
        · exact absurd hz' hz
        · rw [hv] at HKg
          clear hz hV hv
          go_wp2_with (go_at_call 91; (with_reducible refine (HKg.out).mono ?_); rintro e w4 ⟨rfl, hB4⟩)
          go_ret
          exact ⟨by unfold walkB; rw [hbad.out]; rfl, below_call HB3.out (Nat.le_refl _) (below_call hB.out (Nat.le_refl _) hB4)⟩
end Go.Proofs.YtlmfmioljeppfaaGreatDoor
namespace Go.Proofs.YtlmfmioljeppfaaGreatDoor
open Go.RowKit Go.Shelf Go.Lib
open Go.ChangeMaps (setBlock heap_setBlock_same heap_setBlock_other)
def MapCellsI (w : World) (p : Int × Frm) (vs : List Value) : Prop := ∃ lv sv, vs = [.int .i64 p.1, lv, sv] ∧ FrameAt w lv sv p.2
def MapsAtI (w : World) (v : Value) (l : List (Int × Frm)) : Prop := SliceOf w 3 (MapCellsI w) v l
theorem MapsAtI.mono {w w' : World} {v : Value} {l : List (Int × Frm)} (hb : Below w.heap.size w w') (h : MapsAtI w v l) : MapsAtI w' v l := SliceOf.mono hb (by decide) (fun _ _ ⟨lv, sv, h1, h2⟩ => ⟨lv, sv, h1, h2.mono hb⟩) h
theorem WK.put {w : World} {kb mb : Nat} {hs : List Value} {M : Asg Frm} (h : WK w kb mb hs M) {i : Nat} (hi : i ≤ 64) (f : Frm) (lv sv : Value) (hf : FrameAt w lv sv f) :
    ∃ o, (Instr.mapUpdate 116 (.map (some mb)) (intV i) (.agg #[lv, sv])).run Tryz.prog w = .ok () (setBlock w mb o) ∧ WK (setBlock w mb o) kb mb hs (M.put i f) ∧ ∀ w0 : World, w0.heap.size ≤ mb → Below w0.heap.size w0 w → Below w0.heap.size w0 (setBlock w mb o) := by
  obtain ⟨es, clock, h1, _⟩ := h.map.ex
  obtain ⟨o, hr, hm⟩ := h.map.put hi f lv sv hf
  have hne : kb ≠ mb := fun e => by
    have := h.box
    rw [e] at this
    unfold Blk at this
    rw [h1] at this
    cases this
  exact ⟨o, hr, ⟨(heap_setBlock_other h1 o hne).trans h.box, h.len, hm.keep rfl fun _ _ _ k => k.keepS (KeepS.map h1 o)⟩, fun w0 hw hb => below_setBlock hw h1 o hb⟩
def AcceptPost (w : World) (l : List Class) (cls : Str) (at' : Int) (xs : List (Int × Frm)) (e : Ending) (w' : World) : Prop := Below w.heap.size w w' ∧ ∃ n, AcceptIs l cls at' xs n ∧ e = .returned (errV n)
theorem mapsFault_drop {cs : List Class} {n : Nat} {p : Int} {xs : List (Int × Frm)} {k : Nat} {x : Int × Frm} (hx : xs[k]? = some x) : mapsFault cs n p (xs.drop k) = if x.1 ≤ p ∨ (n : Int) ≤ x.1 then 2 else if frameR cs x.2 ≠ 0 then frameR cs x.2 else mapsFault cs n x.1 (xs.drop (k + 1)) := by
  obtain ⟨hk, rfl⟩ := List.getElem?_eq_some_iff.1 hx
  rw [List.drop_eq_getElem_cons hk]; rfl
theorem asgL_drop {F : Asg Frm} {xs : List (Int × Frm)} {k : Nat} {x : Int × Frm} (hx : xs[k]? = some x) : asgL (xs.drop k) F = asgL (xs.drop (k + 1)) (F.put x.1.toNat x.2) := by
  obtain ⟨hk, rfl⟩ := List.getElem?_eq_some_iff.1 hx
  rw [List.drop_eq_getElem_cons hk]; rfl
theorem hm_put {w0 w : World} {B : Nat} {l : List Class} (hm : WorldMap w0 w B l) {kb mb : Nat} {hs : List Value} {M : Asg Frm} (h : WK w kb mb hs M) (hw : w0.heap.size ≤ mb) (hne : B < mb) (o : Obj) : WorldMap w0 (setBlock w mb o) B l := by
  obtain ⟨es, clock, h1, _⟩ := h.map.ex
  exact ⟨classMap_keep hm.map (below_setBlock hw h1 o (by obtain ⟨k, _⟩ := hm.map; exact k)) (heap_setBlock_other h1 o (Nat.ne_of_lt hne)), hm.right, hm.faults⟩
theorem blk_put {w : World} {b : Nat} {t : TypeId} {vals : List Value} (hb : Blk w b t vals) {kb mb : Nat} {hs : List Value} {M : Asg Frm} (h : WK w kb mb hs M) (o : Obj) : Blk (setBlock w mb o) b t vals := by
  obtain ⟨es, clock, h1, _⟩ := h.map.ex
  refine (heap_setBlock_other h1 o fun e => ?_).trans hb
  rw [← e] at h1
  unfold Blk at hb
  rw [h1] at hb
  cases hb
set_option maxHeartbeats 4000000 in
set_option maxRecDepth 100000 in
theorem accept_any (l : List Class) (lv : Value) (cls : Str) (at' : Int) (xs : List (Int × Frm)) (mv : Value) (w : World) (hl : Laid w) (ho : ∀ c ∈ l, ClassOk c) (hlv : ClassesAt w lv l) (hmv : MapsAtI w mv xs) (hms : ∀ x ∈ xs, FrmShort x.2) :
    Calls Tryz.prog 31 #[lv, .string cls, .int .i64 at', mv] w (AcceptPost w l cls at' xs) := by
  have HNm := Lib.hid (named_any l lv cls at' w hl ho hlv)
  have HCk : Hid (∀ (wx : World) (f : Frm) (f1 f2 : Value), Below w.heap.size w wx → FrameAt wx f1 f2 f → FrmShort f → _) := fun wx f f1 f2 hb hf hs => frameCheckL_any l lv f f1 f2 wx (hl.mono hb hl.1) ho (hlv.mono hb) hf hs
  obtain ⟨pl, cap, rfl, hpo⟩ := hlv.open
  clear hpo
  obtain ⟨px, capx, rfl, hx1, hx2, hxc⟩ := hmv.open
  have HXc := Lib.hid hxc
  have HMv := Lib.hid hmv
  have HMs := Lib.hid hms
  have HO := Lib.hid ho
  have HA : Hid (∀ (wx : World) (o : Obj), Below wx.heap.size wx (wx.alloc o)) := fun wx o => (Below.refl _ _).alloc (Nat.le_refl _) o
  have hxl : xs.length ≤ 9223372036854775807 := Nat.le_trans hx1 hx2
  clear hl ho hlv hxc hmv hms hx1 hx2
  unfold NamedPost zMethod at HNm
  by_cases hz : namedN l cls at' = 0
  · have HZ := Lib.hid hz
    clear hz
    go_enter Tryz.func31, Tryz.ntmps31
    go_upto_region 2 with (go_at_call 62; (with_reducible refine (HNm.out).mono ?_); rintro e w2 ⟨hB2, ⟨_, m, ws, B, v, hnm, hab, rfl, ⟨pc, kc, ph, kh, rfl, hcv, hhv⟩, hM⟩ | ⟨hz, _⟩⟩; rotate_left; (exact absurd HZ.out hz))
    obtain ⟨c, hc, hcn, hmc⟩ := namedM_mem hnm
    have hmo := (HO.out c hc).methods m hmc
    have hcl : cls.size ≤ 1048576 := by rw [← hcn]; exact (HO.out c hc).name
    obtain ⟨args, g, many, hG⟩ := meth_good (hM.faults c hc) hmc hab.out
    have HIs : Hid (∀ n, n = acceptN (allC l) cls g m (firstL cls m.static args many) xs → AcceptIs l cls at' xs n) := fun n hn => Or.inr ⟨HZ.out, m, args, g, many, hnm, hab.out, hG, hn⟩
    have hc40 := (codeOk_of hG.code).small
    have hFF : Hid (∀ f, frameFault l f = frameR (allC l) f) := fun f => frameFault_yes (by
      have := HZ.out
      unfold namedN at this
      split at this
      · rename_i h0; exact absurd this h0
      · rename_i h0; exact Decidable.not_not.1 h0)
    have k3 := Blk.new w2 53 [.string m.name, .string m.type, .bool m.static, .bool m.abs, .bool m.priv, .int .i64 m.locals, .slice pc m.code.length kc, .slice ph m.handlers.length kh]
    have B3 : Below w.heap.size w (w2.alloc (.cells #[.string m.name, .string m.type, .bool m.static, .bool m.abs, .bool m.priv, .int .i64 m.locals, .slice pc m.code.length kc, .slice ph m.handlers.length kh] 53)) := hB2.alloc hB2.size _
    have M3 := hM.step (HA.out w2 (.cells #[.string m.name, .string m.type, .bool m.static, .bool m.abs, .bool m.priv, .int .i64 m.locals, .slice pc m.code.length kc, .slice ph m.handlers.length kh] 53))
    generalize w2.alloc (.cells #[.string m.name, .string m.type, .bool m.static, .bool m.abs, .bool m.priv, .int .i64 m.locals, .slice pc m.code.length kc, .slice ph m.handlers.length kh] 53) = w3 at *
    have Hcv := Lib.hid hcv
    have Hhv := Lib.hid hhv
    have HG := Lib.hid hG
    have Hmo := Lib.hid hmo
    have Hcl := Lib.hid hcl
    have HBm : Hid (ws.heap.size ≤ w3.heap.size ∧ B < w3.heap.size) := by
      obtain ⟨⟨k1, _, k2, _⟩, _, _⟩ := M3
      exact ⟨k1.size, k2⟩
    have HM3 := Lib.hid M3
    have HB3 := Lib.hid B3
    have Hk3 := Lib.hid k3
    have m0 := k3.cell 0
    have m1 := k3.cell 1
    have m2 := k3.cell 2
    have m3 := k3.cell 3
    have m4 := k3.cell 4
    have m5 := k3.cell 5
    have m6 := k3.cell 6
    have m7 := k3.cell 7
    clear hnm hab hM hcv hhv hB2 hc hcn hmc hmo hcl hG k3 B3 M3 HO HNm
    by_cases hfull : 40 < xs.length
    · have HI := Lib.hid (HIs.out 4 (by unfold acceptN; rw [if_pos hfull]))
      go_wp2_with (first | fail)
      go_ret
      exact ⟨HB3.out, 4, HI.out, rfl⟩
    · have hx40 : xs.length ≤ 40 := by omega
      have hmm := fun t w => run_makeMap (P := Tryz.prog) t w
      go_upto_region 7 with (first | fail)
      obtain ⟨hs, hhs⟩ : ∃ hs : List Value, hs = [.map (some B), .string m.name, .string m.type, .bool m.static, .bool m.abs, .bool m.priv, .int .i64 m.locals, .slice pc m.code.length kc, .slice ph m.handlers.length kh] := ⟨_, rfl⟩
      have B4 : Below w3.heap.size w3 ((w3.alloc (.map #[] 0)).alloc (.cells #[.map (some B), .string m.name, .string m.type, .bool m.static, .bool m.abs, .bool m.priv, .int .i64 m.locals, .slice pc m.code.length kc, .slice ph m.handlers.length kh, .map (some w3.heap.size)] 123)) := ((Below.refl _ _).alloc (Nat.le_refl _) _).alloc (by simp) _
      have K4 : WK ((w3.alloc (.map #[] 0)).alloc (.cells #[.map (some B), .string m.name, .string m.type, .bool m.static, .bool m.abs, .bool m.priv, .int .i64 m.locals, .slice pc m.code.length kc, .slice ph m.handlers.length kh, .map (some w3.heap.size)] 123)) (w3.heap.size + 1) w3.heap.size hs (fun _ => none) := by
        refine ⟨?_, by rw [hhs]; rfl, ?_⟩
        · have := Blk.new (w3.alloc (.map #[] 0)) 123 [.map (some B), .string m.name, .string m.type, .bool m.static, .bool m.abs, .bool m.priv, .int .i64 m.locals, .slice pc m.code.length kc, .slice ph m.handlers.length kh, .map (some w3.heap.size)]
          rw [World.size_alloc] at this
          rw [hhs]
          exact this
        · have := FMap.made (FrameAt ((w3.alloc (.map #[] 0)).alloc (.cells #[.map (some B), .string m.name, .string m.type, .bool m.static, .bool m.abs, .bool m.priv, .int .i64 m.locals, .slice pc m.code.length kc, .slice ph m.handlers.length kh, .map (some w3.heap.size)] 123))) w3
          exact this.keep (heap_alloc_old _ _ (by simp)) fun _ _ _ k => k
      have hms : w.heap.size ≤ w3.heap.size := HB3.out.size
      have hks : w.heap.size ≤ w3.heap.size + 1 := by omega
      have Hk4 := Hk3.out.step B4
      have n6 := Hk4.cell 6
      have HB4 := Lib.hid (below_call HB3.out (Nat.le_refl _) B4)
      have HM4 := Lib.hid (HM3.out.step B4)
      have hmlt : w2.heap.size < w3.heap.size := Hk3.out.lt
      generalize ((w3.alloc (.map #[] 0)).alloc (.cells #[.map (some B), .string m.name, .string m.type, .bool m.static, .bool m.abs, .bool m.priv, .int .i64 m.locals, .slice pc m.code.length kc, .slice ph m.handlers.length kh, .map (some w3.heap.size)] 123)) = w4 at *
      generalize w3.heap.size + 1 = kb at *
      generalize w3.heap.size = mb at *
      have HK4 := Lib.hid K4
      have HK3 := Lib.hid Hk4
      have Hms := Lib.hid (And.intro hms (And.intro hks hmlt))
      have Hhs := Lib.hid hhs
      obtain ⟨R, hR⟩ : ∃ R, asgL xs (fun _ => none) = R := ⟨_, rfl⟩
      obtain ⟨N, hN⟩ : ∃ N, mapsFault (allC l) m.code.length (-1) xs = N := ⟨_, rfl⟩
      have HR := Lib.hid hR
      have HN := Lib.hid hN
      have HAc : Hid (acceptN (allC l) cls g m (firstL cls m.static args many) xs = if N ≠ 0 then N else if walkB (allC l) cls g m R (firstL cls m.static args many) then 0 else 7) := by
        unfold Hid acceptN
        rw [if_neg hfull, hN, hR]
      clear m0 m1 m2 m3 m4 m5 m6 m7 hmm n6 K4 B4 Hk4 hms hks hmlt hhs hR hN hfull
      go_wp2_with (first | fail)
      go_loopw [38] (fun y wr => ∃ (k : Nat) (F : Asg Frm) (p : Int), k ≤ xs.length ∧ y = .int .i64 (k : Int) ∧ Hid (Below w.heap.size w wr) ∧ Hid (Blk wr w2.heap.size 53 [.string m.name, .string m.type, .bool m.static, .bool m.abs, .bool m.priv, .int .i64 m.locals, .slice pc m.code.length kc, .slice ph m.handlers.length kh]) ∧ Hid (WK wr kb mb hs F) ∧ Hid (WorldMap ws wr B l) ∧
        Hid (mapsFault (allC l) m.code.length p (xs.drop k) = N ∧ asgL (xs.drop k) F = R ∧ -1 ≤ p ∧ ((k = 0 ∧ p = -1) ∨ ∃ x, 0 < k ∧ xs[k - 1]? = some x ∧ x.1 = p))) (fun y _ => xs.length - (intOf y).toNat)
      case atStart => exact ⟨0, fun _ => none, -1, Nat.zero_le _, rfl, HB4.out, HK3.out, HK4.out, HM4.out, HN.out, HR.out, by omega, Or.inl ⟨rfl, rfl⟩⟩
      case round =>
        obtain ⟨k, F, p, hk, rfl, hB, hKm, hK, hM, hI⟩ := hrel
        by_cases hkl : k < xs.length
        · obtain ⟨⟨i, f⟩, hx⟩ : ∃ x, xs[k]? = some x := ⟨xs[k], by simp [hkl]⟩
          obtain ⟨b, o, vs, rfl, ⟨lv, sv, rfl, hf⟩, _, hcells⟩ := HXc.out k _ hx
          have hcells := hcells.mono hB.out hcells.lt
          have hf := hf.mono hB.out
          obtain ⟨⟨p1, n1, rfl, hz1⟩, ⟨p2, n2, rfl, hz2⟩⟩ := And.intro hf.1.open hf.2.open
          obtain ⟨c0, c1, c2, _⟩ := hcells
          obtain ⟨hI1, hI2, hI3, hI4⟩ := hI.out
          rw [mapsFault_drop hx] at hI1
          rw [asgL_drop hx] at hI2
          have Ba := HA.out wr (.cells #[.int .i64 i, .slice p1 f.locals.length n1, .slice p2 f.stack.length n2] 62)
          have kx := Blk.new wr 62 [.int .i64 i, .slice p1 f.locals.length n1, .slice p2 f.stack.length n2]
          have Km := hKm.out.step Ba
          have k6 := Km.cell 6
          have HKa := Lib.hid (hK.out.step Ba)
          have HMa := Lib.hid (hM.out.step Ba)
          have HBa := Lib.hid (below_call hB.out (Nat.le_refl _) Ba)
          have Hfa := Lib.hid (hf.mono Ba)
          have x0 := kx.cell 0
          have x1 := kx.cell 1
          have x2 := kx.cell 2
          have HKx := Lib.hid kx
          have HKm := Lib.hid Km
          have Hfs := Lib.hid (HMs.out _ (List.mem_of_getElem? hx))
          have HI1 := Lib.hid hI1
          have HI2 := Lib.hid hI2
          have Hx := Lib.hid hx
          dsimp only at Hfs Hfa
          have hprev : Hid (0 < k → ∃ y, xs[k - 1]? = some y ∧ y.1 = p) := fun h => by
            rcases hI4 with ⟨h0, _⟩ | ⟨y, _, h1, h2⟩
            · omega
            · exact ⟨y, h1, h2⟩
          have hk0 : Hid (k = 0 → p = -1) := fun h => by
            rcases hI4 with ⟨_, h1⟩ | ⟨y, h0, _⟩
            · exact h1
            · omega
          -- what stands ahead
          have hcell : Hid (0 < k → (wr.alloc (.cells #[.int .i64 i, .slice p1 f.locals.length n1, .slice p2 f.stack.length n2] 62)).cell? ⟨b, o + (k - 1) * 3, none⟩ = some (.int .i64 p)) := fun h => by
            obtain ⟨y, h1, h2⟩ := hprev.out h
            obtain ⟨b', o', vs', e, ⟨lv', sv', rfl, _⟩, _, hc'⟩ := HXc.out _ _ h1
            injection e with e
            injection e with e1 e2
            subst e1 e2
            rw [← h2]
            exact (hc'.mono HBa.out hc'.lt).1
          obtain ⟨wa, hwa⟩ : ∃ wa, wa = wr.alloc (.cells #[.int .i64 i, .slice p1 f.locals.length n1, .slice p2 f.stack.length n2] 62) := ⟨_, rfl⟩
          rw [← hwa] at x0 x1 x2 k6 HKa HMa HBa Hfa HKx HKm hcell
          have HWa := Lib.hid hwa.symm
          clear hwa hI1 hI2 hI4 hz1 hz2 hf hx Ba kx Km
          go_upto_region 10 with (first | fail)
          rw [HWa.out]
          clear c0 c1 c2
          have hkI : (k : Int) < (xs.length : Int) := by omega
          obtain ⟨bb, hbb⟩ : ∃ bb, decide (i ≤ p ∨ (m.code.length : Int) ≤ i) = bb := ⟨_, rfl⟩
          have Hbb := Lib.hid hbb
          clear hbb
          go_cut [68] from 43 to 68 (fun c wx => c = .bool bb ∧ ∃ q, wx = wa.drewN q)
          case first =>
            have hk1 : Hid (0 < k → wrap64 ((k : Int) - 1) = ((k - 1 : Nat) : Int)) := fun h => by unfold wrap64; omega
            by_cases hi0 : i < 0
            · have hd0 : decide (i < 0) = true := decide_eq_true hi0
              have HD : Hid (bb = true) := Hbb.out.symm.trans (decide_eq_true (Or.inl (by omega)))
              go_quiet (fail)
              go_wp2_with (first | fail)
              go_meet
              exact ⟨by rw [HD.out], _, rfl⟩
            · have hd0 : decide (i < 0) = false := decide_eq_false hi0
              by_cases hin : (m.code.length : Int) ≤ i
              · have hd1 : decide ((m.code.length : Int) ≤ i) = true := decide_eq_true hin
                have HD : Hid (bb = true) := Hbb.out.symm.trans (decide_eq_true (Or.inr hin))
                go_quiet (fail)
                go_wp2_with (first | fail)
                go_meet
                exact ⟨by rw [HD.out], _, rfl⟩
              · have hd1 : decide ((m.code.length : Int) ≤ i) = false := decide_eq_false hin
                by_cases hk0' : k = 0
                · have hp := hk0.out hk0'
                  subst hk0'
                  have HD : Hid (bb = false) := Hbb.out.symm.trans (decide_eq_false (by omega))
                  clear hp
                  go_quiet (fail)
                  go_wp2_with (first | fail)
                  go_meet
                  exact ⟨by rw [HD.out], _, rfl⟩
                · have hkp : 0 < k := by omega
                  have hcc := hcell.out hkp
                  have hw1 := hk1.out hkp
                  have hd2 : decide (0 < (k : Int)) = true := decide_eq_true (by omega)
                  have hge : (0 : Int) ≤ ((k - 1 : Nat) : Int) := by omega
                  have hlt : ((k - 1 : Nat) : Int) < (xs.length : Int) := by omega
                  by_cases hip : i ≤ p
                  · have hd3 : decide (i ≤ p) = true := decide_eq_true hip
                    have HD : Hid (bb = true) := Hbb.out.symm.trans (decide_eq_true (Or.inl hip))
                    go_quiet (fail)
                    go_wp2_with (first | fail)
                    go_meet
                    exact ⟨by rw [HD.out], _, rfl⟩
                  · have hd3 : decide (i ≤ p) = false := decide_eq_false hip
                    have HD : Hid (bb = false) := Hbb.out.symm.trans (decide_eq_false (by omega))
                    go_quiet (fail)
                    go_wp2_with (first | fail)
                    go_meet
                    exact ⟨by rw [HD.out], _, rfl⟩
          case rest =>
            obtain ⟨rfl, q, rfl⟩ := hcut
            have Bq : Below wa.heap.size wa (wa.drewN q) := below_drewN (Below.refl _ _) q
            by_cases hbad : i ≤ p ∨ (m.code.length : Int) ≤ i
            · obtain rfl : bb = true := Hbb.out.symm.trans (decide_eq_true hbad)
              have HN2 : Hid (N = 2) := by
                have := HI1.out
                rw [if_pos hbad] at this
                exact this.symm
              have HI3 := Lib.hid (HIs.out 2 (by rw [HAc.out, HN2.out]; rfl))
              have HBq := Lib.hid (below_call HBa.out (Nat.le_refl _) Bq)
              clear hbad x0 x1 x2 k6 Bq hcell
              go_wp2_with (first | fail)
              go_ret
              exact ⟨HBq.out, 2, HI3.out, rfl⟩
            · obtain rfl : bb = false := Hbb.out.symm.trans (decide_eq_false hbad)
              have HCf : Hid (Calls _ _ _ (wa.drewN q) _) := HCk.out (wa.drewN q) f _ _ (below_call HBa.out (Nat.le_refl _) Bq) (Hfa.out.mono Bq) Hfs.out
              rw [hFF.out] at HCf
              have HI4 : Hid ((if frameR (allC l) f ≠ 0 then frameR (allC l) f else mapsFault (allC l) m.code.length i (xs.drop (k + 1))) = N) := by
                have := HI1.out
                rw [if_neg hbad] at this
                exact this
              rw [not_or] at hbad
              obtain ⟨a, rfl⟩ := Int.eq_ofNat_of_zero_le (show 0 ≤ i by omega)
              have ha64 : a ≤ 64 := by omega
              have hap : -1 ≤ ((a : Nat) : Int) := by omega
              have x0q := HKx.out.step Bq
              have HBq := Lib.hid Bq
              clear hbad x0 x1 x2 k6 hcell Bq
              have x0 := x0q.cell 0
              have x1 := x0q.cell 1
              have x2 := x0q.cell 2
              have HKq := Lib.hid x0q
              clear x0q
              generalize hwq : wa.drewN q = wq at *
              have HWq := Lib.hid hwq
              clear hwq
              rcases errV_cases (frameR (allC l) f) with ⟨hv, hz⟩ | ⟨hv, hz⟩
              · rw [hv] at HCf
                rw [hz] at HI4
                have HI5 : Hid (mapsFault (allC l) m.code.length a (xs.drop (k + 1)) = N) := HI4.out
                clear hz hv HI4
                go_upto_region 15 with (go_at_call 68; (with_reducible refine (HCf.out).mono ?_); rintro e w5 ⟨rfl, hB5⟩)
                have B5 := below_call HBq.out (Nat.le_refl _) hB5
                have K5 := HKa.out.step B5
                obtain ⟨o2, hr, K6, hK6⟩ := (K5.step ((Below.refl _ _).drew)).put ha64 f (.slice p1 f.locals.length n1) (.slice p2 f.stack.length n2) ((Hfa.out.mono B5).mono ((Below.refl _ _).drew))
                rw [intV] at hr
                have x5 := HKq.out.step hB5
                have y0 := x5.cell 0
                have y1 := x5.cell 1
                have y2 := x5.cell 2
                have y9 := K5.cell9
                have Bd := below_call HBa.out (Nat.le_refl _) (below_call B5 (Nat.le_refl _) ((Below.refl _ _).drew))
                have HB6 := Lib.hid (hK6 w Hms.out.1 Bd)
                have HM6 := Lib.hid (hm_put ((HMa.out.step B5).step ((Below.refl _ _).drew)) (K5.step ((Below.refl _ _).drew)) HBm.out.1 HBm.out.2 o2)
                have HKm6 := Lib.hid (blk_put ((HKm.out.step B5).step ((Below.refl _ _).drew)) (K5.step ((Below.refl _ _).drew)) o2)
                have HK6 := Lib.hid K6
                have HI6 : Hid (asgL (xs.drop (k + 1)) (F.put a f) = R) := by
                  have := HI2.out
                  rw [Int.toNat_natCast] at this
                  exact this
                clear x0 x1 x2 K5 K6 hK6 hB5 B5 x5 Bd
                go_region
                all_goals
                  go_wp2_with (first | fail)
                  go_roundw
                  case rel => exact ⟨k + 1, F.put a f, a, by omega, by simp, HB6.out, HKm6.out, HK6.out, HM6.out, HI5.out, HI6.out, hap, Or.inr ⟨_, Nat.succ_pos k, by rw [Nat.add_sub_cancel]; exact Hx.out, rfl⟩⟩
                  case measure => simp [intOf]; omega
              · rw [hv] at HCf
                have HN3 : Hid (N = frameR (allC l) f) := by
                  have := HI4.out
                  rw [if_pos hz] at this
                  exact this.symm
                have HI3 := Lib.hid (HIs.out (frameR (allC l) f) (by rw [HAc.out, HN3.out, if_pos hz]))
                have Hev : Hid (errV (frameR (allC l) f) = .iface 29 (.int .i64 (frameR (allC l) f : Nat))) := by unfold Hid errV; rw [if_neg hz]
                have HBb := Lib.hid (below_call HBa.out (Nat.le_refl _) HBq.out)
                clear hz hv
                go_wp2_with (go_at_call 68; (with_reducible refine (HCf.out).mono ?_); rintro e w5 ⟨rfl, hB5⟩)
                go_ret
                exact ⟨below_call HBb.out (Nat.le_refl _) hB5, _, HI3.out, by rw [Hev.out]; rfl⟩
        · obtain rfl : k = xs.length := by omega
          obtain ⟨hI1, hI2, _, _⟩ := hI.out
          rw [List.drop_length] at hI1 hI2
          have hN0 : N = 0 := hI1.symm
          have hRF : F = R := hI2
          subst hRF
          have HAc2 : Hid (acceptN (allC l) cls g m (firstL cls m.static args many) xs = if walkB (allC l) cls g m F (firstL cls m.static args many) then 0 else 7) := by
            unfold Hid
            rw [HAc.out, hN0]; rfl
          have Bw := hB.out
          have HWk : Hid (Calls _ _ _ wr _) := walkWalk_any l B ws wr hM.out m cls g args many pc ph kc kh HG.out Hmo.out Hcl.out (Hcv.out.mono Bw (by decide) (fun _ _ h => h)) (Hhv.out.mono Bw (by decide) (fun _ _ h => h)) kb mb hs Hhs.out F hK.out (fun i f e => (asgL_right (HN.out.trans hN0) (by rw [HR.out]; exact e)).2)
          clear hI1 hI2 hN0 Bw
          cases hwb : walkB (allC l) cls g m F (firstL cls m.static args many) with
          | true =>
            rw [hwb] at HWk HAc2
            have HI3 := Lib.hid (HIs.out 0 HAc2.out.symm)
            clear hwb
            go_wp2_with (go_at_call 69; (with_reducible refine (HWk.out).mono ?_); rintro e w5 ⟨rfl, hB5⟩)
            go_ret
            exact ⟨below_call hB.out (Nat.le_refl _) hB5, _, HI3.out, rfl⟩
          | false =>
            rw [hwb] at HWk HAc2
            have HI3 := Lib.hid (HIs.out 7 HAc2.out.symm)
            clear hwb
            go_wp2_with (go_at_call 69; (with_reducible refine (HWk.out).mono ?_); rintro e w5 ⟨rfl, hB5⟩)
            go_ret
            exact ⟨below_call hB.out (Nat.le_refl _) hB5, _, HI3.out, rfl⟩
  · have HZ := Lib.hid hz
    clear hz
    go_enter Tryz.func31, Tryz.ntmps31
    go_wp2_with (go_at_call 62; (with_reducible refine (HNm.out).mono ?_); rintro e w2 ⟨hB2, ⟨hz, _⟩ | ⟨_, rfl⟩⟩; (exact absurd hz HZ.out))
    go_ret
    exact ⟨hB2.alloc hB2.size _, _, Or.inl ⟨HZ.out, rfl⟩, by unfold errV; rw [if_neg HZ.out]; rfl⟩
end Go.Proofs.YtlmfmioljeppfaaGreatDoor
