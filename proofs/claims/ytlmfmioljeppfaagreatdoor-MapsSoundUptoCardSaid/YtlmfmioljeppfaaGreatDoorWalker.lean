/-
  WALK over maps' walker: how it lies, and (*walker).meets. Conditions: a world that was read, right frames.
-/
import Derived.Test.YtlmfmioljeppfaaGreatDoorLooker
import Derived.Test.YtlmfmioljeppfaaGreatDoorMapsLaw
import Derived.Test.YtlmfmioljeppfaaGreatDoorLook
namespace Go.Proofs.YtlmfmioljeppfaaGreatDoor
open Go.RowKit Go.Shelf Go.Lib
structure WK (w : World) (kb mb : Nat) (hs : List Value) (M : Asg Frm) : Prop where
  box : Blk w kb 123 (hs ++ [.map (some mb)])
  len : hs.length = 9
  map : FMap (FrameAt w) w mb M
theorem WK.step {w w' : World} {kb mb : Nat} {hs : List Value} {M : Asg Frm} (h : WK w kb mb hs M) (hb : Below w.heap.size w w') : WK w' kb mb hs M :=
  ⟨h.box.step hb, h.len, h.map.keep (hb.block mb h.map.lt) fun _ _ _ k => k.mono hb⟩
theorem WK.cell9 {w : World} {kb mb : Nat} {hs : List Value} {M : Asg Frm} (h : WK w kb mb hs M) : w.cell? ⟨kb, 9, none⟩ = some (.map (some mb)) := by
  rw [h.box.cell 9, List.getElem?_append_right (by rw [h.len]; omega), h.len]; rfl
theorem WK.cellh {w : World} {kb mb : Nat} {hs : List Value} {M : Asg Frm} (h : WK w kb mb hs M) {i : Nat} {v : Value} (hi : hs[i]? = some v) : w.cell? ⟨kb, i, none⟩ = some v := by
  rw [h.box.cell i, List.getElem?_append_left (List.getElem?_eq_some_iff.1 hi).1, hi]
def MeetS (wx : World) (kb B fb : Nat) (u v y z : Value) : Prop := wx.cell? ⟨kb, 0, none⟩ = some (.map (some B)) ∧ wx.cell? ⟨fb, 0, none⟩ = some u ∧ wx.cell? ⟨fb, 1, none⟩ = some v ∧ wx.cell? ⟨fb + 1, 0, none⟩ = some y ∧ wx.cell? ⟨fb + 1, 1, none⟩ = some z
theorem MeetS.step {w w' : World} {kb B fb : Nat} {u v y z : Value} (h : MeetS w kb B fb u v y z) (hb : Below w.heap.size w w') : MeetS w' kb B fb u v y z := by
  obtain ⟨k0, k1, k2, k3, k4⟩ := h
  exact ⟨(hb.cell (cell_lt k0)).trans k0, (hb.cell (cell_lt k1)).trans k1, (hb.cell (cell_lt k2)).trans k2, (hb.cell (cell_lt k3)).trans k3, (hb.cell (cell_lt k4)).trans k4⟩
theorem MeetS.other {w : World} {kb B fb : Nat} {u v y z : Value} (h : MeetS w kb B fb u v y z) {c : Nat} (n1 : kb < c) (n2 : fb + 1 < c) (p q : Value) : MeetS ((w.setCell ⟨c, 0, none⟩ p).setCell ⟨c, 1, none⟩ q) kb B fb u v y z := by
  obtain ⟨k0, k1, k2, k3, k4⟩ := h
  have m1 := Nat.ne_of_lt n1
  have m2 : fb ≠ c := by omega
  have m3 := Nat.ne_of_lt n2
  exact ⟨(cell2_other (a := ⟨kb, _, none⟩) m1 _ _).trans k0, (cell2_other (a := ⟨fb, _, none⟩) m2 _ _).trans k1, (cell2_other (a := ⟨fb, _, none⟩) m2 _ _).trans k2, (cell2_other (a := ⟨fb + 1, _, none⟩) m3 _ _).trans k3, (cell2_other (a := ⟨fb + 1, _, none⟩) m3 _ _).trans k4⟩
set_option maxHeartbeats 4000000 in
set_option maxRecDepth 100000 in
theorem walkMeets_any (l : List Class) (B : Nat) (ws w : World) (hm : WorldMap ws w B l) (kb mb : Nat) (hs : List Value) (M : Asg Frm) (h : WK w kb mb hs M) (h0 : hs[0]? = some (.map (some B)))
    (i : Nat) (hi : i ≤ 64) (f : Frm) (f1 f2 : Value) (hf : FrameAt w f1 f2 f) (hfr : frameR (allC l) f = 0) (hM : ∀ i g, M i = some g → frameR (allC l) g = 0) :
    Calls Tryz.prog 111 #[.pointer (some ⟨kb, 0, none⟩), .int .i64 (i : Int), .agg #[f1, f2]] w fun e w' => e = .returned (.bool (meetsM (allC l) M i f)) ∧ Below w.heap.size w w' := by
  have HA : Hid (∀ (wx : World) (o : Obj), Below wx.heap.size wx (wx.alloc o)) := fun wx o => (Below.refl _ _).alloc (Nat.le_refl _) o
  obtain ⟨⟨q1, m1, rfl, _⟩, ⟨q2, m2, rfl, _⟩⟩ := And.intro hf.1.open hf.2.open
  have HK1 := Lib.hid (h.step (HA.out w (.cells #[.slice q1 f.locals.length m1, .slice q2 f.stack.length m2] 27)))
  have k1 := Blk.new w 27 [.slice q1 f.locals.length m1, .slice q2 f.stack.length m2]
  have c9 := HK1.out.cell9
  obtain ⟨lv, sv, hlv, hlk⟩ := HK1.out.map.look hi
  have L1 := hlk (w.alloc (.cells #[.slice q1 f.locals.length m1, .slice q2 f.stack.length m2] 27)) true rfl
  rw [intV] at L1
  unfold meetsM
  clear hlk
  cases hMi : M i with
  | none =>
    rw [hMi] at L1 hlv
    dsimp only at hlv ⊢
    obtain ⟨rfl, rfl⟩ := hlv
    have HB := Lib.hid (((HA.out w (.cells #[.slice q1 f.locals.length m1, .slice q2 f.stack.length m2] 27)).alloc (by simp) (.cells #[.slice none 0 0, .slice none 0 0] 27)))
    go_enter Tryz.func111, Tryz.ntmps111
    go_wp2_with (first | fail)
    go_ret
    exact ⟨rfl, HB.out⟩
  | some g =>
    rw [hMi] at L1 hlv
    dsimp only at hlv ⊢
    have hgr := hM i g hMi
    obtain ⟨⟨p1, n1, rfl, _⟩, ⟨p2, n2, rfl, _⟩⟩ := And.intro hlv.1.open hlv.2.open
    have k2' := Blk.new (w.alloc (.cells #[.slice q1 f.locals.length m1, .slice q2 f.stack.length m2] 27)) 27 [.slice p1 g.locals.length n1, .slice p2 g.stack.length n2]
    have Bz := HA.out (w.alloc (.cells #[.slice q1 f.locals.length m1, .slice q2 f.stack.length m2] 27)) (.cells #[.slice p1 g.locals.length n1, .slice p2 g.stack.length n2] 27)
    have K2 := HK1.out.step Bz
    have k2 := k1.step Bz
    have hf2 := (hf.mono (HA.out w (.cells #[.slice q1 f.locals.length m1, .slice q2 f.stack.length m2] 27))).mono Bz
    have hv2 := hlv.mono Bz
    have B2 : Below w.heap.size w ((w.alloc (.cells #[.slice q1 f.locals.length m1, .slice q2 f.stack.length m2] 27)).alloc (.cells #[.slice p1 g.locals.length n1, .slice p2 g.stack.length n2] 27)) := ((Below.refl _ _).alloc (Nat.le_refl _) _).alloc (by simp) _
    obtain ⟨w2, hw2⟩ : ∃ w2, w2 = (w.alloc (.cells #[.slice q1 f.locals.length m1, .slice q2 f.stack.length m2] 27)).alloc (.cells #[.slice p1 g.locals.length n1, .slice p2 g.stack.length n2] 27) := ⟨_, rfl⟩
    rw [← hw2] at K2 k2 hf2 hv2 k2' B2
    rw [World.size_alloc] at k2'
    have HW2 := Lib.hid hw2.symm
    clear hw2 Bz
    have HS : Hid (∀ wx, Below w2.heap.size w2 wx → MeetS wx kb B w.heap.size (.slice q1 f.locals.length m1) (.slice q2 f.stack.length m2) (.slice p1 g.locals.length n1) (.slice p2 g.stack.length n2)) := fun wx hb => MeetS.step ⟨K2.cellh h0, k2.cell 0, k2.cell 1, k2'.cell 0, k2'.cell 1⟩ hb
    have HLt : Hid (kb < w2.heap.size ∧ w.heap.size + 1 < w2.heap.size) := ⟨K2.box.lt, k2'.lt⟩
    have hm2 := hm.step B2
    have HBo : Hid (∀ wx, Below w2.heap.size w2 wx → Calls Tryz.prog 64 #[.map (some B), .agg #[.slice q1 f.locals.length m1, .slice q2 f.stack.length m2], .agg #[.slice p1 g.locals.length n1, .slice p2 g.stack.length n2]] wx fun e w' => BothPost wx (allC l) f g e w' ∧ MeetS w' kb B w.heap.size (.slice q1 f.locals.length m1) (.slice q2 f.stack.length m2) (.slice p1 g.locals.length n1) (.slice p2 g.stack.length n2)) := fun wx hb =>
      (both_any ws wx B l (hm2.step hb) f g _ _ _ _ (hf2.mono hb) (hv2.mono hb) (frm_short hfr) (frm_short hgr) hfr hgr).mono fun e w' hP => ⟨hP, HS.out w' (below_call hb (Nat.le_refl _) hP.1)⟩
    have Hk2' := Lib.hid k2'
    have Hv2 := Lib.hid hv2
    have HB2 := Lib.hid B2
    obtain ⟨s0, s1, s2, s3, s4⟩ := HS.out w2 (Below.refl _ _)
    unfold BothPost at HBo
    clear hf hlv hf2 hv2 B2 K2 k2 k2' h hfr hgr HK1 k1 hm hm2 hM hMi
    go_enter Tryz.func111, Tryz.ntmps111
    go_upto_region 4 with (first | fail)
    rw [HW2.out]
    clear L1 c9
    cases hsh : shapedB f g with
    | true =>
      have HSh := Lib.hid hsh
      clear hsh
      go_cut [9, 10] (fun p b wx => b = .bool true ∧ GotAt w2 wx (bothF (allC l) f g) p)
      case first =>
        go_region_held3 (fun w' => w'.cell? ⟨kb, 0, none⟩ = some (.map (some B)) ∧ w'.cell? ⟨w.heap.size, 0, none⟩ = some (.slice q1 f.locals.length m1) ∧ w'.cell? ⟨w.heap.size, 1, none⟩ = some (.slice q2 f.stack.length m2) ∧ w'.cell? ⟨w.heap.size + 1, 0, none⟩ = some (.slice p1 g.locals.length n1) ∧ w'.cell? ⟨w.heap.size + 1, 1, none⟩ = some (.slice p2 g.stack.length n2))
          (first | go_keep | exact MeetS.other ⟨s0, s1, s2, s3, s4⟩ HLt.out.1 HLt.out.2 _ _)
          (first
            | (go_at_call 64; (with_reducible refine (HBo.out _ ?_).mono ?_); (first | exact (Below.refl _ _).drew | exact ((Below.refl _ _).alloc (Nat.le_refl _) _).drew); rintro e w3 ⟨⟨hB3, ⟨_, v1, v2, rfl, hv3⟩ | ⟨hz, _⟩⟩, s0, s1, s2, s3, s4⟩; rotate_left; (exact absurd (HSh.out.symm.trans hz) (by decide)); obtain ⟨⟨p3, n3, rfl, _⟩, ⟨p4, n4, rfl, _⟩⟩ := And.intro hv3.1.open hv3.2.open; (first | (have KB : Blk w3 w2.heap.size 27 [.slice none 0 0, .slice none 0 0] := Blk.step (w := (w2.alloc (.cells #[.slice none 0 0, .slice none 0 0] 27)).drew) (Blk.new w2 27 [.slice none 0 0, .slice none 0 0]) hB3; obtain ⟨x0, x1⟩ := KB.cells2; (have f0 := KB.frozen 0); (have f1 := KB.frozen 1)) | skip)))
        all_goals (go_wp2_with (first | fail); go_meet; first
          | exact ⟨rfl, GotAt.late (below_call ((Below.refl _ _).drew) (Nat.le_refl _) hB3) hv3⟩
          | exact ⟨rfl, GotAt.early (below_call ((Below.refl _ _).drew) (Nat.le_refl _) hB3) hv3⟩)
      case rest =>
        obtain ⟨rfl, nb, v1, v2, rfl, hnb, Kb, hBw, hFv⟩ := hcut
        have HSm : Hid (Calls _ _ _ wc _) := frameSame_any (bothF (allC l) f g) g v1 v2 _ _ wc hFv (Hv2.out.mono hBw)
        have g0 := Kb.cell 0
        have g1 := Kb.cell 1
        have b0 := (Hk2'.out.step hBw).cell 0
        have b1 := (Hk2'.out.step hBw).cell 1
        have HBw := Lib.hid hBw
        clear s0 s1 s2 s3 s4 Kb hFv hBw hnb HBo
        go_wp2_with (go_at_call 67; (with_reducible refine (HSm.out).mono ?_); rintro e w5 ⟨rfl, hB5⟩)
        go_ret
        exact ⟨by rw [HSh.out]; rfl, below_call HB2.out (Nat.le_refl _) (below_call HBw.out (Nat.le_refl _) hB5)⟩
    | false =>
      have HSh := Lib.hid hsh
      clear hsh
      go_cut [9, 10] (fun _ b wx => b = .bool false ∧ Below w2.heap.size w2 wx)
      case first =>
        go_region_held3 (fun w' => w'.cell? ⟨kb, 0, none⟩ = some (.map (some B)) ∧ w'.cell? ⟨w.heap.size, 0, none⟩ = some (.slice q1 f.locals.length m1) ∧ w'.cell? ⟨w.heap.size, 1, none⟩ = some (.slice q2 f.stack.length m2) ∧ w'.cell? ⟨w.heap.size + 1, 0, none⟩ = some (.slice p1 g.locals.length n1) ∧ w'.cell? ⟨w.heap.size + 1, 1, none⟩ = some (.slice p2 g.stack.length n2))
          (first | go_keep | exact MeetS.other ⟨s0, s1, s2, s3, s4⟩ HLt.out.1 HLt.out.2 _ _)
          (first
            | (go_at_call 64; (with_reducible refine (HBo.out _ ?_).mono ?_); (first | exact (Below.refl _ _).drew | exact ((Below.refl _ _).alloc (Nat.le_refl _) _).drew); rintro e w3 ⟨⟨hB3, ⟨hz, _⟩ | ⟨_, rfl⟩⟩, s0, s1, s2, s3, s4⟩; (exact absurd (HSh.out.symm.trans hz) (by decide)); (first | (have KB : Blk w3 w2.heap.size 27 [.slice none 0 0, .slice none 0 0] := Blk.step (w := (w2.alloc (.cells #[.slice none 0 0, .slice none 0 0] 27)).drew) (Blk.new w2 27 [.slice none 0 0, .slice none 0 0]) hB3; obtain ⟨x0, x1⟩ := KB.cells2; (have f0 := KB.frozen 0); (have f1 := KB.frozen 1)) | skip)))
        all_goals (go_wp2_with (first | fail); go_meet; first
          | exact ⟨rfl, (below_call ((Below.refl _ _).drew) (Nat.le_refl _) hB3).alloc hB3.size _⟩
          | exact ⟨rfl, ((below_call (w := w2) (((Below.refl _ _).alloc (Nat.le_refl _) _).drew) (Nat.le_refl _) hB3).setCell (Nat.le_refl _) _).setCell (Nat.le_refl _) _⟩)
      case rest =>
        obtain ⟨rfl, hB⟩ := hcut
        clear s0 s1 s2 s3 s4 HBo
        go_wp2_with (first | fail)
        go_ret
        exact ⟨by rw [HSh.out]; rfl, below_call HB2.out (Nat.le_refl _) hB⟩
end Go.Proofs.YtlmfmioljeppfaaGreatDoor
