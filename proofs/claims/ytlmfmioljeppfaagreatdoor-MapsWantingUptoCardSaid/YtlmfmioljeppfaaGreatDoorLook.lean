/-
  WALK over check's looker: (*looker).look. Conditions: a world that was read, a right method, right frames.
-/
import Derived.Test.YtlmfmioljeppfaaGreatDoorLooker
import Derived.Test.YtlmfmioljeppfaaGreatDoorLeastLaw
import Derived.Test.YtlmfmioljeppfaaGreatDoorFirst
namespace Go.Proofs.YtlmfmioljeppfaaGreatDoor
open Go.RowKit Go.Shelf Go.Lib
theorem frm_short {cs : List Class} {f : Frm} (h : frameR cs f = 0) : FrmShort f := by
  obtain ⟨_, _, h1, h2⟩ := frame_zero h
  exact ⟨fun k hk => Nat.le_trans (kind_small (h1 k hk)) (by decide), fun k hk => Nat.le_trans (kind_small (h2 k hk)) (by decide)⟩
def LookedAt (w0 w : World) (kb mb : Nat) (hs : List Value) (tv : Value) (r : Option (Asg Frm × List Nat)) (e : Ending) (w' : World) : Prop := match r with
  | none => e = .returned (.bool false) ∧ Below w0.heap.size w0 w'
  | some s => e = .returned (.bool true) ∧ ∃ tv', LK w0 w' kb mb hs tv' s.1 s.2 ∧ Kept w w' kb mb tv tv'
section
variable {l : List Class} {cls gives : Str} {m : Method} {start : Frm} {w0 w w' : World} {kb mb : Nat} {hs : List Value} {tv tv' : Value} {F : Asg Frm} {T : List Nat}
theorem meet_looked {cs : List Class} {i : Nat} {f : Frm} {e : Ending} (h : MeetPost cs w0 w kb mb hs tv F T i f e w') : LookedAt w0 w kb mb hs tv ((checkW cs cls gives m start).meetT (F, T) (i, f)) e w' := by
  unfold MeetPost at h
  have hM : (checkW cs cls gives m start).meetT (F, T) (i, f) = ((checkW cs cls gives m start).meet F i f).map fun r => (r.1, if r.2 then T ++ [i] else T) := rfl
  rw [hM]
  unfold Ways.meet
  cases hF : F i with
  | none =>
    rw [hF] at h
    exact h
  | some was =>
    rw [hF] at h
    dsimp only at h ⊢
    by_cases hs : shapedB was f = true
    · rw [if_pos hs] at h
      rw [if_pos (show (checkW cs cls gives m start).fit was f = true from hs)]
      by_cases hj : bothF cs was f = was
      · rw [if_pos hj] at h
        rw [if_pos (show (checkW cs cls gives m start).join was f = was from hj)]
        exact ⟨h.1, tv, h.2⟩
      · rw [if_neg hj] at h
        rw [if_neg (show ¬ (checkW cs cls gives m start).join was f = was from hj)]
        exact h
    · rw [if_neg hs] at h
      rw [if_neg (show ¬ (checkW cs cls gives m start).fit was f = true from hs)]
      exact h
theorem Kept.blk (h : Kept w w' kb mb tv tv') {b : Nat} {t : TypeId} {vals : List Value} (hb : Blk w b t vals) (n1 : b ≠ kb) (n2 : b ≠ mb) (n3 : tv.ownBlock ≠ some b) : Blk w' b t vals := (h.block b hb.lt n1 n2 n3).trans hb
theorem LK.fresh (h : LK w0 w kb mb hs tv F T) {b : Nat} (hb : w.heap.size ≤ b) : b ≠ kb ∧ b ≠ mb ∧ tv.ownBlock ≠ some b := ⟨fun e => by have := h.box.lt; omega, fun e => by have := h.map.lt; omega, fun e => by have := (h.que.lt b e).2; omega⟩
theorem Kept.refl (w : World) (kb mb : Nat) (tv : Value) : Kept w w kb mb tv tv := Kept.below (Below.refl _ _) kb mb tv
end
theorem met_refl {W : Ways Frm} (H : W.Good) {F : Asg Frm} {T : List Nat} (h : W.Oks F) : W.Met (F, T) (F, T) :=
  ⟨h, Ways.under_refl H h, ⟨[], by simp⟩, fun _ _ => rfl, fun _ hi => Or.inl hi, Nat.le_refl _, Nat.le_refl _⟩
theorem handS_drop (W : Ways Frm) (cs : List Class) (i : Nat) (f : Frm) (s : Asg Frm × List Nat) {hs : List Handler} {j : Nat} {h : Handler} (hj : hs[j]? = some h) :
    handS W cs i f s (hs.drop j) = if h.lo ≤ (i : Int) ∧ (i : Int) < h.hi then (if faultB cs h.cls then (W.meetT s (h.dest.toNat, ⟨f.locals, [thText h.cls]⟩)).bind fun s' => handS W cs i f s' (hs.drop (j + 1)) else none) else handS W cs i f s (hs.drop (j + 1)) := by
  obtain ⟨hk2, rfl⟩ := List.getElem?_eq_some_iff.1 hj
  rw [List.drop_eq_getElem_cons hk2]; rfl
theorem name_small {c : Str} (h : nameB (lst c) = true) : c.size ≤ 20 := by
  rw [show lst c = c.data.toList from rfl, nameB_eq] at h
  simp only [Bool.and_eq_true, decide_eq_true_eq] at h
  exact h.1.1.2
theorem step_frame {l : List Class} (hR : Right l) {cls gives : Str} {x : Ins} (hx : insFault x = 0) {f : Frm} (hf : frameR (allC l) f = 0) {L S : List Str} (h : stepF (allC l) cls gives x f.locals f.stack = some (L, S)) : frameR (allC l) ⟨L, S⟩ = 0 := by
  have hl := frame_le hf hf ⟨LeL.refl _ _, LeL.refl _ _⟩
  obtain ⟨La, Sa, e, m1, m2⟩ := stepF_mono hR hx hl.1 hl.2 h
  exact (leF_frames m1 m2).2.1
theorem fault_frame {cs : List Class} {f : Frm} {c : Str} (hf : frameR cs f = 0) (hb : faultB cs c = true) : frameR cs ⟨f.locals, [thText c]⟩ = 0 := by
  obtain ⟨z1, z2, z3, z4⟩ := frame_zero hf
  refine frameR_of z1 (by show [thText c].length ≤ 8; simp) z3 fun k hk => ?_
  rw [List.mem_singleton.1 hk]
  unfold faultB at hb
  rw [Bool.and_eq_true] at hb
  exact beq_iff_eq.1 hb.1
theorem nextL_len (x : Ins) (i : Nat) : (nextL x i).length ≤ 2 := by
  unfold nextL
  split <;> split <;> simp
theorem que_nth {w : World} {base : Nat} {v : Value} {xs : List Nat} (h : Que w base v xs) : ∃ g, (∀ b, v.ownBlock = some b → b = g) ∧ base ≤ g ∧ ∀ j x, xs[j]? = some x → ∃ off cap, v = .slice (some ⟨g, off, none⟩) xs.length cap ∧ w.cell? ⟨g, off + j, none⟩ = some (intV x) := by
  rcases h with ⟨rfl, rfl⟩ | ⟨b, off, cap, cur, rfl, h1, h2, h3, h4, h5, h6, h7⟩
  · exact ⟨base, (fun b e => by cases e), Nat.le_refl _, fun j x hx => by simp at hx⟩
  · refine ⟨b, fun c e => (Option.some.inj e).symm, h1, fun j x hx => ⟨off, cap, rfl, ?_⟩⟩
    rw [cell_of_row w b (off + j) cur 3 (0, 0) h2]
    exact h7 j x hx
def LookS (wx : World) (kb B fb b0 o : Nat) (cv u v : Value) (x : Ins) : Prop := wx.cell? ⟨kb, 0, none⟩ = some (.map (some B)) ∧ wx.cell? ⟨kb, 7, none⟩ = some cv ∧ wx.cell? ⟨fb, 0, none⟩ = some u ∧ wx.cell? ⟨fb, 1, none⟩ = some v ∧ wx.cell? ⟨b0, o, none⟩ = some (.int .i64 x.op) ∧ wx.cell? ⟨b0, o + 1, none⟩ = some (.int .i64 x.a) ∧ wx.cell? ⟨b0, o + 1 + 1, none⟩ = some (.int .i64 x.b) ∧ wx.cell? ⟨b0, o + 1 + 1 + 1, none⟩ = some (.string x.type) ∧ wx.cell? ⟨b0, o + 1 + 1 + 1 + 1, none⟩ = some (.string x.cls) ∧ wx.cell? ⟨b0, o + 1 + 1 + 1 + 1 + 1, none⟩ = some (.string x.name)
theorem LookS.step {w w' : World} {kb B fb b0 o : Nat} {cv u v : Value} {x : Ins} (h : LookS w kb B fb b0 o cv u v x) (hb : Below w.heap.size w w') : LookS w' kb B fb b0 o cv u v x := by
  obtain ⟨k0, k1, k2, k3, k4, k5, k6, k7, k8, k9⟩ := h
  exact ⟨(hb.cell (cell_lt k0)).trans k0, (hb.cell (cell_lt k1)).trans k1, (hb.cell (cell_lt k2)).trans k2, (hb.cell (cell_lt k3)).trans k3, (hb.cell (cell_lt k4)).trans k4, (hb.cell (cell_lt k5)).trans k5, (hb.cell (cell_lt k6)).trans k6, (hb.cell (cell_lt k7)).trans k7, (hb.cell (cell_lt k8)).trans k8, (hb.cell (cell_lt k9)).trans k9⟩
theorem LookS.other {w : World} {kb B fb b0 o : Nat} {cv u v : Value} {x : Ins} (h : LookS w kb B fb b0 o cv u v x) {c : Nat} (n1 : kb < c) (n2 : fb < c) (n3 : b0 < c) (y z : Value) : LookS ((w.setCell ⟨c, 0, none⟩ y).setCell ⟨c, 1, none⟩ z) kb B fb b0 o cv u v x := by
  obtain ⟨k0, k1, k2, k3, k4, k5, k6, k7, k8, k9⟩ := h
  have m1 := Nat.ne_of_lt n1
  have m2 := Nat.ne_of_lt n2
  have m3 := Nat.ne_of_lt n3
  exact ⟨(cell2_other (a := ⟨kb, _, none⟩) m1 _ _).trans k0, (cell2_other (a := ⟨kb, _, none⟩) m1 _ _).trans k1, (cell2_other (a := ⟨fb, _, none⟩) m2 _ _).trans k2, (cell2_other (a := ⟨fb, _, none⟩) m2 _ _).trans k3, (cell2_other (a := ⟨b0, _, none⟩) m3 _ _).trans k4, (cell2_other (a := ⟨b0, _, none⟩) m3 _ _).trans k5, (cell2_other (a := ⟨b0, _, none⟩) m3 _ _).trans k6, (cell2_other (a := ⟨b0, _, none⟩) m3 _ _).trans k7, (cell2_other (a := ⟨b0, _, none⟩) m3 _ _).trans k8, (cell2_other (a := ⟨b0, _, none⟩) m3 _ _).trans k9⟩
set_option maxHeartbeats 4000000 in
set_option maxRecDepth 100000 in
theorem look_any (l : List Class) (B : Nat) (ws w0 : World) (hm : WorldMap ws w0 B l) (m : Method) (cls gives : Str) (start : Frm) (pc ph : Option Addr) (kc kh : Nat) (hs : List Value)
    (hhs : hs = [.map (some B), .string m.name, .string m.type, .bool m.static, .bool m.abs, .bool m.priv, .int .i64 m.locals, .slice pc m.code.length kc, .slice ph m.handlers.length kh])
    (hcv : SliceOf w0 6 InsCells (.slice pc m.code.length kc) m.code) (hhv : SliceOf w0 4 HandlerCells (.slice ph m.handlers.length kh) m.handlers) (hc : codeFault m.code = 0) (hh : handlersFault m.handlers m.code.length = 0) (hio : ∀ x ∈ m.code, InsOk x) (hcs : cls.size ≤ maxLen) (hgs : gives.size ≤ maxLen)
    (H : (checkW (allC l) cls gives m start).Good) (w : World) (kb mb : Nat) (tv : Value) (F : Asg Frm) (T : List Nat) (h : LK w0 w kb mb hs tv F T) (hok : (checkW (allC l) cls gives m start).Oks F) (hT : (checkW (allC l) cls gives m start).weight F + T.length ≤ 900000) (i : Nat) (f : Frm) (hFi : F i = some f) :
    Calls Tryz.prog 108 #[.pointer (some ⟨kb, 0, none⟩), .string cls, .string gives, .int .i64 (i : Int)] w (LookedAt w0 w kb mb hs tv ((checkW (allC l) cls gives m start).look (F, T) i f)) := by
  have HA : Hid (∀ (wx : World) (o : Obj), Below wx.heap.size wx (wx.alloc o)) := fun wx o => (Below.refl _ _).alloc (Nat.le_refl _) o
  obtain ⟨hin, hfr⟩ := hok i f hFi
  have hin : i < m.code.length := hin
  have hCo := codeOk_of hc
  have hHo := handlersOk_of hh
  have hi : i ≤ 64 := by have := hCo.small; omega
  obtain ⟨lv, sv, hlv, hlk⟩ := h.map.look hi
  rw [hFi] at hlv hlk
  dsimp only at hlv
  have L1 := hlk w false rfl
  rw [intV] at L1
  have c9 := h.cell9
  obtain ⟨⟨p1, n1, rfl, _⟩, ⟨p2, n2, rfl, _⟩⟩ := And.intro hlv.1.open hlv.2.open
  have K1 := h.step (HA.out w (.cells #[.slice p1 f.locals.length n1, .slice p2 f.stack.length n2] 27))
  have k1 := Blk.new w 27 [.slice p1 f.locals.length n1, .slice p2 f.stack.length n2]
  have hf1 := hlv.mono (HA.out w (.cells #[.slice p1 f.locals.length n1, .slice p2 f.stack.length n2] 27))
  have P1 := Kept.below (HA.out w (.cells #[.slice p1 f.locals.length n1, .slice p2 f.stack.length n2] 27)) kb mb tv
  have d8 := K1.cellh (i := 8) (v := .slice ph m.handlers.length kh) (by rw [hhs]; rfl)
  rw [look_parts]
  generalize hW : checkW (allC l) cls gives m start = W at *
  have HWn : Hid (W.n = m.code.length) := by rw [← hW]; exact rfl
  have HWok : Hid (∀ g, W.ok g = (frameR (allC l) g = 0)) := by rw [← hW]; exact fun _ => rfl
  obtain ⟨R1, hR1⟩ : ∃ R, handS W (allC l) i f (F, T) m.handlers = R := ⟨_, rfl⟩
  rw [hR1]
  have HR1 := Lib.hid hR1
  have Hh8 := Lib.hid (show ∀ x : World, ∀ h : LK w0 x kb mb hs tv F T, True from fun _ _ => trivial)
  obtain ⟨w1, hw1⟩ : ∃ w1, w1 = w.alloc (.cells #[.slice p1 f.locals.length n1, .slice p2 f.stack.length n2] 27) := ⟨_, rfl⟩
  rw [← hw1] at K1 k1 hf1 P1 d8
  have HW1 := Lib.hid hw1.symm
  have HRl := Lib.hid hm.right
  have HK1 := Lib.hid K1
  have Hk1 := Lib.hid k1
  have Hf1 := Lib.hid hf1
  have HP1 := Lib.hid P1
  have HH := Lib.hid H
  have HHo := Lib.hid hHo
  have HCo := Lib.hid hCo
  have Hok := Lib.hid hok
  have HT := Lib.hid hT
  have Hfr : Hid (frameR (allC l) f = 0) := by rw [← HWok.out]; exact hfr
  have Hio := Lib.hid hio
  have Hcv := Lib.hid hcv
  obtain ⟨ph', kh', e, hl1, hl2, hcc⟩ := hhv.open
  injection e with e1 _ e2
  subst e1 e2
  have Hhv := Lib.hid hcc
  have hlen8 := hHo.1
  have Hhs := Lib.hid hhs
  have HNf := Lib.hid (h.fresh (Nat.le_refl _))
  have HSz := Lib.hid h.size
  have Hm := Lib.hid hm
  have HWe := Lib.hid hW
  clear hcc hl1 hl2 hR1 hw1 K1 k1 hf1 P1 H hHo hCo hok hT hfr hio hcv hhv hm hlv h hW hh hc hlk Hh8
  go_enter Tryz.func108, Tryz.ntmps108
  go_upto_region 2 with (first | fail)
  rw [HW1.out]
  go_wp2_with (first | fail)
  clear L1 c9
  go_loopw [30] (fun x wr => ∃ (j : Nat) (s : Asg Frm × List Nat) (tw : Value), j ≤ m.handlers.length ∧ x = .int .i64 j ∧ Hid (LK w0 wr kb mb hs tw s.1 s.2) ∧ Hid (Kept w1 wr kb mb tv tw) ∧ Hid (W.Met (F, T) s) ∧ Hid (handS W (allC l) i f s (m.handlers.drop j) = R1)) (fun x _ => m.handlers.length - (intOf x).toNat)
  case atStart => exact ⟨0, (F, T), tv, Nat.zero_le _, rfl, HK1.out, Kept.refl _ _ _ _, met_refl HH.out Hok.out, HR1.out⟩
  case round =>
    obtain ⟨j, s, tw, hj, rfl, hK, hP, hM, hR⟩ := hrel
    clear d8
    have hk := hP.out.blk Hk1.out HNf.out.1 HNf.out.2.1 HNf.out.2.2
    have hfw : FrameAt wr (.slice p1 f.locals.length n1) (.slice p2 f.stack.length n2) f := Hf1.out.keepS hP.out.texts
    by_cases hjl : j < m.handlers.length
    · obtain ⟨x, hx⟩ : ∃ x, m.handlers[j]? = some x := ⟨m.handlers[j], by simp [hjl]⟩
      obtain ⟨b0, o, vs, rfl, hxv, hvl, hcells⟩ := Hhv.out j x hx
      unfold HandlerCells at hxv
      subst hxv
      have hcells := hcells.mono hK.out.below hcells.lt
      have hstep := handS_drop W (allC l) i f s hx
      rw [hR.out] at hstep
      obtain ⟨ho1, ho2, ho3, ho4, ho5⟩ := HHo.out.2 x (List.mem_of_getElem? hx)
      obtain ⟨lo, hi', dest, hcls⟩ := x
      dsimp only at hstep ho1 ho2 ho3 ho4 ho5
      obtain ⟨d, rfl⟩ := Int.eq_ofNat_of_zero_le ho3
      obtain ⟨c0, c1, c2, c3, _⟩ := hcells
      clear hx
      by_cases hrg : lo ≤ (i : Int) ∧ (i : Int) < hi'
      · rw [if_pos hrg] at hstep
        obtain ⟨i1, i2⟩ := hrg
        have B2 : Below wr.heap.size wr (wr.alloc (.cells #[.int .i64 lo, .int .i64 hi', .int .i64 (d : Int), .string hcls] 126)) := (Below.refl _ _).alloc (Nat.le_refl _) _
        have hb2 := Blk.new wr 126 [.int .i64 lo, .int .i64 hi', .int .i64 (d : Int), .string hcls]
        obtain ⟨w2, hw2⟩ : ∃ w2, w2 = wr.alloc (.cells #[.int .i64 lo, .int .i64 hi', .int .i64 (d : Int), .string hcls] 126) := ⟨_, rfl⟩
        rw [← hw2] at B2 hb2
        have HW2 := Lib.hid hw2.symm
        clear hw2
        have HK2 := Lib.hid (hK.out.step B2)
        have k2 := hk.step B2
        have Hf2 := Lib.hid (hfw.mono B2)
        have HP2 := Lib.hid (hP.out.trans (Kept.below B2 kb mb tw))
        have d0 := HK2.out.cellh (i := 0) (v := .map (some B)) (by rw [hhs]; rfl)
        have a0 := k2.cell 0
        have a1 := k2.cell 1
        have b0 := hb2.cell 0
        have b1 := hb2.cell 1
        have b2 := hb2.cell 2
        have b3 := hb2.cell 3
        have k2' := k2.step (HA.out w2 (.cells #[.slice none 0 0, .slice none 0 0] 27))
        have hb2' := hb2.step (HA.out w2 (.cells #[.slice none 0 0, .slice none 0 0] 27))
        have d0' := (HK2.out.step (HA.out w2 (.cells #[.slice none 0 0, .slice none 0 0] 27))).cellh (i := 0) (v := .map (some B)) (by rw [hhs]; rfl)
        have a0' := k2'.cell 0
        have a1' := k2'.cell 1
        have b0' := hb2'.cell 0
        have b1' := hb2'.cell 1
        have b2' := hb2'.cell 2
        have b3' := hb2'.cell 3
        have Hk2 := Lib.hid k2
        have Hb2 := Lib.hid hb2
        have K9 := (Blk.new w2 27 [.slice none 0 0, .slice none 0 0]).step ((Below.refl _ _).drew)
        have HCa : Hid (∀ wx, Below w2.heap.size w2 wx → _) := fun wx hb => caughtF_any ws wx B l (Hm.out.step (Below.mono ((HK2.out.step hb).below) (Nat.le_refl _))) lo hi' (d : Int) hcls (.slice p1 f.locals.length n1) (.slice p2 f.stack.length n2) ⟨_, _, _, rfl⟩ (Nat.le_trans (name_small ho5) (by decide))
        clear hk hfw hK hP k2 k2' hb2 hb2' B2
        cases hfb : faultB (allC l) hcls with
        | true =>
          rw [hfb] at HCa
          rw [hfb, if_pos rfl] at hstep
          unfold CaughtPost at HCa
          have HFb := Lib.hid hfb
          have hst := Lib.hid hstep
          clear hfb hstep
          go_upto_region 6 with (first | fail)
          rw [HW2.out]
          clear c0 c1 c2 c3
          go_cut [12, 13] from 31 to 64 (fun p b wx => b = .bool true ∧ GotAt w2 wx ⟨f.locals, [thText hcls]⟩ p)
          case first =>
            go_region_law (first
              | (go_simp; go_at_call 149; (with_reducible refine (HCa.out _ ((Below.refl _ _).drew)).mono ?_); rintro e w3 ⟨hB3, ⟨_, p4, n4, c4, rfl, hs4, _⟩ | ⟨hz, _⟩⟩; rotate_left; (exact absurd hz (by decide)))
              | (go_simp; go_at_call 149; (with_reducible refine (HCa.out _ ((HA.out _ _).drew)).mono ?_); rintro e w3 ⟨hB3, ⟨_, p4, n4, c4, rfl, hs4, _⟩ | ⟨hz, _⟩⟩; rotate_left; (exact absurd hz (by decide)); (have K10 := K9.step hB3); (have x0 := K10.cell 0); (have x1 := K10.cell 1); (have y0 := K10.frozen 0); (have y1 := K10.frozen 1)))
            all_goals (go_wp2_with (first | fail); go_meet; first
              | exact ⟨rfl, GotAt.late (below_call ((Below.refl _ _).drew) (Nat.le_refl _) hB3) ⟨(Hf2.out.mono (below_call ((Below.refl _ _).drew) (Nat.le_refl _) hB3)).1, hs4⟩⟩
              | exact ⟨rfl, GotAt.early (below_call ((Below.refl _ _).drew) (Nat.le_refl _) hB3) ⟨(Hf2.out.mono (below_call (((Below.refl _ _).alloc (Nat.le_refl _) _).drew) (Nat.le_refl _) hB3)).1, hs4⟩⟩)
          case rest =>
            obtain ⟨rfl, nb, v1, v2, rfl, hnb, Kb, hBw, hFv⟩ := hcut
            clear d0 a0 a1 b0 b1 b2 b3 d0' a0' a1' b0' b1' b2' b3' K9 HCa
            have hdn : d < m.code.length := by have := ho4; omega
            have hd64 : d ≤ 64 := by have := HCo.out.small; omega
            have hfr2 := fault_frame Hfr.out HFb.out
            have HMt := (meet_any l B ws w0 Hm.out wc kb mb hs tw s.1 s.2 (HK2.out.step hBw) (by rw [hhs]; rfl) d hd64 ⟨f.locals, [thText hcls]⟩ v1 v2 hFv (frm_short hfr2) hfr2 (fun k g e => by have := (hM.out.oks k g e).2; rw [HWok.out] at this; exact ⟨frm_short this, this⟩) (by have h1 : W.weight s.1 + s.2.length ≤ W.weight F + T.length := hM.out.weight; have h2 := HT.out; omega)).mono (fun e w' hp => (meet_looked (cls := cls) (gives := gives) (m := m) (start := start) hp))
            rw [HWe.out] at HMt
            have HP3 := Lib.hid (HP2.out.trans (Kept.below hBw kb mb tw))
            have b23 := (Hb2.out.step hBw).cell 2
            have g0 := Kb.cell 0
            have g1 := Kb.cell 1
            have HMT : Hid (∀ s', W.meetT s (d, ⟨f.locals, [thText hcls]⟩) = some s' → W.Met (F, T) s') := fun s' e => hM.out.trans HH.out Hok.out (Ways.meetT_yes HH.out hM.out.oks (by rw [HWn.out]; exact hdn) (by rw [HWok.out]; exact hfr2) e).1
            have hst2 : R1 = (W.meetT s (d, ⟨f.locals, [thText hcls]⟩)).bind fun s' => handS W (allC l) i f s' (m.handlers.drop (j + 1)) := hst.out
            replace HMt : Calls _ _ _ _ (LookedAt w0 wc kb mb hs tw (W.meetT s (d, ⟨f.locals, [thText hcls]⟩))) := HMt
            clear hst
            cases hmt : W.meetT s (d, ⟨f.locals, [thText hcls]⟩) with
            | none =>
              rw [hmt] at HMt hst2
              have hR0 : Hid (R1 = none) := hst2
              have HMt := Lib.hid HMt
              unfold LookedAt at HMt
              clear hst2 hmt HMT
              go_wp2_with (go_at_call 107; (with_reducible refine (HMt.out).mono ?_); rintro e w5 ⟨rfl, hB5⟩)
              go_ret
              rw [hR0.out]
              exact ⟨rfl, hB5⟩
            | some s' =>
              rw [hmt] at HMt hst2
              have hst2 := Lib.hid (show handS W (allC l) i f s' (m.handlers.drop (j + 1)) = R1 from hst2.symm)
              have hM' := Lib.hid (HMT.out s' hmt)
              have HMt := Lib.hid HMt
              unfold LookedAt at HMt
              clear hmt HMT
              go_wp2_with (go_at_call 107; (with_reducible refine (HMt.out).mono ?_); rintro e w5 ⟨rfl, tw', K5, P5⟩)
              go_roundw
              case rel =>
                exact ⟨j + 1, s', tw', by omega, by simp, K5, HP3.out.trans P5, hM', hst2⟩
              case measure => simp [intOf]; omega
        | false =>
          rw [hfb] at HCa
          rw [hfb, if_neg (by decide)] at hstep
          unfold CaughtPost at HCa
          have hR0 : Hid (R1 = none) := hstep
          clear hfb hstep
          go_upto_region 6 with (first | fail)
          rw [HW2.out]
          clear c0 c1 c2 c3
          go_cut [12, 13] from 31 to 64 (fun _ b wx => b = .bool false ∧ Below w0.heap.size w0 wx)
          case first =>
            go_region_law (first
              | (go_simp; go_at_call 149; (with_reducible refine (HCa.out _ ((Below.refl _ _).drew)).mono ?_); rintro e w3 ⟨hB3, ⟨hz, _⟩ | ⟨_, rfl⟩⟩; (exact absurd hz (by decide)))
              | (go_simp; go_at_call 149; (with_reducible refine (HCa.out _ ((HA.out _ _).drew)).mono ?_); rintro e w3 ⟨hB3, ⟨hz, _⟩ | ⟨_, rfl⟩⟩; (exact absurd hz (by decide)); (have K10 := K9.step hB3); (have x0 := K10.cell 0); (have x1 := K10.cell 1); (have y0 := K10.frozen 0); (have y1 := K10.frozen 1)))
            all_goals (go_wp2_with (first | fail); go_meet; first
              | exact ⟨rfl, (below_call HK2.out.below (Nat.le_refl _) (below_call ((Below.refl _ _).drew) (Nat.le_refl _) hB3)).alloc (Nat.le_trans HK2.out.size hB3.size) _⟩
              | exact ⟨rfl, ((below_call HK2.out.below (Nat.le_refl _) (below_call (w := w2) (((Below.refl _ _).alloc (Nat.le_refl _) _).drew) (Nat.le_refl _) hB3)).setCell HK2.out.size _).setCell HK2.out.size _⟩)
          case rest =>
            obtain ⟨rfl, hB⟩ := hcut
            clear d0 a0 a1 b0 b1 b2 b3 d0' a0' a1' b0' b1' b2' b3' K9 HCa
            go_wp2_with (first | fail)
            go_ret
            rw [hR0.out]
            exact ⟨rfl, hB⟩
      · rw [if_neg hrg] at hstep
        have HI := Lib.hid hrg
        have hst := Lib.hid hstep.symm
        clear hrg hstep
        go_wp2_with (first | fail)
        all_goals first | (exfalso; have := HI.out; omega) | skip
        all_goals
          go_roundw
          case rel => exact ⟨j + 1, s, tw, by omega, by simp, hK.out.step ((Below.refl _ _).alloc (Nat.le_refl _) _), hP.out.trans (Kept.below ((Below.refl _ _).alloc (Nat.le_refl _) _) _ _ _), hM, hst.out⟩
          case measure => simp [intOf]; omega
    · obtain rfl : j = m.handlers.length := by omega
      have hRs : R1 = some s := by
        have := hR.out
        rw [List.drop_length] at this
        exact this.symm
      subst hRs
      have hic : i < m.code.length := by rw [← HWn.out]; exact hin
      obtain ⟨x, hx⟩ : ∃ x, m.code[i]? = some x := ⟨m.code[i], by simp [hic]⟩
      have hxm := List.mem_of_getElem? hx
      have HQ : Hid (((stepEdges (allC l) cls gives m.code i f).bind fun b => W.meets s b) = (stepF (allC l) cls gives x f.locals f.stack).bind fun p => W.meets s ((nextL x i).map fun k => (k, ⟨p.1, p.2⟩))) := by
        unfold Hid stepEdges
        rw [hx]
        dsimp only
        cases stepF (allC l) cls gives x f.locals f.stack <;> rfl
      obtain ⟨b0, o, cap, vs, e, hxv, hvl, hcells⟩ := Hcv.out.at hic
      injection e with e1 _ e2
      subst e1 e2
      rw [show m.code[i] = x from Option.some.inj ((List.getElem?_eq_getElem hic).symm.trans hx)] at hxv
      unfold InsCells at hxv
      subst hxv
      have hcells := hcells.mono hK.out.below hcells.lt
      have hz := Hfr.out
      have Hxo := Lib.hid (And.intro (Hio.out x hxm) (HCo.out.ins x hxm))
      have Hxj := Lib.hid (HCo.out.jumps x hxm)
      have HSt : Hid (∀ L S, stepF (allC l) cls gives x f.locals f.stack = some (L, S) → frameR (allC l) ⟨L, S⟩ = 0) := fun L S e => step_frame HRl.out (HCo.out.ins x hxm) Hfr.out e
      have Hnx : Hid (∀ k ∈ nextL x i, k < m.code.length) := nextL_in HCo.out hx
      have HAf : Hid (∀ wx, Below wr.heap.size wr wx → _) := fun wx hb => after_any ws wx B l (Hm.out.step (Below.mono ((hK.out.step hb).below) (Nat.le_refl _))) cls gives x f (.slice p1 f.locals.length n1) (.slice p2 f.stack.length n2) (hfw.mono hb) Hfr.out Hxo.out.1 (insFault_place Hxo.out.2) hcs hgs
      have Hx := Lib.hid hx
      clear hx hxm hz
      obtain ⟨op, xa, xb, type, xcls, name⟩ := x
      obtain ⟨c0, c1, c2, c3, c4, c5, _⟩ := hcells
      have HS : Hid (∀ wx, Below wr.heap.size wr wx → LookS wx kb B w.heap.size b0 (o + i * 6) (.slice (some ⟨b0, o, none⟩) m.code.length kc) (.slice p1 f.locals.length n1) (.slice p2 f.stack.length n2) ⟨op, xa, xb, type, xcls, name⟩) :=
        fun wx hb => LookS.step ⟨hK.out.cellh (i := 0) (v := .map (some B)) (by rw [hhs]; rfl), hK.out.cellh (i := 7) (v := .slice (some ⟨b0, o, none⟩) m.code.length kc) (by rw [hhs]; rfl), hk.cell 0, hk.cell 1, c0, c1, c2, c3, c4, c5⟩ hb
      have HLt : Hid (kb < wr.heap.size ∧ w.heap.size < wr.heap.size ∧ b0 < wr.heap.size) := ⟨hK.out.box.lt, hk.lt, cell_lt c0⟩
      obtain ⟨k0, k1, k2, k3, k4, k5, k6, k7, k8, k9⟩ := HS.out wr (Below.refl _ _)
      clear c0 c1 c2 c3 c4 c5
      clear hk hfw
      unfold AfterPost insV at HAf
      dsimp only at HAf HQ HSt Hxj Hnx
      have HL64 : Hid (m.code.length ≤ 40) := HCo.out.small
      have hicI : (i : Int) < (m.code.length : Int) := by omega
      cases hst : stepF (allC l) cls gives ⟨op, xa, xb, type, xcls, name⟩ f.locals f.stack with
      | none =>
        rw [hst] at HAf HQ
        replace HAf : Hid (∀ wx, Below wr.heap.size wr wx → Calls _ _ _ wx fun e w' => e = _ ∧ Below wx.heap.size wx w' ∧ LookS w' kb B w.heap.size b0 (o + i * 6) (.slice (some ⟨b0, o, none⟩) m.code.length kc) (.slice p1 f.locals.length n1) (.slice p2 f.stack.length n2) ⟨op, xa, xb, type, xcls, name⟩) := fun wx hb => (HAf.out wx hb).mono fun e w' ⟨hB, he⟩ => ⟨he, hB, HS.out w' (below_call hb (Nat.le_refl _) hB)⟩
        clear hst
        go_upto_region 10 with (first | fail)
        go_cut [14, 15] (fun _ b wx => b = .bool false ∧ Below w0.heap.size w0 wx)
        case first =>
          go_region_held3 (fun w' => w'.cell? ⟨kb, 0, none⟩ = some (.map (some B)) ∧ w'.cell? ⟨kb, 7, none⟩ = some (.slice (some ⟨b0, o, none⟩) m.code.length kc) ∧ w'.cell? ⟨w.heap.size, 0, none⟩ = some (.slice p1 f.locals.length n1) ∧ w'.cell? ⟨w.heap.size, 1, none⟩ = some (.slice p2 f.stack.length n2) ∧ w'.cell? ⟨b0, o + i * 6, none⟩ = some (.int .i64 op) ∧ w'.cell? ⟨b0, o + i * 6 + 1, none⟩ = some (.int .i64 xa) ∧ w'.cell? ⟨b0, o + i * 6 + 1 + 1, none⟩ = some (.int .i64 xb) ∧ w'.cell? ⟨b0, o + i * 6 + 1 + 1 + 1, none⟩ = some (.string type) ∧ w'.cell? ⟨b0, o + i * 6 + 1 + 1 + 1 + 1, none⟩ = some (.string xcls) ∧ w'.cell? ⟨b0, o + i * 6 + 1 + 1 + 1 + 1 + 1, none⟩ = some (.string name))
            (first | go_keep | exact LookS.other (x := ⟨op, xa, xb, type, xcls, name⟩) ⟨k0, k1, k2, k3, k4, k5, k6, k7, k8, k9⟩ HLt.out.1 HLt.out.2.1 HLt.out.2.2 _ _)
            (first
              | (go_at_call 54; (with_reducible refine (HAf.out _ ?_).mono ?_); (first | exact (Below.refl _ _).drew | exact ((Below.refl _ _).alloc (Nat.le_refl _) _).drew); rintro e w3 ⟨rfl, hB3, k0, k1, k2, k3, k4, k5, k6, k7, k8, k9⟩; (first | (have KB : Blk w3 wr.heap.size 27 [.slice none 0 0, .slice none 0 0] := Blk.step (w := (wr.alloc (.cells #[.slice none 0 0, .slice none 0 0] 27)).drew) (Blk.new wr 27 [.slice none 0 0, .slice none 0 0]) hB3; obtain ⟨x0, x1⟩ := KB.cells2; (have f0 := KB.frozen 0); (have f1 := KB.frozen 1)) | skip)))
          all_goals (go_wp2_with (first | fail); go_meet; first
            | exact ⟨rfl, (below_call hK.out.below (Nat.le_refl _) (below_call ((Below.refl _ _).drew) (Nat.le_refl _) hB3)).alloc (Nat.le_trans hK.out.size hB3.size) _⟩
            | exact ⟨rfl, ((below_call hK.out.below (Nat.le_refl _) (below_call (w := wr) (((Below.refl _ _).alloc (Nat.le_refl _) _).drew) (Nat.le_refl _) hB3)).setCell hK.out.size _).setCell hK.out.size _⟩)
        case rest =>
          obtain ⟨rfl, hB⟩ := hcut
          clear k0 k1 k2 k3 k4 k5 k6 k7 k8 k9 HAf
          go_wp2_with (first | fail)
          go_ret
          (try rw [Option.bind_some])
          rw [HQ.out]
          exact ⟨rfl, hB⟩
      | some r =>
        obtain ⟨L, S⟩ := r
        rw [hst] at HAf HQ
        dsimp only at HAf
        replace HAf : Hid (∀ wx, Below wr.heap.size wr wx → Calls _ _ _ wx fun e w' => (∃ lv sv, e = .returned (.tuple #[.agg #[lv, sv], .bool true]) ∧ FrameAt w' lv sv ⟨L, S⟩) ∧ Below wx.heap.size wx w' ∧ LookS w' kb B w.heap.size b0 (o + i * 6) (.slice (some ⟨b0, o, none⟩) m.code.length kc) (.slice p1 f.locals.length n1) (.slice p2 f.stack.length n2) ⟨op, xa, xb, type, xcls, name⟩) := fun wx hb => (HAf.out wx hb).mono fun e w' ⟨hB, he⟩ => ⟨he, hB, HS.out w' (below_call hb (Nat.le_refl _) hB)⟩
        have hfr2 := HSt.out L S hst
        have HQ2 : Hid (((stepEdges (allC l) cls gives m.code i f).bind fun b => W.meets s b) = W.meets s ((nextL ⟨op, xa, xb, type, xcls, name⟩ i).map fun k => (k, ⟨L, S⟩))) := HQ.out
        clear hst HQ HSt
        have hNl := nextL_len ⟨op, xa, xb, type, xcls, name⟩ i
        generalize hNe : nextL ⟨op, xa, xb, type, xcls, name⟩ i = N at *
        have HNe := Lib.hid hNe
        clear hNe
        go_upto_region 10 with (first | fail)
        go_cut [14, 15] (fun p b wx => b = .bool true ∧ GotAt wr wx ⟨L, S⟩ p)
        case first =>
          go_region_held3 (fun w' => w'.cell? ⟨kb, 0, none⟩ = some (.map (some B)) ∧ w'.cell? ⟨kb, 7, none⟩ = some (.slice (some ⟨b0, o, none⟩) m.code.length kc) ∧ w'.cell? ⟨w.heap.size, 0, none⟩ = some (.slice p1 f.locals.length n1) ∧ w'.cell? ⟨w.heap.size, 1, none⟩ = some (.slice p2 f.stack.length n2) ∧ w'.cell? ⟨b0, o + i * 6, none⟩ = some (.int .i64 op) ∧ w'.cell? ⟨b0, o + i * 6 + 1, none⟩ = some (.int .i64 xa) ∧ w'.cell? ⟨b0, o + i * 6 + 1 + 1, none⟩ = some (.int .i64 xb) ∧ w'.cell? ⟨b0, o + i * 6 + 1 + 1 + 1, none⟩ = some (.string type) ∧ w'.cell? ⟨b0, o + i * 6 + 1 + 1 + 1 + 1, none⟩ = some (.string xcls) ∧ w'.cell? ⟨b0, o + i * 6 + 1 + 1 + 1 + 1 + 1, none⟩ = some (.string name))
            (first | go_keep | exact LookS.other (x := ⟨op, xa, xb, type, xcls, name⟩) ⟨k0, k1, k2, k3, k4, k5, k6, k7, k8, k9⟩ HLt.out.1 HLt.out.2.1 HLt.out.2.2 _ _)
            (first
              | (go_at_call 54; (with_reducible refine (HAf.out _ ?_).mono ?_); (first | exact (Below.refl _ _).drew | exact ((Below.refl _ _).alloc (Nat.le_refl _) _).drew); rintro e w3 ⟨⟨lv3, sv3, rfl, hv3⟩, hB3, k0, k1, k2, k3, k4, k5, k6, k7, k8, k9⟩; obtain ⟨⟨p3, n3, rfl, _⟩, ⟨p4, n4, rfl, _⟩⟩ := And.intro hv3.1.open hv3.2.open; (first | (have KB : Blk w3 wr.heap.size 27 [.slice none 0 0, .slice none 0 0] := Blk.step (w := (wr.alloc (.cells #[.slice none 0 0, .slice none 0 0] 27)).drew) (Blk.new wr 27 [.slice none 0 0, .slice none 0 0]) hB3; obtain ⟨x0, x1⟩ := KB.cells2; (have f0 := KB.frozen 0); (have f1 := KB.frozen 1)) | skip)))
          all_goals (go_wp2_with (first | fail); go_meet; first
            | exact ⟨rfl, GotAt.late (below_call ((Below.refl _ _).drew) (Nat.le_refl _) hB3) hv3⟩
            | exact ⟨rfl, GotAt.early (below_call ((Below.refl _ _).drew) (Nat.le_refl _) hB3) hv3⟩)
        case rest =>
          obtain ⟨rfl, nb, v1, v2, rfl, hnb, Kb, hBw, hFv⟩ := hcut
          clear k0 k1 k2 k3 k4 k5 k6 k7 k8 k9 HAf
          have KC := hK.out.step hBw
          have d7 := KC.cellh (i := 7) (v := .slice (some ⟨b0, o, none⟩) m.code.length kc) (by rw [hhs]; rfl)
          have HFA : Hid (Calls _ _ _ wc _) := flowAfter_any m.code (.slice (some ⟨b0, o, none⟩) m.code.length kc) wc (Hcv.out.mono KC.below (by decide) (fun _ _ h => h)) i ⟨op, xa, xb, type, xcls, name⟩ Hx.out hi (fun hj => (Hxj.out hj).1)
          rw [HNe.out] at HFA
          have HKC := Lib.hid KC
          have HKb := Lib.hid Kb
          have HBw := Lib.hid hBw
          have HFv := Lib.hid hFv
          have Hnb := Lib.hid hnb
          have Hfr2 := Lib.hid hfr2
          clear KC Kb hBw hFv hnb hfr2
          go_wp2_with (go_at_call 150; (with_reducible refine (HFA.out).mono ?_); rintro e w6 ⟨v6, rfl, hB6, hq6⟩; obtain ⟨a6, c6, rfl⟩ := que_shape hq6)
          obtain ⟨g6, _, g6b, g6c⟩ := que_nth hq6
          have HB6 := Lib.hid hB6
          have HG6 := Lib.hid g6c
          obtain ⟨R2, hR2⟩ : ∃ R, W.meets s (N.map fun k => (k, (⟨L, S⟩ : Frm))) = R := ⟨_, rfl⟩
          have HQ3 : Hid (((stepEdges (allC l) cls gives m.code i f).bind fun b => W.meets s b) = R2) := HQ2.out.trans hR2
          clear d7 HFA hq6 g6c hB6 HQ2
          go_loopw [94] (fun x wy => ∃ (j : Nat) (s2 : Asg Frm × List Nat) (tw2 : Value), j ≤ N.length ∧ x = .int .i64 j ∧ Hid (LK w0 wy kb mb _ tw2 s2.1 s2.2) ∧ Hid (Kept w6 wy kb mb tw tw2) ∧ Hid (W.Met (F, T) s2) ∧ Hid (W.meets s2 ((N.drop j).map fun k => (k, (⟨L, S⟩ : Frm))) = R2)) (fun x _ => N.length - (intOf x).toNat)
          case atStart => exact ⟨0, s, tw, Nat.zero_le _, rfl, HKC.out.step HB6.out, Kept.refl _ _ _ _, hM, hR2⟩
          case round =>
            obtain ⟨j, s2, tw2, hj, rfl, hK2, hP2, hM2, hR2⟩ := hrel
            by_cases hjl : j < N.length
            · obtain ⟨k, hk⟩ : ∃ k, N[j]? = some k := ⟨N[j], by simp [hjl]⟩
              obtain ⟨off, cap, e, hc⟩ := HG6.out j k hk
              injection e with e1 _ e2
              subst e1 e2
              have hf6 := HKC.out.fresh g6b
              have hc2 : wr.cell? ⟨g6, off + j, none⟩ = some (.int .i64 (k : Int)) := (World.cell?_of_block (hP2.out.block g6 (cell_lt hc) hf6.1 hf6.2.1 hf6.2.2)).trans hc
              have hc2' : wr.cell? ⟨g6, off + j * 1, none⟩ = some (.int .i64 (k : Int)) := by rw [Nat.mul_one]; exact hc2
              have hfn := hK.out.fresh Hnb.out
              have Kb6 := hP2.out.blk (HKb.out.step HB6.out) hfn.1 hfn.2.1 hfn.2.2
              have g0 := Kb6.cell 0
              have g1 := Kb6.cell 1
              have hkn := Hnx.out k (List.mem_of_getElem? hk)
              have hk64 : k ≤ 64 := by have := HL64.out; omega
              have hstep : W.meets s2 ((N.drop j).map fun k => (k, (⟨L, S⟩ : Frm))) = (W.meetT s2 (k, ⟨L, S⟩)).bind fun s' => W.meets s' ((N.drop (j + 1)).map fun k => (k, (⟨L, S⟩ : Frm))) := by
                obtain ⟨hk2, rfl⟩ := List.getElem?_eq_some_iff.1 hk
                rw [List.drop_eq_getElem_cons hk2]
                rfl
              rw [hR2.out] at hstep
              have HMt := (meet_any l B ws w0 Hm.out wr kb mb _ tw2 s2.1 s2.2 hK2.out (by rw [Hhs.out]; rfl) k hk64 ⟨L, S⟩ v1 v2 ((HFv.out.mono HB6.out).keepS hP2.out.texts) (frm_short Hfr2.out) Hfr2.out (fun k g e => by have := (hM2.out.oks k g e).2; rw [HWok.out] at this; exact ⟨frm_short this, this⟩) (by have h1 : W.weight s2.1 + s2.2.length ≤ W.weight F + T.length := hM2.out.weight; have h2 := HT.out; omega)).mono (fun e w' hp => (meet_looked (cls := cls) (gives := gives) (m := m) (start := start) hp))
              rw [HWe.out] at HMt
              replace HMt : Calls _ _ _ _ (LookedAt w0 wr kb mb _ tw2 (W.meetT s2 (k, ⟨L, S⟩))) := HMt
              have HMT : Hid (∀ s', W.meetT s2 (k, ⟨L, S⟩) = some s' → W.Met (F, T) s') := fun s' e => hM2.out.trans HH.out Hok.out (Ways.meetT_yes HH.out hM2.out.oks (by rw [HWn.out]; exact hkn) (by rw [HWok.out]; exact Hfr2.out) e).1
              clear hk hf6 hc hfn Kb6 hkn
              cases hmt : W.meetT s2 (k, ⟨L, S⟩) with
              | none =>
                rw [hmt] at HMt hstep
                have hR0 : Hid (R2 = none) := hstep
                have HMt := Lib.hid HMt
                unfold LookedAt at HMt
                clear hstep hmt HMT
                go_wp2_with (go_at_call 107; (with_reducible refine (HMt.out).mono ?_); rintro e w7 ⟨rfl, hB7⟩)
                go_ret
                (try rw [Option.bind_some])
                rw [HQ3.out, hR0.out]
                exact ⟨rfl, hB7⟩
              | some s' =>
                rw [hmt] at HMt hstep
                have hst2 := Lib.hid (show W.meets s' ((N.drop (j + 1)).map fun k => (k, (⟨L, S⟩ : Frm))) = R2 from hstep.symm)
                have hM' := Lib.hid (HMT.out s' hmt)
                have HMt := Lib.hid HMt
                unfold LookedAt at HMt
                clear hmt HMT hstep
                go_wp2_with (go_at_call 107; (with_reducible refine (HMt.out).mono ?_); rintro e w7 ⟨rfl, tw', K7, P7⟩)
                go_roundw
                case rel => exact ⟨j + 1, s', tw', by omega, by simp, K7, hP2.out.trans P7, hM', hst2⟩
                case measure => simp [intOf]; omega
            · obtain rfl : j = N.length := by omega
              have hRs : Hid (R2 = some s2) := by
                have := hR2.out
                rw [List.drop_length] at this
                exact this.symm
              go_wp2_with (first | fail)
              go_ret
              (try rw [Option.bind_some])
              rw [HQ3.out, hRs.out]
              exact ⟨rfl, tw2, hK2.out, (HP1.out.trans hP.out).trans (((Kept.below (below_call HBw.out (Nat.le_refl _) HB6.out) kb mb tw)).trans hP2.out)⟩
end Go.Proofs.YtlmfmioljeppfaaGreatDoor
