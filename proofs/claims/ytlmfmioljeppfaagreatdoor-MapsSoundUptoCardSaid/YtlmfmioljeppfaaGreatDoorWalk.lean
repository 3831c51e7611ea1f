/-
  WALK over (*walker).walk. Conditions: a world that was read, a right method, right maps. DRAFT.
-/
import Derived.Test.YtlmfmioljeppfaaGreatDoorCaughtM
import Derived.Test.YtlmfmioljeppfaaGreatDoorLooked
import Derived.Test.YtlmfmioljeppfaaGreatDoorAcceptLaw
namespace Go.Proofs.YtlmfmioljeppfaaGreatDoor
open Go.RowKit Go.Shelf Go.Lib
theorem WK.other {w : World} {kb mb : Nat} {hs : List Value} {M : Asg Frm} (h : WK w kb mb hs M) {b j : Nat} {t : TypeId} {vals : List Value} {u : Value} (hb : Blk w b t vals) (hu : vals[j]? = some u) (hn : ∀ s, u ≠ .string s) (n1 : kb ≠ b) (n2 : mb ≠ b) (v : Value) : WK (w.setCell ⟨b, j, none⟩ v) kb mb hs M :=
  ⟨(heap_setCell_other _ _ _ _ n1).trans h.box, h.len, h.map.keep (heap_setCell_other _ _ _ _ n2) fun _ _ _ k => k.keepS (KeepS.put hb hu hn v)⟩
theorem walkM_drop {cs : List Class} {cls g : Str} {hs : List Handler} {M : Asg Frm} {code : List Ins} {j : Nat} {x : Ins} (hx : code[j]? = some x) (s : Option Frm) : walkM cs cls g hs M j (code.drop j) s = match enterM cs M j s with
    | none => false
    | some none => walkM cs cls g hs M (j + 1) (code.drop (j + 1)) none
    | some (some f) => match stepM cs cls g hs M j x f with
      | none => false
      | some s' => walkM cs cls g hs M (j + 1) (code.drop (j + 1)) s' := by
  obtain ⟨hj, rfl⟩ := List.getElem?_eq_some_iff.1 hx
  rw [List.drop_eq_getElem_cons hj]; rfl
theorem enterM_none {cs : List Class} {M : Asg Frm} {i : Nat} {s : Option Frm} (h : enterM cs M i s = none) : ∃ f g, s = some f ∧ M i = some g ∧ meetsM cs M i f = false := by
  unfold enterM at h
  cases hM : M i with
  | none => rw [hM] at h; cases h
  | some g =>
    rw [hM] at h
    cases s with
    | none => cases h
    | some f =>
      dsimp only at h
      cases hm : meetsM cs M i f with
      | true => rw [hm] at h; cases h
      | false => exact ⟨f, g, rfl, rfl, hm⟩
def isSlice (v : Value) : Prop := ∃ p n c, v = .slice p n c
structure WalkAt (w0 w : World) (kb mb fb : Nat) (hs : List Value) (M : Asg Frm) (cs : List Class) (s : Option Frm) : Prop where
  below : Below w0.heap.size w0 w
  wk : WK w kb mb hs M
  k0 : kb < w0.heap.size
  m0 : mb < w0.heap.size
  f0 : w0.heap.size ≤ fb
  at' : ∃ v1 v2, Blk w fb 27 [v1, v2] ∧ isSlice v1 ∧ isSlice v2 ∧ ∀ f, s = some f → FrameAt w v1 v2 f ∧ frameR cs f = 0
theorem WalkAt.step {w0 w w' : World} {kb mb fb : Nat} {hs : List Value} {M : Asg Frm} {cs : List Class} {s : Option Frm} (h : WalkAt w0 w kb mb fb hs M cs s) (hb : Below w.heap.size w w') : WalkAt w0 w' kb mb fb hs M cs s := by
  obtain ⟨v1, v2, k1, k2, k3, k4⟩ := h.at'
  exact ⟨below_call h.below (Nat.le_refl _) hb, h.wk.step hb, h.k0, h.m0, h.f0, v1, v2, k1.step hb, k2, k3, fun f e => ⟨(k4 f e).1.mono hb, (k4 f e).2⟩⟩
theorem WalkAt.store {w0 w : World} {kb mb fb : Nat} {hs : List Value} {M : Asg Frm} {cs : List Class} {s s' : Option Frm} (h : WalkAt w0 w kb mb fb hs M cs s) {u1 u2 : Value} (h1 : isSlice u1) (h2 : isSlice u2) (h3 : ∀ f, s' = some f → FrameAt w u1 u2 f ∧ frameR cs f = 0) :
    WalkAt w0 ((w.setCell ⟨fb, 0, none⟩ u1).setCell ⟨fb, 1, none⟩ u2) kb mb fb hs M cs s' := by
  obtain ⟨v1, v2, k1, ⟨p1, n1, c1, rfl⟩, ⟨p2, n2, c2, rfl⟩, _⟩ := h.at'
  obtain ⟨p3, n3, c3, rfl⟩ := h1
  obtain ⟨p4, n4, c4, rfl⟩ := h2
  have e1 : kb ≠ fb := by have := h.k0; have := h.f0; omega
  have e2 : mb ≠ fb := by have := h.m0; have := h.f0; omega
  have b1 := Blk.put (w := w) k1 0 (.slice p3 n3 c3)
  have b2 := Blk.put b1 1 (.slice p4 n4 c4)
  have s1 : KeepS w (w.setCell ⟨fb, 0, none⟩ (.slice p3 n3 c3)) := KeepS.put k1 (u := .slice p1 n1 c1) rfl (fun _ e => by cases e) _
  have s2 : KeepS (w.setCell ⟨fb, 0, none⟩ (.slice p3 n3 c3)) ((w.setCell ⟨fb, 0, none⟩ (.slice p3 n3 c3)).setCell ⟨fb, 1, none⟩ (.slice p4 n4 c4)) := KeepS.put b1 (u := .slice p2 n2 c2) rfl (fun _ e => by cases e) _
  exact ⟨(h.below.setCell h.f0 _).setCell h.f0 _, (h.wk.other k1 (u := .slice p1 n1 c1) rfl (fun _ e => by cases e) e1 e2 _).other b1 (u := .slice p2 n2 c2) rfl (fun _ e => by cases e) e1 e2 _, h.k0, h.m0, h.f0, _, _, b2, ⟨_, _, _, rfl⟩, ⟨_, _, _, rfl⟩, fun f e => ⟨((h3 f e).1.keepS s1).keepS s2, (h3 f e).2⟩⟩
def WalkS (wx : World) (kb B fb xb : Nat) (u v : Value) (x : Ins) : Prop := wx.cell? ⟨kb, 0, none⟩ = some (.map (some B)) ∧ wx.cell? ⟨fb, 0, none⟩ = some u ∧ wx.cell? ⟨fb, 1, none⟩ = some v ∧ wx.cell? ⟨xb, 0, none⟩ = some (.int .i64 x.op) ∧ wx.cell? ⟨xb, 1, none⟩ = some (.int .i64 x.a) ∧ wx.cell? ⟨xb, 2, none⟩ = some (.int .i64 x.b) ∧ wx.cell? ⟨xb, 3, none⟩ = some (.string x.type) ∧ wx.cell? ⟨xb, 4, none⟩ = some (.string x.cls) ∧ wx.cell? ⟨xb, 5, none⟩ = some (.string x.name)
theorem WalkS.step {w w' : World} {kb B fb xb : Nat} {u v : Value} {x : Ins} (h : WalkS w kb B fb xb u v x) (hb : Below w.heap.size w w') : WalkS w' kb B fb xb u v x := by
  obtain ⟨k0, k1, k2, k3, k4, k5, k6, k7, k8⟩ := h
  exact ⟨(hb.cell (cell_lt k0)).trans k0, (hb.cell (cell_lt k1)).trans k1, (hb.cell (cell_lt k2)).trans k2, (hb.cell (cell_lt k3)).trans k3, (hb.cell (cell_lt k4)).trans k4, (hb.cell (cell_lt k5)).trans k5, (hb.cell (cell_lt k6)).trans k6, (hb.cell (cell_lt k7)).trans k7, (hb.cell (cell_lt k8)).trans k8⟩
theorem WalkS.other {w : World} {kb B fb xb : Nat} {u v : Value} {x : Ins} (h : WalkS w kb B fb xb u v x) {c : Nat} (n1 : kb < c) (n2 : fb < c) (n3 : xb < c) (p q : Value) : WalkS ((w.setCell ⟨c, 0, none⟩ p).setCell ⟨c, 1, none⟩ q) kb B fb xb u v x := by
  obtain ⟨k0, k1, k2, k3, k4, k5, k6, k7, k8⟩ := h
  have m1 := Nat.ne_of_lt n1
  have m2 := Nat.ne_of_lt n2
  have m3 := Nat.ne_of_lt n3
  exact ⟨(cell2_other (a := ⟨kb, _, none⟩) m1 _ _).trans k0, (cell2_other (a := ⟨fb, _, none⟩) m2 _ _).trans k1, (cell2_other (a := ⟨fb, _, none⟩) m2 _ _).trans k2, (cell2_other (a := ⟨xb, _, none⟩) m3 _ _).trans k3, (cell2_other (a := ⟨xb, _, none⟩) m3 _ _).trans k4, (cell2_other (a := ⟨xb, _, none⟩) m3 _ _).trans k5, (cell2_other (a := ⟨xb, _, none⟩) m3 _ _).trans k6, (cell2_other (a := ⟨xb, _, none⟩) m3 _ _).trans k7, (cell2_other (a := ⟨xb, _, none⟩) m3 _ _).trans k8⟩
def EndS (wx : World) (nb xb : Nat) (u v : Value) (op : Int) : Prop := wx.cell? ⟨nb, 0, none⟩ = some u ∧ wx.cell? ⟨nb, 1, none⟩ = some v ∧ wx.cell? ⟨xb, 0, none⟩ = some (.int .i64 op)
theorem EndS.step {w w' : World} {nb xb : Nat} {u v : Value} {op : Int} (h : EndS w nb xb u v op) (hb : Below w.heap.size w w') : EndS w' nb xb u v op := by
  obtain ⟨k0, k1, k2⟩ := h
  exact ⟨(hb.cell (cell_lt k0)).trans k0, (hb.cell (cell_lt k1)).trans k1, (hb.cell (cell_lt k2)).trans k2⟩
theorem EndS.other {w : World} {nb xb : Nat} {u v : Value} {op : Int} (h : EndS w nb xb u v op) {c : Nat} (n1 : nb ≠ c) (n2 : xb ≠ c) (p q : Value) : EndS ((w.setCell ⟨c, 0, none⟩ p).setCell ⟨c, 1, none⟩ q) nb xb u v op := by
  obtain ⟨k0, k1, k2⟩ := h
  exact ⟨(cell2_other (a := ⟨nb, _, none⟩) n1 _ _).trans k0, (cell2_other (a := ⟨nb, _, none⟩) n1 _ _).trans k1, (cell2_other (a := ⟨xb, _, none⟩) n2 _ _).trans k2⟩
set_option maxHeartbeats 4000000 in
set_option maxRecDepth 100000 in
theorem walkWalk_any (l : List Class) (B : Nat) (ws w : World) (hm : WorldMap ws w B l) (m : Method) (cls g : Str) (args : List Str) (many : Nat) (pc ph : Option Addr) (kc kh : Nat) (hG : MethGood m args g many) (hmo : MethodOk m) (hcl : cls.size ≤ 1048576)
    (hcv : SliceOf w 6 InsCells (.slice pc m.code.length kc) m.code) (hhv : SliceOf w 4 HandlerCells (.slice ph m.handlers.length kh) m.handlers) (kb mb : Nat) (hs : List Value)
    (hhs : hs = [.map (some B), .string m.name, .string m.type, .bool m.static, .bool m.abs, .bool m.priv, .int .i64 m.locals, .slice pc m.code.length kc, .slice ph m.handlers.length kh]) (M : Asg Frm) (hK : WK w kb mb hs M) (hM : ∀ i f, M i = some f → frameR (allC l) f = 0) :
    Calls Tryz.prog 69 #[.pointer (some ⟨kb, 0, none⟩), .string cls] w fun e w' => e = .returned (.bool (walkB (allC l) cls g m M (firstL cls m.static args many))) ∧ Below w.heap.size w w' := by
  have HA : Hid (∀ (wx : World) (o : Obj), Below wx.heap.size wx (wx.alloc o)) := fun wx o => (Below.refl _ _).alloc (Nat.le_refl _) o
  have HF : Hid (∀ wx, _) := fun wx => checkFirst_any wx cls m.name m.type m.static m.abs m.priv many pc ph m.code.length kc m.handlers.length kh args g hG.type hmo.type hcl hG.small (methodR_len hG.type)
  rw [← hG.locals] at HF
  have hL8 := firstL_len (cls := cls) hG
  have HLs := Lib.hid (firstL_short hcl hmo.type hG)
  have hgs : g.size ≤ maxLen := Nat.le_trans (Nat.le_trans (methodR_sizes hG.type).2 hmo.type) (by decide)
  generalize firstL cls m.static args many = L at *
  have HKi : Hid (∀ (wx : World) (k : Str), Below w.heap.size w wx → k.size ≤ maxLen → _) := fun wx k hb hk => kind_any ws wx B (allC l) (hm.map.step hb) hm.right.nodup k hk
  unfold FirstPost at HF
  have m0 := hK.cellh (i := 1) (v := .string m.name) (by rw [hhs]; rfl)
  have m1 := hK.cellh (i := 2) (v := .string m.type) (by rw [hhs]; rfl)
  have m2 := hK.cellh (i := 3) (v := .bool m.static) (by rw [hhs]; rfl)
  have m3 := hK.cellh (i := 4) (v := .bool m.abs) (by rw [hhs]; rfl)
  have m4 := hK.cellh (i := 5) (v := .bool m.priv) (by rw [hhs]; rfl)
  have m5 := hK.cellh (i := 6) (v := .int .i64 m.locals) (by rw [hhs]; rfl)
  have m6 := hK.cellh (i := 7) (v := .slice pc m.code.length kc) (by rw [hhs]; rfl)
  have m7 := hK.cellh (i := 8) (v := .slice ph m.handlers.length kh) (by rw [hhs]; rfl)
  have HK := Lib.hid hK
  have Hm := Lib.hid hm
  have HG := Lib.hid hG
  have Hmo := Lib.hid hmo
  have Hcv := Lib.hid hcv
  have Hhv := Lib.hid hhv
  have Hcl := Lib.hid hcl
  have Hhs := Lib.hid hhs
  have HM := Lib.hid hM
  clear hK hm hG hmo hcv hhv hcl hhs hM
  go_enter Tryz.func69, Tryz.ntmps69
  go_upto_region 2 with (go_at_call 106; (with_reducible refine (HF.out _).mono ?_); rintro e w2 ⟨hB2, p, n, c, rfl, hS2, _⟩)
  obtain ⟨p', c', e, hn1, hn2, hcc⟩ := hS2.open
  injection e with e1 e2 e3
  subst e1 e2 e3
  have f3 := Blk.new w2 27 [.slice p L.length c, .slice none 0 0]
  have B3 := hB2.alloc hB2.size (.cells #[.slice p L.length c, .slice none 0 0] 27)
  have S3 : FrameAt (w2.alloc (.cells #[.slice p L.length c, .slice none 0 0] 27)) (.slice p L.length c) (.slice none 0 0) ⟨L, []⟩ := ⟨hS2.mono (HA.out w2 _), Or.inl ⟨rfl, rfl⟩⟩
  have HCc : Hid (∀ i x, L[i]? = some x → ∃ b o, p = some ⟨b, o, none⟩ ∧ (w2.alloc (.cells #[.slice p L.length c, .slice none 0 0] 27)).cell? ⟨b, o + i, none⟩ = some (.string x)) := fun i x hx => by
    obtain ⟨b, o, vs, h1, h2, _, h4⟩ := hcc i x hx
    have h2 : vs = [.string x] := h2
    subst h2
    have h5 := h4.1
    rw [Nat.mul_one] at h5
    exact ⟨b, o, h1, ((HA.out w2 _).cell (cell_lt h5)).trans h5⟩
  have hfbs : w.heap.size ≤ w2.heap.size := hB2.size
  generalize (w2.alloc (.cells #[.slice p L.length c, .slice none 0 0] 27)) = w3 at *
  generalize w2.heap.size = fb at *
  have f0 := f3.cell 0
  have f1 := f3.cell 1
  have HS3 := Lib.hid S3
  have Hf3 := Lib.hid f3
  have HB3 := Lib.hid B3
  have Hfb := Lib.hid hfbs
  clear S3 f3 hcc hS2 m0 m1 m2 m3 m4 m5 m6 m7 hB2 B3 hfbs
  go_wp2_with (first | fail)
  clear f0 f1
  go_loopw [28] (fun x wr => ∃ j : Nat, j ≤ L.length ∧ x = .int .i64 j ∧ Hid (Below w3.heap.size w3 wr) ∧ Hid (LookedIs (allC l) L j)) (fun x _ => L.length - (intOf x).toNat)
  case atStart => exact ⟨0, Nat.zero_le _, rfl, Below.refl _ _, fun k hk => by simp at hk⟩
  case round =>
    obtain ⟨j, hj, rfl, hB, hI⟩ := hrel
    have d0 := ((HK.out.step HB3.out).step hB.out).cellh (i := 0) (v := .map (some B)) (by rw [Hhs.out]; rfl)
    by_cases hjl : j < L.length
    · obtain ⟨k, hk⟩ : ∃ k, L[j]? = some k := ⟨L[j], by simp [hjl]⟩
      have hkm := List.mem_of_getElem? hk
      obtain ⟨b, o, rfl, c0⟩ := HCc.out j k hk
      replace c0 := (hB.out.cell (cell_lt c0)).trans c0
      have HKk := Lib.hid (HKi.out wr k (below_call HB3.out (Nat.le_refl _) hB.out) (Nat.le_trans (HLs.out k hkm) (by decide)))
      rcases errV_cases (kindR (allC l) k) with ⟨hv, hz⟩ | ⟨hv, hz⟩
      · rw [hv] at HKk
        have hI2 : Hid (LookedIs (allC l) L (j + 1)) := fun y hy => by
          rw [List.take_add_one, hk] at hy
          rcases List.mem_append.1 hy with hy | hy
          · exact hI.out y hy
          · rw [show y = k by simpa using hy]; exact hz
        clear hk hkm hv hz
        go_wp2_with (go_at_call 91; (with_reducible refine (HKk.out).mono ?_); rintro e w4 ⟨rfl, hB4⟩)
        go_roundw
        case rel => exact ⟨j + 1, by omega, by simp, below_call hB.out (Nat.le_refl _) hB4, hI2⟩
        case measure => simp [intOf]; omega
      · rw [hv] at HKk
        have hbad : Hid (startB (allC l) L g = false) := by
          unfold Hid startB
          rw [Bool.and_eq_false_iff]
          refine Or.inl ?_
          rw [List.all_eq_false]
          exact ⟨k, hkm, by simpa using hz⟩
        clear hk hkm hv hz
        go_wp2_with (go_at_call 91; (with_reducible refine (HKk.out).mono ?_); rintro e w4 ⟨rfl, hB4⟩)
        go_ret
        exact ⟨by unfold walkB; rw [hbad.out]; rfl, below_call HB3.out (Nat.le_refl _) (below_call hB.out (Nat.le_refl _) hB4)⟩
    · obtain rfl : j = L.length := by omega
      have hall : Hid (∀ k ∈ L, kindR (allC l) k = 0) := fun k hk => hI.out k (by rw [List.take_length]; exact hk)
      have HKg := Lib.hid (HKi.out wr g (below_call HB3.out (Nat.le_refl _) hB.out) hgs)
      have HSt : Hid (startB (allC l) L g = (decide (g = ⟨#[86]⟩) || kindR (allC l) g == 0)) := by
        unfold Hid startB
        rw [List.all_eq_true.2 fun k hk => beq_iff_eq.2 (hall.out k hk), Bool.true_and]
      by_cases hgood : g = ⟨#[86]⟩ ∨ kindR (allC l) g = 0
      · have hstB : startB (allC l) L g = true := by
          rw [HSt.out, Bool.or_eq_true]
          exact hgood.imp decide_eq_true beq_iff_eq.2
        go_upto_region 8 with (first | fail)
        go_cut [50] (fun s wx => s = .bool false ∧ Below wr.heap.size wr wx)
        case first =>
          by_cases hV : g = ⟨#[86]⟩
          · subst hV
            go_wp2_with (first | fail)
            go_meet
            exact ⟨rfl, Below.refl _ _⟩
          · have hz := hgood.resolve_left hV
            rw [hz, show errV 0 = .nilIface from rfl] at HKg
            have hne : ¬ g.toList = [86] := fun e => hV (ByteArray.ext (Array.ext' (by rw [← ByteArray.toList_eq]; exact e)))
            clear hz hgood
            go_wp2_with (go_at_call 91; (with_reducible refine (HKg.out).mono ?_); rintro e w4 ⟨rfl, hB4⟩)
            go_meet
            exact ⟨rfl, hB4⟩
        case rest =>
          obtain ⟨rfl, hB4⟩ := hcut
          have Bc := below_call hB.out (Nat.le_refl _) hB4
          have Bwc := below_call HB3.out (Nat.le_refl _) Bc
          have hfr0 := startB_frame hL8 hstB
          have HWA : Hid (WalkAt w wc kb mb fb hs M (allC l) (some ⟨L, []⟩)) := ⟨Bwc, HK.out.step Bwc, HK.out.box.lt, HK.out.map.lt, Hfb.out, _, _, Hf3.out.step Bc, ⟨_, _, _, rfl⟩, ⟨_, _, _, rfl⟩, fun f e => by
            injection e with e
            subst e
            exact ⟨HS3.out.mono Bc, hfr0⟩⟩
          obtain ⟨R, hR⟩ : ∃ R, walkM (allC l) cls g m.handlers M 0 m.code (some ⟨L, []⟩) = R := ⟨_, rfl⟩
          have HR : Hid (walkM (allC l) cls g m.handlers M 0 (m.code.drop 0) (some ⟨L, []⟩) = R) := hR
          have HWR : Hid (walkB (allC l) cls g m M L = R) := by
            unfold Hid walkB
            rw [hstB, hR]; rfl
          have d7 := (HK.out.step Bwc).cellh (i := 7) (v := .slice pc m.code.length kc) (by rw [Hhs.out]; rfl)
          have hc40 := (codeOk_of HG.out.code).small
          have HCo := Lib.hid (codeOk_of HG.out.code)
          have HRi := Lib.hid Hm.out.right
          clear hB4 Bc Bwc hfr0 hR hB hI d0 hall HKg HSt hgood hstB
          go_wp2_with (first | fail)
          clear d7
          go_loopw [9, 57] (fun y x wr => ∃ (j : Nat) (s : Option Frm), j ≤ m.code.length ∧ y = .bool s.isSome ∧ x = .int .i64 j ∧ Hid (WalkAt w wr kb mb fb hs M (allC l) s) ∧ Hid (walkM (allC l) cls g m.handlers M j (m.code.drop j) s = R)) (fun _ x _ => m.code.length - (intOf x).toNat)
          case atStart => exact ⟨0, some ⟨L, []⟩, Nat.zero_le _, rfl, rfl, HWA.out, HR.out⟩
          case round =>
            obtain ⟨j, s, hj, rfl, rfl, hWA, hWR⟩ := hrel
            by_cases hjl : j < m.code.length
            · obtain ⟨x, hx⟩ : ∃ x, m.code[j]? = some x := ⟨m.code[j], by simp [hjl]⟩
              have hxm := List.mem_of_getElem? hx
              obtain ⟨b0, o, cap, vs, e, hxv, hvl, hcells⟩ := Hcv.out.at hjl
              injection e with e1 _ e2
              subst e1 e2
              rw [show m.code[j] = x from Option.some.inj ((List.getElem?_eq_getElem hjl).symm.trans hx)] at hxv
              unfold InsCells at hxv
              subst hxv
              have hcells := hcells.mono hWA.out.below hcells.lt
              have hstep := walkM_drop (cs := allC l) (cls := cls) (g := g) (hs := m.handlers) (M := M) hx s
              rw [hWR.out] at hstep
              have Hxo := Lib.hid (And.intro (Hmo.out.code x hxm) (HCo.out.ins x hxm))
              have Hxj := Lib.hid (HCo.out.jumps x hxm)
              have HSt : Hid (∀ f L S, frameR (allC l) f = 0 → stepF (allC l) cls g x f.locals f.stack = some (L, S) → frameR (allC l) ⟨L, S⟩ = 0) := fun f L S hf e => step_frame HRi.out Hxo.out.2 hf e
              have HAf : Hid (∀ (wx : World) (f : Frm) (f1 f2 : Value), Below w.heap.size w wx → FrameAt wx f1 f2 f → frameR (allC l) f = 0 → _) := fun wx f f1 f2 hb hf hz => after_any ws wx B l (Hm.out.step hb) cls g x f f1 f2 hf hz Hxo.out.1 (insFault_place Hxo.out.2) (Nat.le_trans Hcl.out (by decide)) hgs
              clear hx hxm
              obtain ⟨op, xa, xb, type, xcls, name⟩ := x
              obtain ⟨c0, c1, c2, c3, c4, c5, _⟩ := hcells
              have Ba := HA.out wr (.cells #[.int .i64 op, .int .i64 xa, .int .i64 xb, .string type, .string xcls, .string name] 24)
              have kx := Blk.new wr 24 [.int .i64 op, .int .i64 xa, .int .i64 xb, .string type, .string xcls, .string name]
              have hxlt : fb < wr.heap.size := by
                obtain ⟨v1, v2, k1, _⟩ := hWA.out.at'
                exact k1.lt
              obtain ⟨w1, hw1⟩ : ∃ w1, w1 = wr.alloc (.cells #[.int .i64 op, .int .i64 xa, .int .i64 xb, .string type, .string xcls, .string name] 24) := ⟨_, rfl⟩
              rw [← hw1] at Ba kx
              have HW1 := Lib.hid hw1.symm
              clear hw1
              have HWA1 := Lib.hid (hWA.out.step Ba)
              have c9 := HWA1.out.wk.cell9
              obtain ⟨lv, sv, hlv, hlk⟩ := HWA1.out.wk.map.look (i := j) (by omega)
              have L1 := hlk w1 true rfl
              rw [intV] at L1
              clear hlk
              obtain ⟨⟨p1, n1, q1, rfl⟩, ⟨p2, n2, q2, rfl⟩⟩ : isSlice lv ∧ isSlice sv := by
                cases hMj : M j with
                | none =>
                  rw [hMj] at hlv
                  obtain ⟨rfl, rfl⟩ := hlv
                  exact ⟨⟨_, _, _, rfl⟩, ⟨_, _, _, rfl⟩⟩
                | some g =>
                  rw [hMj] at hlv
                  obtain ⟨⟨p1, n1, rfl, _⟩, ⟨p2, n2, rfl, _⟩⟩ := And.intro hlv.1.open hlv.2.open
                  exact ⟨⟨_, _, _, rfl⟩, ⟨_, _, _, rfl⟩⟩
              have Bb := HA.out w1 (.cells #[.slice p1 n1 q1, .slice p2 n2 q2] 27)
              have km := Blk.new w1 27 [.slice p1 n1 q1, .slice p2 n2 q2]
              have kx2 := kx.step Bb
              have hlv2 : Hid (∀ gf, M j = some gf → FrameAt (w1.alloc (.cells #[.slice p1 n1 q1, .slice p2 n2 q2] 27)) (.slice p1 n1 q1) (.slice p2 n2 q2) gf) := fun gf e => by
                rw [e] at hlv
                exact FrameAt.mono Bb hlv
              have HWA2 := Lib.hid (HWA1.out.step Bb)
              have hmb : w1.heap.size ≠ fb := by
                have := Ba.size
                omega
              have hfx : wr.heap.size ≠ fb := by omega
              obtain ⟨w2, hw2⟩ : ∃ w2, w2 = w1.alloc (.cells #[.slice p1 n1 q1, .slice p2 n2 q2] 27) := ⟨_, rfl⟩
              rw [← hw2] at km kx2 hlv2 HWA2
              have HW2 := Lib.hid hw2.symm
              clear hw2 hlv
              have Hkx := Lib.hid kx2
              have Hkm := Lib.hid km
              have Hne := Lib.hid (And.intro hmb hfx)
              have Hstep := Lib.hid hstep
              obtain ⟨bm, hbm⟩ : ∃ b, (M j).isSome = b := ⟨_, rfl⟩
              rw [hbm] at L1
              have Hbm := Lib.hid hbm
              clear hbm hstep hmb hfx Ba Bb kx kx2 km hxlt
              go_upto_region 14 with (first | fail)
              rw [HW1.out]
              go_upto_if 71 with (first | fail)
              rw [HW2.out]
              clear c0 c1 c2 c3 c4 c5 c9 L1
              have m0 := Hkm.out.cell 0
              have m1 := Hkm.out.cell 1
              obtain ⟨v1, v2, hFb, ⟨p3, n3, q3, rfl⟩, ⟨p4, n4, q4, rfl⟩, hFf⟩ := HWA2.out.at'
              have b0 := hFb.cell 0
              have b1 := hFb.cell 1
              have z0 := hFb.frozen 0
              have z1 := hFb.frozen 1
              have HFf := Lib.hid hFf
              clear hFf hFb
              cases hen : enterM (allC l) M j s with
              | none =>
                rw [hen] at Hstep
                have HR0 : Hid (R = false) := Hstep.out
                obtain ⟨f, gf, rfl, hMj, hmt⟩ := enterM_none hen
                rw [hMj] at Hbm
                have hb2 : true = bm := Hbm.out
                subst hb2
                have HMt : Hid (Calls _ _ _ w2 _) := walkMeets_any l B ws w2 (Hm.out.step HWA2.out.below) kb mb hs M HWA2.out.wk (by rw [Hhs.out]; rfl) j (by omega) f _ _ (HFf.out f rfl).1 (HFf.out f rfl).2 HM.out
                rw [hmt] at HMt
                clear hen hmt hMj
                go_wp2_with (first
                  | (go_at_call 111; (with_reducible refine (HMt.out).mono ?_); rintro e w5 ⟨rfl, hB5⟩))
                go_ret
                exact ⟨by rw [HWR.out, HR0.out]; rfl, below_call HWA2.out.below (Nat.le_refl _) hB5⟩
              | some s' =>
                rw [hen] at Hstep
                have Hen := Lib.hid hen
                clear hen
                go_cut [9] from 71 to 80 (fun y wy => y = .bool s'.isSome ∧ WalkAt w wy kb mb fb hs M (allC l) s' ∧ Blk wy wr.heap.size 24 [.int .i64 op, .int .i64 xa, .int .i64 xb, .string type, .string xcls, .string name])
                case first =>
                  have hen := Hen.out
                  unfold enterM at hen
                  cases hMj : M j with
                  | none =>
                    rw [hMj] at hen Hbm
                    have hb2 : false = bm := Hbm.out
                    subst hb2
                    injection hen with hen
                    subst hen
                    clear hMj
                    go_wp2_with (first | fail)
                    go_meet
                    exact ⟨rfl, HWA2.out, Hkx.out⟩
                  | some gf =>
                    rw [hMj] at hen Hbm
                    have hb2 : true = bm := Hbm.out
                    subst hb2
                    have HFg := Lib.hid (And.intro (hlv2.out gf hMj) (HM.out j gf hMj))
                    clear hMj
                    cases s with
                    | none =>
                      injection hen with hen
                      subst hen
                      dsimp only [Option.isSome]
                      go_wp2_with (first | fail)
                      go_meet
                      exact ⟨rfl, HWA2.out.store ⟨_, _, _, rfl⟩ ⟨_, _, _, rfl⟩ fun f e => by
                        injection e with e
                        subst e
                        exact HFg.out, (Hkx.out.other' (fun e => Hne.out.2 e.symm) _).other' (fun e => Hne.out.2 e.symm) _⟩
                    | some f =>
                      dsimp only at hen
                      cases hmt : meetsM (allC l) M j f with
                      | false => rw [hmt] at hen; cases hen
                      | true =>
                        rw [hmt, if_pos rfl] at hen
                        injection hen with hen
                        subst hen
                        have HMt : Hid (Calls _ _ _ w2 _) := walkMeets_any l B ws w2 (Hm.out.step HWA2.out.below) kb mb hs M HWA2.out.wk (by rw [Hhs.out]; rfl) j (by omega) f _ _ (HFf.out f rfl).1 (HFf.out f rfl).2 HM.out
                        rw [hmt] at HMt
                        clear hmt
                        dsimp only [Option.isSome]
                        go_upto_region 18 with (first
                          | (go_at_call 111; (with_reducible refine (HMt.out).mono ?_); rintro e w5 ⟨rfl, hB5⟩))
                        have HWA5 := Lib.hid (HWA2.out.step hB5)
                        have Hkx5 := Lib.hid (Hkx.out.step hB5)
                        have Hkm5 := Hkm.out.step hB5
                        have HFg5 : Hid (FrameAt w5 _ _ gf ∧ frameR (allC l) gf = 0) := ⟨HFg.out.1.mono hB5, HFg.out.2⟩
                        clear m0 m1 b0 b1 z0 z1 hB5
                        have m0 := Hkm5.cell 0
                        have m1 := Hkm5.cell 1
                        obtain ⟨v1, v2, hFb, ⟨p5, n5, q5, rfl⟩, ⟨p6, n6, q6, rfl⟩, _⟩ := HWA5.out.at'
                        have b0 := hFb.cell 0
                        have b1 := hFb.cell 1
                        have z0 := hFb.frozen 0
                        have z1 := hFb.frozen 1
                        clear hFb Hkm5
                        go_wp2_with (first | fail)
                        go_meet
                        exact ⟨rfl, HWA5.out.store ⟨_, _, _, rfl⟩ ⟨_, _, _, rfl⟩ fun f e => by
                          injection e with e
                          subst e
                          exact HFg5.out, (Hkx5.out.other' (fun e => Hne.out.2 e.symm) _).other' (fun e => Hne.out.2 e.symm) _⟩
                case rest =>
                  obtain ⟨rfl, hWc, hxc⟩ := hcut
                  have HWc := Lib.hid hWc
                  have Hxc := Lib.hid hxc
                  clear hWc hxc m0 m1 b0 b1 z0 z1
                  cases s' with
                  | none =>
                    dsimp only [Option.isSome] at Hstep ⊢
                    go_wp2_with (first | fail)
                    go_roundw
                    case rel => exact ⟨j + 1, none, by omega, rfl, by simp, HWc.out, Hstep.out.symm⟩
                    case measure => simp [intOf]; omega
                  | some f =>
                    dsimp only [Option.isSome] at Hstep ⊢
                    obtain ⟨v1, v2, hFb, ⟨p1, n1, q1, rfl⟩, ⟨p2, n2, q2, rfl⟩, hFf⟩ := HWc.out.at'
                    obtain ⟨hFv, hFr⟩ := hFf f rfl
                    have b0 := hFb.cell 0
                    have b1 := hFb.cell 1
                    have HFv := Lib.hid hFv
                    have HFr := Lib.hid hFr
                    have HFb := Lib.hid hFb
                    have HCt : Hid (Calls _ _ _ wc _) := walkCaught_any l B ws wc (Hm.out.step HWc.out.below) kb mb hs M HWc.out.wk (by rw [Hhs.out]; rfl) ph kh m.handlers (by rw [Hhs.out]; rfl) (Hhv.out.mono HWc.out.below (by decide) (fun _ _ h => h)) m.code.length hc40 HG.out.hands j f _ _ hFv hFr HM.out
                    clear hFf hFv hFr hFb
                    cases hct : caughtM (allC l) M j f m.handlers with
                    | false =>
                      have HR0 : Hid (R = false) := by
                        have := Hstep.out
                        unfold stepM at this
                        rw [hct] at this
                        exact this
                      rw [hct] at HCt
                      clear hct
                      go_wp2_with (first
                        | (go_at_call 112; (with_reducible refine (HCt.out).mono ?_); rintro e w5 ⟨rfl, hB5⟩))
                      go_ret
                      exact ⟨by rw [HWR.out, HR0.out]; rfl, below_call HWc.out.below (Nat.le_refl _) hB5⟩
                    | true =>
                      have Hct := Lib.hid hct
                      rw [hct] at HCt
                      clear hct
                      go_upto_region 22 with (first
                        | (go_at_call 112; (with_reducible refine (HCt.out).mono ?_); rintro e w5 ⟨rfl, hB5⟩))
                      have HWd := Lib.hid (HWc.out.step hB5)
                      have HFv5 := Lib.hid (HFv.out.mono hB5)
                      have HS : Hid (∀ wx, Below w5.heap.size w5 wx → WalkS wx kb B fb wr.heap.size (.slice p1 n1 q1) (.slice p2 n2 q2) ⟨op, xa, xb, type, xcls, name⟩) := by
                        have kx5 := Hxc.out.step hB5
                        have kf5 := HFb.out.step hB5
                        exact fun wx hb => WalkS.step ⟨HWd.out.wk.cellh (by rw [Hhs.out]; rfl), kf5.cell 0, kf5.cell 1, kx5.cell 0, kx5.cell 1, kx5.cell 2, kx5.cell 3, kx5.cell 4, kx5.cell 5⟩ hb
                      have HLt : Hid (kb < w5.heap.size ∧ fb < w5.heap.size ∧ wr.heap.size < w5.heap.size) := ⟨HWd.out.wk.box.lt, (HFb.out.step hB5).lt, (Hxc.out.step hB5).lt⟩
                      have Hxd := Lib.hid (Hxc.out.step hB5)
                      have HAf5 : Hid (∀ wx, Below w5.heap.size w5 wx → _) := fun wx hb => HAf.out wx f (.slice p1 n1 q1) (.slice p2 n2 q2) (below_call HWd.out.below (Nat.le_refl _) hb) (HFv5.out.mono hb) HFr.out
                      unfold AfterPost insV at HAf5
                      clear b0 b1 hB5 HCt HAf
                      obtain ⟨k0, k1, k2, k3, k4, k5, k6, k7, k8⟩ := HS.out w5 (Below.refl _ _)
                      dsimp only at HAf5
                      cases hst : stepF (allC l) cls g ⟨op, xa, xb, type, xcls, name⟩ f.locals f.stack with
                      | none =>
                        have HR0 : Hid (R = false) := by
                          have := Hstep.out
                          unfold stepM at this
                          rw [Hct.out, hst] at this
                          exact this
                        rw [hst] at HAf5
                        replace HAf5 : Hid (∀ wx, Below w5.heap.size w5 wx → Calls _ _ _ wx fun e w' => e = _ ∧ Below wx.heap.size wx w' ∧ WalkS w' kb B fb wr.heap.size (.slice p1 n1 q1) (.slice p2 n2 q2) ⟨op, xa, xb, type, xcls, name⟩) := fun wx hb => (HAf5.out wx hb).mono fun e w' ⟨hB, he⟩ => ⟨he, hB, HS.out w' (below_call hb (Nat.le_refl _) hB)⟩
                        clear hst
                        go_cut [14, 15] from 88 to 99 (fun _ b wx => b = .bool false ∧ Below w.heap.size w wx)
                        case first =>
                          go_region_held3 (fun w' => w'.cell? ⟨kb, 0, none⟩ = some (.map (some B)) ∧ w'.cell? ⟨fb, 0, none⟩ = some (.slice p1 n1 q1) ∧ w'.cell? ⟨fb, 1, none⟩ = some (.slice p2 n2 q2) ∧ w'.cell? ⟨wr.heap.size, 0, none⟩ = some (.int .i64 op) ∧ w'.cell? ⟨wr.heap.size, 1, none⟩ = some (.int .i64 xa) ∧ w'.cell? ⟨wr.heap.size, 2, none⟩ = some (.int .i64 xb) ∧ w'.cell? ⟨wr.heap.size, 3, none⟩ = some (.string type) ∧ w'.cell? ⟨wr.heap.size, 4, none⟩ = some (.string xcls) ∧ w'.cell? ⟨wr.heap.size, 5, none⟩ = some (.string name))
                            (first | go_keep | exact WalkS.other (x := ⟨op, xa, xb, type, xcls, name⟩) ⟨k0, k1, k2, k3, k4, k5, k6, k7, k8⟩ HLt.out.1 HLt.out.2.1 HLt.out.2.2 _ _)
                            (first
                              | (go_at_call 54; (with_reducible refine (HAf5.out _ ?_).mono ?_); (first | exact (Below.refl _ _).drew | exact ((Below.refl _ _).alloc (Nat.le_refl _) _).drew); rintro e w3 ⟨rfl, hB3, k0, k1, k2, k3, k4, k5, k6, k7, k8⟩; (first | (have KB : Blk w3 w5.heap.size 27 [.slice none 0 0, .slice none 0 0] := Blk.step (w := (w5.alloc (.cells #[.slice none 0 0, .slice none 0 0] 27)).drew) (Blk.new w5 27 [.slice none 0 0, .slice none 0 0]) hB3; obtain ⟨x0, x1⟩ := KB.cells2; (have f0 := KB.frozen 0); (have f1 := KB.frozen 1)) | skip)))
                          all_goals (go_wp2_with (first | fail); go_meet; first
                            | exact ⟨rfl, (below_call HWd.out.below (Nat.le_refl _) (below_call ((Below.refl _ _).drew) (Nat.le_refl _) hB3)).alloc (Nat.le_trans HWd.out.below.size hB3.size) _⟩
                            | exact ⟨rfl, ((below_call HWd.out.below (Nat.le_refl _) (below_call (w := w5) (((Below.refl _ _).alloc (Nat.le_refl _) _).drew) (Nat.le_refl _) hB3)).setCell HWd.out.below.size _).setCell HWd.out.below.size _⟩)
                        case rest =>
                          obtain ⟨rfl, hB⟩ := hcut
                          clear k0 k1 k2 k3 k4 k5 k6 k7 k8 HAf5
                          go_wp2_with (first | fail)
                          go_ret
                          exact ⟨by rw [HWR.out, HR0.out]; rfl, hB⟩
                      | some r =>
                        obtain ⟨L', S'⟩ := r
                        rw [hst] at HAf5
                        dsimp only at HAf5
                        have Hfr2 := Lib.hid (HSt.out f L' S' HFr.out hst)
                        have Hst2 : Hid (R = match (if jumpsB op && !meetsM (allC l) M xa.toNat ⟨L', S'⟩ then none else some (if endsB op then none else some (⟨L', S'⟩ : Frm))) with
                            | none => false
                            | some s' => walkM (allC l) cls g m.handlers M (j + 1) (m.code.drop (j + 1)) s') := by
                          have := Hstep.out
                          unfold stepM at this
                          rw [Hct.out, hst] at this
                          exact this
                        replace HAf5 : Hid (∀ wx, Below w5.heap.size w5 wx → Calls _ _ _ wx fun e w' => (∃ lv sv, e = .returned (.tuple #[.agg #[lv, sv], .bool true]) ∧ FrameAt w' lv sv ⟨L', S'⟩) ∧ Below wx.heap.size wx w' ∧ WalkS w' kb B fb wr.heap.size (.slice p1 n1 q1) (.slice p2 n2 q2) ⟨op, xa, xb, type, xcls, name⟩) := fun wx hb => (HAf5.out wx hb).mono fun e w' ⟨hB, he⟩ => ⟨he, hB, HS.out w' (below_call hb (Nat.le_refl _) hB)⟩
                        clear hst Hstep HSt
                        go_cut [14, 15] from 88 to 99 (fun p b wx => b = .bool true ∧ GotAt w5 wx ⟨L', S'⟩ p)
                        case first =>
                          go_region_held3 (fun w' => w'.cell? ⟨kb, 0, none⟩ = some (.map (some B)) ∧ w'.cell? ⟨fb, 0, none⟩ = some (.slice p1 n1 q1) ∧ w'.cell? ⟨fb, 1, none⟩ = some (.slice p2 n2 q2) ∧ w'.cell? ⟨wr.heap.size, 0, none⟩ = some (.int .i64 op) ∧ w'.cell? ⟨wr.heap.size, 1, none⟩ = some (.int .i64 xa) ∧ w'.cell? ⟨wr.heap.size, 2, none⟩ = some (.int .i64 xb) ∧ w'.cell? ⟨wr.heap.size, 3, none⟩ = some (.string type) ∧ w'.cell? ⟨wr.heap.size, 4, none⟩ = some (.string xcls) ∧ w'.cell? ⟨wr.heap.size, 5, none⟩ = some (.string name))
                            (first | go_keep | exact WalkS.other (x := ⟨op, xa, xb, type, xcls, name⟩) ⟨k0, k1, k2, k3, k4, k5, k6, k7, k8⟩ HLt.out.1 HLt.out.2.1 HLt.out.2.2 _ _)
                            (first
                              | (go_at_call 54; (with_reducible refine (HAf5.out _ ?_).mono ?_); (first | exact (Below.refl _ _).drew | exact ((Below.refl _ _).alloc (Nat.le_refl _) _).drew); rintro e w3 ⟨⟨lv3, sv3, rfl, hv3⟩, hB3, k0, k1, k2, k3, k4, k5, k6, k7, k8⟩; obtain ⟨⟨p3, n3, rfl, _⟩, ⟨p4, n4, rfl, _⟩⟩ := And.intro hv3.1.open hv3.2.open; (first | (have KB : Blk w3 w5.heap.size 27 [.slice none 0 0, .slice none 0 0] := Blk.step (w := (w5.alloc (.cells #[.slice none 0 0, .slice none 0 0] 27)).drew) (Blk.new w5 27 [.slice none 0 0, .slice none 0 0]) hB3; obtain ⟨x0, x1⟩ := KB.cells2; (have f0 := KB.frozen 0); (have f1 := KB.frozen 1)) | skip)))
                          all_goals (go_wp2_with (first | fail); go_meet; first
                            | exact ⟨rfl, GotAt.late (below_call ((Below.refl _ _).drew) (Nat.le_refl _) hB3) hv3⟩
                            | exact ⟨rfl, GotAt.early (below_call ((Below.refl _ _).drew) (Nat.le_refl _) hB3) hv3⟩)
                        case rest =>
                          obtain ⟨rfl, nb, u1, u2, rfl, hnb, Kb, hBw, hFv⟩ := hcut
                          obtain ⟨⟨p3, n3, rfl, hz1⟩, ⟨p4, n4, rfl, hz2⟩⟩ := And.intro hFv.1.open hFv.2.open
                          clear hz1 hz2 k0 k1 k2 k3 k4 k5 k6 k7 k8 HAf5
                          obtain ⟨d0, _, _, x0, x1, _⟩ := HS.out wc hBw
                          have HWe := Lib.hid (HWd.out.step hBw)
                          have Hxe := Lib.hid (Hxd.out.step hBw)
                          have HKb := Lib.hid Kb
                          have HFv := Lib.hid hFv
                          have Hnb := Lib.hid hnb
                          have g0 := Kb.cell 0
                          have g1 := Kb.cell 1
                          have HJ : Hid (∀ wx, _) := fun wx => jumps_any op wx
                          have HE : Hid (∀ wx, _) := fun wx => ends_any op wx
                          clear d0 Kb hBw hFv hnb
                          cases hbad : (jumpsB op && !meetsM (allC l) M xa.toNat ⟨L', S'⟩) with
                          | true =>
                            rw [hbad] at Hst2
                            have HR0 : Hid (R = false) := Hst2.out
                            rw [Bool.and_eq_true] at hbad
                            obtain ⟨hjm, hmt⟩ := hbad
                            rw [hjm] at HJ
                            obtain ⟨hx0, hx1⟩ := Hxj.out hjm
                            (try dsimp only at hx0 hx1)
                            obtain ⟨d, rfl⟩ := Int.eq_ofNat_of_zero_le hx0
                            rw [Int.toNat_natCast, Bool.not_eq_true'] at hmt
                            have HMt : Hid (Calls _ _ _ wc _) := walkMeets_any l B ws wc (Hm.out.step HWe.out.below) kb mb hs M HWe.out.wk (by rw [Hhs.out]; rfl) d (by omega) ⟨L', S'⟩ _ _ HFv.out Hfr2.out HM.out
                            rw [hmt] at HMt
                            clear hjm hmt hx0 hx1 Hst2
                            go_wp2_with (first
                              | (go_at_call 70; (with_reducible refine (HJ.out _).mono ?_); rintro e w6 ⟨rfl, rfl⟩)
                              | (go_at_call 111; (with_reducible refine (HMt.out).mono ?_); rintro e w7 ⟨rfl, hB7⟩))
                            go_ret
                            exact ⟨by rw [HWR.out, HR0.out]; rfl, below_call HWe.out.below (Nat.le_refl _) hB7⟩
                          | false =>
                            rw [hbad] at Hst2
                            have HR2 : Hid (R = walkM (allC l) cls g m.handlers M (j + 1) (m.code.drop (j + 1)) (if endsB op then none else some ⟨L', S'⟩)) := Hst2.out
                            have Hbad := Lib.hid hbad
                            clear hbad Hst2
                            generalize wc = w6 at *
                            go_upto_region 23 with (first | fail)
                            go_cut [114] from 100 to 113 (fun b wx => b = .bool false ∧ Below w6.heap.size w6 wx)
                            case first =>
                              cases hjm : jumpsB op with
                              | true =>
                                have hmt := Hbad.out
                                rw [hjm, Bool.true_and, Bool.not_eq_false'] at hmt
                                rw [hjm] at HJ
                                obtain ⟨hx0, hx1⟩ := Hxj.out hjm
                                (try dsimp only at hx0 hx1)
                                obtain ⟨d, rfl⟩ := Int.eq_ofNat_of_zero_le hx0
                                rw [Int.toNat_natCast] at hmt
                                have HMt : Hid (Calls _ _ _ w6 _) := walkMeets_any l B ws w6 (Hm.out.step HWe.out.below) kb mb hs M HWe.out.wk (by rw [Hhs.out]; rfl) d (by omega) ⟨L', S'⟩ _ _ HFv.out Hfr2.out HM.out
                                rw [hmt] at HMt
                                clear hjm hmt hx0 hx1
                                go_wp2_with (first
                                  | (go_at_call 70; (with_reducible refine (HJ.out _).mono ?_); rintro e w7 ⟨rfl, rfl⟩)
                                  | (go_at_call 111; (with_reducible refine (HMt.out).mono ?_); rintro e w7 ⟨rfl, hB7⟩))
                                go_meet
                                exact ⟨rfl, hB7⟩
                              | false =>
                                rw [hjm] at HJ
                                clear hjm
                                go_wp2_with (first
                                  | (go_at_call 70; (with_reducible refine (HJ.out _).mono ?_); rintro e w7 ⟨rfl, rfl⟩))
                                go_meet
                                exact ⟨rfl, Below.refl _ _⟩
                            case rest =>
                              obtain ⟨rfl, hB7⟩ := hcut
                              have HWg := Lib.hid (HWe.out.step hB7)
                              have HF7 := Lib.hid (HFv.out.mono hB7)
                              have kb7 := HKb.out.step hB7
                              have kx7 := Hxe.out.step hB7
                              have HS7 : Hid (∀ wx, Below wc.heap.size wc wx → EndS wx nb wr.heap.size (.slice p3 _ n3) (.slice p4 _ n4) op) := fun wx hb => EndS.step ⟨kb7.cell 0, kb7.cell 1, kx7.cell 0⟩ hb
                              have HLt7 : Hid (nb ≠ fb ∧ wr.heap.size ≠ fb) := ⟨by have := HLt.out.2.1; have := Hnb.out; omega, fun e => Hne.out.2 e⟩
                              obtain ⟨v1, v2, hFb, ⟨p5, n5, q5, rfl⟩, ⟨p6, n6, q6, rfl⟩, hFf⟩ := HWg.out.at'
                              have b0 := hFb.cell 0
                              have b1 := hFb.cell 1
                              have z0 := hFb.frozen 0
                              have z1 := hFb.frozen 1
                              clear g0 g1 x0 x1 hFf hFb kb7 kx7 hB7
                              obtain ⟨e0, e1, e2⟩ := HS7.out wc (Below.refl _ _)
                              generalize wc = w8 at *
                              have HWn : Hid (∀ s'' : Option Frm, (∀ f, s'' = some f → f = ⟨L', S'⟩) → WalkAt w (((w8.setCell ⟨fb, 0, none⟩ (.slice p3 L'.length n3)).setCell ⟨fb, 1, none⟩ (.slice p4 S'.length n4)).drew) kb mb fb hs M (allC l) s'') := fun s'' hs'' => (HWg.out.store ⟨_, _, _, rfl⟩ ⟨_, _, _, rfl⟩ fun f e => by
                                rw [hs'' f e]
                                exact ⟨HF7.out, Hfr2.out⟩).step ((Below.refl _ _).drew)
                              cases hen : endsB op with
                              | true =>
                                rw [hen] at HE HR2
                                have HR3 : Hid (walkM (allC l) cls g m.handlers M (j + 1) (m.code.drop (j + 1)) none = R) := HR2.out.symm
                                have HWs := Lib.hid (HWn.out none (fun f e => by cases e))
                                clear hen HR2 HWn
                                go_upto_region 25 with (first | fail)
                                go_region_law (first
                                  | (go_simp; go_at_call 113; (with_reducible refine (HE.out _).mono ?_); rintro e w9 ⟨rfl, rfl⟩))
                                all_goals
                                  go_wp2_with (first | fail)
                                  go_roundw
                                  case rel => exact ⟨j + 1, none, by omega, rfl, by simp, HWs.out, HR3.out⟩
                                  case measure => simp [intOf]; omega
                              | false =>
                                rw [hen] at HE HR2
                                have HR3 : Hid (walkM (allC l) cls g m.handlers M (j + 1) (m.code.drop (j + 1)) (some ⟨L', S'⟩) = R) := HR2.out.symm
                                have HWs := Lib.hid (HWn.out (some ⟨L', S'⟩) (fun f e => (Option.some.inj e).symm))
                                clear hen HR2 HWn
                                go_upto_region 25 with (first | fail)
                                go_region_law (first
                                  | (go_simp; go_at_call 113; (with_reducible refine (HE.out _).mono ?_); rintro e w9 ⟨rfl, rfl⟩))
                                all_goals
                                  go_wp2_with (first | fail)
                                  go_roundw
                                  case rel => exact ⟨j + 1, (some ⟨L', S'⟩), by omega, rfl, by simp, HWs.out, HR3.out⟩
                                  case measure => simp [intOf]; omega
            · obtain rfl : j = m.code.length := by omega
              have HR1 : Hid (R = true) := by
                have := hWR.out
                rw [List.drop_length] at this
                exact this.symm
              have hBw := Lib.hid hWA.out.below
              clear hWA
              go_wp2_with (first | fail)
              go_ret
              exact ⟨by rw [HWR.out, HR1.out]; rfl, hBw.out⟩
      · rw [not_or] at hgood
        obtain ⟨hV, hz⟩ := hgood
        have hne : ¬ g.toList = [86] := fun e => hV (ByteArray.ext (Array.ext' (by rw [← ByteArray.toList_eq]; exact e)))
        have hne2 : (g.toList == [86]) = false := by simpa using hne
        have hbad : Hid (startB (allC l) L g = false) := by
          unfold Hid
          rw [HSt.out, decide_eq_false hV, Bool.false_or]
          exact beq_eq_false_iff_ne.2 hz
        rcases errV_cases (kindR (allC l) g) with ⟨_, hz'⟩ | ⟨hv, _⟩
        · exact absurd hz' hz
        · rw [hv] at HKg
          clear hz hV hv
          go_wp2_with (go_at_call 91; (with_reducible refine (HKg.out).mono ?_); rintro e w4 ⟨rfl, hB4⟩)
          go_ret
          exact ⟨by unfold walkB; rw [hbad.out]; rfl, below_call HB3.out (Nat.le_refl _) (below_call hB.out (Nat.le_refl _) hB4)⟩
end Go.Proofs.YtlmfmioljeppfaaGreatDoor
