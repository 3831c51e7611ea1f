/-
  WALK over maps.Accept. Conditions: as in XRead; the maps' texts are short.
-/
import Derived.Test.YtlmfmioljeppfaaGreatDoorWalk
import Derived.Test.YtlmfmioljeppfaaGreatDoorNamed
import Derived.Test.YtlmfmioljeppfaaGreatDoorAcceptLaw
namespace Go.Proofs.YtlmfmioljeppfaaGreatDoor
open Go.RowKit Go.Shelf Go.Lib
open Go.ChangeMaps (setBlock heap_setBlock_same heap_setBlock_other)
def MapCellsI (w : World) (p : Int × Frm) (vs : List Value) : Prop := ∃ lv sv, vs = [.int .i64 p.1, lv, sv] ∧ FrameAt w lv sv p.2
def MapsAtI (w : World) (v : Value) (l : List (Int × Frm)) : Prop := SliceOf w 3 (MapCellsI w) v l
theorem MapsAtI.mono {w w' : World} {v : Value} {l : List (Int × Frm)} (hb : Below w.heap.size w w') (h : MapsAtI w v l) : MapsAtI w' v l := SliceOf.mono hb (by decide) (fun _ _ ⟨lv, sv, h1, h2⟩ => ⟨lv, sv, h1, h2.mono hb⟩) h
theorem WK.put {w : World} {kb mb : Nat} {hs : List Value} {M : Asg Frm} (h : WK w kb mb hs M) {i : Nat} (hi : i ≤ 64) (f : Frm) (lv sv : Value) (hf : FrameAt w lv sv f) :
    ∃ o, (Instr.mapUpdate 116 (.map (some mb)) (intV i) (.agg #[lv, sv])).run Tryz.prog w = .ok () (setBlock w mb o) ∧ WK (setBlock w mb o) kb mb hs (M.put i f) ∧ ∀ w0 : World, w0.heap.size ≤ mb → Below w0.heap.size w0 w → Below w0.heap.size w0 (setBlock w mb o) := by
  obtain ⟨es, clock, h1, _⟩ := h.map.ex
  obtain ⟨o, hr, hm⟩ := h.map.put hi f lv sv hf
  have hne : kb ≠ mb := fun e => by
    have := h.box
    rw [e] at this
    unfold Blk at this
    rw [h1] at this
    cases this
  exact ⟨o, hr, ⟨(heap_setBlock_other h1 o hne).trans h.box, h.len, hm.keep rfl fun _ _ _ k => k.keepS (KeepS.map h1 o)⟩, fun w0 hw hb => below_setBlock hw h1 o hb⟩
def AcceptPost (w : World) (l : List Class) (cls : Str) (at' : Int) (xs : List (Int × Frm)) (e : Ending) (w' : World) : Prop := Below w.heap.size w w' ∧ ∃ n, AcceptIs l cls at' xs n ∧ e = .returned (errV n)
theorem mapsFault_drop {cs : List Class} {n : Nat} {p : Int} {xs : List (Int × Frm)} {k : Nat} {x : Int × Frm} (hx : xs[k]? = some x) : mapsFault cs n p (xs.drop k) = if x.1 ≤ p ∨ (n : Int) ≤ x.1 then 2 else if frameR cs x.2 ≠ 0 then frameR cs x.2 else mapsFault cs n x.1 (xs.drop (k + 1)) := by
  obtain ⟨hk, rfl⟩ := List.getElem?_eq_some_iff.1 hx
  rw [List.drop_eq_getElem_cons hk]; rfl
theorem asgL_drop {F : Asg Frm} {xs : List (Int × Frm)} {k : Nat} {x : Int × Frm} (hx : xs[k]? = some x) : asgL (xs.drop k) F = asgL (xs.drop (k + 1)) (F.put x.1.toNat x.2) := by
  obtain ⟨hk, rfl⟩ := List.getElem?_eq_some_iff.1 hx
  rw [List.drop_eq_getElem_cons hk]; rfl
theorem hm_put {w0 w : World} {B : Nat} {l : List Class} (hm : WorldMap w0 w B l) {kb mb : Nat} {hs : List Value} {M : Asg Frm} (h : WK w kb mb hs M) (hw : w0.heap.size ≤ mb) (hne : B < mb) (o : Obj) : WorldMap w0 (setBlock w mb o) B l := by
  obtain ⟨es, clock, h1, _⟩ := h.map.ex
  exact ⟨classMap_keep hm.map (below_setBlock hw h1 o (by obtain ⟨k, _⟩ := hm.map; exact k)) (heap_setBlock_other h1 o (Nat.ne_of_lt hne)), hm.right, hm.faults⟩
theorem blk_put {w : World} {b : Nat} {t : TypeId} {vals : List Value} (hb : Blk w b t vals) {kb mb : Nat} {hs : List Value} {M : Asg Frm} (h : WK w kb mb hs M) (o : Obj) : Blk (setBlock w mb o) b t vals := by
  obtain ⟨es, clock, h1, _⟩ := h.map.ex
  refine (heap_setBlock_other h1 o fun e => ?_).trans hb
  rw [← e] at h1
  unfold Blk at hb
  rw [h1] at hb
  cases hb
set_option maxHeartbeats 4000000 in
set_option maxRecDepth 100000 in
theorem accept_any (l : List Class) (lv : Value) (cls : Str) (at' : Int) (xs : List (Int × Frm)) (mv : Value) (w : World) (hl : Laid w) (ho : ∀ c ∈ l, ClassOk c) (hlv : ClassesAt w lv l) (hmv : MapsAtI w mv xs) (hms : ∀ x ∈ xs, FrmShort x.2) :
    Calls Tryz.prog 31 #[lv, .string cls, .int .i64 at', mv] w (AcceptPost w l cls at' xs) := by
  have HNm := Lib.hid (named_any l lv cls at' w hl ho hlv)
  have HCk : Hid (∀ (wx : World) (f : Frm) (f1 f2 : Value), Below w.heap.size w wx → FrameAt wx f1 f2 f → FrmShort f → _) := fun wx f f1 f2 hb hf hs => frameCheckL_any l lv f f1 f2 wx (hl.mono hb hl.1) ho (hlv.mono hb) hf hs
  obtain ⟨pl, cap, rfl, hpo⟩ := hlv.open
  clear hpo
  obtain ⟨px, capx, rfl, hx1, hx2, hxc⟩ := hmv.open
  have HXc := Lib.hid hxc
  have HMv := Lib.hid hmv
  have HMs := Lib.hid hms
  have HO := Lib.hid ho
  have HA : Hid (∀ (wx : World) (o : Obj), Below wx.heap.size wx (wx.alloc o)) := fun wx o => (Below.refl _ _).alloc (Nat.le_refl _) o
  have hxl : xs.length ≤ 9223372036854775807 := Nat.le_trans hx1 hx2
  clear hl ho hlv hxc hmv hms hx1 hx2
  unfold NamedPost zMethod at HNm
  by_cases hz : namedN l cls at' = 0
  · have HZ := Lib.hid hz
    clear hz
    go_enter Tryz.func31, Tryz.ntmps31
    go_upto_region 2 with (go_at_call 62; (with_reducible refine (HNm.out).mono ?_); rintro e w2 ⟨hB2, ⟨_, m, ws, B, v, hnm, hab, rfl, ⟨pc, kc, ph, kh, rfl, hcv, hhv⟩, hM⟩ | ⟨hz, _⟩⟩; rotate_left; (exact absurd HZ.out hz))
    obtain ⟨c, hc, hcn, hmc⟩ := namedM_mem hnm
    have hmo := (HO.out c hc).methods m hmc
    have hcl : cls.size ≤ 1048576 := by rw [← hcn]; exact (HO.out c hc).name
    obtain ⟨args, g, many, hG⟩ := meth_good (hM.faults c hc) hmc hab.out
    have HIs : Hid (∀ n, n = acceptN (allC l) cls g m (firstL cls m.static args many) xs → AcceptIs l cls at' xs n) := fun n hn => Or.inr ⟨HZ.out, m, args, g, many, hnm, hab.out, hG, hn⟩
    have hc40 := (codeOk_of hG.code).small
    have hFF : Hid (∀ f, frameFault l f = frameR (allC l) f) := fun f => frameFault_yes (by
      have := HZ.out
      unfold namedN at this
      split at this
      · rename_i h0; exact absurd this h0
      · rename_i h0; exact Decidable.not_not.1 h0)
    have k3 := Blk.new w2 53 [.string m.name, .string m.type, .bool m.static, .bool m.abs, .bool m.priv, .int .i64 m.locals, .slice pc m.code.length kc, .slice ph m.handlers.length kh]
    have B3 : Below w.heap.size w (w2.alloc (.cells #[.string m.name, .string m.type, .bool m.static, .bool m.abs, .bool m.priv, .int .i64 m.locals, .slice pc m.code.length kc, .slice ph m.handlers.length kh] 53)) := hB2.alloc hB2.size _
    have M3 := hM.step (HA.out w2 (.cells #[.string m.name, .string m.type, .bool m.static, .bool m.abs, .bool m.priv, .int .i64 m.locals, .slice pc m.code.length kc, .slice ph m.handlers.length kh] 53))
    generalize w2.alloc (.cells #[.string m.name, .string m.type, .bool m.static, .bool m.abs, .bool m.priv, .int .i64 m.locals, .slice pc m.code.length kc, .slice ph m.handlers.length kh] 53) = w3 at *
    have Hcv := Lib.hid hcv
    have Hhv := Lib.hid hhv
    have HG := Lib.hid hG
    have Hmo := Lib.hid hmo
    have Hcl := Lib.hid hcl
    have HBm : Hid (ws.heap.size ≤ w3.heap.size ∧ B < w3.heap.size) := by
      obtain ⟨⟨k1, _, k2, _⟩, _, _⟩ := M3
      exact ⟨k1.size, k2⟩
    have HM3 := Lib.hid M3
    have HB3 := Lib.hid B3
    have Hk3 := Lib.hid k3
    have m0 := k3.cell 0
    have m1 := k3.cell 1
    have m2 := k3.cell 2
    have m3 := k3.cell 3
    have m4 := k3.cell 4
    have m5 := k3.cell 5
    have m6 := k3.cell 6
    have m7 := k3.cell 7
    clear hnm hab hM hcv hhv hB2 hc hcn hmc hmo hcl hG k3 B3 M3 HO HNm
    by_cases hfull : 40 < xs.length
    · have HI := Lib.hid (HIs.out 4 (by unfold acceptN; rw [if_pos hfull]))
      go_wp2_with (first | fail)
      go_ret
      exact ⟨HB3.out, 4, HI.out, rfl⟩
    · have hx40 : xs.length ≤ 40 := by omega
      have hmm := fun t w => run_makeMap (P := Tryz.prog) t w
      go_upto_region 7 with (first | fail)
      obtain ⟨hs, hhs⟩ : ∃ hs : List Value, hs = [.map (some B), .string m.name, .string m.type, .bool m.static, .bool m.abs, .bool m.priv, .int .i64 m.locals, .slice pc m.code.length kc, .slice ph m.handlers.length kh] := ⟨_, rfl⟩
      have B4 : Below w3.heap.size w3 ((w3.alloc (.map #[] 0)).alloc (.cells #[.map (some B), .string m.name, .string m.type, .bool m.static, .bool m.abs, .bool m.priv, .int .i64 m.locals, .slice pc m.code.length kc, .slice ph m.handlers.length kh, .map (some w3.heap.size)] 123)) := ((Below.refl _ _).alloc (Nat.le_refl _) _).alloc (by simp) _
      have K4 : WK ((w3.alloc (.map #[] 0)).alloc (.cells #[.map (some B), .string m.name, .string m.type, .bool m.static, .bool m.abs, .bool m.priv, .int .i64 m.locals, .slice pc m.code.length kc, .slice ph m.handlers.length kh, .map (some w3.heap.size)] 123)) (w3.heap.size + 1) w3.heap.size hs (fun _ => none) := by
        refine ⟨?_, by rw [hhs]; rfl, ?_⟩
        · have := Blk.new (w3.alloc (.map #[] 0)) 123 [.map (some B), .string m.name, .string m.type, .bool m.static, .bool m.abs, .bool m.priv, .int .i64 m.locals, .slice pc m.code.length kc, .slice ph m.handlers.length kh, .map (some w3.heap.size)]
          rw [World.size_alloc] at this
          rw [hhs]
          exact this
        · have := FMap.made (FrameAt ((w3.alloc (.map #[] 0)).alloc (.cells #[.map (some B), .string m.name, .string m.type, .bool m.static, .bool m.abs, .bool m.priv, .int .i64 m.locals, .slice pc m.code.length kc, .slice ph m.handlers.length kh, .map (some w3.heap.size)] 123))) w3
          exact this.keep (heap_alloc_old _ _ (by simp)) fun _ _ _ k => k
      have hms : w.heap.size ≤ w3.heap.size := HB3.out.size
      have hks : w.heap.size ≤ w3.heap.size + 1 := by omega
      have Hk4 := Hk3.out.step B4
      have n6 := Hk4.cell 6
      have HB4 := Lib.hid (below_call HB3.out (Nat.le_refl _) B4)
      have HM4 := Lib.hid (HM3.out.step B4)
      have hmlt : w2.heap.size < w3.heap.size := Hk3.out.lt
      generalize ((w3.alloc (.map #[] 0)).alloc (.cells #[.map (some B), .string m.name, .string m.type, .bool m.static, .bool m.abs, .bool m.priv, .int .i64 m.locals, .slice pc m.code.length kc, .slice ph m.handlers.length kh, .map (some w3.heap.size)] 123)) = w4 at *
      generalize w3.heap.size + 1 = kb at *
      generalize w3.heap.size = mb at *
      have HK4 := Lib.hid K4
      have HK3 := Lib.hid Hk4
      have Hms := Lib.hid (And.intro hms (And.intro hks hmlt))
      have Hhs := Lib.hid hhs
      obtain ⟨R, hR⟩ : ∃ R, asgL xs (fun _ => none) = R := ⟨_, rfl⟩
      obtain ⟨N, hN⟩ : ∃ N, mapsFault (allC l) m.code.length (-1) xs = N := ⟨_, rfl⟩
      have HR := Lib.hid hR
      have HN := Lib.hid hN
      have HAc : Hid (acceptN (allC l) cls g m (firstL cls m.static args many) xs = if N ≠ 0 then N else if walkB (allC l) cls g m R (firstL cls m.static args many) then 0 else 7) := by
        unfold Hid acceptN
        rw [if_neg hfull, hN, hR]
      clear m0 m1 m2 m3 m4 m5 m6 m7 hmm n6 K4 B4 Hk4 hms hks hmlt hhs hR hN hfull
      go_wp2_with (first | fail)
      go_loopw [38] (fun y wr => ∃ (k : Nat) (F : Asg Frm) (p : Int), k ≤ xs.length ∧ y = .int .i64 (k : Int) ∧ Hid (Below w.heap.size w wr) ∧ Hid (Blk wr w2.heap.size 53 [.string m.name, .string m.type, .bool m.static, .bool m.abs, .bool m.priv, .int .i64 m.locals, .slice pc m.code.length kc, .slice ph m.handlers.length kh]) ∧ Hid (WK wr kb mb hs F) ∧ Hid (WorldMap ws wr B l) ∧
        Hid (mapsFault (allC l) m.code.length p (xs.drop k) = N ∧ asgL (xs.drop k) F = R ∧ -1 ≤ p ∧ ((k = 0 ∧ p = -1) ∨ ∃ x, 0 < k ∧ xs[k - 1]? = some x ∧ x.1 = p))) (fun y _ => xs.length - (intOf y).toNat)
      case atStart => exact ⟨0, fun _ => none, -1, Nat.zero_le _, rfl, HB4.out, HK3.out, HK4.out, HM4.out, HN.out, HR.out, by omega, Or.inl ⟨rfl, rfl⟩⟩
      case round =>
        obtain ⟨k, F, p, hk, rfl, hB, hKm, hK, hM, hI⟩ := hrel
        by_cases hkl : k < xs.length
        · obtain ⟨⟨i, f⟩, hx⟩ : ∃ x, xs[k]? = some x := ⟨xs[k], by simp [hkl]⟩
          obtain ⟨b, o, vs, rfl, ⟨lv, sv, rfl, hf⟩, _, hcells⟩ := HXc.out k _ hx
          have hcells := hcells.mono hB.out hcells.lt
          have hf := hf.mono hB.out
          obtain ⟨⟨p1, n1, rfl, hz1⟩, ⟨p2, n2, rfl, hz2⟩⟩ := And.intro hf.1.open hf.2.open
          obtain ⟨c0, c1, c2, _⟩ := hcells
          obtain ⟨hI1, hI2, hI3, hI4⟩ := hI.out
          rw [mapsFault_drop hx] at hI1
          rw [asgL_drop hx] at hI2
          have Ba := HA.out wr (.cells #[.int .i64 i, .slice p1 f.locals.length n1, .slice p2 f.stack.length n2] 62)
          have kx := Blk.new wr 62 [.int .i64 i, .slice p1 f.locals.length n1, .slice p2 f.stack.length n2]
          have Km := hKm.out.step Ba
          have k6 := Km.cell 6
          have HKa := Lib.hid (hK.out.step Ba)
          have HMa := Lib.hid (hM.out.step Ba)
          have HBa := Lib.hid (below_call hB.out (Nat.le_refl _) Ba)
          have Hfa := Lib.hid (hf.mono Ba)
          have x0 := kx.cell 0
          have x1 := kx.cell 1
          have x2 := kx.cell 2
          have HKx := Lib.hid kx
          have HKm := Lib.hid Km
          have Hfs := Lib.hid (HMs.out _ (List.mem_of_getElem? hx))
          have HI1 := Lib.hid hI1
          have HI2 := Lib.hid hI2
          have Hx := Lib.hid hx
          dsimp only at Hfs Hfa
          have hprev : Hid (0 < k → ∃ y, xs[k - 1]? = some y ∧ y.1 = p) := fun h => by
            rcases hI4 with ⟨h0, _⟩ | ⟨y, _, h1, h2⟩
            · omega
            · exact ⟨y, h1, h2⟩
          have hk0 : Hid (k = 0 → p = -1) := fun h => by
            rcases hI4 with ⟨_, h1⟩ | ⟨y, h0, _⟩
            · exact h1
            · omega
          -- what stands ahead
          have hcell : Hid (0 < k → (wr.alloc (.cells #[.int .i64 i, .slice p1 f.locals.length n1, .slice p2 f.stack.length n2] 62)).cell? ⟨b, o + (k - 1) * 3, none⟩ = some (.int .i64 p)) := fun h => by
            obtain ⟨y, h1, h2⟩ := hprev.out h
            obtain ⟨b', o', vs', e, ⟨lv', sv', rfl, _⟩, _, hc'⟩ := HXc.out _ _ h1
            injection e with e
            injection e with e1 e2
            subst e1 e2
            rw [← h2]
            exact (hc'.mono HBa.out hc'.lt).1
          obtain ⟨wa, hwa⟩ : ∃ wa, wa = wr.alloc (.cells #[.int .i64 i, .slice p1 f.locals.length n1, .slice p2 f.stack.length n2] 62) := ⟨_, rfl⟩
          rw [← hwa] at x0 x1 x2 k6 HKa HMa HBa Hfa HKx HKm hcell
          have HWa := Lib.hid hwa.symm
          clear hwa hI1 hI2 hI4 hz1 hz2 hf hx Ba kx Km
          go_upto_region 10 with (first | fail)
          rw [HWa.out]
          clear c0 c1 c2
          have hkI : (k : Int) < (xs.length : Int) := by omega
          obtain ⟨bb, hbb⟩ : ∃ bb, decide (i ≤ p ∨ (m.code.length : Int) ≤ i) = bb := ⟨_, rfl⟩
          have Hbb := Lib.hid hbb
          clear hbb
          go_cut [68] from 43 to 68 (fun c wx => c = .bool bb ∧ ∃ q, wx = wa.drewN q)
          case first =>
            have hk1 : Hid (0 < k → wrap64 ((k : Int) - 1) = ((k - 1 : Nat) : Int)) := fun h => by unfold wrap64; omega
            by_cases hi0 : i < 0
            · have hd0 : decide (i < 0) = true := decide_eq_true hi0
              have HD : Hid (bb = true) := Hbb.out.symm.trans (decide_eq_true (Or.inl (by omega)))
              go_quiet (fail)
              go_wp2_with (first | fail)
              go_meet
              exact ⟨by rw [HD.out], _, rfl⟩
            · have hd0 : decide (i < 0) = false := decide_eq_false hi0
              by_cases hin : (m.code.length : Int) ≤ i
              · have hd1 : decide ((m.code.length : Int) ≤ i) = true := decide_eq_true hin
                have HD : Hid (bb = true) := Hbb.out.symm.trans (decide_eq_true (Or.inr hin))
                go_quiet (fail)
                go_wp2_with (first | fail)
                go_meet
                exact ⟨by rw [HD.out], _, rfl⟩
              · have hd1 : decide ((m.code.length : Int) ≤ i) = false := decide_eq_false hin
                by_cases hk0' : k = 0
                · have hp := hk0.out hk0'
                  subst hk0'
                  have HD : Hid (bb = false) := Hbb.out.symm.trans (decide_eq_false (by omega))
                  clear hp
                  go_quiet (fail)
                  go_wp2_with (first | fail)
                  go_meet
                  exact ⟨by rw [HD.out], _, rfl⟩
                · have hkp : 0 < k := by omega
                  have hcc := hcell.out hkp
                  have hw1 := hk1.out hkp
                  have hd2 : decide (0 < (k : Int)) = true := decide_eq_true (by omega)
                  have hge : (0 : Int) ≤ ((k - 1 : Nat) : Int) := by omega
                  have hlt : ((k - 1 : Nat) : Int) < (xs.length : Int) := by omega
                  by_cases hip : i ≤ p
                  · have hd3 : decide (i ≤ p) = true := decide_eq_true hip
                    have HD : Hid (bb = true) := Hbb.out.symm.trans (decide_eq_true (Or.inl hip))
                    go_quiet (fail)
                    go_wp2_with (first | fail)
                    go_meet
                    exact ⟨by rw [HD.out], _, rfl⟩
                  · have hd3 : decide (i ≤ p) = false := decide_eq_false hip
                    have HD : Hid (bb = false) := Hbb.out.symm.trans (decide_eq_false (by omega))
                    go_quiet (fail)
                    go_wp2_with (first | fail)
                    go_meet
                    exact ⟨by rw [HD.out], _, rfl⟩
          case rest =>
            obtain ⟨rfl, q, rfl⟩ := hcut
            have Bq : Below wa.heap.size wa (wa.drewN q) := below_drewN (Below.refl _ _) q
            by_cases hbad : i ≤ p ∨ (m.code.length : Int) ≤ i
            · obtain rfl : bb = true := Hbb.out.symm.trans (decide_eq_true hbad)
              have HN2 : Hid (N = 2) := by
                have := HI1.out
                rw [if_pos hbad] at this
                exact this.symm
              have HI3 := Lib.hid (HIs.out 2 (by rw [HAc.out, HN2.out]; rfl))
              have HBq := Lib.hid (below_call HBa.out (Nat.le_refl _) Bq)
              clear hbad x0 x1 x2 k6 Bq hcell
              go_wp2_with (first | fail)
              go_ret
              exact ⟨HBq.out, 2, HI3.out, rfl⟩
            · obtain rfl : bb = false := Hbb.out.symm.trans (decide_eq_false hbad)
              have HCf : Hid (Calls _ _ _ (wa.drewN q) _) := HCk.out (wa.drewN q) f _ _ (below_call HBa.out (Nat.le_refl _) Bq) (Hfa.out.mono Bq) Hfs.out
              rw [hFF.out] at HCf
              have HI4 : Hid ((if frameR (allC l) f ≠ 0 then frameR (allC l) f else mapsFault (allC l) m.code.length i (xs.drop (k + 1))) = N) := by
                have := HI1.out
                rw [if_neg hbad] at this
                exact this
              rw [not_or] at hbad
              obtain ⟨a, rfl⟩ := Int.eq_ofNat_of_zero_le (show 0 ≤ i by omega)
              have ha64 : a ≤ 64 := by omega
              have hap : -1 ≤ ((a : Nat) : Int) := by omega
              have x0q := HKx.out.step Bq
              have HBq := Lib.hid Bq
              clear hbad x0 x1 x2 k6 hcell Bq
              have x0 := x0q.cell 0
              have x1 := x0q.cell 1
              have x2 := x0q.cell 2
              have HKq := Lib.hid x0q
              clear x0q
              generalize hwq : wa.drewN q = wq at *
              have HWq := Lib.hid hwq
              clear hwq
              rcases errV_cases (frameR (allC l) f) with ⟨hv, hz⟩ | ⟨hv, hz⟩
              · rw [hv] at HCf
                rw [hz] at HI4
                have HI5 : Hid (mapsFault (allC l) m.code.length a (xs.drop (k + 1)) = N) := HI4.out
                clear hz hv HI4
                go_upto_region 15 with (go_at_call 68; (with_reducible refine (HCf.out).mono ?_); rintro e w5 ⟨rfl, hB5⟩)
                have B5 := below_call HBq.out (Nat.le_refl _) hB5
                have K5 := HKa.out.step B5
                obtain ⟨o2, hr, K6, hK6⟩ := (K5.step ((Below.refl _ _).drew)).put ha64 f (.slice p1 f.locals.length n1) (.slice p2 f.stack.length n2) ((Hfa.out.mono B5).mono ((Below.refl _ _).drew))
                rw [intV] at hr
                have x5 := HKq.out.step hB5
                have y0 := x5.cell 0
                have y1 := x5.cell 1
                have y2 := x5.cell 2
                have y9 := K5.cell9
                have Bd := below_call HBa.out (Nat.le_refl _) (below_call B5 (Nat.le_refl _) ((Below.refl _ _).drew))
                have HB6 := Lib.hid (hK6 w Hms.out.1 Bd)
                have HM6 := Lib.hid (hm_put ((HMa.out.step B5).step ((Below.refl _ _).drew)) (K5.step ((Below.refl _ _).drew)) HBm.out.1 HBm.out.2 o2)
                have HKm6 := Lib.hid (blk_put ((HKm.out.step B5).step ((Below.refl _ _).drew)) (K5.step ((Below.refl _ _).drew)) o2)
                have HK6 := Lib.hid K6
                have HI6 : Hid (asgL (xs.drop (k + 1)) (F.put a f) = R) := by
                  have := HI2.out
                  rw [Int.toNat_natCast] at this
                  exact this
                clear x0 x1 x2 K5 K6 hK6 hB5 B5 x5 Bd
                go_region
                all_goals
                  go_wp2_with (first | fail)
                  go_roundw
                  case rel => exact ⟨k + 1, F.put a f, a, by omega, by simp, HB6.out, HKm6.out, HK6.out, HM6.out, HI5.out, HI6.out, hap, Or.inr ⟨_, Nat.succ_pos k, by rw [Nat.add_sub_cancel]; exact Hx.out, rfl⟩⟩
                  case measure => simp [intOf]; omega
              · rw [hv] at HCf
                have HN3 : Hid (N = frameR (allC l) f) := by
                  have := HI4.out
                  rw [if_pos hz] at this
                  exact this.symm
                have HI3 := Lib.hid (HIs.out (frameR (allC l) f) (by rw [HAc.out, HN3.out, if_pos hz]))
                have Hev : Hid (errV (frameR (allC l) f) = .iface 29 (.int .i64 (frameR (allC l) f : Nat))) := by unfold Hid errV; rw [if_neg hz]
                have HBb := Lib.hid (below_call HBa.out (Nat.le_refl _) HBq.out)
                clear hz hv
                go_wp2_with (go_at_call 68; (with_reducible refine (HCf.out).mono ?_); rintro e w5 ⟨rfl, hB5⟩)
                go_ret
                exact ⟨below_call HBb.out (Nat.le_refl _) hB5, _, HI3.out, by rw [Hev.out]; rfl⟩
        · obtain rfl : k = xs.length := by omega
          obtain ⟨hI1, hI2, _, _⟩ := hI.out
          rw [List.drop_length] at hI1 hI2
          have hN0 : N = 0 := hI1.symm
          have hRF : F = R := hI2
          subst hRF
          have HAc2 : Hid (acceptN (allC l) cls g m (firstL cls m.static args many) xs = if walkB (allC l) cls g m F (firstL cls m.static args many) then 0 else 7) := by
            unfold Hid
            rw [HAc.out, hN0]; rfl
          have Bw := hB.out
          have HWk : Hid (Calls _ _ _ wr _) := walkWalk_any l B ws wr hM.out m cls g args many pc ph kc kh HG.out Hmo.out Hcl.out (Hcv.out.mono Bw (by decide) (fun _ _ h => h)) (Hhv.out.mono Bw (by decide) (fun _ _ h => h)) kb mb hs Hhs.out F hK.out (fun i f e => (asgL_right (HN.out.trans hN0) (by rw [HR.out]; exact e)).2)
          clear hI1 hI2 hN0 Bw
          cases hwb : walkB (allC l) cls g m F (firstL cls m.static args many) with
          | true =>
            rw [hwb] at HWk HAc2
            have HI3 := Lib.hid (HIs.out 0 HAc2.out.symm)
            clear hwb
            go_wp2_with (go_at_call 69; (with_reducible refine (HWk.out).mono ?_); rintro e w5 ⟨rfl, hB5⟩)
            go_ret
            exact ⟨below_call hB.out (Nat.le_refl _) hB5, _, HI3.out, rfl⟩
          | false =>
            rw [hwb] at HWk HAc2
            have HI3 := Lib.hid (HIs.out 7 HAc2.out.symm)
            clear hwb
            go_wp2_with (go_at_call 69; (with_reducible refine (HWk.out).mono ?_); rintro e w5 ⟨rfl, hB5⟩)
            go_ret
            exact ⟨below_call hB.out (Nat.le_refl _) hB5, _, HI3.out, rfl⟩
  · have HZ := Lib.hid hz
    clear hz
    go_enter Tryz.func31, Tryz.ntmps31
    go_wp2_with (go_at_call 62; (with_reducible refine (HNm.out).mono ?_); rintro e w2 ⟨hB2, ⟨hz, _⟩ | ⟨_, rfl⟩⟩; (exact absurd hz HZ.out))
    go_ret
    exact ⟨hB2.alloc hB2.size _, _, Or.inl ⟨HZ.out, rfl⟩, by unfold errV; rw [if_neg HZ.out]; rfl⟩
end Go.Proofs.YtlmfmioljeppfaaGreatDoor
