/-
  WALK over check.Caught. Conditions: a map of right classes; a handler's class of at most 1048576 signs.
-/
import Derived.Test.YtlmfmioljeppfaaGreatDoorCheckLaw
import Derived.Test.YtlmfmioljeppfaaGreatDoorFrameMap
namespace Go.Proofs.YtlmfmioljeppfaaGreatDoor
open Go.RowKit Go.Shelf Go.Lib
def CaughtPost (w : World) (fb : Bool) (cls : Str) (f1 : Value) (e : Ending) (w' : World) : Prop :=
  Below w.heap.size w w' ∧ ((fb = true ∧ ∃ p n c, e = .returned (.tuple #[.agg #[f1, .slice p n c], .bool true]) ∧ StrsAt w' (.slice p n c) [thText cls] ∧ ∀ g, (Value.slice p n c).ownBlock = some g → w.heap.size ≤ g ∧ g < w'.heap.size) ∨
    (fb = false ∧ e = .returned (.tuple #[.agg #[.slice none 0 0, .slice none 0 0], .bool false])))
structure CX (w wx : World) (lo hi dest : Int) (cls : Str) (f1 f2 r1 r2 : Value) : Prop where
  below : Below w.heap.size w wx
  box : Blk wx w.heap.size 126 [.int .i64 lo, .int .i64 hi, .int .i64 dest, .string cls]
  frm : Blk wx (w.heap.size + 1) 27 [f1, f2]
  res : Blk wx (w.heap.size + 1 + 1) 27 [r1, r2]
variable {w wx wy : World} {lo hi dest : Int} {cls : Str} {f1 f2 r1 r2 : Value}
theorem CX.step (h : CX w wx lo hi dest cls f1 f2 r1 r2) (hb : Below wx.heap.size wx wy) : CX w wy lo hi dest cls f1 f2 r1 r2 := ⟨below_call h.below (Nat.le_refl _) hb, h.box.step hb, h.frm.step hb, h.res.step hb⟩
theorem CX.new (w : World) (lo hi dest : Int) (cls : Str) (f1 f2 : Value) : CX w (((w.alloc (.cells #[.int .i64 lo, .int .i64 hi, .int .i64 dest, .string cls] 126)).alloc (.cells #[f1, f2] 27)).alloc (.cells #[.slice none 0 0, .slice none 0 0] 27)) lo hi dest cls f1 f2 (.slice none 0 0) (.slice none 0 0) := by
  refine ⟨(((Below.refl _ _).alloc (Nat.le_refl _) _).alloc (by simp) _).alloc (by simp; omega) _, ?_, ?_, ?_⟩
  · exact (Blk.new w 126 _).step (((Below.refl _ _).alloc (Nat.le_refl _) _).alloc (by simp) _)
  · have := (Blk.new (w.alloc (.cells #[.int .i64 lo, .int .i64 hi, .int .i64 dest, .string cls] 126)) 27 [f1, f2]).step ((Below.refl _ _).alloc (Nat.le_refl _) (.cells #[.slice none 0 0, .slice none 0 0] 27))
    simpa using this
  · have := Blk.new ((w.alloc (.cells #[.int .i64 lo, .int .i64 hi, .int .i64 dest, .string cls] 126)).alloc (.cells #[f1, f2] 27)) 27 [.slice none 0 0, .slice none 0 0]
    simpa using this
theorem CX.cells (h : CX w wx lo hi dest cls f1 f2 r1 r2) : wx.cell? ⟨w.heap.size, 3, none⟩ = some (.string cls) ∧ wx.cell? ⟨w.heap.size + 1, 0, none⟩ = some f1 ∧ wx.cell? ⟨w.heap.size + 1 + 1, 0, none⟩ = some r1 ∧ wx.cell? ⟨w.heap.size + 1 + 1, 1, none⟩ = some r2 ∧ wx.frozen? ⟨w.heap.size + 1 + 1, 0, none⟩ = false ∧ wx.frozen? ⟨w.heap.size + 1 + 1, 1, none⟩ = false := ⟨h.box.cell 3, h.frm.cell 0, h.res.cell 0, h.res.cell 1, h.res.frozen 0, h.res.frozen 1⟩
theorem CX.set (h : CX w wx lo hi dest cls f1 f2 r1 r2) (u v : Value) : CX w ((wx.setCell ⟨w.heap.size + 1 + 1, 0, none⟩ u).setCell ⟨w.heap.size + 1 + 1, 1, none⟩ v) lo hi dest cls f1 f2 u v :=
  ⟨below_set2 h.below (by omega) u v, (h.box.other (by omega) 0 u).other (by omega) 1 v, (h.frm.other (by omega) 0 u).other (by omega) 1 v, h.res.put2 u v⟩
theorem CX.put (h : CX w wx lo hi dest cls f1 f2 r1 r2) (u v : Value) : Below w.heap.size w ((wx.setCell ⟨w.heap.size + 1 + 1, 0, none⟩ u).setCell ⟨w.heap.size + 1 + 1, 1, none⟩ v) := below_set2 h.below (by omega) u v
theorem fault_known (l : List Class) : (findC (allC l) sFault).isSome = true := rfl
theorem err_some {n : Nat} (h : n ≠ 0) : errV n = .iface 29 (.int .i64 (n : Int)) := by unfold errV; rw [if_neg h]
set_option maxHeartbeats 4000000 in
set_option maxRecDepth 100000 in
theorem caughtF_any (w0 w : World) (B : Nat) (l : List Class) (hm : WorldMap w0 w B l) (lo hi dest : Int) (cls : Str) (f1 f2 : Value) (hf1 : ∃ p n c, f1 = .slice p n c) (hc : cls.size ≤ 1048576) :
    Calls Tryz.prog 149 #[.map (some B), .agg #[.int .i64 lo, .int .i64 hi, .int .i64 dest, .string cls], .agg #[f1, f2]] w (CaughtPost w (faultB (allC l) cls) cls f1) := by
  obtain ⟨pf, nf, cf, rfl⟩ := hf1
  have hts : (thText cls).size ≤ maxLen := by rw [th_size]; exact Nat.le_trans (Nat.add_le_add_right hc 2) (by decide)
  have hfs : kindR (allC l) (thText sFault) = 0 := kindR_zero hm.faults (x := .ty (.cl sFault)) ⟨(lst_th _).symm, fault_known l⟩ (Nat.zero_le _)
  have HTh : Hid (∀ wx, _) := fun wx => thing_any cls wx (Nat.le_trans hc (by decide))
  have HTf : Hid (∀ wx, Calls Tryz.prog 142 #[.string ⟨#[70, 97, 117, 108, 116]⟩] wx fun e w' => e = .returned (.string (thText sFault)) ∧ wx = w') := fun wx => thing_any sFault wx (by decide)
  have HKi : Hid (∀ wx, Below w.heap.size w wx → _) := fun wx hb => kind_any w0 wx B (allC l) (hm.map.step hb) hm.right.nodup (thText cls) hts
  have T0 := CX.new w lo hi dest cls (.slice pf nf cf) f2
  obtain ⟨w1, hw1⟩ : ∃ w1, w1 = ((w.alloc (.cells #[.int .i64 lo, .int .i64 hi, .int .i64 dest, .string cls] 126)).alloc (.cells #[.slice pf nf cf, f2] 27)).alloc (.cells #[.slice none 0 0, .slice none 0 0] 27) := ⟨_, rfl⟩
  rw [← hw1] at T0
  have HW := Lib.hid hw1.symm
  have HT := Lib.hid T0
  obtain ⟨c3, g0, r0, r1, z0, z1⟩ := T0.cells
  by_cases hk : kindR (allC l) (thText cls) = 0
  · have HDo : Hid (∀ wx, Below w.heap.size w wx → _) := fun wx hb => does_any w0 wx B l (hm.step hb) (thText cls) (thText sFault) _ _ (known_kd hk) (known_kd hfs) hts (by decide)
    have hfb : faultB (allC l) cls = fitsKd (allC l) (kdOf (thText cls)) (kdOf (thText sFault)) := by unfold faultB; rw [hk]; rfl
    rw [hk, show errV 0 = .nilIface from rfl] at HKi
    rw [hfb]
    clear hfb hk hfs hm hw1 T0
    generalize fitsKd (allC l) (kdOf (thText cls)) (kdOf (thText sFault)) = fb at *
    cases fb with
    | false =>
      go_enter Tryz.func149, Tryz.ntmps149
      go_upto_region 1 with (first | fail)
      rw [HW.out]
      go_wp2_with (first
        | (go_at_call 142; (with_reducible refine (HTh.out _).mono ?_); rintro e w2 ⟨rfl, rfl⟩)
        | (go_at_call 142; (with_reducible refine (HTf.out _).mono ?_); rintro e w2 ⟨rfl, rfl⟩)
        | (go_at_call 91; (with_reducible refine (HKi.out _ HT.out.below).mono ?_); rintro e w3 ⟨rfl, hB3⟩; (have T3 := HT.out.step hB3); obtain ⟨c3', g0', r0', r1', z0', z1'⟩ := T3.cells)
        | (go_at_call 185; (with_reducible refine (HDo.out _ T3.below).mono ?_); rintro e w4 ⟨rfl, hB4⟩; (have T4 := T3.step hB4); obtain ⟨c3', g0', r0', r1', z0', z1'⟩ := T4.cells; (have HT4 := Lib.hid T4)))
      exact bodyPost_ret (v := .tuple #[.agg #[.slice none 0 0, .slice none 0 0], .bool false]) (by simp [results, Tryz.results149, go_sem, *]) rfl ⟨HT4.out.put _ _, Or.inr ⟨rfl, rfl⟩⟩
    | true =>
      go_enter Tryz.func149, Tryz.ntmps149
      go_upto_region 1 with (first | fail)
      rw [HW.out]
      go_upto_region 3 with (first
        | (go_at_call 142; (with_reducible refine (HTh.out _).mono ?_); rintro e w2 ⟨rfl, rfl⟩)
        | (go_at_call 142; (with_reducible refine (HTf.out _).mono ?_); rintro e w2 ⟨rfl, rfl⟩)
        | (go_at_call 91; (with_reducible refine (HKi.out _ HT.out.below).mono ?_); rintro e w3 ⟨rfl, hB3⟩; (have T3 := HT.out.step hB3); obtain ⟨c3', g0', r0', r1', z0', z1'⟩ := T3.cells)
        | (go_at_call 185; (with_reducible refine (HDo.out _ T3.below).mono ?_); rintro e w4 ⟨rfl, hB4⟩; (have T4 := T3.step hB4); (have HT4 := Lib.hid T4)))
      have T5 := Lib.hid (T4.step (Below.refl _ _).drew)
      obtain ⟨d3, d0, e0, e1, x0, x1⟩ := T4.cells
      refine wp_region_held_drew (S := fun w' => w'.cell? ⟨w.heap.size + 1, 0, none⟩ = some (.slice pf nf cf) ∧ w'.cell? ⟨w.heap.size, 3, none⟩ = some (.string cls)) (by kernel_rfl) ⟨d0, d3⟩ (fun hHeld => ?_)
      change wpAnyH _ _ _ _ _ 9 _ _ _
      iterate 4 ((first | (refine tkN rfl rfl (by kernel_rfl) (by kernel_rfl) (by kernel_rfl) (fun _ _ _ h => h) (by rfl) hHeld ?_) | (refine tkY (v := ?_) rfl rfl (by kernel_rfl) (by kernel_rfl) (by kernel_rfl) (fun _ _ _ h => h) (by rfl) hHeld ?_ ?_; rotate_left; focus (intro w hSw; (obtain ⟨s0, s1⟩ := hSw); go_simp; all_goals with_reducible rfl))); try simp only [Act.put, List.setIfInBounds_toArray, List.set_cons_zero, List.set_cons_succ])
      refine wpAnyH_ready (rs := [4]) (fuel := 4) (by kernel_rfl) (by simp) ?_
      refine AllReadyH.cons (i := 4) rfl (fun K hK => ?_) AllReadyH.nil
      go_simp
      refine (HTh.out _).mono ?_
      rintro e w6 ⟨rfl, rfl⟩
      refine hK.out _ _ hHeld (fun hHeld => ?_)
      clear hK K
      (try simp only [Act.put]); (try simp only [List.setIfInBounds_toArray]); (try simp only [List.set_cons_succ]); (try simp only [List.set_cons_zero])
      have T6 := T5.out.step ((Below.refl _ _).alloc (Nat.le_refl _) (.cells #[.string (thText cls)] 9))
      have hone := strs_one w4.drew (thText cls)
      refine wpAnyH_ready (rs := [5]) (fuel := 3) (by kernel_rfl) (by simp) ?_
      refine AllReadyH.cons (i := 5) rfl (fun K hK => ?_) AllReadyH.nil
      go_simp
      refine hK.out _ _ ⟨T6.frm.cell 0, T6.box.cell 3⟩ (fun hHeld => ?_)
      clear hK K
      (try simp only [Act.put]); (try simp only [List.setIfInBounds_toArray]); (try simp only [List.set_cons_succ]); (try simp only [List.set_cons_zero])
      change wpAnyH _ _ _ _ _ 3 _ _ _
      iterate 1 ((first | (refine tkN rfl rfl (by kernel_rfl) (by kernel_rfl) (by kernel_rfl) (fun _ _ _ h => h) (by rfl) hHeld ?_) | (refine tkY (v := ?_) rfl rfl (by kernel_rfl) (by kernel_rfl) (by kernel_rfl) (fun _ _ _ h => h) (by rfl) hHeld ?_ ?_; rotate_left; focus (intro w hSw; (obtain ⟨s0, s1⟩ := hSw); go_simp; all_goals with_reducible rfl))); (try simp only [Act.put]); (try simp only [List.setIfInBounds_toArray]); (try simp only [List.set_cons_succ]); (try simp only [List.set_cons_zero]))
      have hsz : w4.heap.size < ((w4.alloc (.cells #[.string (thText cls)] 9)).drew).heap.size := by simp
      have hle : w.heap.size ≤ w4.heap.size := T4.below.size
      replace T6 : CX w ((w4.alloc (.cells #[.string (thText cls)] 9)).drew) lo hi dest cls (.slice pf nf cf) f2 (.slice none 0 0) (.slice none 0 0) := T6
      replace hone : StrsAt ((w4.alloc (.cells #[.string (thText cls)] 9)).drew) (.slice (some ⟨w4.heap.size, 0, none⟩) 1 1) [thText cls] := hone
      have HT6 := Lib.hid T6
      have HO6 := Lib.hid hone
      try rw [show (w4.drew.alloc (.cells #[.string (thText cls)] 9)) = (w4.alloc (.cells #[.string (thText cls)] 9)).drew from rfl]
      clear T6 hone hHeld d3 d0 e0 e1 x0 x1 T5
      generalize (w4.alloc (.cells #[.string (thText cls)] 9)).drew = w6 at *
      obtain ⟨_, _, y0, y1, v0, v1⟩ := HT6.out.cells
      refine wpAnyH_ready (rs := [7]) (fuel := 1) (by kernel_rfl) (by simp) ?_
      refine AllReadyH.cons (i := 7) rfl (fun K hK => ?_) AllReadyH.nil
      go_simp
      have T7 := HT6.out.set (.slice pf nf cf) (.slice (some ⟨w4.heap.size, 0, none⟩) 1 1)
      refine hK.out _ _ ⟨T7.frm.cell 0, T7.box.cell 3⟩ (fun hHeld => ?_)
      clear hK K
      (try simp only [Act.put]); (try simp only [List.setIfInBounds_toArray]); (try simp only [List.set_cons_succ]); (try simp only [List.set_cons_zero])
      change wpAnyH _ _ _ _ _ 1 _ _ _
      iterate 1 ((first | (refine tkN rfl rfl (by kernel_rfl) (by kernel_rfl) (by kernel_rfl) (fun _ _ _ h => h) (by rfl) hHeld ?_) | (refine tkY (v := ?_) rfl rfl (by kernel_rfl) (by kernel_rfl) (by kernel_rfl) (fun _ _ _ h => h) (by rfl) hHeld ?_ ?_; rotate_left; focus (intro w hSw; (obtain ⟨s0, s1⟩ := hSw); go_simp; all_goals with_reducible rfl))); (try simp only [Act.put]); (try simp only [List.setIfInBounds_toArray]); (try simp only [List.set_cons_succ]); (try simp only [List.set_cons_zero]))
      refine wpAnyH_done (by kernel_rfl) ?_ _
      have HT7 := Lib.hid T7
      have hOb := (HO6.out).apart HT6.out.res (by simp) (by simp) (w' := (w6.setCell ⟨w.heap.size + 1 + 1, 0, none⟩ (.slice pf nf cf)).setCell ⟨w.heap.size + 1 + 1, 1, none⟩ (.slice (some ⟨w4.heap.size, 0, none⟩) 1 1)) fun g hg => (heap_setCell_other _ _ _ _ hg).trans (heap_setCell_other _ _ _ _ hg)
      have HOb := Lib.hid hOb
      have HSz : Hid (w.heap.size ≤ w4.heap.size ∧ w4.heap.size < ((w6.setCell ⟨w.heap.size + 1 + 1, 0, none⟩ (.slice pf nf cf)).setCell ⟨w.heap.size + 1 + 1, 1, none⟩ (.slice (some ⟨w4.heap.size, 0, none⟩) 1 1)).heap.size) := ⟨hle, by simpa using hsz⟩
      have k0 := T7.res.cell 0
      have k1 := T7.res.cell 1
      clear hHeld T7 hOb y0 y1 v0 v1 hsz hle
      generalize (w6.setCell ⟨w.heap.size + 1 + 1, 0, none⟩ (.slice pf nf cf)).setCell ⟨w.heap.size + 1 + 1, 1, none⟩ (.slice (some ⟨w4.heap.size, 0, none⟩) 1 1) = w7 at *
      go_wp2_with (first | fail)
      exact bodyPost_ret (v := .tuple #[.agg #[.slice pf nf cf, .slice (some ⟨w4.heap.size, 0, none⟩) 1 1], .bool true]) (by simp [results, Tryz.results149, go_sem, *]) rfl ⟨HT7.out.below, Or.inl ⟨rfl, _, _, _, rfl, HOb.out, fun g hg => by injection hg with hg; subst hg; exact HSz.out⟩⟩
  · have hfb : faultB (allC l) cls = false := by unfold faultB; rw [beq_eq_false_iff_ne.2 hk]; rfl
    rw [err_some hk] at HKi
    rw [hfb]
    clear hfb hfs hm hw1 T0
    go_enter Tryz.func149, Tryz.ntmps149
    go_upto_region 1 with (first | fail)
    rw [HW.out]
    go_wp2_with (first
      | (go_at_call 142; (with_reducible refine (HTh.out _).mono ?_); rintro e w2 ⟨rfl, rfl⟩)
      | (go_at_call 91; (with_reducible refine (HKi.out _ HT.out.below).mono ?_); rintro e w3 ⟨rfl, hB3⟩; (have T3 := HT.out.step hB3); obtain ⟨c3', g0', r0', r1', z0', z1'⟩ := T3.cells; (have HT3 := Lib.hid T3)))
    exact bodyPost_ret (v := .tuple #[.agg #[.slice none 0 0, .slice none 0 0], .bool false]) (by simp [results, Tryz.results149, go_sem, *]) rfl ⟨HT3.out.put _ _, Or.inr ⟨rfl, rfl⟩⟩
end Go.Proofs.YtlmfmioljeppfaaGreatDoor
