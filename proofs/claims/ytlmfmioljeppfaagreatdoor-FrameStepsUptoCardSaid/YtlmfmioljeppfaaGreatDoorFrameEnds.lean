/-
  WALK over the reference's FrameFault; what the laws over frames end with. Conditions: as in XRead; kinds' texts of at most 4194304 signs.
-/
import Derived.Test.YtlmfmioljeppfaaGreatDoorRefFind
import Derived.Test.YtlmfmioljeppfaaGreatDoorRefNames
import Derived.Test.YtlmfmioljeppfaaGreatDoorFrameOps
import Derived.Deep.RegionHeld3
namespace Go.Proofs.YtlmfmioljeppfaaGreatDoor
open Go.RowKit Go.Shelf Go.Lib
theorem errIs (k : Nat) (hk : k ≠ 0) (w : World) : Calls Tryz.prog 18 #[.iface 29 (.int .i64 k), .int .i64 k] w fun e w' => e = .returned (.bool true) ∧ w = w' := by
  have := error_any k k w
  rcases errV_cases k with ⟨_, h⟩ | ⟨h, _⟩
  · exact absurd h hk
  · rw [h, decide_eq_true rfl] at this; exact this
theorem errNil (w : World) : Calls Tryz.prog 18 #[.nilIface, .int .i64 0] w fun e w' => e = .returned (.bool true) ∧ w = w' := error_any 0 0 w
theorem below_alloc (w : World) (o : Obj) : Below w.heap.size w (w.alloc o) := (Below.refl _ _).alloc (Nat.le_refl _) o
theorem frameAt_nil (w : World) : FrameAt w (.slice none 0 0) (.slice none 0 0) ⟨[], []⟩ := ⟨Or.inl ⟨rfl, rfl⟩, Or.inl ⟨rfl, rfl⟩⟩
set_option maxHeartbeats 4000000 in
set_option maxRecDepth 100000 in
theorem refFrameFault_any (l : List Class) (lv : Value) (w : World) (hlv : ClassesAt w lv l) (f : Frm) (f1 f2 : Value) (hf : FrameAt w f1 f2 f) (hS : FrmShort f) :
    Calls Tryz.prog 12 #[lv, .agg #[f1, f2]] w fun e w' => e = .returned (.int .i64 (frameR (allC l) f)) ∧ Below w.heap.size w w' := by
  have HFm : Hid (∀ wx, Below w.heap.size w wx → FrameAt wx f1 f2 f) := fun wx hb => hf.mono hb
  obtain ⟨p1, c1, rfl, _⟩ := hf.1.open
  obtain ⟨p2, c2, rfl, _⟩ := hf.2.open
  have BX := Lib.hid (boxed_new w #[.slice p1 f.locals.length c1, .slice p2 f.stack.length c2] 27)
  by_cases hbig : 8 < f.locals.length ∨ 8 < f.stack.length
  · rw [frameR_full hbig]
    clear hf hS hlv
    by_cases h1 : 8 < f.locals.length
    · have z1 : decide ((8 : Int) < (f.locals.length : Int)) = true := by simp; omega
      clear hbig
      go_enter Tryz.func12, Tryz.ntmps12
      go_wp2_with (first | fail)
      go_ret
      exact ⟨rfl, BX.out.below⟩
    · have z1 : decide ((8 : Int) < (f.locals.length : Int)) = false := by simp; omega
      have z2 : decide ((8 : Int) < (f.stack.length : Int)) = true := by simp; omega
      clear hbig
      go_enter Tryz.func12, Tryz.ntmps12
      go_wp2_with (first | fail)
      go_ret
      exact ⟨rfl, BX.out.below⟩
  · have HR := Lib.hid (frameR_kinds (cs := allC l) hbig)
    have HK : Hid (∀ wx k, Below w.heap.size w wx → k ∈ f.locals ++ f.stack → _) := fun wx k hb hk => refKind_any l lv k wx (hlv.mono hb) (Nat.le_trans ((List.mem_append.1 hk).elim (hS.1 k) (hS.2 k)) (by decide))
    have z1 : decide ((8 : Int) < (f.locals.length : Int)) = false := by simp; omega
    have z2 : decide ((8 : Int) < (f.stack.length : Int)) = false := by simp; omega
    have hl1 : f.locals.length ≤ 8 := by omega
    have hl2 : f.stack.length ≤ 8 := by omega
    obtain ⟨pl, cap, rfl, _⟩ := hlv.open
    have hln : (f.locals ++ f.stack).length ≤ 16 := by rw [List.length_append]; omega
    obtain ⟨w1, hw1⟩ : ∃ w1, w1 = w.alloc (.cells #[.slice p1 f.locals.length c1, .slice p2 f.stack.length c2] 27) := ⟨_, rfl⟩
    have hk1 : Blk w1 w.heap.size 27 [.slice p1 f.locals.length c1, .slice p2 f.stack.length c2] := by rw [hw1]; exact Blk.new w 27 _
    have hB1 : Below w.heap.size w w1 := by rw [hw1]; exact (Below.refl _ _).alloc (Nat.le_refl _) _
    have hsz : w.heap.size + 1 ≤ w1.heap.size := by rw [hw1]; simp
    have HW := Lib.hid hw1.symm
    clear hf hS hbig hlv hw1 BX
    generalize frameR (allC l) f = res at *
    go_enter Tryz.func12, Tryz.ntmps12
    go_upto_region 3 with (first | fail)
    rw [HW.out]
    obtain ⟨q0, q1⟩ := hk1.cells2
    have hBz := (hB1.alloc hB1.size (.cells #[] 9)).drew
    have ho0 : (w1.alloc (.cells #[] 9)).drew.ownsRow (w.heap.size + 1) 9 1 (.slice (some ⟨w1.heap.size, 0, none⟩) 0 0) 0 [] := ownsRow_none w1.drew (w.heap.size + 1) hsz
    have hkz := hk1.step ((Below.refl w1.heap.size w1).alloc (Nat.le_refl _) (.cells #[] 9))
    obtain ⟨r0, r1⟩ := hkz.cells2
    have hS1 := (HFm.out _ hBz).1
    have hb63 : 0 + f.locals.length ≤ maxLen := by unfold maxLen; omega
    have hb16 : (0 + f.locals.length) * 16 ≤ 140737488355328 := by omega
    have hc63 : 0 + f.locals.length + f.stack.length ≤ maxLen := by unfold maxLen; omega
    have hc16 : (0 + f.locals.length + f.stack.length) * 16 ≤ 140737488355328 := by omega
    have hkd := hkz.step ((Below.refl (w1.alloc (.cells #[] 9)).heap.size _).drew)
    have hbz : w.heap.size + 1 ≤ (w1.alloc (.cells #[] 9)).drew.heap.size := Nat.le_trans hsz ((Below.refl w1.heap.size w1).alloc (Nat.le_refl _) (.cells #[] 9)).size
    go_region_law (first
      | (refine step_append_strs (by rfl) _ _ (by rfl) (w.heap.size + 1) _ 0 [] (by rfl) ho0 _ f.locals (by rfl) hS1 hb63 hb16 hbz ?_; intro v1 w2 ho1 hg1; (have hk2 := hkd.grown hg1 (fun e => by have := (ho0.lt _ e).1; omega)); obtain ⟨s0, s1⟩ := hk2.cells2; (have hB2 := hBz.grown hg1 hBz.size (fun g e => by have := (ho0.lt g e).1; omega)); (have hS2 := (HFm.out _ hB2).2))
      | (refine step_append_strs (by rfl) _ _ (by rfl) (w.heap.size + 1) _ _ _ (by rfl) ho1 _ f.stack (by rfl) hS2 hc63 hc16 (Nat.le_trans hbz hg1.size) ?_; intro v2 w3 ho2 hg2; (have hB3 := hB2.grown hg2 hB2.size (fun g e => by have := (ho1.lt g e).1; omega))))
    all_goals
      have hvs : StrsAt w3 v2 (f.locals ++ f.stack) := strsAt_of_owns (by simpa using ho2)
      generalize f.locals ++ f.stack = L at *
      obtain ⟨p, c, rfl, hc1, hc2, hcc⟩ := hvs.open
      have hlen : L.length ≤ 9223372036854775807 := by omega
      have HCc := Lib.hid hcc
      have HBw := Lib.hid hB3
      clear hcc hB3 hvs ho2 hg2 hS2 hB2 s0 s1 hk2 ho1 hg1 hS1 hb63 hb16 hc63 hc16 hbz r0 r1 hkz hkd ho0 hBz q0 q1 HW hsz hB1 hk1
      go_wp2_with (first | fail)
      go_loopw [6] (fun x wr => ∃ k : Nat, k ≤ L.length ∧ Hid (firstFault (kindR (allC l)) (L.drop k) = res) ∧ Below w3.heap.size w3 wr ∧ x = .int .i64 k) (fun x _ => L.length - (intOf x).toNat)
      case atStart => exact ⟨0, by omega, HR.out.symm, Below.refl _ _, rfl⟩
      case round =>
        obtain ⟨k, hk, hff, hB, rfl⟩ := hrel
        by_cases hkl : k < L.length
        · obtain ⟨x, hx⟩ : ∃ a, L[k]? = some a := ⟨L[k], by simp [hkl]⟩
          obtain ⟨b, o, vs, rfl, hR, _, hcells⟩ := HCc.out k x hx
          unfold StrCells at hR; subst hR
          have hBw := below_call HBw.out (Nat.le_refl _) hB
          have c0 := (hcells.mono hB hcells.lt).1
          rw [Nat.mul_one] at c0
          have HKx := Lib.hid (HK.out wr x hBw (List.mem_of_getElem? hx))
          have hstep := first_drop (kindR (allC l)) L k x hx
          rw [hff.out] at hstep
          have HBr := Lib.hid hB
          clear hx hcells hff hB
          by_cases hz : kindR (allC l) x = 0
          · rw [hz] at HKx
            rw [if_pos hz] at hstep
            have hst := Lib.hid hstep.symm
            clear hstep hz hBw
            go_wp2_with (go_at_call 40; (with_reducible refine HKx.out.mono ?_); rintro e w6 ⟨rfl, hB6⟩)
            go_roundw
            case rel => exact ⟨k + 1, by omega, hst.out, below_call HBr.out (Nat.le_refl _) hB6, by simp⟩
            case measure => simp [intOf]; omega
          · rw [if_neg hz] at hstep
            have HRs := Lib.hid hstep
            have HBk := Lib.hid hBw
            have hzi : ((kindR (allC l) x : Nat) : Int) ≠ 0 := by omega
            have hzb : (((kindR (allC l) x : Nat) : Int) != 0) = true := by simpa using hz
            clear hstep hBw
            generalize kindR (allC l) x = f at *
            go_wp2_with (go_at_call 40; (with_reducible refine HKx.out.mono ?_); rintro e w6 ⟨rfl, hB6⟩)
            go_ret
            exact ⟨by rw [HRs.out]; rfl, below_call HBk.out (Nat.le_refl _) hB6⟩
        · obtain rfl : k = L.length := by omega
          have hz : res = 0 := by rw [← hff.out, List.drop_eq_nil_of_le (Nat.le_refl _)]; rfl
          have HZ := Lib.hid hz
          have HBk := Lib.hid (below_call HBw.out (Nat.le_refl _) hB)
          clear hz hff hB
          go_wp2_with (first | fail)
          go_ret
          exact ⟨by rw [HZ.out]; rfl, HBk.out⟩
end Go.Proofs.YtlmfmioljeppfaaGreatDoor
