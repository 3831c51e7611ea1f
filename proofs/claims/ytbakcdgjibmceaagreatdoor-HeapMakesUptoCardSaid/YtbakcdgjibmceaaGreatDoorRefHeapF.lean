/-
  WALK over the reference's HeapFault. Conditions: as in XRead; types' texts of at most maxLen signs.
-/
import Derived.Test.YtbakcdgjibmceaaGreatDoorRefHeap
namespace Go.Proofs.YtbakcdgjibmceaaGreatDoor
open Go.RowKit Go.Shelf Go.Lib
set_option maxHeartbeats 4000000 in
set_option maxRecDepth 100000 in
theorem refHeap_any (l : List Class) (lv : Value) (w : World) (ho : ∀ c ∈ l, ClassOk c) (hlv : ClassesAt w lv l) (h : List Thing) (hv : Value) (hh : ThingsAt w hv h) (hS : Short h) :
    Calls Tryz.prog 13 #[lv, .agg #[hv]] w fun e w' => e = .returned (.int .i64 (heapFault l h)) ∧ Below w.heap.size w w' := by
  obtain ⟨p, c, rfl, hc1, hc2, hcc⟩ := hh.open
  have hlen : h.length ≤ 9223372036854775807 := Nat.le_trans hc1 hc2
  have HC := Lib.hid hcc
  have BX := Lib.hid (boxed_new w #[.slice p h.length c] 25)
  have HW : Hid (∀ wx, Below w.heap.size w wx → _) := fun wx hb => refWorld_any l lv wx ho (hlv.mono hb)
  have HLv : Hid (∀ wx, Below w.heap.size w wx → ClassesAt wx lv l) := fun wx hb => hlv.mono hb
  have HH : Hid (∀ wx, Below w.heap.size w wx → ThingsAt wx (.slice p h.length c) h) := fun wx hb => hh.mono hb
  have HSh := Lib.hid hS
  clear hh hcc hS
  by_cases hz : readFault l = 0
  · rw [heapFault_yes hz]
    rw [hz] at HW
    have hR := right_of hz
    have hcf := read_faults hz
    by_cases h50 : 50 < h.length
    · rw [heapR_full h50]
      have z1 : decide ((50 : Int) < (h.length : Int)) = true := by simp; omega
      obtain ⟨pl, cap, rfl, _⟩ := hlv.open
      clear hlv hR hcf HLv HH HSh HC
      go_enter Tryz.func13, Tryz.ntmps13
      go_wp2_with (go_at_call 27; (with_reducible refine (HW.out _ BX.out.below).mono ?_); rintro e w2 ⟨rfl, hB2⟩; (have BX2 := BX.out.step hB2); (have q0 := boxed1 BX2))
      go_ret
      exact ⟨rfl, BX2.below⟩
    · have HF : Hid (∀ (wx : World) (x : Thing) (hv : Value), Below w.heap.size w wx → SliceOf wx 2 ValCells hv x.has → x.type.size ≤ maxLen → _) := fun wx x hv hb hx hs => refThing_any l lv hR hcf wx (HLv.out wx hb) x hv hx hs
      have HT : Hid (∀ (wx : World) (x : Thing) (hv : Value) (t : Ty), Below w.heap.size w wx → ThingTy (allC l) x t → SliceOf wx 2 ValCells hv x.has → x.type.size ≤ maxLen → (∀ e, t = .ar e → x.has.length ≤ 10) → _) := fun wx x hv t hb ht hx hs hn => refTypesOf_any l lv hR hcf wx (HLv.out wx hb) x hv t ht hx hs hn
      have HD : Hid (∀ (wx : World) (v : Val) (t : Str) (y : Ty), Below w.heap.size w wx → Typed (allC l) h → TyText t y → _) := fun wx v t y hb hT hy => refHolds_any l lv hR hcf wx (HLv.out wx hb) h _ (HH.out wx hb) hT HSh.out v t y hy
      have HR : Hid (∀ x, firstFault (thingFault (allC l)) h = x → heapR (allC l) h = if x ≠ 0 then x else if h.all (thingHolds (allC l) h) then 0 else 7) := fun x hx => by
        subst hx
        by_cases h0 : firstFault (thingFault (allC l)) h = 0
        · rw [heapR_hold h50 h0, if_neg (show ¬ firstFault (thingFault (allC l)) h ≠ 0 by rw [h0]; decide)]
        · rw [heapR_form h50 h0, if_pos h0]
      have hfa := Lib.hid hcf
      obtain ⟨pl, cap, rfl, _⟩ := hlv.open
      clear hlv hR hcf HLv HH hz
      generalize heapR (allC l) h = res at *
      have z1 : decide ((50 : Int) < (h.length : Int)) = false := by simp; omega
      go_enter Tryz.func13, Tryz.ntmps13
      go_wp2_with (go_at_call 27; (with_reducible refine (HW.out _ BX.out.below).mono ?_); rintro e w2 ⟨rfl, hB2⟩; (have BX2 := BX.out.step hB2); (have q0 := boxed1 BX2))
      clear hB2
      go_loopw [6] (fun x wr => ∃ k : Nat, k ≤ h.length ∧ Hid (firstFault (thingFault (allC l)) (h.drop k) = firstFault (thingFault (allC l)) h) ∧ Below w2.heap.size w2 wr ∧ x = .int .i64 k) (fun x _ => h.length - (intOf x).toNat)
      case atStart => exact ⟨0, by omega, rfl, Below.refl _ _, rfl⟩
      case round =>
        obtain ⟨k, hk, hff, hB, rfl⟩ := hrel
        have qr : wr.cell? ⟨w.heap.size, 0, none⟩ = some (.slice p h.length c) := (hB.cell (p := ⟨w.heap.size, 0, none⟩) (hcells_lt q0)).trans q0
        by_cases hkl : k < h.length
        · obtain ⟨x, hx⟩ : ∃ a, h[k]? = some a := ⟨h[k], by simp [hkl]⟩
          obtain ⟨b, o, vs, rfl, ⟨hv, rfl, hvs⟩, _, hcells⟩ := HC.out k x hx
          have hBw := below_call BX2.below (Nat.le_refl _) hB
          obtain ⟨c0, c1, _⟩ := hcells.mono hBw hcells.lt
          have hsx := HSh.out x (List.mem_of_getElem? hx)
          have hstep := first_drop (thingFault (allC l)) h k x hx
          rw [hff.out] at hstep
          obtain ⟨p2, c2, rfl, _⟩ := hvs.open
          have HFx := Lib.hid (HF.out _ x _ hBw (hvs.mono hBw (by decide) (fun _ _ h => h)) hsx)
          have HX := Lib.hid hx
          have HBr := Lib.hid hB
          clear hx hcells hsx hff hB hBw hvs
          by_cases hz : thingFault (allC l) x = 0
          · rw [hz] at HFx
            rw [if_pos hz] at hstep
            have hst := Lib.hid hstep.symm
            clear hstep hz
            go_wp2_with (go_at_call 46; (with_reducible refine HFx.out.mono ?_); rintro e w6 ⟨rfl, hB6⟩)
            go_roundw
            case rel => exact ⟨k + 1, by omega, hst.out, below_call HBr.out (Nat.le_refl _) hB6, by simp⟩
            case measure => simp [intOf]; omega
          · rw [if_neg hz] at hstep
            have hres := HR.out _ hstep
            rw [if_pos hz] at hres
            have HRs := Lib.hid hres
            have hf0 : (((thingFault (allC l) x : Nat) : Int) != 0) = true := by simpa using hz
            clear hstep hres hz
            generalize thingFault (allC l) x = f at *
            go_wp2_with (go_at_call 46; (with_reducible refine HFx.out.mono ?_); rintro e w6 ⟨rfl, hB6⟩)
            go_ret
            exact ⟨by rw [HRs.out]; rfl, below_call BX2.below (Nat.le_refl _) (below_call HBr.out (Nat.le_refl _) hB6)⟩
        · obtain rfl : k = h.length := by omega
          have hf0 : firstFault (thingFault (allC l)) h = 0 := by rw [← hff.out, List.drop_eq_nil_of_le (Nat.le_refl _)]; rfl
          have hfo : Formed (allC l) h := firstFault_zero hf0
          have hres := HR.out _ hf0
          rw [if_neg (by decide)] at hres
          have HRs := Lib.hid hres
          have HFo := Lib.hid hfo
          have HB2 := Lib.hid hB
          clear hff hf0 hfo hres hB HF HR
          go_wp2_with (first | fail)
          have HTy := Lib.hid (formed_typed HFo.out)
          go_loopw [8] (fun x wr => ∃ k : Nat, k ≤ h.length ∧ Hid ((h.drop k).all (thingHolds (allC l) h) = h.all (thingHolds (allC l) h)) ∧ Below w2.heap.size w2 wr ∧ x = .int .i64 k) (fun x _ => h.length - (intOf x).toNat)
          case atStart => exact ⟨0, by omega, rfl, HB2.out, rfl⟩
          case round =>
            clear HB2 qr
            obtain ⟨k, hk, hff, hB, rfl⟩ := hrel
            have qr : wr.cell? ⟨w.heap.size, 0, none⟩ = some (.slice p h.length c) := (hB.cell (p := ⟨w.heap.size, 0, none⟩) (hcells_lt q0)).trans q0
            by_cases hkl : k < h.length
            · obtain ⟨x, hx⟩ : ∃ a, h[k]? = some a := ⟨h[k], by simp [hkl]⟩
              obtain ⟨b, o, vs, rfl, ⟨hv, rfl, hvs⟩, _, hcells⟩ := HC.out k x hx
              have hBw := below_call BX2.below (Nat.le_refl _) hB
              have hcw := hcells.mono hBw hcells.lt
              obtain ⟨c0, c1, _⟩ := hcw
              have hxm := List.mem_of_getElem? hx
              have hsx := HSh.out x hxm
              have hf0 := HFo.out x hxm
              obtain ⟨tx, htx⟩ := HTy.out x hxm
              have hstep := all_drop (thingHolds (allC l) h) h k x hx
              rw [hff.out] at hstep
              obtain ⟨p2, c2, rfl, hd1, hd2, hdd⟩ := hvs.open
              have HTx := Lib.hid (HT.out _ x _ tx hBw htx (hvs.mono hBw (by decide) (fun _ _ h => h)) hsx (fun e he => thing_small hf0 (he ▸ htx)))
              have hshape := thing_shape hf0
              have hty := Lib.hid (thing_types hfa.out htx)
              have hall : Hid (thingHolds (allC l) h x = (x.has.zip (typesT (allC l) x)).all fun p => holdsTy (allC l) h p.1 (tyOf p.2)) := rfl
              have HX := Lib.hid hx
              have HDD := Lib.hid hdd
              have HBw := Lib.hid hBw
              have HS2 := Lib.hid hstep
              have hlen2 : x.has.length ≤ 9223372036854775807 := Nat.le_trans hd1 hd2
              have HBr := Lib.hid hB
              clear hx hcells hsx hff hBw hvs hdd hf0 htx hxm hstep hB
              unfold RowPost at HTx
              generalize typesT (allC l) x = T at *
              generalize thingHolds (allC l) h x = th at *
              go_wp2_with (go_at_call 47; (with_reducible refine HTx.out.mono ?_); rintro e w6 ⟨⟨v6, rfl, hv6⟩, hB6⟩; obtain ⟨p6, k6, rfl⟩ := ownsRow_shape hv6)
              have HT6 := Lib.hid (strsAt_of_owns hv6)
              have HB6 := Lib.hid (below_call HBw.out (Nat.le_refl _) hB6)
              have HW6 := Lib.hid (below_call HBr.out (Nat.le_refl _) hB6)
              have q6 := Lib.hid ((hB6.cell (p := ⟨w.heap.size, 0, none⟩) (hcells_lt qr)).trans qr)
              have c6 := Lib.hid ((hB6.cell (p := ⟨b, o + k * 2 + 1, none⟩) (hcells_lt c1)).trans c1)
              clear hv6 hB6 HTx HBw HBr c0 c1 qr
              go_loopw [10] (fun x3 wy => ∃ j : Nat, j ≤ T.length ∧ Hid (((x.has.zip T).drop j).all (fun p => holdsTy (allC l) h p.1 (tyOf p.2)) = th) ∧ Below w6.heap.size w6 wy ∧ x3 = .int .i64 j) (fun x3 _ => T.length - (intOf x3).toNat)
              case atStart => exact ⟨0, by omega, hall.out.symm, Below.refl _ _, rfl⟩
              case round =>
                obtain ⟨j, hj, hgg, hB, rfl⟩ := hrel
                by_cases hjl : j < T.length
                · obtain ⟨t, ht⟩ : ∃ a, T[j]? = some a := ⟨T[j], by simp [hjl]⟩
                  obtain ⟨v, hv⟩ : ∃ a, x.has[j]? = some a := ⟨x.has[j]'(by omega), by simp⟩
                  obtain ⟨y, hy⟩ := hty.out t (List.mem_of_getElem? ht)
                  have hst2 := all_drop (fun p : Val × Str => holdsTy (allC l) h p.1 (tyOf p.2)) _ j _ (zip_at hv ht)
                  rw [hgg.out] at hst2
                  dsimp only at hst2
                  rw [hy.of] at hst2
                  have hBy := below_call HB6.out (Nat.le_refl _) hB
                  obtain ⟨b2, o2, vs2, rfl, hvc, _, hvcells⟩ := HDD.out j v hv
                  unfold ValCells at hvc; subst hvc
                  obtain ⟨d0, d1, _⟩ := hvcells.mono hBy hvcells.lt
                  have q2 := (hB.cell (p := ⟨w.heap.size, 0, none⟩) (hcells_lt q6.out)).trans q6.out
                  have c2' := (hB.cell (p := ⟨b, o + k * 2 + 1, none⟩) (hcells_lt c6.out)).trans c6.out
                  obtain ⟨⟨b6, o6, rfl⟩, _, _, _⟩ := HT6.out.ptr (by omega)
                  have u0 := (HT6.out.mono hB).cell ht
                  have hjl2 : j < x.has.length := by omega
                  have HDo := Lib.hid (HD.out wr.drew v t y hBy.drew HTy.out hy)
                  have HY := Lib.hid hy
                  have HBr2 := Lib.hid hB
                  have hVX := Lib.hid hv
                  have hTX := Lib.hid ht
                  clear hy hB hBy hvcells ht hv hgg
                  unfold valV at HDo
                  obtain ⟨kd, n⟩ := v
                  dsimp only at d0 d1 HDo
                  cases hq : holdsTy (allC l) h ⟨kd, n⟩ y with
                  | true =>
                    rw [hq] at HDo hst2
                    rw [Bool.true_and] at hst2
                    have hst3 := Lib.hid hst2.symm
                    clear hst2 hq
                    go_upto_region 19 with (first | fail)
                    refine wp_region_still_tail 16 (by kernel_rfl) (by kernel_rfl) ?_
                    simp only [List.take_succ_cons, List.take_zero, List.drop_succ_cons, List.drop_zero]
                    repeat still_step
                    refine wpStill_nil ?_
                    change wpList _ _ _ _ _ wr.drew
                    go_wp2_with (go_at_call 18; (with_reducible refine HDo.out.mono ?_); rintro e w7 ⟨rfl, hB7⟩)
                    go_roundw
                    case rel => exact ⟨j + 1, by omega, hst3.out, below_call HBr2.out.drew (Nat.le_refl _) hB7, by simp⟩
                    case measure => simp [intOf]; omega
                  | false =>
                    rw [hq] at HDo hst2
                    rw [Bool.false_and] at hst2
                    have hno : h.all (thingHolds (allC l) h) = false := by rw [HS2.out, hst2]; rfl
                    have hres := HRs.out
                    rw [hno, if_neg (by decide)] at hres
                    have HR4 := Lib.hid hres
                    clear hst2 hq hno hres HRs
                    go_upto_region 19 with (first | fail)
                    refine wp_region_still_tail 16 (by kernel_rfl) (by kernel_rfl) ?_
                    simp only [List.take_succ_cons, List.take_zero, List.drop_succ_cons, List.drop_zero]
                    repeat still_step
                    refine wpStill_nil ?_
                    change wpList _ _ _ _ _ wr.drew
                    go_wp2_with (go_at_call 18; (with_reducible refine HDo.out.mono ?_); rintro e w7 ⟨rfl, hB7⟩)
                    go_ret
                    exact ⟨by rw [HR4.out]; rfl, below_call (below_call HB6.out (Nat.le_refl _) HBr2.out).drew (Nat.le_refl _) hB7⟩
                · obtain rfl : j = T.length := by omega
                  have hth : th = true := by rw [← hgg.out, List.drop_eq_nil_of_le (by rw [List.length_zip]; omega)]; rfl
                  have hst := HS2.out
                  rw [hth, Bool.true_and] at hst
                  have HSt := Lib.hid hst.symm
                  have HBr2 := Lib.hid hB
                  clear hth hst hgg hB
                  go_wp2_with (first | fail)
                  go_roundw
                  case rel => exact ⟨k + 1, by omega, HSt.out, below_call HW6.out (Nat.le_refl _) HBr2.out, by simp⟩
                  case measure => simp [intOf]; omega
            · obtain rfl : k = h.length := by omega
              have hyes : h.all (thingHolds (allC l) h) = true := by rw [← hff.out, List.drop_eq_nil_of_le (Nat.le_refl _)]; rfl
              have hres := HRs.out
              rw [if_pos hyes] at hres
              have HB3 := Lib.hid hB
              have HR4 := Lib.hid hres
              clear hyes hres hff hB HRs
              go_wp2_with (first | fail)
              go_ret
              exact ⟨by rw [HR4.out]; rfl, below_call BX2.below (Nat.le_refl _) HB3.out⟩
  · rw [heapFault_no hz]
    have hz0 : (((readFault l : Nat) : Int) != 0) = true := by simpa using hz
    obtain ⟨pl, cap, rfl, _⟩ := hlv.open
    clear hlv HLv HH hz HC HSh
    generalize readFault l = f at *
    go_enter Tryz.func13, Tryz.ntmps13
    go_wp2_with (go_at_call 27; (with_reducible refine (HW.out _ BX.out.below).mono ?_); rintro e w2 ⟨rfl, hB2⟩)
    go_ret
    exact ⟨rfl, (BX.out.step hB2).below⟩
end Go.Proofs.YtbakcdgjibmceaaGreatDoor
