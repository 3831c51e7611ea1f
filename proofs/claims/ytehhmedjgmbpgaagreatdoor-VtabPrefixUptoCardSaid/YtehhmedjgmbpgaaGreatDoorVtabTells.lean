/-
  PLAIN LAW: the reference's loop over a table, one slot after the other.
  WALK over the reference's SlotsOf. Conditions: a right world, a class that is there.
  WALKS over vtab.Called, Pick. Conditions: a right world, a class that is there; as in XRead.
  WALK over the reference's Picked. Conditions: a right world, a class that is there.
  WALKS over same.Slots, the law's tabled and the law VtabTells. Conditions: as in XRead; texts of at most maxLen signs.
-/
import Derived.Test.YtehhmedjgmbpgaaGreatDoorTableLaw
import Derived.Test.YtehhmedjgmbpgaaGreatDoorVtab
import Derived.Test.YtehhmedjgmbpgaaGreatDoorRefNames
import Derived.Test.YtehhmedjgmbpgaaGreatDoorSameMethod
import Derived.BigQuiet
import Derived.Deep.QuietTactic
import Derived.BigRegion
import Derived.Test.YtehhmedjgmbpgaaGreatDoorRefFind
import Derived.Test.YtehhmedjgmbpgaaGreatDoorStructEq
import Derived.Test.YtehhmedjgmbpgaaGreatDoorWalks
import Derived.Test.YtehhmedjgmbpgaaGreatDoorFaults
namespace Go.Proofs.YtehhmedjgmbpgaaGreatDoor
open Go.RowKit Go.Shelf Go.Lib
/-- the table whose first k slots are turned -/
def turned (c : Str) (m : Method) (l : List Slot) (k : Nat) : List Slot := (l.take k).map (turnSlot c m) ++ l.drop k
theorem turned_zero (c : Str) (m : Method) (l : List Slot) : turned c m l 0 = l := by simp [turned]
theorem turned_all (c : Str) (m : Method) (l : List Slot) : turned c m l l.length = l.map (turnSlot c m) := by simp [turned]
theorem turned_length (c : Str) (m : Method) (l : List Slot) (k : Nat) : (turned c m l k).length = l.length := by simp [turned]; omega
theorem turned_at {c : Str} {m : Method} {l : List Slot} {k : Nat} {x : Slot} (h : l[k]? = some x) : (turned c m l k)[k]? = some x := by
  obtain ⟨hk, rfl⟩ := List.getElem?_eq_some_iff.1 h
  unfold turned
  rw [List.getElem?_append_right (by simp; omega)]
  simp [Nat.min_eq_left (Nat.le_of_lt hk), hk]
theorem turned_step {c : Str} {m : Method} {l : List Slot} {k : Nat} {x : Slot} (h : l[k]? = some x) : turned c m l (k + 1) = (turned c m l k).set k (turnSlot c m x) := by
  obtain ⟨hk, rfl⟩ := List.getElem?_eq_some_iff.1 h
  unfold turned
  rw [List.set_append_right _ _ (by simp; omega), List.take_succ_eq_append_getElem hk, List.map_append]
  simp only [List.length_map, List.length_take, Nat.min_eq_left (Nat.le_of_lt hk), Nat.sub_self]
  rw [List.drop_eq_getElem_cons hk, List.append_assoc]
  rfl
theorem any_step {m : Method} {l : List Slot} {k : Nat} {x : Slot} (h : l[k]? = some x) : (l.take (k + 1)).any (isSlot m) = ((l.take k).any (isSlot m) || isSlot m x) := by
  obtain ⟨hk, rfl⟩ := List.getElem?_eq_some_iff.1 h
  rw [List.take_succ_eq_append_getElem hk, List.any_append]; simp
end Go.Proofs.YtehhmedjgmbpgaaGreatDoor
namespace Go.Proofs.YtehhmedjgmbpgaaGreatDoor
open Go.RowKit Go.Shelf Go.Lib
theorem flat_cls {x : Slot} (c : Str) : ∀ {l : List Slot} {k : Nat}, l[k]? = some x → (l.flatMap slotVs).set (k * 3 + 2) (.string c) = (l.set k { x with cls := c }).flatMap slotVs
  | [], k, h => by simp at h
  | y :: r, 0, h => by
    simp at h; subst h
    rfl
  | y :: r, k + 1, h => by
    have ih := flat_cls (x := x) c (l := r) (k := k) (by simpa using h)
    rw [List.set_cons_succ, List.flatMap_cons, List.flatMap_cons, ← ih, show (k + 1) * 3 + 2 = k * 3 + 2 + 3 by omega]
    rfl
theorem turnSlot_yes {c : Str} {m : Method} {x : Slot} (h : isSlot m x = true) : turnSlot c m x = { x with cls := c } := by unfold turnSlot; rw [h]; rfl
theorem turnSlot_no {c : Str} {m : Method} {x : Slot} (h : isSlot m x = false) : turnSlot c m x = x := by unfold turnSlot; rw [h]; rfl
theorem set_same {α : Type} : ∀ {l : List α} {k : Nat} {x : α}, l[k]? = some x → l.set k x = l
  | [], _, _, h => by simp at h
  | _ :: _, 0, _, h => by simp at h; subst h; rfl
  | y :: r, k + 1, x, h => by rw [List.set_cons_succ, set_same (by simpa using h)]
theorem single_nil : Single ([] : List Slot) := by simp [Single]
set_option maxHeartbeats 4000000 in
set_option maxRecDepth 100000 in
theorem refSlots_fuel (l : List Class) (lv : Value) (hR : Right l) (hcf : ∀ c ∈ l, classFault c = 0) : ∀ (k : Nat) (n : Str) (w : World), ClassesAt w lv l → (findC (allC l) n).isSome = true → (everyC (allC l) n).length ≤ k →
    Calls Tryz.prog 20 #[lv, .string n] w (TrioPost slotVs 39 w (slotsC (allC l) n)) := by
  intro k
  induction k with
  | zero =>
    intro n w _ hk hf
    have := List.length_pos_of_mem (every_facts hR.closed hk).2.1
    omega
  | succ k ih =>
    intro n w hlv hk hf
    have HCO := Lib.hid (refClassOf_any l lv n w hlv)
    unfold ClassGives at HCO
    have HLV : Hid (∀ wx, Below w.heap.size w wx → ClassesAt wx lv l) := fun wx hb => hlv.mono hb
    have hct := (class_counts hcf n).2
    obtain ⟨pl, cap, rfl, _⟩ := hlv.open
    rw [show (findC (allC l) n).getD noClass = classC (allC l) n from rfl] at HCO
    have ze : ((classC (allC l) n).super.toList == []) = decide ((classC (allC l) n).super.size = 0) := by rw [← empty_iff]; cases (classC (allC l) n).super.toList <;> rfl
    have ze2 : (classC (allC l) n).super.toList.isEmpty = decide ((classC (allC l) n).super.size = 0) := empty_iff _
    obtain ⟨O, hP, hPs, hSi, hcase⟩ : ∃ O : List Slot, slotsC (allC l) n = slotsOf n O (classC (allC l) n).methods ∧ O.length ≤ 4194304 ∧ Single O ∧
        ((decide ((classC (allC l) n).super.size = 0) = true ∧ O = []) ∨ (decide ((classC (allC l) n).super.size = 0) = false ∧ ∀ wx, Below w.heap.size w wx → Calls Tryz.prog 20 #[.slice pl l.length cap, .string (classC (allC l) n).super] wx (TrioPost slotVs 39 wx O))) := by
      by_cases h0 : (classC (allC l) n).super.size = 0
      · exact ⟨[], slotsC_top h0, Nat.zero_le _, single_nil, Or.inl ⟨decide_eq_true h0, rfl⟩⟩
      · obtain ⟨hks, hlt⟩ := hR.up hk h0
        exact ⟨slotsC (allC l) (classC (allC l) n).super, slotsC_up hR hk h0, slots_small hR hcf hks, slotsC_single _ _, Or.inr ⟨decide_eq_false h0, fun wx hb => ih _ wx (HLV.out wx hb) hks (by omega)⟩⟩
    have HP := Lib.hid hP
    have HSi := Lib.hid hSi
    unfold TrioPost at *
    clear ih hlv hk hf HLV hR hcf hP hSi
    generalize slotsC (allC l) n = res at *
    generalize classC (allC l) n = d at *
    generalize (findC (allC l) n).isSome = is at *
    obtain ⟨n2, s2, f2, b2, d2, m2⟩ := d
    dsimp only at *
    rcases hcase with ⟨hz, hPe⟩ | ⟨hz, hrec⟩
    case' inl =>
      rw [hz] at ze ze2
      clear hz
      go_enter Tryz.func20, Tryz.ntmps20
      go_upto_region 2 with (go_at_call 31; (with_reducible refine HCO.out.mono ?_); rintro e w4 ⟨pf2, kf2, pd2, kd2, pm2, km2, rfl, _, _, hms, hB4, _⟩)
      have BX := boxed_new w4 #[.string n2, .string s2, .slice pf2 f2.length kf2, .bool b2, .slice pd2 d2.length kd2, .slice pm2 m2.length km2] 31
      have hB5 := below_call hB4 (Nat.le_refl _) BX.below
      have hms5 : SliceOf (w4.alloc (.cells #[.string n2, .string s2, .slice pf2 f2.length kf2, .bool b2, .slice pd2 d2.length kd2, .slice pm2 m2.length km2] 31)) 8 (MethodCells _) _ _ := hms.mono BX.below (by decide) (fun _ _ h => h.mono BX.below)
      generalize w4.alloc (.cells #[.string n2, .string s2, .slice pf2 f2.length kf2, .bool b2, .slice pd2 d2.length kd2, .slice pm2 m2.length km2] 31) = w5 at *
      obtain ⟨q0, q1, q2, q3, q4, q5⟩ := boxed6 BX
      have HBX := Lib.hid BX
      have HB5 := Lib.hid hB5
      have HP0 : Hid (w5.ownsRow w5.heap.size 39 3 (.slice none 0 0) O.length (O.flatMap slotVs)) := by rw [hPe]; exact ownsRow3_nil _ _ _
      have HBs : Hid (Below w5.heap.size w5 w5) := Below.refl _ _
      clear BX hB5 hB4 hms hPe
      go_wp2_with (first | fail)
    case' inr =>
      rw [hz] at ze ze2
      have HRec := Lib.hid hrec
      clear hz hrec
      go_enter Tryz.func20, Tryz.ntmps20
      go_upto_region 2 with (go_at_call 31; (with_reducible refine HCO.out.mono ?_); rintro e w4 ⟨pf2, kf2, pd2, kd2, pm2, km2, rfl, _, _, hms, hB4, _⟩)
      have BX := boxed_new w4 #[.string n2, .string s2, .slice pf2 f2.length kf2, .bool b2, .slice pd2 d2.length kd2, .slice pm2 m2.length km2] 31
      have hB5 := below_call hB4 (Nat.le_refl _) BX.below
      have hms5 : SliceOf (w4.alloc (.cells #[.string n2, .string s2, .slice pf2 f2.length kf2, .bool b2, .slice pd2 d2.length kd2, .slice pm2 m2.length km2] 31)) 8 (MethodCells _) _ _ := hms.mono BX.below (by decide) (fun _ _ h => h.mono BX.below)
      generalize w4.alloc (.cells #[.string n2, .string s2, .slice pf2 f2.length kf2, .bool b2, .slice pd2 d2.length kd2, .slice pm2 m2.length km2] 31) = w5 at *
      obtain ⟨q0, q1, q2, q3, q4, q5⟩ := boxed6 BX
      have HBX := Lib.hid BX
      have HB5 := Lib.hid hB5
      clear BX hB5 hB4 hms
      go_wp2_with (go_at_call 20; (with_reducible refine (HRec.out _ HB5.out).mono ?_); rintro e w6 ⟨⟨v6, rfl, hp0⟩, hbs⟩; (have HP0 := Lib.hid hp0); (have HBs := Lib.hid hbs); clear hp0 hbs)
    all_goals
      obtain ⟨pd', kd', he, g1, g2, hdd⟩ := hms5.open
      injection he with he1 he2 he3
      subst he1 he3
      clear he2 hms5
      have HD := Lib.hid hdd
      have hlen2 : m2.length ≤ 9223372036854775807 := Nat.le_trans g1 g2
      clear hdd q0 q1 q2 q3 q4 q5
      go_loopw [7, 8] (fun v x wr => ∃ (j : Nat) (o : List Slot), j ≤ m2.length ∧ Hid (slotsOf n o (m2.drop j) = res) ∧ Hid (Single o) ∧ Hid (o.length ≤ 4194304 + j) ∧ wr.ownsRow w5.heap.size 39 3 v o.length (o.flatMap slotVs) ∧ Below w5.heap.size w5 wr ∧ x = .int .i64 j) (fun _ x _ => m2.length - (intOf x).toNat)
      case atStart => exact ⟨0, O, by omega, HP.out.symm, HSi.out, hPs, HP0.out, HBs.out, rfl⟩
      case round =>
        clear HP0 HBs
        obtain ⟨j, o, hj, hout, hsi, hol, hown, hB, rfl⟩ := hrel
        obtain ⟨va, vc, rfl⟩ := ownsRow_shape hown
        obtain ⟨y0, y1, y2, y3, y4, y5⟩ := boxed6 (HBX.out.step hB)
        clear y0 y1 y2 y3 y4
        by_cases hjl : j < m2.length
        · obtain ⟨m, hx⟩ : ∃ a, m2[j]? = some a := ⟨m2[j], by simp [hjl]⟩
          obtain ⟨bb, oo, vs, rfl, ⟨cv, hv, rfl, k1, k2⟩, _, hcells⟩ := HD.out j m hx
          obtain ⟨u0, u1, u2, u3, u4, u5, u6, u7, _⟩ := hcells.mono hB hcells.lt
          have hnext := slotsOf_drop n o m2 j m hx
          rw [hout.out] at hnext
          have HXm := Lib.hid hx
          obtain ⟨pc, kc, rfl, _⟩ := k1.open
          obtain ⟨ph, kh, rfl, _⟩ := k2.open
          clear hx hcells k1 k2 hout
          obtain ⟨mn, mt, mst, mab, mpr, mlo, mco, mha⟩ := m
          dsimp only at u0 u1 u2 u3 u4 u5 u6 u7
          have hown5 := hown.alloc (.cells #[.string mn, .string mt, .bool mst, .bool mab, .bool mpr, .int .i64 mlo, .slice pc mco.length kc, .slice ph mha.length kh] 51)
          have hB5 := hB.alloc hB.size (.cells #[.string mn, .string mt, .bool mst, .bool mab, .bool mpr, .int .i64 mlo, .slice pc mco.length kc, .slice ph mha.length kh] 51)
          by_cases hsp : (mst || mpr) = true
          · have hn2 : Hid (slotsOf n o (m2.drop (j + 1)) = res) := by
              unfold slotStep at hnext
              rw [if_pos hsp] at hnext
              exact hnext.symm
            have hol2 : Hid (o.length ≤ 4194304 + (j + 1)) := by unfold Hid; have := hol.out; omega
            have HO5 := Lib.hid hown5
            have HB6 := Lib.hid hB5
            clear hnext hown5 hB5 hown hB hol
            cases mst <;> cases mpr <;> first | (exact absurd hsp (by decide)) | skip
            all_goals
              clear hsp
              go_wp2_with (first | fail)
              go_roundw
              case rel => exact ⟨j + 1, o, by omega, hn2, hsi, hol2, HO5.out, HB6.out, by simp⟩
              case measure => simp [intOf]; omega
          · rw [Bool.not_eq_true, Bool.or_eq_false_iff] at hsp
            obtain ⟨rfl, rfl⟩ := hsp
            have hn2 : Hid (slotsOf n (putSlot n o ⟨mn, mt, false, mab, false, mlo, mco, mha⟩) (m2.drop (j + 1)) = res) := hnext.symm
            have hbk : Hid (Blk (wr.alloc (.cells #[.string mn, .string mt, .bool false, .bool mab, .bool false, .int .i64 mlo, .slice pc mco.length kc, .slice ph mha.length kh] 51)) wr.heap.size 51 [.string mn, .string mt, .bool false, .bool mab, .bool false, .int .i64 mlo, .slice pc mco.length kc, .slice ph mha.length kh]) := Blk.new wr _ _
            have hva : Hid (∀ g, va = some ⟨g, 0, none⟩ → g < wr.heap.size) := fun g hg => (hown.lt g (by rw [hg]; rfl)).2
            have HO5 := Lib.hid hown5
            have HB6 := Lib.hid hB5
            have hob : o.length ≤ 8388608 := by have := hol.out; omega
            clear hnext hown5 hB5 hown hB
            go_wp2_with (first | fail)
            clear u0 u1 u2 u3 u4 u5 u6 u7
            generalize wr.alloc (.cells #[.string mn, .string mt, .bool false, .bool mab, .bool false, .int .i64 mlo, .slice pc mco.length kc, .slice ph mha.length kh] 51) = wb at *
            generalize wr.heap.size = b0 at *
            go_loopw [10, 11] (fun p x wy => ∃ k : Nat, k ≤ o.length ∧ p = .bool ((o.take k).any (isSlot ⟨mn, mt, false, mab, false, mlo, mco, mha⟩)) ∧ wy.ownsRow w5.heap.size 39 3 (.slice va o.length vc) o.length ((turned n ⟨mn, mt, false, mab, false, mlo, mco, mha⟩ o k).flatMap slotVs) ∧ Below w5.heap.size w5 wy ∧ Hid (Blk wy b0 51 [.string mn, .string mt, .bool false, .bool mab, .bool false, .int .i64 mlo, .slice pc mco.length kc, .slice ph mha.length kh]) ∧ x = .int .i64 k) (fun _ x _ => o.length - (intOf x).toNat)
            case atStart => exact ⟨0, by omega, by simp, by rw [turned_zero]; exact HO5.out, HB6.out, hbk, rfl⟩
            case round =>
              clear HO5 HB6 hbk
              obtain ⟨k, hk, rfl, hown, hB, hbk, rfl⟩ := hrel
              by_cases hkl : k < o.length
              · obtain ⟨x, hx⟩ : ∃ a, o[k]? = some a := ⟨o[k], by simp [hkl]⟩
                have hT := turned_at (c := n) (m := ⟨mn, mt, false, mab, false, mlo, mco, mha⟩) hx
                have hS := turned_step (c := n) (m := ⟨mn, mt, false, mab, false, mlo, mco, mha⟩) hx
                have hA := any_step (m := ⟨mn, mt, false, mab, false, mlo, mco, mha⟩) hx
                obtain ⟨g, rfl, hg1, hg2, hg3⟩ := ownsRow3_at slotVs_3 hown (turned_length _ _ _ _).symm hT
                have d0 : wr.cell? ⟨g, k * 3, none⟩ = some (.string x.name) := hg3 0 (by omega)
                have d1 : wr.cell? ⟨g, k * 3 + 1, none⟩ = some (.string x.type) := hg3 1 (by omega)
                have d2 : wr.cell? ⟨g, k * 3 + 2, none⟩ = some (.string x.cls) := hg3 2 (by omega)
                obtain ⟨y0, y1, y2, y3, y4, y5, y6, y7⟩ := hbk.out.cells8
                clear y2 y3 y4 y5 y6 y7 hg3
                have e1 := strEq x.name mn
                have e2 := strEq x.type mt
                have z2 := hown.frozenAt (k * 3 + 2)
                have hgb := hva.out g rfl
                have HX := Lib.hid hx
                have HO5 := Lib.hid hown
                have HB6 := Lib.hid hB
                by_cases hyes : isSlot ⟨mn, mt, false, mab, false, mlo, mco, mha⟩ x = true
                · rw [turnSlot_yes hyes] at hS
                  rw [hyes, Bool.or_true] at hA
                  have HD : Hid (∀ a, ((wr.drewN a).setCell ⟨g, k * 3 + 2, none⟩ (.string n)).ownsRow w5.heap.size 39 3 (.slice (some ⟨g, 0, none⟩) o.length vc) o.length ((turned n ⟨mn, mt, false, mab, false, mlo, mco, mha⟩ o (k + 1)).flatMap slotVs) ∧ Below w5.heap.size w5 ((wr.drewN a).setCell ⟨g, k * 3 + 2, none⟩ (.string n)) ∧ Hid (Blk ((wr.drewN a).setCell ⟨g, k * 3 + 2, none⟩ (.string n)) b0 51 [.string mn, .string mt, .bool false, .bool mab, .bool false, .int .i64 mlo, .slice pc mco.length kc, .slice ph mha.length kh])) := fun a => by
                    have hbd := below_drewN (Below.refl wr.heap.size wr) a
                    have hrow := ((ownsRow3_below hown hbd).stored (k * 3 + 2) (.string n)).1
                    rw [flat_cls n hT, ← hS] at hrow
                    exact ⟨hrow, (below_call hB (Nat.le_refl _) hbd).setCell (p := ⟨g, k * 3 + 2, none⟩) hg1 (.string n), (hbk.out.step hbd).other (by omega) _ _⟩
                  unfold isSlot at hyes
                  rw [Bool.and_eq_true] at hyes
                  rw [hyes.1] at e1
                  rw [hyes.2] at e2
                  have HA := Lib.hid hA
                  clear hyes hS hT hx hown hB hbk hA hgb
                  go_upto_region 14 with (first | fail)
                  go_quiet (fail)
                  go_wp2_with (first | fail)
                  go_roundw
                  case rel => exact ⟨k + 1, by omega, by rw [HA.out], (HD.out _).1, (HD.out _).2.1, (HD.out _).2.2, by simp⟩
                  case measure => simp [intOf]; omega
                · rw [Bool.not_eq_true] at hyes
                  rw [turnSlot_no hyes, set_same hT] at hS
                  rw [hyes, Bool.or_false] at hA
                  unfold isSlot at hyes
                  have HS := Lib.hid hS
                  have HA := Lib.hid hA
                  have HBk := Lib.hid hbk.out
                  clear hS hT hx hown hB hbk hA hgb
                  by_cases h1 : x.name = mn
                  · rw [decide_eq_true h1, Bool.true_and] at hyes
                    rw [decide_eq_true h1] at e1
                    rw [hyes] at e2
                    clear h1 hyes
                    go_upto_region 14 with (first | fail)
                    go_quiet (fail)
                    go_wp2_with (first | fail)
                    go_roundw
                    case rel => exact ⟨k + 1, by omega, by rw [HA.out], by rw [HS.out]; exact ownsRow3_below HO5.out (below_drewN (Below.refl wr.heap.size wr) _), below_call HB6.out (Nat.le_refl _) (below_drewN (Below.refl wr.heap.size wr) _), HBk.out.step (below_drewN (Below.refl wr.heap.size wr) _), by simp⟩
                    case measure => simp [intOf]; omega
                  · rw [decide_eq_false h1] at e1
                    clear h1 hyes e2
                    go_upto_region 14 with (first | fail)
                    go_quiet (fail)
                    go_wp2_with (first | fail)
                    go_roundw
                    case rel => exact ⟨k + 1, by omega, by rw [HA.out], by rw [HS.out]; exact ownsRow3_below HO5.out (below_drewN (Below.refl wr.heap.size wr) _), below_call HB6.out (Nat.le_refl _) (below_drewN (Below.refl wr.heap.size wr) _), HBk.out.step (below_drewN (Below.refl wr.heap.size wr) _), by simp⟩
                    case measure => simp [intOf]; omega
              · obtain rfl : k = o.length := by omega
                rw [turned_all] at hown
                rw [List.take_length]
                have hput := refPut (c := n) (m := ⟨mn, mt, false, mab, false, mlo, mco, mha⟩) hsi.out
                have hsi2 := putSlot_single n ⟨mn, mt, false, mab, false, mlo, mco, mha⟩ o hsi.out
                have HSi2 : Hid (Single (putSlot n o ⟨mn, mt, false, mab, false, mlo, mco, mha⟩)) := hsi2
                have hol3 := hol.out
                clear hsi2 hol hsi
                obtain ⟨y0, y1, y2, y3, y4, y5, y6, y7⟩ := hbk.out.cells8
                clear y2 y3 y4 y5 y6 y7 hbk
                have hbs := hB.size
                cases hq : o.any (isSlot ⟨mn, mt, false, mab, false, mlo, mco, mha⟩) with
                | true =>
                  rw [hq, if_pos rfl] at hput
                  have hl : (o.map (turnSlot n ⟨mn, mt, false, mab, false, mlo, mco, mha⟩)).length = o.length := List.length_map _
                  have HO4 : Hid (wr.ownsRow w5.heap.size 39 3 (.slice va o.length vc) (putSlot n o ⟨mn, mt, false, mab, false, mlo, mco, mha⟩).length ((putSlot n o ⟨mn, mt, false, mab, false, mlo, mco, mha⟩).flatMap slotVs)) := by rw [← hput, hl]; exact hown
                  have hol2 : Hid ((putSlot n o ⟨mn, mt, false, mab, false, mlo, mco, mha⟩).length ≤ 4194304 + (j + 1)) := by unfold Hid; rw [← hput, hl]; omega
                  have HB4 := Lib.hid hB
                  clear hput hl hown hB hq
                  go_wp2_with (first | fail)
                  go_roundw
                  case rel => exact ⟨j + 1, _, by omega, hn2, HSi2.out, hol2, HO4.out, HB4.out, by simp⟩
                  case measure => simp [intOf]; omega
                | false =>
                  rw [hq, if_neg (by decide), turn_none hq] at hput
                  rw [turn_none hq] at hown
                  have HPut := Lib.hid hput
                  have HB4 := Lib.hid hB
                  have hown7 := hown
                  clear hput hq hown hB
                  go_wp2_with (at_builtin; (refine wpList_append_trio Tryz.underlying33 info_apiSlot rfl _ _ rfl w5.heap.size _ _ _ rfl hown7 _ _ _ _ rfl rfl hob hbs ?_); intro v3 w8 hown3 hg3)
                  have hown4 : w8.ownsRow w5.heap.size 39 3 v3 (o ++ [(⟨mn, mt, n⟩ : Slot)]).length ((o ++ [(⟨mn, mt, n⟩ : Slot)]).flatMap slotVs) := by
                    rw [List.length_append, List.flatMap_append]; simpa [slotVs] using hown3
                  have hB8 := (HB4.out.alloc HB4.out.size (.cells (trio mn mt n).toArray 39)).grown hg3 (Nat.le_trans HB4.out.size (by simp)) (fun g hg => (hown7.lt g hg).1)
                  have hol2 : Hid ((o ++ [(⟨mn, mt, n⟩ : Slot)]).length ≤ 4194304 + (j + 1)) := by unfold Hid; simp; omega
                  have HO4 := Lib.hid hown4
                  have HB8 := Lib.hid hB8
                  have HS3 := Lib.hid HSi2.out
                  rw [← HPut.out] at HS3 hn2
                  clear hown3 hg3 hown7 hown4 hB8 HB4
                  go_roundw
                  case rel => exact ⟨j + 1, _, by omega, hn2, HS3.out, hol2, HO4.out, HB8.out, by simp⟩
                  case measure => simp [intOf]; omega
        · obtain rfl : j = m2.length := by omega
          have hfin : Hid (res = o) := by unfold Hid; rw [← hout.out, List.drop_eq_nil_of_le (Nat.le_refl _)]; rfl
          have HO4 := Lib.hid hown
          have HB6 := Lib.hid hB
          clear hout hol hown hB hsi
          go_wp2_with (first | fail)
          go_ret
          exact ⟨⟨_, rfl, by rw [hfin.out]; exact ownsRow_base HO4.out HB5.out.size⟩, below_call HB5.out (Nat.le_refl _) HB6.out⟩
end Go.Proofs.YtehhmedjgmbpgaaGreatDoor
namespace Go.Proofs.YtehhmedjgmbpgaaGreatDoor
open Go.RowKit Go.Shelf Go.Lib
/-- what a found method comes to: whose it is, is there one, its marks -/
structure Shape (o : Option (Str × Method)) (cn : Str) (is b1 b2 b3 : Bool) : Prop where
  name : (o.map (·.1)).getD ⟨#[]⟩ = cn
  some : o.isSome = is
  call : callable o = (is && !b1 && !b3 && !b2)
theorem called_shape (w0 : World) (o : Option (Str × Method)) (v : Value) (h : MethodIs w0 ((o.map (·.2)).getD noMethod) v) : ∃ cn mn mt b1 b2 b3 lo is pc, ∃ nc kc : Nat, ∃ ph, ∃ nh kh : Nat,
    methodV3 v o = .tuple #[.string cn, .agg #[.string mn, .string mt, .bool b1, .bool b2, .bool b3, .int .i64 lo, .slice pc nc kc, .slice ph nh kh], .bool is] ∧ Shape o cn is b1 b2 b3 := by
  obtain ⟨pc, kc, ph, kh, rfl, _, _⟩ := h
  cases o with
  | none => exact ⟨_, _, _, _, _, _, _, _, _, _, _, _, _, _, rfl, ⟨rfl, rfl, rfl⟩⟩
  | some x => exact ⟨_, _, _, _, _, _, _, _, _, _, _, _, _, _, rfl, ⟨rfl, rfl, by obtain ⟨c, m⟩ := x; simp [callable]⟩⟩
def CalledPost (w : World) (o : Option (Str × Method)) (e : Ending) (w' : World) : Prop := (∃ cn mn mt b1 b2 b3 lo pc, ∃ nc kc : Nat, ∃ ph, ∃ nh kh : Nat,
    e = .returned (.tuple #[.string cn, .agg #[.string mn, .string mt, .bool b1, .bool b2, .bool b3, .int .i64 lo, .slice pc nc kc, .slice ph nh kh], .bool (callable o)]) ∧ (o.map (·.1)).getD ⟨#[]⟩ = cn) ∧ Below w.heap.size w w'
theorem calledPost_mk {w w' : World} {o : Option (Str × Method)} {cn mn mt : Str} {b1 b2 b3 r : Bool} {lo : Int} {pc ph : Option Addr} {nc kc nh kh : Nat} (h1 : callable o = r) (h2 : (o.map (·.1)).getD ⟨#[]⟩ = cn) (hB : Below w.heap.size w w') :
    CalledPost w o (.returned (.tuple #[.string cn, .agg #[.string mn, .string mt, .bool b1, .bool b2, .bool b3, .int .i64 lo, .slice pc nc kc, .slice ph nh kh], .bool r])) w' :=
  ⟨⟨cn, mn, mt, b1, b2, b3, lo, pc, nc, kc, ph, nh, kh, by rw [h1], h2⟩, hB⟩
theorem owns_other {w : World} {base b size n : Nat} {t : TypeId} {v : Value} {xs : List Value} (h : w.ownsRow base t size v n xs) (hb : b < base) (j : Nat) (u : Value) : (w.setCell ⟨b, j, none⟩ u).ownsRow base t size v n xs := by
  refine ⟨h.1, ?_⟩
  rcases h.2 with hn | ⟨g, cap, cur, hv, hg, hh, rest⟩
  · exact .inl hn
  · exact .inr ⟨g, cap, cur, hv, hg, by rw [heap_setCell_other w ⟨b, j, none⟩ g u (by show g ≠ b; omega)]; exact hh, rest⟩
theorem owns_other8 {w : World} {base b size n : Nat} {t : TypeId} {v : Value} {xs : List Value} (h : w.ownsRow base t size v n xs) (hb : b < base) (v0 v1 v2 v3 v4 v5 v6 v7 : Value) :
    ((((((((w.setCell ⟨b, 0, none⟩ v0).setCell ⟨b, 1, none⟩ v1).setCell ⟨b, 2, none⟩ v2).setCell ⟨b, 3, none⟩ v3).setCell ⟨b, 4, none⟩ v4).setCell ⟨b, 5, none⟩ v5).setCell ⟨b, 6, none⟩ v6).setCell ⟨b, 7, none⟩ v7).ownsRow base t size v n xs :=
  (((((((owns_other h hb 0 v0 |> (owns_other · hb 1 v1)) |> (owns_other · hb 2 v2)) |> (owns_other · hb 3 v3)) |> (owns_other · hb 4 v4)) |> (owns_other · hb 5 v5)) |> (owns_other · hb 6 v6)) |> (owns_other · hb 7 v7))
set_option maxHeartbeats 4000000 in
set_option maxRecDepth 100000 in
theorem called_any (w0 w : World) (B : Nat) (l : List Class) (hm : WorldMap w0 w B l) (c n t : Str) (hk : (findC (allC l) c).isSome = true) :
    Calls Tryz.prog 55 #[.map (some B), .string c, .string n, .string t] w (CalledPost w (calledC (allC l) c n t)) := by
  have HFO : Hid (∀ wx d, Below w.heap.size w wx → (findC (allC l) d).isSome = true → _) := fun wx d hb hd => methodOf_any w0 wx B l (hm.step hb) d n t hd
  have HS : Hid (∀ wx, Below w.heap.size w wx → _) := fun wx hb => vtabSlots_any w0 wx B l (hm.step hb) c hk
  have hsm := slots_small hm.right hm.faults hk
  have HKn : Hid (∀ s ∈ slotsC (allC l) c, (findC (allC l) s.cls).isSome = true) := fun s hs => hm.right.line_known hk (slotsC_cls _ _ s hs)
  have HK := Lib.hid hk
  have hblk : Blk (w.alloc (.cells #[.string ⟨#[]⟩, .string ⟨#[]⟩, .bool false, .bool false, .bool false, .int .i64 0, .slice none 0 0, .slice none 0 0] 51)) w.heap.size 51 zMethod := Blk.new w _ zMethod
  have hB1 : Below w.heap.size w (w.alloc (.cells #[.string ⟨#[]⟩, .string ⟨#[]⟩, .bool false, .bool false, .bool false, .int .i64 0, .slice none 0 0, .slice none 0 0] 51)) := (Below.refl _ _).alloc (Nat.le_refl _) _
  have HR : Hid (calledC (allC l) c n t = calledGo (allC l) n t (methodC (allC l) c n t) (slotsC (allC l) c)) := rfl
  unfold MethodPost3 at HFO
  unfold TrioPost at HS
  clear hm hk
  generalize calledC (allC l) c n t = res at *
  generalize hS0 : slotsC (allC l) c = S at *
  generalize hO0 : methodC (allC l) c n t = o0 at *
  have HF0 : Hid (∀ wx, Below w.heap.size w wx → Calls Tryz.prog 100 #[.map (some B), .string c, .string n, .string t] wx fun e w' => (∃ v, e = .returned (methodV3 v o0) ∧ MethodIs w0 ((o0.map (·.2)).getD noMethod) v) ∧ Below wx.heap.size wx w') := fun wx hb => by
    have h := HFO.out wx c hb HK.out
    rw [hO0] at h; exact h
  clear hO0 hS0 HK
  go_enter Tryz.func55, Tryz.ntmps55
  go_upto_region 2 with (go_at_call 100; (with_reducible refine (HF0.out _ hB1).mono ?_); rintro e w3 ⟨⟨v3, rfl, hv3⟩, hB3⟩; obtain ⟨cn, mn, mt, b1, b2, b3, lo, is, pc, nc, kc, ph, nh, kh, hsh, hSh⟩ := called_shape _ _ _ hv3; rw [hsh]; clear hsh hv3)
  have hbk : Blk (w3.alloc (.cells #[.string mn, .string mt, .bool b1, .bool b2, .bool b3, .int .i64 lo, .slice pc nc kc, .slice ph nh kh] 51)) w3.heap.size 51 [.string mn, .string mt, .bool b1, .bool b2, .bool b3, .int .i64 lo, .slice pc nc kc, .slice ph nh kh] := Blk.new w3 _ _
  have hz4 := (hblk.step hB3).step ((Below.refl w3.heap.size w3).alloc (Nat.le_refl _) (.cells #[.string mn, .string mt, .bool b1, .bool b2, .bool b3, .int .i64 lo, .slice pc nc kc, .slice ph nh kh] 51))
  have hB3' := below_call hB1 (Nat.le_refl _) hB3
  have hB4 := hB3'.alloc hB3'.size (.cells #[.string mn, .string mt, .bool b1, .bool b2, .bool b3, .int .i64 lo, .slice pc nc kc, .slice ph nh kh] 51)
  have hbm : w3.heap.size < (w3.alloc (.cells #[.string mn, .string mt, .bool b1, .bool b2, .bool b3, .int .i64 lo, .slice pc nc kc, .slice ph nh kh] 51)).heap.size := by simp
  have hwm : w.heap.size < w3.heap.size := by have := hB3.size; simp at this; omega
  clear hB1 hB3 hB3' hblk
  generalize w3.alloc (.cells #[.string mn, .string mt, .bool b1, .bool b2, .bool b3, .int .i64 lo, .slice pc nc kc, .slice ph nh kh] 51) = w4 at *
  generalize w3.heap.size = bm at *
  have HB4 := Lib.hid hB4
  clear hB4
  go_wp2_with (go_at_call 53; (with_reducible refine (HS.out _ HB4.out).mono ?_); rintro e w5 ⟨⟨v5, rfl, hv5⟩, hB5⟩; obtain ⟨pv, kv, rfl⟩ := ownsRow_shape hv5)
  have hbk5 := Lib.hid (hbk.step hB5)
  have hz5 := Lib.hid (hz4.step hB5)
  have HV5 := Lib.hid hv5
  have HB5 := Lib.hid (below_call HB4.out (Nat.le_refl _) hB5)
  have HSh : Hid (∃ o, Shape o cn is b1 b2 b3 ∧ res = calledGo (allC l) n t o (S.drop 0)) := ⟨o0, hSh, HR.out⟩
  clear hbk hz4 hv5 hB5 hSh HR HF0 HS HB4
  go_loopw [11, 13, 29] (fun cnv isv x wr => ∃ (k : Nat) (cn mn mt : Str) (b1 b2 b3 is : Bool) (lo : Int) (pc : Option Addr) (nc kc : Nat) (ph : Option Addr) (nh kh : Nat), k ≤ S.length ∧ cnv = .string cn ∧ isv = .bool is ∧ Hid (∃ o, Shape o cn is b1 b2 b3 ∧ res = calledGo (allC l) n t o (S.drop k)) ∧ Hid (Blk wr bm 51 [.string mn, .string mt, .bool b1, .bool b2, .bool b3, .int .i64 lo, .slice pc nc kc, .slice ph nh kh]) ∧ Hid (Blk wr w.heap.size 51 zMethod) ∧ wr.ownsRow w4.heap.size 39 3 (.slice pv S.length kv) S.length (S.flatMap slotVs) ∧ Below w.heap.size w wr ∧ x = .int .i64 k) (fun _ _ x _ => S.length - (intOf x).toNat)
  case atStart => exact ⟨0, cn, mn, mt, b1, b2, b3, is, lo, pc, nc, kc, ph, nh, kh, by omega, rfl, rfl, HSh, hbk5, hz5, HV5.out, HB5.out, rfl⟩
  case round =>
    clear HSh hbk5 hz5 HV5 HB5
    obtain ⟨k, cn, mn, mt, b1, b2, b3, is, lo, pc, nc, kc, ph, nh, kh, hk, rfl, rfl, hsh, hbk, hzk, hown, hB, rfl⟩ := hrel
    by_cases hkl : k < S.length
    · obtain ⟨x, hx⟩ : ∃ a, S[k]? = some a := ⟨S[k], by simp [hkl]⟩
      have hkx := HKn.out x (List.mem_of_getElem? hx)
      obtain ⟨g, rfl, hg1, hg2, hg3⟩ := ownsRow3_at slotVs_3 hown rfl hx
      have d0 : wr.cell? ⟨g, k * 3, none⟩ = some (.string x.name) := hg3 0 (by omega)
      have d1 : wr.cell? ⟨g, k * 3 + 1, none⟩ = some (.string x.type) := hg3 1 (by omega)
      have d2 : wr.cell? ⟨g, k * 3 + 2, none⟩ = some (.string x.cls) := hg3 2 (by omega)
      have e1 := strEq x.name n
      have e2 := strEq x.type t
      have hba := (Below.refl wr.heap.size wr).alloc (Nat.le_refl _) (.cells #[.string x.name, .string x.type, .string x.cls] 39)
      have hown6 := ownsRow3_below hown hba
      have hB6 := below_call hB (Nat.le_refl _) hba
      have hbk6 := hbk.out.step hba
      have hzk6 := hzk.out.step hba
      have HX := Lib.hid hx
      by_cases hyes : x.name = n ∧ x.type = t
      · have hsh2 : Hid (res = calledGo (allC l) n t (methodC (allC l) x.cls n t) (S.drop (k + 1))) := by
          obtain ⟨o, _, ho⟩ := hsh.out
          unfold Hid
          rw [ho, calledGo_drop _ _ _ _ _ _ _ hx, if_pos hyes]
        rw [decide_eq_true hyes.1] at e1
        rw [decide_eq_true hyes.2] at e2
        have HF := Lib.hid (HFO.out _ x.cls hB6 hkx)
        have HO6 := Lib.hid hown6
        have HB6 := Lib.hid hB6
        have HK6 := Lib.hid hbk6
        have HZ6 := Lib.hid hzk6
        clear hyes hx hkx hown hB hbk hzk hown6 hB6 hbk6 hzk6 hba hsh hg3
        generalize methodC (allC l) x.cls n t = o at *
        go_wp2_with (go_at_call 100; (with_reducible refine HF.out.mono ?_); rintro e w7 ⟨⟨v7, rfl, hv7⟩, hB7⟩; obtain ⟨cn2, mn2, mt2, b12, b22, b32, lo2, is2, pc2, nc2, kc2, ph2, nh2, kh2, hsh7, hSh7⟩ := called_shape _ _ _ hv7; rw [hsh7]; (have hk7 := HK6.out.step hB7); obtain ⟨q0, q1, q2, q3, q4, q5, q6, q7⟩ := hk7.cells8; (have hfz := hk7.frozen); (have hlt := hk7.lt); clear hsh7 hv7)
        have hKn := hk7.put8 (.string mn2) (.string mt2) (.bool b12) (.bool b22) (.bool b32) (.int .i64 lo2) (.slice pc2 nc2 kc2) (.slice ph2 nh2 kh2)
        have hZn := (HZ6.out.step hB7).other8 (b' := bm) (by omega) (.string mn2) (.string mt2) (.bool b12) (.bool b22) (.bool b32) (.int .i64 lo2) (.slice pc2 nc2 kc2) (.slice ph2 nh2 kh2)
        have hOn := owns_other8 (b := bm) (ownsRow3_below HO6.out hB7) hbm (.string mn2) (.string mt2) (.bool b12) (.bool b22) (.bool b32) (.int .i64 lo2) (.slice pc2 nc2 kc2) (.slice ph2 nh2 kh2)
        have hBn := below_set8 (b := bm) (below_call HB6.out (Nat.le_refl _) hB7) (Nat.le_of_lt hwm) (.string mn2) (.string mt2) (.bool b12) (.bool b22) (.bool b32) (.int .i64 lo2) (.slice pc2 nc2 kc2) (.slice ph2 nh2 kh2)
        have hShn : Hid (∃ o, Shape o cn2 is2 b12 b22 b32 ∧ res = calledGo (allC l) n t o (S.drop (k + 1))) := ⟨o, hSh7, hsh2.out⟩
        have HKn2 := Lib.hid hKn
        have HZn := Lib.hid hZn
        have HOn := Lib.hid hOn
        have HBn := Lib.hid hBn
        clear hKn hZn hOn hBn hSh7 hsh2 hk7 q0 q1 q2 q3 q4 q5 q6 q7 hfz hlt hB7
        go_roundw
        case rel => exact ⟨k + 1, cn2, mn2, mt2, b12, b22, b32, is2, lo2, pc2, nc2, kc2, ph2, nh2, kh2, by omega, rfl, rfl, hShn, HKn2.out, HZn.out, HOn.out, HBn.out, by simp⟩
        case measure => simp [intOf]; omega
      · have hsh2 : Hid (∃ o, Shape o cn is b1 b2 b3 ∧ res = calledGo (allC l) n t o (S.drop (k + 1))) := by
          obtain ⟨o, ho1, ho⟩ := hsh.out
          refine ⟨o, ho1, ?_⟩
          rw [ho, calledGo_drop _ _ _ _ _ _ _ hx, if_neg hyes]
        have hno : (decide (x.name = n) && decide (x.type = t)) = false := by
          rw [Bool.and_eq_false_iff, decide_eq_false_iff_not, decide_eq_false_iff_not]
          by_cases h1 : x.name = n
          · exact Or.inr fun h2 => hyes ⟨h1, h2⟩
          · exact Or.inl h1
        rw [← e1, ← e2] at hno
        have HO6 := Lib.hid hown6
        have HB6 := Lib.hid hB6
        have HK6 := Lib.hid hbk6
        have HZ6 := Lib.hid hzk6
        clear hyes hx hkx hown hB hbk hzk hown6 hB6 hbk6 hzk6 hba hsh hg3 e1 e2
        obtain ⟨g1, e1⟩ : ∃ q, (x.name.toList == n.toList) = q := ⟨_, rfl⟩
        obtain ⟨g2, e2⟩ : ∃ q, (x.type.toList == t.toList) = q := ⟨_, rfl⟩
        rw [e1, e2] at hno
        cases g1 <;> cases g2
        all_goals first
          | (exact absurd hno (by decide))
          | (clear hno
             go_wp2_with (first | fail)
             go_roundw
             case rel => exact ⟨k + 1, cn, mn, mt, b1, b2, b3, is, lo, pc, nc, kc, ph, nh, kh, by omega, rfl, rfl, hsh2, HK6.out, HZ6.out, HO6.out, HB6.out, by simp⟩
             case measure => simp [intOf]; omega)
    · obtain rfl : k = S.length := by omega
      obtain ⟨o, ho1, ho⟩ := hsh.out
      rw [List.drop_eq_nil_of_le (Nat.le_refl _)] at ho
      have hres : Hid (res = o) := ho
      have hcn := Lib.hid ho1.name
      have hcl := Lib.hid ho1.call
      clear hsh ho ho1
      obtain ⟨q0, q1, q2, q3, q4, q5, q6, q7⟩ := hbk.out.cells8
      obtain ⟨r0, r1, r2, r3, r4, r5, r6, r7⟩ := hzk.out.method
      have hfz := hzk.out.frozen
      have hlt := hzk.out.lt
      have hlt2 := hbk.out.lt
      have HE := Lib.hid (below_set8 hB (Nat.le_refl w.heap.size) (.string mn) (.string mt) (.bool b1) (.bool b2) (.bool b3) (.int .i64 lo) (.slice pc nc kc) (.slice ph nh kh)).drew
      clear hown hB hbk hzk
      cases is <;> cases b1 <;> cases b3 <;> cases b2
      · go_wp2_with (first | fail)
        go_region
        all_goals go_wp2
        all_goals exact bodyPost_ret (v := .tuple #[.string cn, .agg #[.string mn, .string mt, .bool false, .bool false, .bool false, .int .i64 lo, .slice pc nc kc, .slice ph nh kh], .bool false]) (by simp [results, Tryz.results55, go_sem, *]) rfl (by rw [hres.out]; exact calledPost_mk hcl.out hcn.out HE.out)
      · go_wp2_with (first | fail)
        go_region
        all_goals go_wp2
        all_goals exact bodyPost_ret (v := .tuple #[.string cn, .agg #[.string mn, .string mt, .bool false, .bool true, .bool false, .int .i64 lo, .slice pc nc kc, .slice ph nh kh], .bool false]) (by simp [results, Tryz.results55, go_sem, *]) rfl (by rw [hres.out]; exact calledPost_mk hcl.out hcn.out HE.out)
      · go_wp2_with (first | fail)
        go_region
        all_goals go_wp2
        all_goals exact bodyPost_ret (v := .tuple #[.string cn, .agg #[.string mn, .string mt, .bool false, .bool false, .bool true, .int .i64 lo, .slice pc nc kc, .slice ph nh kh], .bool false]) (by simp [results, Tryz.results55, go_sem, *]) rfl (by rw [hres.out]; exact calledPost_mk hcl.out hcn.out HE.out)
      · go_wp2_with (first | fail)
        go_region
        all_goals go_wp2
        all_goals exact bodyPost_ret (v := .tuple #[.string cn, .agg #[.string mn, .string mt, .bool false, .bool true, .bool true, .int .i64 lo, .slice pc nc kc, .slice ph nh kh], .bool false]) (by simp [results, Tryz.results55, go_sem, *]) rfl (by rw [hres.out]; exact calledPost_mk hcl.out hcn.out HE.out)
      · go_wp2_with (first | fail)
        go_region
        all_goals go_wp2
        all_goals exact bodyPost_ret (v := .tuple #[.string cn, .agg #[.string mn, .string mt, .bool true, .bool false, .bool false, .int .i64 lo, .slice pc nc kc, .slice ph nh kh], .bool false]) (by simp [results, Tryz.results55, go_sem, *]) rfl (by rw [hres.out]; exact calledPost_mk hcl.out hcn.out HE.out)
      · go_wp2_with (first | fail)
        go_region
        all_goals go_wp2
        all_goals exact bodyPost_ret (v := .tuple #[.string cn, .agg #[.string mn, .string mt, .bool true, .bool true, .bool false, .int .i64 lo, .slice pc nc kc, .slice ph nh kh], .bool false]) (by simp [results, Tryz.results55, go_sem, *]) rfl (by rw [hres.out]; exact calledPost_mk hcl.out hcn.out HE.out)
      · go_wp2_with (first | fail)
        go_region
        all_goals go_wp2
        all_goals exact bodyPost_ret (v := .tuple #[.string cn, .agg #[.string mn, .string mt, .bool true, .bool false, .bool true, .int .i64 lo, .slice pc nc kc, .slice ph nh kh], .bool false]) (by simp [results, Tryz.results55, go_sem, *]) rfl (by rw [hres.out]; exact calledPost_mk hcl.out hcn.out HE.out)
      · go_wp2_with (first | fail)
        go_region
        all_goals go_wp2
        all_goals exact bodyPost_ret (v := .tuple #[.string cn, .agg #[.string mn, .string mt, .bool true, .bool true, .bool true, .int .i64 lo, .slice pc nc kc, .slice ph nh kh], .bool false]) (by simp [results, Tryz.results55, go_sem, *]) rfl (by rw [hres.out]; exact calledPost_mk hcl.out hcn.out HE.out)
      · go_wp2_with (first | fail)
        go_region
        all_goals go_wp2
        all_goals exact bodyPost_ret (v := .tuple #[.string cn, .agg #[.string mn, .string mt, .bool false, .bool false, .bool false, .int .i64 lo, .slice pc nc kc, .slice ph nh kh], .bool true]) (by simp [results, Tryz.results55, go_sem, *]) rfl (by rw [hres.out]; exact calledPost_mk hcl.out hcn.out HE.out)
      · go_wp2_with (first | fail)
        go_region
        all_goals go_wp2
        all_goals exact bodyPost_ret (v := .tuple #[.string cn, .agg #[.string mn, .string mt, .bool false, .bool true, .bool false, .int .i64 lo, .slice pc nc kc, .slice ph nh kh], .bool false]) (by simp [results, Tryz.results55, go_sem, *]) rfl (by rw [hres.out]; exact calledPost_mk hcl.out hcn.out HE.out)
      · go_wp2_with (first | fail)
        go_region
        all_goals go_wp2
        all_goals exact bodyPost_ret (v := .tuple #[.string cn, .agg #[.string mn, .string mt, .bool false, .bool false, .bool true, .int .i64 lo, .slice pc nc kc, .slice ph nh kh], .bool false]) (by simp [results, Tryz.results55, go_sem, *]) rfl (by rw [hres.out]; exact calledPost_mk hcl.out hcn.out HE.out)
      · go_wp2_with (first | fail)
        go_region
        all_goals go_wp2
        all_goals exact bodyPost_ret (v := .tuple #[.string cn, .agg #[.string mn, .string mt, .bool false, .bool true, .bool true, .int .i64 lo, .slice pc nc kc, .slice ph nh kh], .bool false]) (by simp [results, Tryz.results55, go_sem, *]) rfl (by rw [hres.out]; exact calledPost_mk hcl.out hcn.out HE.out)
      · go_wp2_with (first | fail)
        go_region
        all_goals go_wp2
        all_goals exact bodyPost_ret (v := .tuple #[.string cn, .agg #[.string mn, .string mt, .bool true, .bool false, .bool false, .int .i64 lo, .slice pc nc kc, .slice ph nh kh], .bool false]) (by simp [results, Tryz.results55, go_sem, *]) rfl (by rw [hres.out]; exact calledPost_mk hcl.out hcn.out HE.out)
      · go_wp2_with (first | fail)
        go_region
        all_goals go_wp2
        all_goals exact bodyPost_ret (v := .tuple #[.string cn, .agg #[.string mn, .string mt, .bool true, .bool true, .bool false, .int .i64 lo, .slice pc nc kc, .slice ph nh kh], .bool false]) (by simp [results, Tryz.results55, go_sem, *]) rfl (by rw [hres.out]; exact calledPost_mk hcl.out hcn.out HE.out)
      · go_wp2_with (first | fail)
        go_region
        all_goals go_wp2
        all_goals exact bodyPost_ret (v := .tuple #[.string cn, .agg #[.string mn, .string mt, .bool true, .bool false, .bool true, .int .i64 lo, .slice pc nc kc, .slice ph nh kh], .bool false]) (by simp [results, Tryz.results55, go_sem, *]) rfl (by rw [hres.out]; exact calledPost_mk hcl.out hcn.out HE.out)
      · go_wp2_with (first | fail)
        go_region
        all_goals go_wp2
        all_goals exact bodyPost_ret (v := .tuple #[.string cn, .agg #[.string mn, .string mt, .bool true, .bool true, .bool true, .int .i64 lo, .slice pc nc kc, .slice ph nh kh], .bool false]) (by simp [results, Tryz.results55, go_sem, *]) rfl (by rw [hres.out]; exact calledPost_mk hcl.out hcn.out HE.out)
/-- the name of the class whose method is called -/
def nameO (o : Option (Str × Method)) : Str := (o.map (·.1)).getD ⟨#[]⟩
def pickN (l : List Class) (c n t : Str) : Str := if namedFault l c = 0 then nameO (pickC (allC l) c n t) else ⟨#[]⟩
def pickFaultN (l : List Class) (c n t : Str) : Nat := if namedFault l c = 0 then (if callable (calledC (allC l) c n t) then 0 else 3) else namedFault l c
set_option maxHeartbeats 2000000 in
set_option maxRecDepth 100000 in
theorem pick_any (l : List Class) (lv : Value) (c n t : Str) (w : World) (hl : Laid w) (ho : ∀ c ∈ l, ClassOk c) (hlv : ClassesAt w lv l) (hs : c.size ≤ maxLen) :
    Calls Tryz.prog 18 #[lv, .string c, .string n, .string t] w fun e w' => e = .returned (.tuple #[.string (pickN l c n t), errV (pickFaultN l c n t)]) ∧ Below w.heap.size w w' := by
  have HW := Lib.hid (with_any l lv c w hl ho hlv hs)
  have HCa : Hid (∀ w0 wx B, WorldMap w0 wx B l → (findC (allC l) c).isSome = true → _) := fun w0 wx B hm hk => called_any w0 wx B l hm c n t hk
  obtain ⟨pl, cap, rfl, _⟩ := hlv.open
  unfold WithPost at HW
  unfold CalledPost at HCa
  clear hl ho hlv hs
  by_cases hz : namedFault l c = 0
  · have HZ := Lib.hid hz
    have hN : pickN l c n t = if callable (calledC (allC l) c n t) then nameO (calledC (allC l) c n t) else ⟨#[]⟩ := by
      unfold pickN pickC
      rw [if_pos hz]
      cases callable (calledC (allC l) c n t) <;> rfl
    have hF : pickFaultN l c n t = if callable (calledC (allC l) c n t) then 0 else 3 := by unfold pickFaultN; rw [if_pos hz]
    rw [hN, hF]
    clear hz hN hF
    generalize calledC (allC l) c n t = o at *
    cases hq : callable o with
    | true =>
      rw [hq] at HCa
      rw [if_pos rfl, if_pos rfl, show errV 0 = .nilIface from rfl]
      clear hq
      go_enter Tryz.func18, Tryz.ntmps18
      go_wp2_with (first
        | (go_at_call 52; (with_reducible refine HW.out.mono ?_); rintro e w2 ⟨hB2, ⟨_, rfl, hN⟩ | ⟨hz, _⟩⟩; rotate_left; (exact absurd HZ.out hz); (have hW2 := hN.world); (have hkn := hN.known))
        | (go_at_call 55; (with_reducible refine (HCa.out _ _ _ hW2 hkn).mono ?_); rintro e w3 ⟨⟨cn, mn, mt, b1, b2, b3, lo, pc, nc, kc, ph, nh, kh, rfl, hcn⟩, hB3⟩; (have HCN := Lib.hid hcn); clear hcn))
      go_ret2
      have hBe := below_call hB2 (Nat.le_refl _) hB3
      exact ⟨by rw [show nameO o = cn from HCN.out]; rfl, hBe.alloc hBe.size _⟩
    | false =>
      rw [hq] at HCa
      rw [if_neg (by decide), if_neg (by decide), show errV 3 = .iface 42 (.int .i64 3) from rfl]
      clear hq
      go_enter Tryz.func18, Tryz.ntmps18
      go_wp2_with (first
        | (go_at_call 52; (with_reducible refine HW.out.mono ?_); rintro e w2 ⟨hB2, ⟨_, rfl, hN⟩ | ⟨hz, _⟩⟩; rotate_left; (exact absurd HZ.out hz); (have hW2 := hN.world); (have hkn := hN.known))
        | (go_at_call 55; (with_reducible refine (HCa.out _ _ _ hW2 hkn).mono ?_); rintro e w3 ⟨⟨cn, mn, mt, b1, b2, b3, lo, pc, nc, kc, ph, nh, kh, rfl, _⟩, hB3⟩))
      go_ret2
      have hBe := below_call hB2 (Nat.le_refl _) hB3
      exact ⟨rfl, hBe.alloc hBe.size _⟩
  · have HZ := Lib.hid hz
    have hN : pickN l c n t = ⟨#[]⟩ := by unfold pickN; rw [if_neg hz]
    have hF : pickFaultN l c n t = namedFault l c := by unfold pickFaultN; rw [if_neg hz]
    rw [hN, hF]
    rcases errV_cases (namedFault l c) with ⟨_, h0⟩ | ⟨hv, _⟩
    · exact absurd h0 hz
    rw [hv]
    clear hz hN hF hv HCa
    generalize namedFault l c = f at *
    go_enter Tryz.func18, Tryz.ntmps18
    go_wp2_with (go_at_call 52; (with_reducible refine HW.out.mono ?_); rintro e w2 ⟨hB2, ⟨hz, _⟩ | ⟨_, rfl⟩⟩; (exact absurd hz HZ.out))
    go_ret2
    exact ⟨rfl, hB2⟩
end Go.Proofs.YtehhmedjgmbpgaaGreatDoor
namespace Go.Proofs.YtehhmedjgmbpgaaGreatDoor
open Go.RowKit Go.Shelf Go.Lib
theorem form_shape (o : Option (Str × Method)) (v : Value) (h : MethodForm ((o.map (·.2)).getD noMethod) v) : ∃ cn mn mt b1 b2 b3 lo is pc, ∃ nc kc : Nat, ∃ ph, ∃ nh kh : Nat,
    methodV3 v o = .tuple #[.string cn, .agg #[.string mn, .string mt, .bool b1, .bool b2, .bool b3, .int .i64 lo, .slice pc nc kc, .slice ph nh kh], .bool is] ∧ Shape o cn is b1 b2 b3 := by
  obtain ⟨pc, kc, ph, kh, rfl⟩ := h
  cases o with
  | none => exact ⟨_, _, _, _, _, _, _, _, _, _, _, _, _, _, rfl, ⟨rfl, rfl, rfl⟩⟩
  | some x => exact ⟨_, _, _, _, _, _, _, _, _, _, _, _, _, _, rfl, ⟨rfl, rfl, by obtain ⟨c, m⟩ := x; simp [callable]⟩⟩
def PickedPost (w : World) (o : Option (Str × Method)) (e : Ending) (w' : World) : Prop := (∃ mn mt b1 b2 b3 lo pc, ∃ nc kc : Nat, ∃ ph, ∃ nh kh : Nat,
    e = .returned (.tuple #[.string (nameO o), .agg #[.string mn, .string mt, .bool b1, .bool b2, .bool b3, .int .i64 lo, .slice pc nc kc, .slice ph nh kh], .bool o.isSome])) ∧ Below w.heap.size w w'
theorem pickedPost_mk {w w' : World} {cs : List Class} {c n t : Str} {o : Option (Str × Method)} {cn mn mt : Str} {is b1 b2 b3 : Bool} {lo : Int} {pc ph : Option Addr} {nc kc nh kh : Nat} (hc : calledC cs c n t = o) (h : Shape o cn is b1 b2 b3) (hr : (is && !b1 && !b3 && !b2) = true) (hB : Below w.heap.size w w') :
    PickedPost w (pickC cs c n t) (.returned (.tuple #[.string cn, .agg #[.string mn, .string mt, .bool b1, .bool b2, .bool b3, .int .i64 lo, .slice pc nc kc, .slice ph nh kh], .bool true])) w' := by
  have h1 : pickC cs c n t = o := by unfold pickC; rw [hc, h.call, if_pos hr]
  have h2 : o.isSome = true := by rw [h.some]; simp only [Bool.and_eq_true] at hr; exact hr.1.1.1
  rw [h1]
  exact ⟨⟨mn, mt, b1, b2, b3, lo, pc, nc, kc, ph, nh, kh, by rw [h2, show nameO o = cn from h.name]⟩, hB⟩
theorem pickedPost_no {w w' : World} {cs : List Class} {c n t : Str} {o : Option (Str × Method)} {cn : Str} {is b1 b2 b3 : Bool} (hc : calledC cs c n t = o) (h : Shape o cn is b1 b2 b3) (hr : (is && !b1 && !b3 && !b2) = false) (hB : Below w.heap.size w w') :
    PickedPost w (pickC cs c n t) (.returned (.tuple #[.string ⟨#[]⟩, .agg zMethod.toArray, .bool false])) w' := by
  have h1 : pickC cs c n t = none := by unfold pickC; rw [hc, h.call, hr, if_neg (by decide)]
  rw [h1]
  exact ⟨⟨_, _, _, _, _, _, _, _, _, _, _, _, rfl⟩, hB⟩
set_option maxHeartbeats 4000000 in
set_option maxRecDepth 100000 in
theorem refPicked_any (l : List Class) (lv : Value) (c n t : Str) (w : World) (hR : Right l) (hcf : ∀ c ∈ l, classFault c = 0) (hlv : ClassesAt w lv l) (hk : (findC (allC l) c).isSome = true) :
    Calls Tryz.prog 21 #[lv, .string c, .string n, .string t] w (PickedPost w (pickC (allC l) c n t)) := by
  have HF0 : Hid (∀ wx, Below w.heap.size w wx → _) := fun wx hb => refFound_any l lv c n t wx hR hcf (hlv.mono hb) hk
  have HS : Hid (∀ wx, Below w.heap.size w wx → _) := fun wx hb => refSlots_fuel l lv hR hcf _ c wx (hlv.mono hb) hk (Nat.le_refl _)
  have HOwn : Hid (∀ (a : Str) wx, Below w.heap.size w wx → _) := fun a wx hb => refOwn_any l lv a n t wx (hlv.mono hb)
  have hsm := slots_small hR hcf hk
  obtain ⟨pl, cap, rfl, _⟩ := hlv.open
  have hblk : Blk (w.alloc (.cells #[.string ⟨#[]⟩, .string ⟨#[]⟩, .bool false, .bool false, .bool false, .int .i64 0, .slice none 0 0, .slice none 0 0] 51)) w.heap.size 51 zMethod := Blk.new w _ zMethod
  have hB1 : Below w.heap.size w (w.alloc (.cells #[.string ⟨#[]⟩, .string ⟨#[]⟩, .bool false, .bool false, .bool false, .int .i64 0, .slice none 0 0, .slice none 0 0] 51)) := (Below.refl _ _).alloc (Nat.le_refl _) _
  obtain ⟨res, hres⟩ : ∃ r, calledC (allC l) c n t = r := ⟨_, rfl⟩
  have HR : Hid (res = calledGo (allC l) n t (methodC (allC l) c n t) (slotsC (allC l) c)) := hres.symm
  have HC := Lib.hid hres
  unfold RefFoundPost at HF0
  unfold TrioPost at HS
  unfold RefOwnPost at HOwn
  have HOk : Hid (∀ s ∈ slotsC (allC l) c, SlotOk (allC l) s) := slotsC_ok _ _
  clear hR hcf hlv hk hres
  generalize slotsC (allC l) c = S at *
  generalize methodC (allC l) c n t = o0 at *
  go_enter Tryz.func21, Tryz.ntmps21
  go_upto_region 2 with (go_at_call 56; (with_reducible refine (HF0.out _ hB1).mono ?_); rintro e w3 ⟨⟨v3, rfl, hv3⟩, hB3⟩; obtain ⟨cn, mn, mt, b1, b2, b3, lo, is, pc, nc, kc, ph, nh, kh, hsh, hSh⟩ := form_shape _ _ hv3; rw [hsh]; clear hsh hv3)
  have hbk : Blk (w3.alloc (.cells #[.string mn, .string mt, .bool b1, .bool b2, .bool b3, .int .i64 lo, .slice pc nc kc, .slice ph nh kh] 51)) w3.heap.size 51 [.string mn, .string mt, .bool b1, .bool b2, .bool b3, .int .i64 lo, .slice pc nc kc, .slice ph nh kh] := Blk.new w3 _ _
  have hz4 := (hblk.step hB3).step ((Below.refl w3.heap.size w3).alloc (Nat.le_refl _) (.cells #[.string mn, .string mt, .bool b1, .bool b2, .bool b3, .int .i64 lo, .slice pc nc kc, .slice ph nh kh] 51))
  have hB3' := below_call hB1 (Nat.le_refl _) hB3
  have hB4 := hB3'.alloc hB3'.size (.cells #[.string mn, .string mt, .bool b1, .bool b2, .bool b3, .int .i64 lo, .slice pc nc kc, .slice ph nh kh] 51)
  have hbm : w3.heap.size < (w3.alloc (.cells #[.string mn, .string mt, .bool b1, .bool b2, .bool b3, .int .i64 lo, .slice pc nc kc, .slice ph nh kh] 51)).heap.size := by simp
  have hwm : w.heap.size < w3.heap.size := by have := hB3.size; simp at this; omega
  clear hB1 hB3 hB3' hblk
  generalize w3.alloc (.cells #[.string mn, .string mt, .bool b1, .bool b2, .bool b3, .int .i64 lo, .slice pc nc kc, .slice ph nh kh] 51) = w4 at *
  generalize w3.heap.size = bm at *
  have HB4 := Lib.hid hB4
  clear hB4
  go_wp2_with (go_at_call 20; (with_reducible refine (HS.out _ HB4.out).mono ?_); rintro e w5 ⟨⟨v5, rfl, hv5⟩, hB5⟩; obtain ⟨pv, kv, rfl⟩ := ownsRow_shape hv5)
  have hbk5 := Lib.hid (hbk.step hB5)
  have hz5 := Lib.hid (hz4.step hB5)
  have HV5 := Lib.hid hv5
  have HB5 := Lib.hid (below_call HB4.out (Nat.le_refl _) hB5)
  have HSh : Hid (∃ o, Shape o cn is b1 b2 b3 ∧ res = calledGo (allC l) n t o (S.drop 0)) := ⟨o0, hSh, HR.out⟩
  clear hbk hz4 hv5 hB5 hSh HR HF0 HS HB4
  go_loopw [11, 13, 15] (fun cnv isv x wr => ∃ (k : Nat) (cn mn mt : Str) (b1 b2 b3 is : Bool) (lo : Int) (pc : Option Addr) (nc kc : Nat) (ph : Option Addr) (nh kh : Nat), k ≤ S.length ∧ cnv = .string cn ∧ isv = .bool is ∧ Hid (∃ o, Shape o cn is b1 b2 b3 ∧ res = calledGo (allC l) n t o (S.drop k)) ∧ Hid (Blk wr bm 51 [.string mn, .string mt, .bool b1, .bool b2, .bool b3, .int .i64 lo, .slice pc nc kc, .slice ph nh kh]) ∧ Hid (Blk wr w.heap.size 51 zMethod) ∧ wr.ownsRow w4.heap.size 39 3 (.slice pv S.length kv) S.length (S.flatMap slotVs) ∧ Below w.heap.size w wr ∧ x = .int .i64 k) (fun _ _ x _ => S.length - (intOf x).toNat)
  case atStart => exact ⟨0, cn, mn, mt, b1, b2, b3, is, lo, pc, nc, kc, ph, nh, kh, by omega, rfl, rfl, HSh, hbk5, hz5, HV5.out, HB5.out, rfl⟩
  case round =>
    clear HSh hbk5 hz5 HV5 HB5
    obtain ⟨k, cn, mn, mt, b1, b2, b3, is, lo, pc, nc, kc, ph, nh, kh, hk, rfl, rfl, hsh, hbk, hzk, hown, hB, rfl⟩ := hrel
    by_cases hkl : k < S.length
    · obtain ⟨x, hx⟩ : ∃ a, S[k]? = some a := ⟨S[k], by simp [hkl]⟩
      have hkx := HOk.out x (List.mem_of_getElem? hx)
      obtain ⟨g, rfl, hg1, hg2, hg3⟩ := ownsRow3_at slotVs_3 hown rfl hx
      have d0 : wr.cell? ⟨g, k * 3, none⟩ = some (.string x.name) := hg3 0 (by omega)
      have d1 : wr.cell? ⟨g, k * 3 + 1, none⟩ = some (.string x.type) := hg3 1 (by omega)
      have d2 : wr.cell? ⟨g, k * 3 + 2, none⟩ = some (.string x.cls) := hg3 2 (by omega)
      have e1 := strEq x.name n
      have e2 := strEq x.type t
      have HX := Lib.hid hx
      by_cases hyes : x.name = n ∧ x.type = t
      · obtain ⟨m, hm1, hm2⟩ := slot_method hkx
        rw [hyes.1, hyes.2] at hm1 hm2
        have hsh2 : Hid (res = calledGo (allC l) n t (some (x.cls, m)) (S.drop (k + 1))) := by
          obtain ⟨o, _, ho⟩ := hsh.out
          unfold Hid
          rw [ho, calledGo_drop _ _ _ _ _ _ _ hx, if_pos hyes, hm2]
        rw [decide_eq_true hyes.1] at e1
        rw [decide_eq_true hyes.2] at e2
        have hOw := HOwn.out x.cls wr hB
        rw [hm1] at hOw
        simp only [Option.isSome_some, Option.getD_some] at hOw
        have HF := Lib.hid hOw
        have HO6 := Lib.hid hown
        have HB6 := Lib.hid hB
        have HK6 := Lib.hid hbk.out
        have HZ6 := Lib.hid hzk.out
        clear hyes hx hkx hown hB hbk hzk hsh hg3 hm1 hm2 hOw
        go_wp2_with (go_at_call 57; (with_reducible refine HF.out.mono ?_); rintro e w7 ⟨⟨v7, rfl, pc2, kc2, ph2, kh2, rfl⟩, hB7⟩; (have hk7 := HK6.out.step hB7); obtain ⟨q0, q1, q2, q3, q4, q5, q6, q7⟩ := hk7.cells8; (have hfz := hk7.frozen); (have hlt := hk7.lt))
        have hKn := hk7.put8 (.string m.name) (.string m.type) (.bool m.static) (.bool m.abs) (.bool m.priv) (.int .i64 m.locals) (.slice pc2 m.code.length kc2) (.slice ph2 m.handlers.length kh2)
        have hZn := (HZ6.out.step hB7).other8 (b' := bm) (by omega) (.string m.name) (.string m.type) (.bool m.static) (.bool m.abs) (.bool m.priv) (.int .i64 m.locals) (.slice pc2 m.code.length kc2) (.slice ph2 m.handlers.length kh2)
        have hOn := owns_other8 (b := bm) (ownsRow3_below HO6.out hB7) hbm (.string m.name) (.string m.type) (.bool m.static) (.bool m.abs) (.bool m.priv) (.int .i64 m.locals) (.slice pc2 m.code.length kc2) (.slice ph2 m.handlers.length kh2)
        have hBn := below_set8 (b := bm) (below_call HB6.out (Nat.le_refl _) hB7) (Nat.le_of_lt hwm) (.string m.name) (.string m.type) (.bool m.static) (.bool m.abs) (.bool m.priv) (.int .i64 m.locals) (.slice pc2 m.code.length kc2) (.slice ph2 m.handlers.length kh2)
        have hShn : Hid (∃ o, Shape o x.cls true m.static m.abs m.priv ∧ res = calledGo (allC l) n t o (S.drop (k + 1))) := ⟨_, ⟨rfl, rfl, by simp [callable]⟩, hsh2.out⟩
        have HKn2 := Lib.hid hKn
        have HZn := Lib.hid hZn
        have HOn := Lib.hid hOn
        have HBn := Lib.hid hBn
        clear hKn hZn hOn hBn hsh2 hk7 q0 q1 q2 q3 q4 q5 q6 q7 hfz hlt hB7
        go_roundw
        case rel => exact ⟨k + 1, x.cls, m.name, m.type, m.static, m.abs, m.priv, true, m.locals, pc2, m.code.length, kc2, ph2, m.handlers.length, kh2, by omega, rfl, rfl, hShn, HKn2.out, HZn.out, HOn.out, HBn.out, by simp⟩
        case measure => simp [intOf]; omega
      · have hsh2 : Hid (∃ o, Shape o cn is b1 b2 b3 ∧ res = calledGo (allC l) n t o (S.drop (k + 1))) := by
          obtain ⟨o, ho1, ho⟩ := hsh.out
          refine ⟨o, ho1, ?_⟩
          rw [ho, calledGo_drop _ _ _ _ _ _ _ hx, if_neg hyes]
        have hno : (decide (x.name = n) && decide (x.type = t)) = false := by
          rw [Bool.and_eq_false_iff, decide_eq_false_iff_not, decide_eq_false_iff_not]
          by_cases h1 : x.name = n
          · exact Or.inr fun h2 => hyes ⟨h1, h2⟩
          · exact Or.inl h1
        rw [← e1, ← e2] at hno
        have HO6 := Lib.hid hown
        have HB6 := Lib.hid hB
        have HK6 := Lib.hid hbk.out
        have HZ6 := Lib.hid hzk.out
        clear hyes hx hkx hown hB hbk hzk hsh hg3 e1 e2
        obtain ⟨g1, e1⟩ : ∃ q, (x.name.toList == n.toList) = q := ⟨_, rfl⟩
        obtain ⟨g2, e2⟩ : ∃ q, (x.type.toList == t.toList) = q := ⟨_, rfl⟩
        rw [e1, e2] at hno
        cases g1 <;> cases g2
        all_goals first
          | (exact absurd hno (by decide))
          | (clear hno
             go_wp2_with (first | fail)
             go_roundw
             case rel => exact ⟨k + 1, cn, mn, mt, b1, b2, b3, is, lo, pc, nc, kc, ph, nh, kh, by omega, rfl, rfl, hsh2, HK6.out, HZ6.out, HO6.out, HB6.out, by simp⟩
             case measure => simp [intOf]; omega)
    · obtain rfl : k = S.length := by omega
      obtain ⟨o, ho1, ho⟩ := hsh.out
      rw [List.drop_eq_nil_of_le (Nat.le_refl _)] at ho
      have HC2 : Hid (calledC (allC l) c n t = o) := HC.out.trans ho
      have HSh := Lib.hid ho1
      clear hsh ho ho1 HC
      obtain ⟨q0, q1, q2, q3, q4, q5, q6, q7⟩ := hbk.out.cells8
      obtain ⟨r0, r1, r2, r3, r4, r5, r6, r7⟩ := hzk.out.method
      have hfz := hzk.out.frozen
      have hlt := hzk.out.lt
      have hlt2 := hbk.out.lt
      have HB9 := Lib.hid hB
      clear hown hB hbk hzk
      cases is <;> cases b1 <;> cases b3 <;> cases b2
      · have HE := Lib.hid (below_set8 HB9.out (Nat.le_refl w.heap.size) (.string ⟨#[]⟩) (.string ⟨#[]⟩) (.bool false) (.bool false) (.bool false) (.int .i64 0) (.slice none 0 0) (.slice none 0 0))
        go_wp2_with (first | fail)
        exact bodyPost_ret (v := .tuple #[.string ⟨#[]⟩, .agg zMethod.toArray, .bool false]) (by simp [results, Tryz.results21, go_sem, *, zMethod]) rfl (pickedPost_no HC2.out HSh.out rfl HE.out)
      · have HE := Lib.hid (below_set8 HB9.out (Nat.le_refl w.heap.size) (.string ⟨#[]⟩) (.string ⟨#[]⟩) (.bool false) (.bool false) (.bool false) (.int .i64 0) (.slice none 0 0) (.slice none 0 0))
        go_wp2_with (first | fail)
        exact bodyPost_ret (v := .tuple #[.string ⟨#[]⟩, .agg zMethod.toArray, .bool false]) (by simp [results, Tryz.results21, go_sem, *, zMethod]) rfl (pickedPost_no HC2.out HSh.out rfl HE.out)
      · have HE := Lib.hid (below_set8 HB9.out (Nat.le_refl w.heap.size) (.string ⟨#[]⟩) (.string ⟨#[]⟩) (.bool false) (.bool false) (.bool false) (.int .i64 0) (.slice none 0 0) (.slice none 0 0))
        go_wp2_with (first | fail)
        exact bodyPost_ret (v := .tuple #[.string ⟨#[]⟩, .agg zMethod.toArray, .bool false]) (by simp [results, Tryz.results21, go_sem, *, zMethod]) rfl (pickedPost_no HC2.out HSh.out rfl HE.out)
      · have HE := Lib.hid (below_set8 HB9.out (Nat.le_refl w.heap.size) (.string ⟨#[]⟩) (.string ⟨#[]⟩) (.bool false) (.bool false) (.bool false) (.int .i64 0) (.slice none 0 0) (.slice none 0 0))
        go_wp2_with (first | fail)
        exact bodyPost_ret (v := .tuple #[.string ⟨#[]⟩, .agg zMethod.toArray, .bool false]) (by simp [results, Tryz.results21, go_sem, *, zMethod]) rfl (pickedPost_no HC2.out HSh.out rfl HE.out)
      · have HE := Lib.hid (below_set8 HB9.out (Nat.le_refl w.heap.size) (.string ⟨#[]⟩) (.string ⟨#[]⟩) (.bool false) (.bool false) (.bool false) (.int .i64 0) (.slice none 0 0) (.slice none 0 0))
        go_wp2_with (first | fail)
        exact bodyPost_ret (v := .tuple #[.string ⟨#[]⟩, .agg zMethod.toArray, .bool false]) (by simp [results, Tryz.results21, go_sem, *, zMethod]) rfl (pickedPost_no HC2.out HSh.out rfl HE.out)
      · have HE := Lib.hid (below_set8 HB9.out (Nat.le_refl w.heap.size) (.string ⟨#[]⟩) (.string ⟨#[]⟩) (.bool false) (.bool false) (.bool false) (.int .i64 0) (.slice none 0 0) (.slice none 0 0))
        go_wp2_with (first | fail)
        exact bodyPost_ret (v := .tuple #[.string ⟨#[]⟩, .agg zMethod.toArray, .bool false]) (by simp [results, Tryz.results21, go_sem, *, zMethod]) rfl (pickedPost_no HC2.out HSh.out rfl HE.out)
      · have HE := Lib.hid (below_set8 HB9.out (Nat.le_refl w.heap.size) (.string ⟨#[]⟩) (.string ⟨#[]⟩) (.bool false) (.bool false) (.bool false) (.int .i64 0) (.slice none 0 0) (.slice none 0 0))
        go_wp2_with (first | fail)
        exact bodyPost_ret (v := .tuple #[.string ⟨#[]⟩, .agg zMethod.toArray, .bool false]) (by simp [results, Tryz.results21, go_sem, *, zMethod]) rfl (pickedPost_no HC2.out HSh.out rfl HE.out)
      · have HE := Lib.hid (below_set8 HB9.out (Nat.le_refl w.heap.size) (.string ⟨#[]⟩) (.string ⟨#[]⟩) (.bool false) (.bool false) (.bool false) (.int .i64 0) (.slice none 0 0) (.slice none 0 0))
        go_wp2_with (first | fail)
        exact bodyPost_ret (v := .tuple #[.string ⟨#[]⟩, .agg zMethod.toArray, .bool false]) (by simp [results, Tryz.results21, go_sem, *, zMethod]) rfl (pickedPost_no HC2.out HSh.out rfl HE.out)
      · have HE := Lib.hid (below_set8 HB9.out (Nat.le_refl w.heap.size) (.string mn) (.string mt) (.bool false) (.bool false) (.bool false) (.int .i64 lo) (.slice pc nc kc) (.slice ph nh kh)).drew
        go_wp2_with (first | fail)
        go_region
        all_goals go_wp2
        all_goals exact bodyPost_ret (v := .tuple #[.string cn, .agg #[.string mn, .string mt, .bool false, .bool false, .bool false, .int .i64 lo, .slice pc nc kc, .slice ph nh kh], .bool true]) (by simp [results, Tryz.results21, go_sem, *]) rfl (pickedPost_mk HC2.out HSh.out rfl HE.out)
      · have HE := Lib.hid (below_set8 HB9.out (Nat.le_refl w.heap.size) (.string ⟨#[]⟩) (.string ⟨#[]⟩) (.bool false) (.bool false) (.bool false) (.int .i64 0) (.slice none 0 0) (.slice none 0 0))
        go_wp2_with (first | fail)
        exact bodyPost_ret (v := .tuple #[.string ⟨#[]⟩, .agg zMethod.toArray, .bool false]) (by simp [results, Tryz.results21, go_sem, *, zMethod]) rfl (pickedPost_no HC2.out HSh.out rfl HE.out)
      · have HE := Lib.hid (below_set8 HB9.out (Nat.le_refl w.heap.size) (.string ⟨#[]⟩) (.string ⟨#[]⟩) (.bool false) (.bool false) (.bool false) (.int .i64 0) (.slice none 0 0) (.slice none 0 0))
        go_wp2_with (first | fail)
        exact bodyPost_ret (v := .tuple #[.string ⟨#[]⟩, .agg zMethod.toArray, .bool false]) (by simp [results, Tryz.results21, go_sem, *, zMethod]) rfl (pickedPost_no HC2.out HSh.out rfl HE.out)
      · have HE := Lib.hid (below_set8 HB9.out (Nat.le_refl w.heap.size) (.string ⟨#[]⟩) (.string ⟨#[]⟩) (.bool false) (.bool false) (.bool false) (.int .i64 0) (.slice none 0 0) (.slice none 0 0))
        go_wp2_with (first | fail)
        exact bodyPost_ret (v := .tuple #[.string ⟨#[]⟩, .agg zMethod.toArray, .bool false]) (by simp [results, Tryz.results21, go_sem, *, zMethod]) rfl (pickedPost_no HC2.out HSh.out rfl HE.out)
      · have HE := Lib.hid (below_set8 HB9.out (Nat.le_refl w.heap.size) (.string ⟨#[]⟩) (.string ⟨#[]⟩) (.bool false) (.bool false) (.bool false) (.int .i64 0) (.slice none 0 0) (.slice none 0 0))
        go_wp2_with (first | fail)
        exact bodyPost_ret (v := .tuple #[.string ⟨#[]⟩, .agg zMethod.toArray, .bool false]) (by simp [results, Tryz.results21, go_sem, *, zMethod]) rfl (pickedPost_no HC2.out HSh.out rfl HE.out)
      · have HE := Lib.hid (below_set8 HB9.out (Nat.le_refl w.heap.size) (.string ⟨#[]⟩) (.string ⟨#[]⟩) (.bool false) (.bool false) (.bool false) (.int .i64 0) (.slice none 0 0) (.slice none 0 0))
        go_wp2_with (first | fail)
        exact bodyPost_ret (v := .tuple #[.string ⟨#[]⟩, .agg zMethod.toArray, .bool false]) (by simp [results, Tryz.results21, go_sem, *, zMethod]) rfl (pickedPost_no HC2.out HSh.out rfl HE.out)
      · have HE := Lib.hid (below_set8 HB9.out (Nat.le_refl w.heap.size) (.string ⟨#[]⟩) (.string ⟨#[]⟩) (.bool false) (.bool false) (.bool false) (.int .i64 0) (.slice none 0 0) (.slice none 0 0))
        go_wp2_with (first | fail)
        exact bodyPost_ret (v := .tuple #[.string ⟨#[]⟩, .agg zMethod.toArray, .bool false]) (by simp [results, Tryz.results21, go_sem, *, zMethod]) rfl (pickedPost_no HC2.out HSh.out rfl HE.out)
      · have HE := Lib.hid (below_set8 HB9.out (Nat.le_refl w.heap.size) (.string ⟨#[]⟩) (.string ⟨#[]⟩) (.bool false) (.bool false) (.bool false) (.int .i64 0) (.slice none 0 0) (.slice none 0 0))
        go_wp2_with (first | fail)
        exact bodyPost_ret (v := .tuple #[.string ⟨#[]⟩, .agg zMethod.toArray, .bool false]) (by simp [results, Tryz.results21, go_sem, *, zMethod]) rfl (pickedPost_no HC2.out HSh.out rfl HE.out)
end Go.Proofs.YtehhmedjgmbpgaaGreatDoor
namespace Go.Proofs.YtehhmedjgmbpgaaGreatDoor
open Go.RowKit Go.Shelf Go.Lib
set_option maxHeartbeats 1000000 in
theorem sameSlots_any (L : List Slot) (va vb : Value) (w : World) (ha : SliceOf w 3 SlotCells va L) (hb : SliceOf w 3 SlotCells vb L) : Calls Tryz.prog 22 #[va, vb] w fun e w' => e = .returned (.bool true) ∧ Below w.heap.size w w' := by
  obtain ⟨p, cap, rfl, h1, h2, hcc⟩ := ha.open
  obtain ⟨q, cbp, rfl, k1, k2, hdd⟩ := hb.open
  have HC := Lib.hid hcc
  have HD := Lib.hid hdd
  have hlen : L.length ≤ 9223372036854775807 := Nat.le_trans h1 h2
  have hneq : ∀ (a b c : Str) (w : World), (binOp .neq 39 (.agg #[.string a, .string b, .string c]) (.agg #[.string a, .string b, .string c])).run Tryz.prog w = .ok (.bool false) w := fun a b c w => by
    have := slot3_neq a b c a b c w
    rwa [decide_eq_true rfl] at this
  clear ha hb hcc hdd
  go_enter Tryz.func22, Tryz.ntmps22
  go_wp2_with (first | fail)
  go_loopw [5] (fun i wr => ∃ k : Nat, k ≤ L.length ∧ Below w.heap.size w wr ∧ i = .int .i64 k) (fun i _ => L.length - (intOf i).toNat)
  case atStart => exact ⟨0, by omega, Below.refl _ _, rfl⟩
  case round =>
    obtain ⟨k, hk, hB, rfl⟩ := hrel
    by_cases hkl : k < L.length
    · obtain ⟨x, hx⟩ : ∃ x, L[k]? = some x := ⟨L[k], by simp [hkl]⟩
      obtain ⟨b1, o1, vs, rfl, hR, _, hcells⟩ := HC.out k x hx
      unfold SlotCells at hR; subst hR
      obtain ⟨b2, o2, vs, rfl, hR, _, hcellt⟩ := HD.out k x hx
      unfold SlotCells at hR; subst hR
      obtain ⟨c0, c1, c2, _⟩ := hcells.mono hB hcells.lt
      obtain ⟨d0, d1, d2, _⟩ := hcellt.mono hB hcellt.lt
      have HX := Lib.hid hx
      have HBr := Lib.hid hB
      clear hx hcells hcellt hB
      go_upto_region 6 with (first | fail)
      go_quiet (fail)
      go_wp2_with (first | fail)
      go_roundw
      case rel => exact ⟨k + 1, by omega, below_call HBr.out (Nat.le_refl _) (below_drewN (Below.refl _ _) _), by simp⟩
      case measure => simp [intOf]; omega
    · obtain rfl : k = L.length := by omega
      go_wp2_with (first | fail)
      go_ret
      exact ⟨rfl, hB⟩
theorem sameSlots_nil (w : World) : Calls Tryz.prog 22 #[.slice none 0 0, .slice none 0 0] w fun e w' => e = .returned (.bool true) ∧ Below w.heap.size w w' := sameSlots_any [] _ _ w (Or.inl ⟨rfl, rfl⟩) (Or.inl ⟨rfl, rfl⟩)
theorem walks_slots : slotsC (allC walksL) sCat = [⟨sWalk, sUnitV, sCat⟩] := by decide +kernel
theorem slot_slice (w : World) (s : Slot) : SliceOf (w.alloc (.cells #[.string s.name, .string s.type, .string s.cls] 39)) 3 SlotCells (.slice (some ⟨w.heap.size, 0, none⟩) 1 1) [s] :=
  slice_one (vs := [.string s.name, .string s.type, .string s.cls]) rfl rfl (by simp [Cells])
set_option maxRecDepth 100000 in
theorem tabled_any (w : World) (hl : Laid w) : Calls Tryz.prog 12 #[] w fun e w' => e = .returned (.bool true) ∧ Below w.heap.size w w' := by
  have HP : Hid (∀ wx lv, Below w.heap.size w wx → ClassesAt wx lv walksL → _) := fun wx lv hb h => table_yes walksL lv sCat wx (hl.mono hb hl.1) walks_ok h (by decide) walks_named
  have HB : Hid (∀ wx, _) := fun wx => walks_any wx
  have HSl : Hid (∀ wx va vb, SliceOf wx 3 SlotCells va [⟨sWalk, sUnitV, sCat⟩] → SliceOf wx 3 SlotCells vb [⟨sWalk, sUnitV, sCat⟩] → _) := fun wx va vb h1 h2 => sameSlots_any _ va vb wx h1 h2
  unfold TableGives at HP
  rw [walks_slots] at HP
  have HSS : Hid (∀ wx : World, _) := fun wx => slot_slice wx ⟨sWalk, sUnitV, sCat⟩
  have HSm : Hid (∀ (wx : World) (o : Obj) (va : Value), SliceOf wx 3 SlotCells va [⟨sWalk, sUnitV, sCat⟩] → SliceOf (wx.alloc o) 3 SlotCells va [⟨sWalk, sUnitV, sCat⟩]) := fun wx o va h => h.mono ((Below.refl wx.heap.size wx).alloc (Nat.le_refl _) o) (by decide) (fun _ _ h => h)
  simp only [sWalk, sUnitV, sCat] at HP HSl HSS HSm
  go_enter Tryz.func12, Tryz.ntmps12
  go_wp2_with (first
    | (go_at_call 50; (with_reducible refine (HB.out _).mono ?_); rintro e w2 ⟨⟨v, rfl, hv⟩, hB2⟩; obtain ⟨pb, kb, rfl, _⟩ := hv.open)
    | (go_at_call 14; (with_reducible refine (HP.out _ _ hB2 hv).mono ?_); rintro e w3 ⟨⟨v3, rfl, hv3⟩, hB3⟩; (have hs3' := slots_slice hv3); obtain ⟨p3, k3, rfl⟩ := ownsRow_shape hv3; (have hs3 : SliceOf w3 3 SlotCells (.slice p3 1 k3) _ := hs3'); clear hv3 hs3')
    | (go_at_call 22; (with_reducible refine (HSl.out _ _ _ (HSm.out _ _ _ hs3) (HSS.out _)).mono ?_); rintro e w4 ⟨rfl, hB4⟩))
  go_ret
  exact ⟨rfl, below_call (below_call (below_call hB2 (Nat.le_refl _) hB3) (Nat.le_refl _) ((Below.refl _ _).alloc (Nat.le_refl _) _)) (Nat.le_refl _) hB4⟩
theorem pick_some (cs : List Class) (c n t : Str) : (pickC cs c n t).isSome = callable (calledC cs c n t) := by
  unfold pickC
  cases hq : callable (calledC cs c n t) with
  | true =>
    rw [if_pos rfl]
    cases ho : calledC cs c n t with
    | none => rw [ho] at hq; cases hq
    | some x => rfl
  | false => rfl
set_option maxHeartbeats 2000000 in
set_option maxRecDepth 100000 in
theorem vtabTells_any (l : List Class) (lv : Value) (c n t : Str) (w : World) (hl : Laid w) (ho : ∀ c ∈ l, ClassOk c) (hlv : ClassesAt w lv l) (hn : c.size ≤ maxLen) :
    Calls Tryz.prog 4 #[lv, .string c, .string n, .string t] w fun e w' => e = .returned (.bool true) ∧ Below w.heap.size w w' := by
  have HLi : Hid (∀ wx, Below w.heap.size w wx → _) := fun wx hb => tabled_any wx (hl.mono hb hl.1)
  have HRN : Hid (∀ wx, Below w.heap.size w wx → _) := fun wx hb => refNamed_any l lv c wx ho (hlv.mono hb)
  have HPi : Hid (∀ wx, Below w.heap.size w wx → _) := fun wx hb => pick_any l lv c n t wx (hl.mono hb hl.1) ho (hlv.mono hb) hn
  have HLV : Hid (∀ wx, Below w.heap.size w wx → ClassesAt wx lv l) := fun wx hb => hlv.mono hb
  have HE := Lib.hid error_nil
  by_cases hz : namedFault l c = 0
  · have HTa : Hid (∀ wx, Below w.heap.size w wx → _) := fun wx hb => table_yes l lv c wx (hl.mono hb hl.1) ho (hlv.mono hb) hn hz
    obtain ⟨hr, hk⟩ := named_zero hz
    have hR := right_of hr
    have hcf := read_faults hr
    have HRS : Hid (∀ wx, Below w.heap.size w wx → _) := fun wx hb => refSlots_fuel l lv hR hcf _ c wx (HLV.out wx hb) hk (Nat.le_refl _)
    have HRP : Hid (∀ wx, Below w.heap.size w wx → _) := fun wx hb => refPicked_any l lv c n t wx hR hcf (HLV.out wx hb) hk
    have HSl : Hid (∀ wx va vb, SliceOf wx 3 SlotCells va (slotsC (allC l) c) → SliceOf wx 3 SlotCells vb (slotsC (allC l) c) → _) := fun wx va vb h1 h2 => sameSlots_any _ va vb wx h1 h2
    have h1 : pickN l c n t = nameO (pickC (allC l) c n t) := by unfold pickN; rw [if_pos hz]
    have h2 : pickFaultN l c n t = if (pickC (allC l) c n t).isSome then 0 else 3 := by unfold pickFaultN; rw [if_pos hz, pick_some]
    rw [h1, h2] at HPi
    rw [hz] at HRN
    obtain ⟨pl, cap, rfl, _⟩ := hlv.open
    clear hl ho hlv hR hcf hk hr hz hn HLV h1 h2
    unfold TableGives at HTa
    unfold TrioPost at HRS
    unfold PickedPost at HRP
    generalize slotsC (allC l) c = L1 at *
    generalize pickC (allC l) c n t = o at *
    generalize nameO o = nm at *
    cases hq : o.isSome with
    | false =>
      rw [hq] at HPi HRP
      rw [if_neg (by decide), show errV 3 = .iface 42 (.int .i64 3) from rfl] at HPi
      have HE3 := Lib.hid error_none
      clear hq
      go_enter Tryz.func4, Tryz.ntmps4
      go_wp2_with (first
        | (go_at_call 12; (with_reducible refine (HLi.out _ (Below.refl _ _)).mono ?_); rintro e w2 ⟨rfl, hB2⟩)
        | (go_at_call 17; (with_reducible refine (HRN.out _ hB2).mono ?_); rintro e w3 ⟨rfl, hB3'⟩; (have hB3 := below_call hB2 (Nat.le_refl _) hB3'); clear hB3')
        | (go_at_call 14; (with_reducible refine (HTa.out _ hB3).mono ?_); rintro e w4 ⟨⟨v4, rfl, hv4'⟩, hB4'⟩; (have hv4 := slots_slice hv4'); obtain ⟨p4, k4, rfl⟩ := ownsRow_shape hv4'; (have hB4 := below_call hB3 (Nat.le_refl _) hB4'); clear hB4' hv4')
        | (go_at_call 18; (with_reducible refine (HPi.out _ hB4).mono ?_); rintro e w5 ⟨rfl, hB5'⟩; (have hB5 := below_call hB4 (Nat.le_refl _) hB5'); (have hv5 := hv4.mono hB5' (by decide) (fun _ _ h => h)); clear hB5' hv4)
        | (go_at_call 19; (with_reducible refine (HE.out _).mono ?_); rintro e w6 ⟨rfl, rfl⟩)
        | (go_at_call 19; (with_reducible refine (HE3.out _).mono ?_); rintro e w6 ⟨rfl, rfl⟩)
        | (go_at_call 20; (with_reducible refine (HRS.out _ hB5).mono ?_); rintro e w7 ⟨⟨v7, rfl, hv7'⟩, hB7'⟩; (have hv77 := slots_slice hv7'); obtain ⟨p7, k7, rfl⟩ := ownsRow_shape hv7'; (have hB7 := below_call hB5 (Nat.le_refl _) hB7'); (have hv57 := hv5.mono hB7' (by decide) (fun _ _ h => h)); clear hB7' hv5 hv7')
        | (go_at_call 21; (with_reducible refine (HRP.out _ hB7).mono ?_); rintro e w8 ⟨⟨mn, mt, b1, b2, b3, lo, pc, nc, kc, ph, nh, kh, rfl⟩, hB8'⟩; (have hB8 := below_call hB7 (Nat.le_refl _) hB8'); (have hv58 := hv57.mono hB8' (by decide) (fun _ _ h => h)); (have hv78 := hv77.mono hB8' (by decide) (fun _ _ h => h)); clear hB8' hv57 hv77)
        | (go_at_call 22; (with_reducible refine (HSl.out _ _ _ hv58 hv78).mono ?_); rintro e w9 ⟨rfl, hB9'⟩; (have hB9 := below_call hB8 (Nat.le_refl _) hB9')))
      go_ret
      exact ⟨rfl, hB9⟩
    | true =>
      rw [hq] at HPi HRP
      rw [if_pos rfl, show errV 0 = .nilIface from rfl] at HPi
      clear hq
      go_enter Tryz.func4, Tryz.ntmps4
      go_wp2_with (first
        | (go_at_call 12; (with_reducible refine (HLi.out _ (Below.refl _ _)).mono ?_); rintro e w2 ⟨rfl, hB2⟩)
        | (go_at_call 17; (with_reducible refine (HRN.out _ hB2).mono ?_); rintro e w3 ⟨rfl, hB3'⟩; (have hB3 := below_call hB2 (Nat.le_refl _) hB3'); clear hB3')
        | (go_at_call 14; (with_reducible refine (HTa.out _ hB3).mono ?_); rintro e w4 ⟨⟨v4, rfl, hv4'⟩, hB4'⟩; (have hv4 := slots_slice hv4'); obtain ⟨p4, k4, rfl⟩ := ownsRow_shape hv4'; (have hB4 := below_call hB3 (Nat.le_refl _) hB4'); clear hB4' hv4')
        | (go_at_call 18; (with_reducible refine (HPi.out _ hB4).mono ?_); rintro e w5 ⟨rfl, hB5'⟩; (have hB5 := below_call hB4 (Nat.le_refl _) hB5'); (have hv5 := hv4.mono hB5' (by decide) (fun _ _ h => h)); clear hB5' hv4)
        | (go_at_call 19; (with_reducible refine (HE.out _).mono ?_); rintro e w6 ⟨rfl, rfl⟩)
        | (go_at_call 20; (with_reducible refine (HRS.out _ hB5).mono ?_); rintro e w7 ⟨⟨v7, rfl, hv7'⟩, hB7'⟩; (have hv77 := slots_slice hv7'); obtain ⟨p7, k7, rfl⟩ := ownsRow_shape hv7'; (have hB7 := below_call hB5 (Nat.le_refl _) hB7'); (have hv57 := hv5.mono hB7' (by decide) (fun _ _ h => h)); clear hB7' hv5 hv7')
        | (go_at_call 21; (with_reducible refine (HRP.out _ hB7).mono ?_); rintro e w8 ⟨⟨mn, mt, b1, b2, b3, lo, pc, nc, kc, ph, nh, kh, rfl⟩, hB8'⟩; (have hB8 := below_call hB7 (Nat.le_refl _) hB8'); (have hv58 := hv57.mono hB8' (by decide) (fun _ _ h => h)); (have hv78 := hv77.mono hB8' (by decide) (fun _ _ h => h)); clear hB8' hv57 hv77)
        | (go_at_call 22; (with_reducible refine (HSl.out _ _ _ hv58 hv78).mono ?_); rintro e w9 ⟨rfl, hB9'⟩; (have hB9 := below_call hB8 (Nat.le_refl _) hB9')))
      go_ret
      exact ⟨rfl, hB9⟩
  · have HTa : Hid (∀ wx, Below w.heap.size w wx → _) := fun wx hb => table_no l lv c wx (hl.mono hb hl.1) ho (hlv.mono hb) hn hz
    have h1 : pickN l c n t = ⟨#[]⟩ := by unfold pickN; rw [if_neg hz]
    have h2 : pickFaultN l c n t = namedFault l c := by unfold pickFaultN; rw [if_neg hz]
    rcases errV_cases (namedFault l c) with ⟨_, h0⟩ | ⟨hv, _⟩
    · exact absurd h0 hz
    rw [h1, h2, hv] at HPi
    have hf0 : ((namedFault l c : Int) == 0) = false := by simpa using hz
    have HE2 : Hid (∀ wx, _) := fun wx => error_is (namedFault l c) hz wx
    have HT := Lib.hid sameSlots_nil
    obtain ⟨pl, cap, rfl, _⟩ := hlv.open
    clear hl ho hlv hz hn HLV h1 h2 hv HE
    generalize namedFault l c = f at *
    go_enter Tryz.func4, Tryz.ntmps4
    go_wp2_with (first
      | (go_at_call 12; (with_reducible refine (HLi.out _ (Below.refl _ _)).mono ?_); rintro e w2 ⟨rfl, hB2⟩)
      | (go_at_call 17; (with_reducible refine (HRN.out _ hB2).mono ?_); rintro e w3 ⟨rfl, hB3'⟩; (have hB3 := below_call hB2 (Nat.le_refl _) hB3'); clear hB3')
      | (go_at_call 14; (with_reducible refine (HTa.out _ hB3).mono ?_); rintro e w4 ⟨rfl, hB4'⟩; (have hB4 := below_call hB3 (Nat.le_refl _) hB4'); clear hB4')
      | (go_at_call 18; (with_reducible refine (HPi.out _ hB4).mono ?_); rintro e w5 ⟨rfl, hB5'⟩; (have hB5 := below_call hB4 (Nat.le_refl _) hB5'); clear hB5')
      | (go_at_call 19; (with_reducible refine (HE2.out _).mono ?_); rintro e w6 ⟨rfl, rfl⟩)
      | (go_at_call 22; (with_reducible refine (HT.out _).mono ?_); rintro e w9 ⟨rfl, hB9'⟩; (have hB9 := below_call hB5 (Nat.le_refl _) hB9')))
    go_ret
    exact ⟨rfl, hB9⟩
end Go.Proofs.YtehhmedjgmbpgaaGreatDoor
