/-
  WALK over the law VtabPrefix. Conditions: as in XRead.
-/
import Derived.Test.YtehhmedjgmbpgaaGreatDoorVtabTells
namespace Go.Proofs.YtehhmedjgmbpgaaGreatDoor
open Go.RowKit Go.Shelf Go.Lib
set_option maxHeartbeats 8000000 in
set_option maxRecDepth 100000 in
theorem vtabPrefix_any (l : List Class) (lv : Value) (i : Int) (w : World) (hl : Laid w) (ho : ∀ c ∈ l, ClassOk c) (hlv : ClassesAt w lv l) :
    Calls Tryz.prog 3 #[lv, .int .i64 i] w fun e w' => e = .returned (.bool true) ∧ Below w.heap.size w w' := by
  have HLi : Hid (∀ wx, Below w.heap.size w wx → _) := fun wx hb => tabled_any wx (hl.mono hb hl.1)
  have HCk : Hid (∀ wx, Below w.heap.size w wx → _) := fun wx hb => worldCheck_any l lv wx (hl.mono hb hl.1) ho (hlv.mono hb)
  have HSu : Hid (∀ wx (n : Str), Below w.heap.size w wx → n.size ≤ maxLen → _) := fun wx n hb hn => supers_any l lv n wx (hl.mono hb hl.1) ho (hlv.mono hb) hn
  have HTa : Hid (∀ wx (n : Str), Below w.heap.size w wx → n.size ≤ maxLen → namedFault l n = 0 → _) := fun wx n hb hn hz => table_yes l lv n wx (hl.mono hb hl.1) ho (hlv.mono hb) hn hz
  obtain ⟨pl, cap, rfl, hc1, hc2, hcc⟩ := hlv.open
  have HC := Lib.hid hcc
  have HO := Lib.hid ho
  unfold TableGives at HTa
  clear hcc hlv ho hl
  rcases errV_cases (readFault l) with ⟨hv, hz⟩ | ⟨hv, hz⟩
  · rw [hv] at HCk
    have HZ := Lib.hid hz
    clear hv hz
    by_cases h0 : l.length = 0
    · obtain rfl := List.length_eq_zero_iff.1 h0
      simp only [List.length_nil] at HCk
      clear h0
      go_enter Tryz.func3, Tryz.ntmps3
      go_wp2_with (first
        | (go_at_call 12; (with_reducible refine (HLi.out _ (Below.refl _ _)).mono ?_); rintro e w2 ⟨rfl, hB2⟩)
        | (go_at_call 13; (with_reducible refine (HCk.out _ hB2).mono ?_); rintro e w3 ⟨rfl, hB3⟩))
      all_goals first | (exfalso; omega) | skip
      go_ret
      exact ⟨rfl, below_call hB2 (Nat.le_refl _) hB3⟩
    · have hz0 : ((l.length : Int) == 0) = false := by simpa using fun h => h0 (by rw [h]; rfl)
      go_enter Tryz.func3, Tryz.ntmps3
      go_upto_region 6 with (first
        | (go_at_call 12; (with_reducible refine (HLi.out _ (Below.refl _ _)).mono ?_); rintro e w2 ⟨rfl, hB2⟩)
        | (go_at_call 13; (with_reducible refine (HCk.out _ hB2).mono ?_); rintro e w3 ⟨rfl, hB3⟩))
      have hB := below_call hB2 (Nat.le_refl _) hB3
      clear hB2 hB3
      have hlen : l.length ≤ 9223372036854775807 := Nat.le_trans hc1 hc2
      have hwl : IntKind.u64.wrap (l.length : Int) = (l.length : Int) := by
        have h1 : (0 : Int) ≤ l.length := by omega
        have h2 : (l.length : Int) < 18446744073709551616 := by omega
        show (l.length : Int) % 18446744073709551616 = _
        omega
      obtain ⟨j, hj, hjl⟩ : ∃ j : Nat, (IntKind.u64.wrap i).tmod (l.length : Int) = (j : Int) ∧ j < l.length := by
        have h1 : 0 ≤ IntKind.u64.wrap i := by
          show 0 ≤ i % 18446744073709551616
          omega
        have h2 : (0 : Int) < l.length := by omega
        rw [Int.tmod_eq_emod_of_nonneg h1]
        have h3 := Int.emod_nonneg (IntKind.u64.wrap i) (show (l.length : Int) ≠ 0 by omega)
        have h4 := Int.emod_lt_of_pos (IntKind.u64.wrap i) h2
        exact ⟨((IntKind.u64.wrap i) % (l.length : Int)).toNat, by omega, by omega⟩
      obtain ⟨c, hx⟩ : ∃ c, l[j]? = some c := ⟨l[j], by simp [hjl]⟩
      obtain ⟨b, o, vs, rfl, ⟨fv, dv, mv, rfl, k1, k2, k3⟩, _, hcells⟩ := HC.out j c hx
      obtain ⟨pf, kf, rfl, _⟩ := k1.open
      obtain ⟨pd, kd, rfl, _⟩ := k2.open
      obtain ⟨pm, km, rfl, _⟩ := k3.open
      have hcells := hcells.mono hB hcells.lt
      have hR := right_of HZ.out
      have hcm := List.mem_of_getElem? hx
      have hco := HO.out c hcm
      obtain ⟨c0, c1, c2, c3, c4, c5, _⟩ := hcells
      have HX := Lib.hid hx
      clear hx
      go_upto_region 7 with (first | fail)
      have hcall : c ∈ allC l := by simp [allC, hcm]
      have hkn : (findC (allC l) c.name).isSome = true := by rw [hR.find hcall]; rfl
      have hcls : classC (allC l) c.name = c := by unfold classC; rw [hR.find hcall]; rfl
      have hs0 : (classC (allC l) c.name).super.size ≠ 0 := by
        rw [hcls]; intro h; have hjn := hR.joined c hcm; unfold joinedC at hjn; rw [if_pos h] at hjn; cases hjn
      obtain ⟨hks, _⟩ := hR.up hkn hs0
      have hup := slotsC_up hR hkn hs0
      rw [hcls] at hks hup
      have hz1 : namedFault l c.name = 0 := by unfold namedFault; rw [if_neg (by rw [HZ.out]; decide), hkn]; rfl
      have hz2 : namedFault l c.super = 0 := by unfold namedFault; rw [if_neg (by rw [HZ.out]; decide), hks]; rfl
      have HExt := Lib.hid (slotsOf_extends c.name c.methods (slotsC (allC l) c.super))
      rw [← hup] at HExt
      have HSi := Lib.hid (slotsC_single (allC l) c.name)
      have HCl := Lib.hid (slotsC_cls (allC l) c.name)
      have BY : Boxed w3 (w3.alloc (.cells #[.string c.name, .string c.super, .slice pf c.faces.length kf, .bool c.face, .slice pd c.fields.length kd, .slice pm c.methods.length km] 31)) [.string c.name, .string c.super, .slice pf c.faces.length kf, .bool c.face, .slice pd c.fields.length kd, .slice pm c.methods.length km] := ⟨(Below.refl _ _).alloc (Nat.le_refl _) _, by simp, by simp [Cells]⟩
      have hB4 := hB.alloc hB.size (.cells #[.string c.name, .string c.super, .slice pf c.faces.length kf, .bool c.face, .slice pd c.fields.length kd, .slice pm c.methods.length km] 31)
      have HT1 := Lib.hid (HTa.out _ c.name hB4 (Nat.le_trans hco.name (by decide)) hz1)
      have HT2 : Hid (∀ wx, Below w.heap.size w wx → _) := fun wx hb => HTa.out wx c.super hb (Nat.le_trans hco.super (by decide)) hz2
      have HS1 : Hid (∀ wx, Below w.heap.size w wx → _) := fun wx hb => HSu.out wx c.name hb (Nat.le_trans hco.name (by decide))
      rw [hz1] at HS1
      clear hz1 hz2 hup hs0 hcls hkn hks hcall HSu HTa HCk HLi hco hcm hR c0 c1 c2 c3 c4 c5
      generalize w3.alloc (.cells #[.string c.name, .string c.super, .slice pf c.faces.length kf, .bool c.face, .slice pd c.fields.length kd, .slice pm c.methods.length km] 31) = w4 at *
      generalize slotsC (allC l) c.name = S at *
      generalize slotsC (allC l) c.super = M at *
      generalize lineC (allC l) c.name = A at *
      have hle : M.length ≤ S.length := HExt.out.len
      have hle2 : decide ((S.length : Int) < (M.length : Int)) = false := by simp; omega
      have hle3 : decide (S.length < M.length) = false := by simp; omega
      obtain ⟨y0, y1, y2, y3, y4, y5⟩ := boxed6 BY
      go_upto_region 10 with (first
        | (go_at_call 14; (with_reducible refine HT1.out.mono ?_); rintro e w5 ⟨⟨v1, rfl, hv1'⟩, hB5⟩; (have hv1 := slots_slice hv1'); obtain ⟨p1, q1, rfl⟩ := ownsRow_shape hv1'; clear hv1'; (have BY5 := BY.step hB5); (have hB05 := below_call hB4 (Nat.le_refl _) hB5); obtain ⟨x0, x1, _⟩ := boxed6 BY5)
        | (go_at_call 14; (with_reducible refine (HT2.out _ hB05).mono ?_); rintro e w6 ⟨⟨v2, rfl, hv2'⟩, hB6⟩; (have hv2 := slots_slice hv2'); obtain ⟨p2, q2, rfl⟩ := ownsRow_shape hv2'; clear hv2'; (have BY6 := BY5.step hB6); (have hB06 := below_call hB05 (Nat.le_refl _) hB6); obtain ⟨x20, x21, _⟩ := boxed6 BY6)
        | (go_at_call 15; (with_reducible refine (HS1.out _ hB06).mono ?_); rintro e w7 ⟨hB7, ⟨_, v3, rfl, hv3⟩ | ⟨hz, _⟩⟩; rotate_left; (exact absurd rfl hz); obtain ⟨p3, q3, rfl, _⟩ := hv3.open))
      have hB7w := below_call hB06 (Nat.le_refl _) hB7
      have BY7 := BY6.step hB7
      replace hv1 := (hv1.mono hB6 (by decide) (fun _ _ h => h)).mono hB7 (by decide) (fun _ _ h => h)
      replace hv2 := hv2.mono hB7 (by decide) (fun _ _ h => h)
      clear HS1 HT1 HT2 BY BY5 BY6 hB4 hB05 hB06 hB5 hB6 hB7 x0 x1 x20 x21 y0 y1 y2 y3 y4 y5
      obtain ⟨p1', q1', hpe, hq1, hq2, hcc1⟩ := hv1.open
      injection hpe with he1 he2 he3
      subst he1 he3
      obtain ⟨p2', q2', hpe, hr1, hr2, hcc2⟩ := hv2.open
      injection hpe with he1 he3 he4
      subst he1 he4
      clear he2 he3 hv1 hv2
      have HC1 := Lib.hid hcc1
      have HC2 := Lib.hid hcc2
      have hL1 : S.length ≤ 9223372036854775807 := Nat.le_trans hq1 hq2
      have HV3 := Lib.hid hv3
      have HBY := Lib.hid BY7
      have HBw := Lib.hid hB7w
      clear hcc1 hcc2 hv3 BY7 hB7w
      go_upto_region 13 with (first | fail)
      go_loopw [13] (fun x wr => ∃ k : Nat, k ≤ S.length ∧ Below w7.heap.size w7 wr ∧ x = .int .i64 k) (fun x _ => S.length - (intOf x).toNat)
      case atStart => exact ⟨0, by omega, Below.refl _ _, rfl⟩
      case round =>
        obtain ⟨k, hk, hBk, rfl⟩ := hrel
        by_cases hkl : k < S.length
        · obtain ⟨x, hx⟩ : ∃ x, S[k]? = some x := ⟨S[k], by simp [hkl]⟩
          have hxe : S[k] = x := (List.getElem?_eq_some_iff.1 hx).2
          have HCell : Hid (∀ wx, Below w7.heap.size w7 wx → ∃ b1 o1, p1 = some ⟨b1, o1, none⟩ ∧ wx.cell? ⟨b1, o1 + k * 3, none⟩ = some (.string x.name) ∧ wx.cell? ⟨b1, o1 + k * 3 + 1, none⟩ = some (.string x.type) ∧ wx.cell? ⟨b1, o1 + k * 3 + 2, none⟩ = some (.string x.cls)) := fun wx hb => by
            obtain ⟨b1, o1, vs, hp, hR, _, hcells⟩ := HC1.out k x hx
            unfold SlotCells at hR; subst hR
            obtain ⟨c0, c1, c2, _⟩ := hcells.mono hb hcells.lt
            exact ⟨b1, o1, hp, c0, c1, c2⟩
          have hcl := HCl.out x (List.mem_of_getElem? hx)
          have HMem : Hid (memB A x.cls = true) := memB_iff.2 hcl
          obtain ⟨b1, o1, rfl, d0, d1, d2⟩ := HCell.out wr hBk
          obtain ⟨z0, _⟩ := boxed6 (HBY.out.step hBk)
          have HX := Lib.hid hx
          have HBk := Lib.hid hBk
          clear hcl hx
          have hways : (∃ y, M[k]? = some y ∧ k < M.length ∧ x.name = y.name ∧ x.type = y.type ∧ x.cls = y.cls) ∨ (∃ y, M[k]? = some y ∧ k < M.length ∧ x.name = y.name ∧ x.type = y.type ∧ x.cls ≠ y.cls ∧ x.cls = c.name) ∨ (¬ k < M.length ∧ x.cls = c.name) := by
            by_cases hkm : k < M.length
            · obtain ⟨f1, f2, f3⟩ := HExt.out.same k hkm hkl
              rw [hxe] at f1 f2 f3
              by_cases hc : x.cls = M[k].cls
              · exact Or.inl ⟨M[k], by simp [hkm], hkm, f1, f2, hc⟩
              · exact Or.inr (Or.inl ⟨M[k], by simp [hkm], hkm, f1, f2, hc, f3.resolve_left hc⟩)
            · have hnew := HExt.out.new k hkl (by omega)
              rw [hxe] at hnew
              exact Or.inr (Or.inr ⟨hkm, hnew⟩)
          have hsing : ∀ j y, j < k → S[j]? = some y → ¬ (y.name = x.name ∧ y.type = x.type) := fun j y hj hy => by
            have hp := List.pairwise_iff_getElem.1 HSi.out j k (by omega) hkl hj
            rw [hxe, (List.getElem?_eq_some_iff.1 hy).2] at hp
            exact hp
          have HSing := Lib.hid hsing
          clear hxe hsing
          rcases hways with ⟨y, hy, hkm, f1, f2, hc⟩ | ⟨y, hy, hkm, f1, f2, hc, hc2⟩ | ⟨hkm, hc2⟩
          case' inl =>
            obtain ⟨b2, o2, vs, rfl, hR, _, hcells⟩ := HC2.out k y hy
            unfold SlotCells at hR; subst hR
            obtain ⟨u0, u1, u2, _⟩ := hcells.mono HBk.out hcells.lt
            have hkm2 : decide ((k : Int) < (M.length : Int)) = true := by simp; omega
            have hkm3 : decide ((M.length : Int) ≤ (k : Int)) = false := by simp; omega
            have hkm4 : decide (M.length ≤ k) = false := by simp; omega
            have e1 := strEq x.name y.name
            have e2 := strEq x.type y.type
            have e3 := strEq x.cls y.cls
            rw [decide_eq_true f1] at e1
            rw [decide_eq_true f2] at e2
            rw [decide_eq_true hc] at e3
            have HY := Lib.hid hy
            clear hy f1 f2 hcells hc
            go_upto_region 15 with (first | fail)
            go_quiet (fail)
            have hB8 := below_call HBk.out (Nat.le_refl _) (below_drewN (Below.refl wr.heap.size wr) nq)
            generalize wr.drewN nq = w8 at *
            clear e1 e2 e3 u0 u1 u2
          case' inr.inl =>
            obtain ⟨b2, o2, vs, rfl, hR, _, hcells⟩ := HC2.out k y hy
            unfold SlotCells at hR; subst hR
            obtain ⟨u0, u1, u2, _⟩ := hcells.mono HBk.out hcells.lt
            have hkm2 : decide ((k : Int) < (M.length : Int)) = true := by simp; omega
            have hkm3 : decide ((M.length : Int) ≤ (k : Int)) = false := by simp; omega
            have hkm4 : decide (M.length ≤ k) = false := by simp; omega
            have e1 := strEq x.name y.name
            have e2 := strEq x.type y.type
            have e3 := strEq x.cls y.cls
            have e4 := strEq x.cls c.name
            rw [decide_eq_true f1] at e1
            rw [decide_eq_true f2] at e2
            rw [decide_eq_false hc] at e3
            rw [decide_eq_true hc2] at e4
            have HY := Lib.hid hy
            clear hy f1 f2 hcells hc hc2
            go_upto_region 15 with (first | fail)
            go_quiet (fail)
            have hB8 := below_call HBk.out (Nat.le_refl _) (below_drewN (Below.refl wr.heap.size wr) nq)
            generalize wr.drewN nq = w8 at *
            clear e1 e2 e3 u0 u1 u2
          case' inr.inr =>
            have hkm2 : decide ((k : Int) < (M.length : Int)) = false := by simp; omega
            have hkm3 : decide ((M.length : Int) ≤ (k : Int)) = true := by simp; omega
            have hkm4 : decide (M.length ≤ k) = true := by simp; omega
            have hkm5 : decide (k < M.length) = false := by simp; omega
            have e4 := strEq x.cls c.name
            rw [decide_eq_true hc2] at e4
            clear hc2
            go_upto_region 15 with (first | fail)
            go_quiet (fail)
            have hB8 := below_call HBk.out (Nat.le_refl _) (below_drewN (Below.refl wr.heap.size wr) nq)
            generalize wr.drewN nq = w8 at *
          all_goals
            clear d0 d1 d2 z0
            obtain ⟨b9, o9, he, d0, d1, d2⟩ := HCell.out w8 hB8
            injection he with he
            injection he with he1 he2
            subst he1 he2
            obtain ⟨z0, _⟩ := boxed6 (HBY.out.step hB8)
            have HI := Lib.hid (fun nn => in_quiet A _ x.cls w8 (HV3.out.mono hB8) true HMem.out nn)
            have HB8 := Lib.hid hB8
            clear hB8
            go_wp2_with (first | fail)
            go_quiet ((go_at_call 16; with_reducible exact Calls.quiet_of_same (HI.out _)))
            have hB9 := below_call HB8.out (Nat.le_refl _) (below_drewN (Below.refl w8.heap.size w8) nq)
            generalize w8.drewN nq = w9 at *
            have HB9 := Lib.hid hB9
            clear hB9 d0 d1 d2 z0
            go_wp2_with (first | fail)
            go_loopw [14] (fun x wy => ∃ j : Nat, j ≤ k ∧ Below w7.heap.size w7 wy ∧ x = .int .i64 j) (fun x _ => k - (intOf x).toNat)
            case atStart => exact ⟨0, by omega, HB9.out, rfl⟩
            case round =>
              obtain ⟨j, hj, hBj, rfl⟩ := hrel
              obtain ⟨b9, o9, he, d0, d1, d2⟩ := HCell.out wr hBj
              injection he with he
              injection he with he1 he2
              subst he1 he2
              clear d2
              by_cases hjk : j < k
              · obtain ⟨y, hy⟩ : ∃ y, S[j]? = some y := ⟨S[j]'(by omega), by simp⟩
                obtain ⟨b2, o2, vs, he, hR, _, hcells⟩ := HC1.out j y hy
                injection he with he
                injection he with he1 he2
                subst he1 he2
                unfold SlotCells at hR; subst hR
                obtain ⟨u0, u1, u2, _⟩ := hcells.mono hBj hcells.lt
                have hns := HSing.out j y hjk hy
                have hjs : j < S.length := by omega
                have e1 := strEq y.name x.name
                have e2 := strEq y.type x.type
                have HY := Lib.hid hy
                have HBj := Lib.hid hBj
                clear hy hcells hBj u2
                by_cases h1 : y.name = x.name
                · rw [decide_eq_true h1] at e1
                  rw [decide_eq_false (fun h2 => hns ⟨h1, h2⟩)] at e2
                  clear hns h1
                  go_wp2_with (first | fail)
                  go_quiet (fail)
                  go_wp2_with (first | fail)
                  go_roundw
                  case rel => exact ⟨j + 1, by omega, below_call HBj.out (Nat.le_refl _) (below_drewN (Below.refl _ _) _), by simp⟩
                  case measure => simp [intOf]; omega
                · rw [decide_eq_false h1] at e1
                  clear hns h1 e2
                  go_wp2_with (first | fail)
                  go_quiet (fail)
                  go_wp2_with (first | fail)
                  go_roundw
                  case rel => exact ⟨j + 1, by omega, below_call HBj.out (Nat.le_refl _) (below_drewN (Below.refl _ _) _), by simp⟩
                  case measure => simp [intOf]; omega
              · obtain rfl : j = k := by omega
                have HBj := Lib.hid hBj
                clear hBj d0 d1
                go_wp2_with (first | fail)
                go_roundw
                case rel => exact ⟨j + 1, by omega, HBj.out, by simp⟩
                case measure => simp [intOf]; omega
        · obtain rfl : k = S.length := by omega
          have HBk := Lib.hid hBk
          clear hBk
          go_wp2_with (first | fail)
          go_ret
          exact ⟨rfl, below_call HBw.out (Nat.le_refl _) HBk.out⟩
  · rw [hv] at HCk
    have HZ := Lib.hid hz
    clear hv hz
    go_enter Tryz.func3, Tryz.ntmps3
    go_wp2_with (first
      | (go_at_call 12; (with_reducible refine (HLi.out _ (Below.refl _ _)).mono ?_); rintro e w2 ⟨rfl, hB2⟩)
      | (go_at_call 13; (with_reducible refine (HCk.out _ hB2).mono ?_); rintro e w3 ⟨rfl, hB3⟩))
    go_ret
    exact ⟨rfl, below_call hB2 (Nat.le_refl _) hB3⟩
end Go.Proofs.YtehhmedjgmbpgaaGreatDoor
