/-
  WALK over the law StartTells. Conditions: as in XRead; texts of at most maxLen signs.
-/
import Derived.Test.YtinccnehfalfnaaGreatDoorRefStarted
namespace Go.Proofs.YtinccnehfalfnaaGreatDoor
open Go.RowKit Go.Shelf Go.Lib
theorem orderFault_of {l : List Class} {uses : List Str} (h : readFault l = 0) : orderFault l uses = if uses.all (fun u => (findC (allC l) u).isSome) then 0 else 3 := by
  unfold orderFault; rw [if_neg (by rw [h]; decide)]
set_option maxHeartbeats 2000000 in
set_option maxRecDepth 100000 in
theorem startTells_any (l : List Class) (lv : Value) (uses : List Str) (uv : Value) (w : World) (hl : Laid w) (ho : ∀ c ∈ l, ClassOk c) (hlv : ClassesAt w lv l) (hu : StrsAt w uv uses) (hus : ∀ u ∈ uses, u.size ≤ maxLen) :
    Calls Tryz.prog 3 #[lv, uv] w fun e w' => e = .returned (.bool true) ∧ Below w.heap.size w w' := by
  have HSt : Hid (∀ wx, Below w.heap.size w wx → _) := fun wx hb => started_any wx (hl.mono hb hl.1)
  have HRW : Hid (∀ wx, Below w.heap.size w wx → _) := fun wx hb => refWorld_any l lv wx ho (hlv.mono hb)
  have HO1 : Hid (∀ wx, Below w.heap.size w wx → _) := fun wx hb => order_any l lv uses uv wx (hl.mono hb hl.1) ho (hlv.mono hb) (hu.mono hb) hus
  have HCO : Hid (∀ wx n, Below w.heap.size w wx → _) := fun wx n hb => refClassOf_any l lv n wx (hlv.mono hb)
  unfold ClassGives at HCO
  have HLV := Lib.hid hlv
  have HTn : Hid (∀ wx, Calls Tryz.prog 13 #[.slice none 0 0, .slice none 0 0] wx fun e w' => e = .returned (.bool true) ∧ Below wx.heap.size wx w') := fun wx =>
    texts_any [] [] _ _ wx (Or.inl ⟨rfl, rfl⟩) (Or.inl ⟨rfl, rfl⟩)
  obtain ⟨pl, cap, rfl, _⟩ := hlv.open
  obtain ⟨pu, cu, rfl, hu1, hu2, huc⟩ := hu.open
  have hulen : uses.length ≤ 9223372036854775807 := Nat.le_trans hu1 hu2
  have HU : Hid (∀ (i : Nat) (x : Str), uses[i]? = some x → ∃ b o vs, pu = some ⟨b, o, none⟩ ∧ StrCells x vs ∧ vs.length = 1 ∧ Cells w b (o + i * 1) vs) := huc
  clear hlv hu hl ho huc hus
  by_cases hr : readFault l = 0
  · have HR := Lib.hid (right_of hr)
    have HOf := Lib.hid (orderFault_of (uses := uses) hr)
    rw [hr] at HRW
    clear hr
    go_enter Tryz.func3, Tryz.ntmps3
    go_wp2_with (first
      | (go_at_call 7; (with_reducible refine (HSt.out _ (Below.refl _ _)).mono ?_); rintro e w2 ⟨rfl, hB2⟩)
      | (go_at_call 8; (with_reducible refine (HRW.out _ hB2).mono ?_); rintro e w3 ⟨rfl, hB3⟩))
    have hB := below_call hB2 (Nat.le_refl _) hB3
    clear hB2 hB3 HSt HRW
    go_loopw [6, 7] (fun e x wr => ∃ k f : Nat, k ≤ uses.length ∧ Hid ((f = 0 ∧ ((uses.drop k).all fun u => (findC (allC l) u).isSome) = uses.all fun u => (findC (allC l) u).isSome) ∨ (f = 3 ∧ (uses.all fun u => (findC (allC l) u).isSome) = false)) ∧ Below w.heap.size w wr ∧ e = .int .i64 f ∧ x = .int .i64 k) (fun e x _ => (uses.length - (intOf x).toNat) + (3 - (intOf e).toNat))
    case atStart => exact ⟨0, 0, by omega, Or.inl ⟨rfl, rfl⟩, hB, rfl, rfl⟩
    case round =>
      clear hB
      obtain ⟨k, f, hk, hff, hB, rfl, rfl⟩ := hrel
      by_cases hf0 : f = 0
      · subst hf0
        have hff0 : ((uses.drop k).all fun u => (findC (allC l) u).isSome) = uses.all fun u => (findC (allC l) u).isSome := by
          rcases hff.out with ⟨_, h⟩ | ⟨h, _⟩
          · exact h
          · cases h
        clear hff
        by_cases hkl : k < uses.length
        · obtain ⟨u, hx⟩ : ∃ x, uses[k]? = some x := ⟨uses[k], by simp [hkl]⟩
          obtain ⟨b, o, vs, rfl, hRc, _, hcells⟩ := HU.out k u hx
          unfold StrCells at hRc; subst hRc
          have c0 := (hcells.mono hB hcells.lt).1
          rw [Nat.mul_one] at c0
          have hstep := all_drop' (fun u => (findC (allC l) u).isSome) uses k u hx
          rw [hff0] at hstep
          have hco := HCO.out wr u hB
          have HX := Lib.hid hx
          clear hx hcells hff0
          generalize (findC (allC l) u).isSome = is at *
          generalize (findC (allC l) u).getD noClass = d at *
          obtain ⟨n2, s2, f2, b2, d2, m2⟩ := d
          dsimp only at hco
          cases is with
          | true =>
            rw [Bool.true_and] at hstep
            have hst := Lib.hid hstep.symm
            have HC := Lib.hid hco
            clear hstep hco
            go_wp2_with (go_at_call 9; (with_reducible refine HC.out.mono ?_); rintro e w7 ⟨pf2, kf2, pd2, kd2, pm2, km2, rfl, _, _, _, hB7, _⟩)
            go_roundw
            case rel => exact ⟨k + 1, 0, by omega, Or.inl ⟨rfl, hst.out⟩, (below_call hB (Nat.le_refl _) hB7).alloc (below_call hB (Nat.le_refl _) hB7).size _, rfl, by simp⟩
            case measure => simp [intOf]; omega
          | false =>
            rw [Bool.false_and] at hstep
            have hst := Lib.hid hstep
            have HC := Lib.hid hco
            clear hstep hco
            go_wp2_with (go_at_call 9; (with_reducible refine HC.out.mono ?_); rintro e w7 ⟨pf2, kf2, pd2, kd2, pm2, km2, rfl, _, _, _, hB7, _⟩)
            go_roundw
            case rel => exact ⟨k + 1, 3, by omega, Or.inr ⟨rfl, hst.out⟩, (below_call hB (Nat.le_refl _) hB7).alloc (below_call hB (Nat.le_refl _) hB7).size _, rfl, by simp⟩
            case measure => simp [intOf]; omega
        · obtain rfl : k = uses.length := by omega
          have hall : (uses.all fun u => (findC (allC l) u).isSome) = true := by
            rw [← hff0, List.drop_eq_nil_of_le (Nat.le_refl _)]; rfl
          have hof : orderFault l uses = 0 := by rw [HOf.out, if_pos hall]
          have HK : Hid (∀ u ∈ uses, (findC (allC l) u).isSome = true) := fun u hu => List.all_eq_true.1 hall u hu
          rw [hof] at HO1
          have HE : Hid (∀ wx, Calls Tryz.prog 11 #[.nilIface, .int .i64 0] wx fun e w' => e = .returned (.bool true) ∧ wx = w') := fun wx => error_any 0 0 wx
          clear hff0 hall hof HOf HTn HCO
          go_upto_region 15 with (first
            | (go_at_call 10; (with_reducible refine (HO1.out _ hB).mono ?_); rintro e w4 ⟨hB4, ⟨_, v1, rfl, hv1⟩ | ⟨hz, _⟩⟩; rotate_left; (exact absurd rfl hz))
            | (go_at_call 11; (with_reducible refine (HE.out _).mono ?_); rintro e w5 ⟨rfl, rfl⟩))
          replace hB := below_call hB (Nat.le_refl _) hB4
          obtain ⟨b0, hb0⟩ : ∃ b0, b0 = w4.heap.size := ⟨_, rfl⟩
          have hone : (w4.alloc (.cells #[.string sObject] 9)).ownsRow b0 9 1 (.slice (some ⟨w4.heap.size, 0, none⟩) 1 1) [sObject].length ([sObject].map Value.string) := ownsRow_one w4 b0 (.string sObject) (by omega)
          have hBa : Below w4.heap.size w4 (w4.alloc (.cells #[.string sObject] 9)) := (Below.refl _ _).alloc (Nat.le_refl _) _
          have hv1a := hv1.mono hBa
          have hBb := below_call hB (Nat.le_refl _) hBa
          have hVb : Hid (orderC l uses = [] ∨ ∃ g, v1.ownBlock = some g ∧ g < w4.heap.size) := by
            by_cases he : orderC l uses = []
            · exact Or.inl he
            · exact Or.inr (strsAt_lt hv1 he)
          have HOC : Hid (orderF l [sObject] uses = orderC l uses) := rfl
          have hge : w.heap.size ≤ b0 := by rw [hb0]; exact hB.size
          have hszb : b0 ≤ (w4.alloc (.cells #[.string sObject] 9)).heap.size := by rw [hb0]; exact hBa.size
          rw [← hb0] at hVb
          have HST : Hid (∀ n out v wx, Below w.heap.size w wx → b0 ≤ wx.heap.size → wx.ownsRow b0 9 1 v out.length (out.map Value.string) → Ordered l out → (findC (allC l) n).isSome = true → _) := fun n out v wx hb hbs hw hord hk => refStarted_fuel l _ HR.out w b0 hge HLV.out _ n out v wx hb hbs hw hord hk (Nat.le_refl _)
          unfold StartPost at HST
          have HBB := Lib.hid hb0
          clear hb0 hv1 hBa hB4 hB
          generalize orderC l uses = L1 at *
          have HON := Lib.hid hone
          have HV1 := Lib.hid hv1a
          clear hone hv1a
          go_wp2_with (first | fail)
          go_loopw [13, 14] (fun v x ws => ∃ (k : Nat) (out : List Str), k ≤ uses.length ∧ Hid (orderF l out (uses.drop k) = L1) ∧ Hid (Ordered l out) ∧ Hid (ws.ownsRow b0 9 1 v out.length (out.map Value.string)) ∧ Below w.heap.size w ws ∧ b0 ≤ ws.heap.size ∧ Hid (StrsAt ws v1 L1) ∧ x = .int .i64 k) (fun _ x _ => uses.length - (intOf x).toNat)
          case atStart => exact ⟨0, [sObject], by omega, HOC.out, Ordered.first, HON.out, hBb, hszb, HV1.out, rfl⟩
          case round =>
            clear HON HV1 hBb hszb HOC
            obtain ⟨k, out, hk, HD, HOr, HW, hB, hsz, HV, rfl⟩ := hrel
            by_cases hkl : k < uses.length
            · obtain ⟨u, hx⟩ : ∃ x, uses[k]? = some x := ⟨uses[k], by simp [hkl]⟩
              have hku := HK.out u (List.mem_of_getElem? hx)
              obtain ⟨b, o, vs, rfl, hRc, _, hcells⟩ := HU.out k u hx
              unfold StrCells at hRc; subst hRc
              have c0 := (hcells.mono hB hcells.lt).1
              rw [Nat.mul_one] at c0
              have hstep := orderF_drop l out uses k u hx
              rw [HD.out] at hstep
              have HS := Lib.hid hstep.symm
              have hst := HST.out u out _ wr hB hsz HW.out HOr.out hku
              have HOr2 : Hid (Ordered l (startC l out u)) := HOr.out.start HR.out hku
              have HX := Lib.hid hx
              have HStc := Lib.hid hst
              clear hx hku hcells hstep HD hst
              go_wp2_with (go_at_call 12; (with_reducible refine HStc.out.mono ?_); rintro e w9 ⟨v9, rfl, hown9, hgrow9, hat9⟩)
              have hB9 : Below w.heap.size w w9 := hB.grown hgrow9 hB.size (fun g hg => Nat.le_trans hge (HW.out.lt g hg).1)
              have hV9 : StrsAt w9 v1 L1 := HV.out.grown hgrow9 (by
                rcases hVb.out with h | ⟨g, h1, h2⟩
                · exact Or.inl h
                · refine Or.inr fun he => ?_
                  have := (HW.out.lt g (he.symm.trans h1)).1
                  omega)
              have hsz9 := Nat.le_trans hsz hgrow9.size
              have HW9 := Lib.hid hown9
              have HV9 := Lib.hid hV9
              clear hgrow9 hat9 hown9 hV9
              go_roundw
              case rel => exact ⟨k + 1, startC l out u, by omega, HS.out, HOr2, HW9.out, hB9, hsz9, HV9.out, by simp⟩
              case measure => simp [intOf]; omega
            · obtain rfl : k = uses.length := by omega
              have hdone : out = L1 := by
                have := HD.out; rw [List.drop_eq_nil_of_le (by omega)] at this; exact this
              subst hdone
              have hT := texts_any out out _ _ wr HV.out (strsAt_of_owns HW.out)
              rw [decide_eq_true rfl] at hT
              have HT := Lib.hid hT
              clear hT HD HW HV
              go_wp2_with (go_at_call 13; (with_reducible refine HT.out.mono ?_); rintro e w8 ⟨rfl, hB8⟩)
              go_ret
              exact ⟨rfl, below_call hB (Nat.le_refl _) hB8⟩
      · have hf3 : f = 3 ∧ (uses.all fun u => (findC (allC l) u).isSome) = false := by
          rcases hff.out with ⟨h, _⟩ | h
          · exact absurd h hf0
          · exact h
        obtain ⟨rfl, hall⟩ := hf3
        have hof : orderFault l uses = 3 := by rw [HOf.out, if_neg (by rw [hall]; decide)]
        rw [hof] at HO1
        have HE : Hid (∀ wx, Calls Tryz.prog 11 #[.iface 25 (.int .i64 3), .int .i64 3] wx fun e w' => e = .returned (.bool true) ∧ wx = w') := fun wx => error_any 3 3 wx
        have HZ := Lib.hid (show (3 : Nat) ≠ 0 by decide)
        clear hff hall hof HOf HCO hf0
        go_wp2_with (first
          | (go_at_call 10; (with_reducible refine (HO1.out _ hB).mono ?_); rintro e w4 ⟨hB4, ⟨hz, _⟩ | ⟨_, rfl⟩⟩; (exact absurd hz HZ.out))
          | (go_at_call 11; (with_reducible refine (HE.out _).mono ?_); rintro e w5 ⟨rfl, rfl⟩)
          | (go_at_call 13; (with_reducible refine (HTn.out _).mono ?_); rintro e w8 ⟨rfl, hB8⟩))
        all_goals
          go_ret
          exact ⟨rfl, below_call (below_call hB (Nat.le_refl _) hB4) (Nat.le_refl _) hB8⟩
  · have hof : orderFault l uses = readFault l := by unfold orderFault; rw [if_pos hr]
    rw [hof] at HO1
    have hf0 : ((readFault l : Int) == 0) = false := by simpa using hr
    have HZ := Lib.hid hr
    have HE2 : Hid (∀ wx, Calls Tryz.prog 11 #[.iface 25 (.int .i64 (readFault l)), .int .i64 (readFault l)] wx fun e w' => e = .returned (.bool true) ∧ wx = w') := fun wx => by
      have := error_any (readFault l) (readFault l) wx
      rcases errV_cases (readFault l) with ⟨_, h⟩ | ⟨h, _⟩
      · exact absurd h hr
      · rwa [decide_eq_true rfl, h] at this
    clear hof hr HCO
    generalize readFault l = f at *
    go_enter Tryz.func3, Tryz.ntmps3
    go_wp2_with (first
      | (go_at_call 7; (with_reducible refine (HSt.out _ (Below.refl _ _)).mono ?_); rintro e w2 ⟨rfl, hB2⟩)
      | (go_at_call 8; (with_reducible refine (HRW.out _ hB2).mono ?_); rintro e w3 ⟨rfl, hB3⟩))
    have hB := below_call hB2 (Nat.le_refl _) hB3
    clear hB2 hB3 HSt HRW
    go_loopw [6, 7] (fun e x wr => w3 = wr ∧ e = .int .i64 f ∧ x = .int .i64 0) (fun _ _ _ => 0)
    case atStart => exact ⟨rfl, rfl, rfl⟩
    case round =>
      obtain ⟨rfl, rfl, rfl⟩ := hrel
      go_wp2_with (first
        | (go_at_call 10; (with_reducible refine (HO1.out _ hB).mono ?_); rintro e w4 ⟨hB4, ⟨hz, _⟩ | ⟨_, rfl⟩⟩; (exact absurd hz HZ.out))
        | (go_at_call 11; (with_reducible refine (HE2.out _).mono ?_); rintro e w5 ⟨rfl, rfl⟩)
        | (go_at_call 13; (with_reducible refine (HTn.out _).mono ?_); rintro e w8 ⟨rfl, hB8⟩))
      all_goals
        go_ret
        exact ⟨rfl, below_call (below_call hB (Nat.le_refl _) hB4) (Nat.le_refl _) hB8⟩
end Go.Proofs.YtinccnehfalfnaaGreatDoor
