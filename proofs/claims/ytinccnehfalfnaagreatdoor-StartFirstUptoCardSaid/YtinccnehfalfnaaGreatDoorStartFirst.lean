/-
  WALK over the law StartFirst. Conditions: as in XRead; texts of at most maxLen signs, lists of at most 1048576 texts.
-/
import Derived.Test.YtinccnehfalfnaaGreatDoorStarted
import Derived.Deep.QuietTactic
import Derived.BigQuiet
namespace Go.Proofs.YtinccnehfalfnaaGreatDoor
open Go.RowKit Go.Shelf Go.Lib
set_option maxHeartbeats 1000000 in
set_option maxRecDepth 100000 in
theorem startFirst_any (l : List Class) (lv : Value) (uses more : List Str) (uv mv : Value) (w : World) (hl : Laid w) (ho : ∀ c ∈ l, ClassOk c) (hlv : ClassesAt w lv l) (hu : StrsAt w uv uses) (hm : StrsAt w mv more)
    (hus : ∀ u ∈ uses, u.size ≤ maxLen) (hms : ∀ u ∈ more, u.size ≤ maxLen) (hul : uses.length ≤ 1048576) (hml : more.length ≤ 1048576) :
    Calls Tryz.prog 6 #[lv, uv, mv] w fun e w' => e = .returned (.bool true) ∧ Below w.heap.size w w' := by
  have HSt : Hid (∀ wx, Below w.heap.size w wx → _) := fun wx hb => started_any wx (hl.mono hb hl.1)
  have HO1 : Hid (∀ wx, Below w.heap.size w wx → _) := fun wx hb => order_any l lv uses uv wx (hl.mono hb hl.1) ho (hlv.mono hb) (hu.mono hb) hus
  have HO2 : Hid (∀ wx v, Below w.heap.size w wx → StrsAt wx v (uses ++ more) → _) := fun wx v hb h => order_any l lv (uses ++ more) v wx (hl.mono hb hl.1) ho (hlv.mono hb) h (fun u hu => by
    rcases List.mem_append.1 hu with h | h
    · exact hus u h
    · exact hms u h)
  have HSu : Hid (∀ wx (n : Str), Below w.heap.size w wx → n.size ≤ maxLen → _) := fun wx n hb hn => supers_any l lv n wx (hl.mono hb hl.1) ho (hlv.mono hb) hn
  have HUm : Hid (∀ wx, Below w.heap.size w wx → StrsAt wx uv uses) := fun wx hb => hu.mono hb
  have HMm : Hid (∀ wx, Below w.heap.size w wx → StrsAt wx mv more) := fun wx hb => hm.mono hb
  obtain ⟨pl, cap, rfl, _⟩ := hlv.open
  obtain ⟨pu, cu, rfl, _, _, huc⟩ := hu.open
  obtain ⟨pm, cm, rfl, _⟩ := hm.open
  have HU : Hid (∀ (i : Nat) (x : Str), uses[i]? = some x → ∃ b o vs, pu = some ⟨b, o, none⟩ ∧ StrCells x vs ∧ vs.length = 1 ∧ Cells w b (o + i * 1) vs) := huc
  have HUS := Lib.hid hus
  have HNm : Hid (∀ x, (findC (allC l) x).isSome = true → x.size ≤ maxLen) := fun x hx => by
    obtain ⟨c, hc, rfl⟩ := findC_mem hx
    unfold allC at hc
    rcases List.mem_cons.1 hc with rfl | hc
    · decide
    · rcases List.mem_cons.1 hc with rfl | hc
      · decide
      · exact Nat.le_trans (ho c hc).name (by decide)
  have HFm : Hid (orderFault l uses ≠ 0 → orderFault l (uses ++ more) ≠ 0) := orderFault_more
  have HFF : Hid (orderFault l uses = 0 → _) := fun h => by
    obtain ⟨h1, h2, h3⟩ := orderFault_zero h
    exact And.intro h1 (And.intro h2 (order_facts h1 more h3))
  clear hlv hu hm ho hl huc hus hms
  have c1 : 0 + uses.length ≤ maxLen := Nat.le_trans (show 0 + uses.length ≤ 1048576 by omega) (by decide)
  have c2 : (0 + uses.length) * 16 ≤ 140737488355328 := by omega
  have c3 : uses.length + more.length ≤ maxLen := Nat.le_trans (show uses.length + more.length ≤ 2097152 by omega) (by decide)
  have c4 : (uses.length + more.length) * 16 ≤ 140737488355328 := by omega
  have HC1 := Lib.hid c1
  have HC2 := Lib.hid c2
  have HC3 := Lib.hid c3
  have HC4 := Lib.hid c4
  clear c1 c2 c3 c4
  by_cases h1 : orderFault l uses = 0
  · obtain ⟨hR, hz, hF⟩ := HFF.out h1
    have HR := Lib.hid hR
    have H1 := Lib.hid h1
    have HZ := Lib.hid hz
    have HF := Lib.hid hF
    clear hR h1 hz hF HFF HFm
    by_cases h2 : orderFault l (uses ++ more) = 0
    · have H2 := Lib.hid h2
      clear h2
      go_enter Tryz.func6, Tryz.ntmps6
      go_upto_region 5 with (first
        | (go_at_call 7; (with_reducible refine (HSt.out _ (Below.refl _ _)).mono ?_); rintro e w2 ⟨rfl, hB2⟩)
        | (go_at_call 10; (with_reducible refine (HO1.out _ hB2).mono ?_); rintro e w3 ⟨hB3, ⟨_, v1, rfl, hv1⟩ | ⟨hz, _⟩⟩; rotate_left; (exact absurd H1.out hz); obtain ⟨p1, q1, rfl, _⟩ := hv1.open))
      have hB := below_call hB2 (Nat.le_refl _) hB3
      have hone := ownsRow_none w3 w3.heap.size (Nat.le_refl _)
      have hBa : Below w3.heap.size w3 (w3.alloc (.cells #[] 9)) := (Below.refl _ _).alloc (Nat.le_refl _) _
      have hU := HUm.out _ (below_call hB (Nat.le_refl _) hBa)
      clear hB2 hB3
      go_upto_region 6 with (first
        | (at_builtin; (refine wpList_append_strs rfl _ _ rfl w3.heap.size _ _ _ rfl hown4 _ more rfl hM4 HC3.out HC4.out hB4.size ?_); intro v5 w5 hown5 hgrow5 _; (have hB5 : Below w3.heap.size w3 w5 := hB4.grown hgrow5 hB4.size (fun k hk => (hown4.lt k hk).1)); (have hown6 : w5.ownsRow w3.heap.size 9 1 v5 (uses ++ more).length ((uses ++ more).map Value.string) := by simpa [Nat.add_assoc] using hown5); (have HO := Lib.hid (HO2.out w5 v5 (below_call hB (Nat.le_refl _) hB5) (strsAt_of_owns hown6))); clear hown5 hown6 hM4 hown4 hgrow5 hB4)
        | (at_builtin; (refine wpList_append_strs rfl _ _ rfl w3.heap.size _ 0 [] rfl hone _ uses rfl hU HC1.out HC2.out hBa.size ?_); intro v4 w4 hown4' hgrow4 _; (have hown4 : w4.ownsRow w3.heap.size 9 1 v4 uses.length (uses.map Value.string) := by simpa using hown4'); clear hown4'; (have hB4 : Below w3.heap.size w3 w4 := hBa.grown hgrow4 hBa.size (fun k hk => (hone.lt k hk).1)); (have hM4 := HMm.out _ (below_call hB (Nat.le_refl _) hB4)); clear hone hU hBa hgrow4)
        | (go_at_call 10; (with_reducible refine HO.out.mono ?_); rintro e w6 ⟨hB6, ⟨_, v6, rfl, hv6⟩ | ⟨hz, _⟩⟩; rotate_left; (exact absurd H2.out hz); obtain ⟨p6, q6, rfl, _⟩ := hv6.open))
      replace hv1 := (hv1.mono hB5).mono hB6
      have hBw := below_call (below_call hB (Nat.le_refl _) hB5) (Nat.le_refl _) hB6
      clear hB hB5 hB6 HO HO1 HO2 HC1 HC2 HC3 HC4 HSt HUm HMm
      obtain ⟨f1, f2, f3, f4, f5, f6⟩ := HF.out
      clear HF
      have h12 := HR.out.small
      generalize orderC l uses = L1 at *
      generalize orderC l (uses ++ more) = L2 at *
      have HK := Lib.hid f1
      have HUp := Lib.hid f4
      have HHas := Lib.hid f5
      have HMore := Lib.hid f6
      clear f1 f4 f5 f6
      have hL13 : L1.length ≤ 12 := Nat.le_trans f2 h12
      clear f2 h12
      obtain ⟨⟨b1, o1, rfl⟩, _, hq1, hq2⟩ := hv1.ptr f3
      go_wp2_with (first | fail)
      go_loopw [12] (fun x wr => ∃ k : Nat, 1 ≤ k ∧ k ≤ L1.length ∧ Below w.heap.size w wr ∧ StrsAt wr (.slice (some ⟨b1, o1, none⟩) L1.length q1) L1 ∧ StrsAt wr (.slice p6 L2.length q6) L2 ∧ x = .int .i64 k) (fun x _ => L1.length - (intOf x).toNat)
      case atStart => exact ⟨1, by omega, by omega, hBw, hv1, hv6, rfl⟩
      case round =>
        clear hBw hv1 hv6
        obtain ⟨k, hk1, hk, hBw, hv1, hv6, rfl⟩ := hrel
        by_cases hkl : k < L1.length
        · obtain ⟨x, hx⟩ : ∃ x, L1[k]? = some x := ⟨L1[k], by simp [hkl]⟩
          have hkx := HK.out x (List.mem_of_getElem? hx)
          obtain ⟨g0, g1, g2⟩ := HUp.out k x hx (by omega)
          have hln := HR.out.line_up hkx g0
          obtain ⟨hks, _⟩ := HR.out.up hkx g0
          have hnf : namedFault l x = 0 := by unfold namedFault; rw [if_neg (by rw [HZ.out]; decide), hkx]; rfl
          have hS := HSu.out wr x hBw (HNm.out x hkx)
          have hl1 : (lineC (allC l) x)[1]? = some (classC (allC l) x).super := by
            rw [hln]; unfold lineC; rw [lineF_head]; rfl
          have hl2 := (List.getElem?_eq_some_iff.1 hl1).1
          rw [hnf] at hS
          have HS := Lib.hid hS
          have HL1 := Lib.hid hl1
          have G1 := Lib.hid g1
          have G2 := Lib.hid g2
          have HX := Lib.hid hx
          have u2 := hv1.cell hx
          clear hS hl1 hln hnf g1 g2 hx g0 hks hkx
          generalize lineC (allC l) x = L at *
          generalize (classC (allC l) x).super = sup at *
          go_upto_region 12 with (go_at_call 17; (with_reducible refine HS.out.mono ?_); rintro e w7 ⟨hB7, ⟨_, v7, rfl, hv7⟩ | ⟨hz, _⟩⟩; rotate_left; (exact absurd rfl hz); obtain ⟨p7, q7, rfl, _⟩ := hv7.open)
          obtain ⟨⟨b7, o7, rfl⟩, _, hq3, hq4⟩ := hv7.ptr (by omega)
          have u1 := hv7.cell HL1.out
          replace hv1 := hv1.mono hB7
          replace hv6 := hv6.mono hB7
          replace u2 := hv1.cell HX.out
          have htk := SliceOf.take hv1 rfl rfl (i := k) (by omega)
          have HI1 := Lib.hid (in_quiet _ _ sup w7 htk true G1.out)
          have HI2 := Lib.hid (in_quiet _ _ x w7 htk false G2.out)
          replace hBw := below_call hBw (Nat.le_refl _) hB7
          clear htk HS hB7 hv7
          have hlt2 : decide ((L.length : Int) < 2) = false := by simp; omega
          go_quiet (first | (go_at_call 21; with_reducible exact Calls.quiet_of_same (HI1.out _)) | (go_at_call 21; with_reducible exact Calls.quiet_of_same (HI2.out _)))
          go_wp2_with (first | fail)
          go_roundw
          case rel => exact ⟨k + 1, by omega, by omega, below_drewN hBw _, hv1.mono (below_drewN (Below.refl _ _) _), hv6.mono (below_drewN (Below.refl _ _) _), by simp⟩
          case measure => simp [intOf]; omega
        · obtain rfl : k = L1.length := by omega
          go_wp2_with (first | fail)
          go_loopw [15] (fun x ws => ∃ k : Nat, k ≤ uses.length ∧ wr = ws ∧ x = .int .i64 k) (fun x _ => uses.length - (intOf x).toNat)
          case atStart => exact ⟨0, by omega, rfl, rfl⟩
          case round =>
            obtain ⟨j, hj, rfl, rfl⟩ := hrel
            by_cases hjl : j < uses.length
            · obtain ⟨x, hx⟩ : ∃ x, uses[j]? = some x := ⟨uses[j], by simp [hjl]⟩
              obtain ⟨b, o, vs, rfl, hRc, _, hcells⟩ := HU.out j x hx
              unfold StrCells at hRc; subst hRc
              have c0 := (hcells.mono hBw hcells.lt).1
              rw [Nat.mul_one] at c0
              have hin := in_any L1 _ x wr hv1
              rw [HHas.out x (List.mem_of_getElem? hx)] at hin
              have HIn := Lib.hid hin
              clear hin hcells hx
              go_wp2_with (go_at_call 21; (with_reducible refine HIn.out.mono ?_); rintro e w8 ⟨rfl, rfl⟩)
              go_roundw
              case rel => exact ⟨j + 1, by omega, by simp, by simp⟩
              case measure => simp [intOf]; omega
            · obtain rfl : j = uses.length := by omega
              obtain ⟨t, ht⟩ := HMore.out
              have hl12 := congrArg List.length ht
              rw [List.length_append] at hl12
              have hle : L1.length ≤ L2.length := by omega
              obtain ⟨⟨b6, o6, rfl⟩, _, hq5, hq6⟩ := hv6.ptr (by omega)
              have htk := SliceOf.take hv6 rfl rfl (i := L1.length) (by omega)
              rw [ht, List.take_left] at htk
              have hT := texts_any L1 L1 _ _ wr htk hv1
              simp only [decide_true] at hT
              have HT := Lib.hid hT
              have HB := Lib.hid hBw
              clear hT htk ht hBw hv1 hv6 hl12
              go_wp2_with (go_at_call 13; (with_reducible refine HT.out.mono ?_); rintro e w8 ⟨rfl, hB8⟩)
              all_goals first | (exfalso; omega) | skip
              go_ret
              exact ⟨rfl, below_call HB.out (Nat.le_refl _) hB8⟩
    · have H2 := Lib.hid h2
      clear h2 HSu HF
      go_enter Tryz.func6, Tryz.ntmps6
      go_upto_region 5 with (first
        | (go_at_call 7; (with_reducible refine (HSt.out _ (Below.refl _ _)).mono ?_); rintro e w2 ⟨rfl, hB2⟩)
        | (go_at_call 10; (with_reducible refine (HO1.out _ hB2).mono ?_); rintro e w3 ⟨hB3, ⟨_, v1, rfl, hv1⟩ | ⟨hz, _⟩⟩; rotate_left; (exact absurd H1.out hz); obtain ⟨p1, q1, rfl, _⟩ := hv1.open))
      have hB := below_call hB2 (Nat.le_refl _) hB3
      have hone := ownsRow_none w3 w3.heap.size (Nat.le_refl _)
      have hBa : Below w3.heap.size w3 (w3.alloc (.cells #[] 9)) := (Below.refl _ _).alloc (Nat.le_refl _) _
      have hU := HUm.out _ (below_call hB (Nat.le_refl _) hBa)
      clear hB2 hB3
      go_wp2_with (first
        | (at_builtin; (refine wpList_append_strs rfl _ _ rfl w3.heap.size _ _ _ rfl hown4 _ more rfl hM4 HC3.out HC4.out hB4.size ?_); intro v5 w5 hown5 hgrow5 _; (have hB5 : Below w3.heap.size w3 w5 := hB4.grown hgrow5 hB4.size (fun k hk => (hown4.lt k hk).1)); (have hown6 : w5.ownsRow w3.heap.size 9 1 v5 (uses ++ more).length ((uses ++ more).map Value.string) := by simpa [Nat.add_assoc] using hown5); (have HO := Lib.hid (HO2.out w5 v5 (below_call hB (Nat.le_refl _) hB5) (strsAt_of_owns hown6))); clear hown5 hown6 hM4 hown4 hgrow5 hB4)
        | (at_builtin; (refine wpList_append_strs rfl _ _ rfl w3.heap.size _ 0 [] rfl hone _ uses rfl hU HC1.out HC2.out hBa.size ?_); intro v4 w4 hown4' hgrow4 _; (have hown4 : w4.ownsRow w3.heap.size 9 1 v4 uses.length (uses.map Value.string) := by simpa using hown4'); clear hown4'; (have hB4 : Below w3.heap.size w3 w4 := hBa.grown hgrow4 hBa.size (fun k hk => (hone.lt k hk).1)); (have hM4 := HMm.out _ (below_call hB (Nat.le_refl _) hB4)); clear hone hU hBa hgrow4)
        | (go_at_call 10; (with_reducible refine HO.out.mono ?_); rintro e w6 ⟨hB6, ⟨hz, _⟩ | ⟨_, rfl⟩⟩; (exact absurd hz H2.out)))
      go_ret
      exact ⟨rfl, below_call (below_call hB (Nat.le_refl _) hB5) (Nat.le_refl _) hB6⟩
  · have h2 := HFm.out h1
    have H1 := Lib.hid h1
    have H2 := Lib.hid h2
    clear h1 h2 HFm HFF HSu
    go_enter Tryz.func6, Tryz.ntmps6
    go_upto_region 5 with (first
      | (go_at_call 7; (with_reducible refine (HSt.out _ (Below.refl _ _)).mono ?_); rintro e w2 ⟨rfl, hB2⟩)
      | (go_at_call 10; (with_reducible refine (HO1.out _ hB2).mono ?_); rintro e w3 ⟨hB3, ⟨hz, _⟩ | ⟨_, rfl⟩⟩; (exact absurd hz H1.out)))
    have hB := below_call hB2 (Nat.le_refl _) hB3
    have hone := ownsRow_none w3 w3.heap.size (Nat.le_refl _)
    have hBa : Below w3.heap.size w3 (w3.alloc (.cells #[] 9)) := (Below.refl _ _).alloc (Nat.le_refl _) _
    have hU := HUm.out _ (below_call hB (Nat.le_refl _) hBa)
    clear hB2 hB3
    go_wp2_with (first
      | (at_builtin; (refine wpList_append_strs rfl _ _ rfl w3.heap.size _ _ _ rfl hown4 _ more rfl hM4 HC3.out HC4.out hB4.size ?_); intro v5 w5 hown5 hgrow5 _; (have hB5 : Below w3.heap.size w3 w5 := hB4.grown hgrow5 hB4.size (fun k hk => (hown4.lt k hk).1)); (have hown6 : w5.ownsRow w3.heap.size 9 1 v5 (uses ++ more).length ((uses ++ more).map Value.string) := by simpa [Nat.add_assoc] using hown5); (have HO := Lib.hid (HO2.out w5 v5 (below_call hB (Nat.le_refl _) hB5) (strsAt_of_owns hown6))); clear hown5 hown6 hM4 hown4 hgrow5 hB4)
      | (at_builtin; (refine wpList_append_strs rfl _ _ rfl w3.heap.size _ 0 [] rfl hone _ uses rfl hU HC1.out HC2.out hBa.size ?_); intro v4 w4 hown4' hgrow4 _; (have hown4 : w4.ownsRow w3.heap.size 9 1 v4 uses.length (uses.map Value.string) := by simpa using hown4'); clear hown4'; (have hB4 : Below w3.heap.size w3 w4 := hBa.grown hgrow4 hBa.size (fun k hk => (hone.lt k hk).1)); (have hM4 := HMm.out _ (below_call hB (Nat.le_refl _) hB4)); clear hone hU hBa hgrow4)
      | (go_at_call 10; (with_reducible refine HO.out.mono ?_); rintro e w6 ⟨hB6, ⟨hz, _⟩ | ⟨_, rfl⟩⟩; (exact absurd hz H2.out)))
    go_ret
    exact ⟨rfl, below_call (below_call hB (Nat.le_refl _) hB5) (Nat.le_refl _) hB6⟩
end Go.Proofs.YtinccnehfalfnaaGreatDoor
