/-
  WALKS over the reference's HoldsOf, TypesOf, thingFault, HeapFault. Conditions: a right world; types' texts of at most maxLen signs.
-/
import Derived.Test.YtbakcdgjibmceaaGreatDoorHeapOps
namespace Go.Proofs.YtbakcdgjibmceaaGreatDoor
open Go.RowKit Go.Shelf Go.Lib
set_option maxHeartbeats 2000000 in
set_option maxRecDepth 100000 in
theorem refHolds_any (l : List Class) (lv : Value) (hR : Right l) (hcf : ∀ c ∈ l, classFault c = 0) (w : World) (hlv : ClassesAt w lv l) (h : List Thing) (hv : Value) (hh : ThingsAt w hv h) (hT : Typed (allC l) h) (hS : Short h) (v : Val) (t : Str) (y : Ty) (hy : TyText t y) :
    Calls Tryz.prog 18 #[lv, hv, valV v, .string t] w fun e w' => e = .returned (.bool (holdsTy (allC l) h v y)) ∧ Below w.heap.size w w' := by
  have hsz := hy.size
  have e1 := kd_is (x := .ty y) hy.text (.ty .i)
  have e2 := kd_is (x := .ty y) hy.text (.ty .j)
  have HRe : Hid (∀ wx, _) := fun wx => refIs_any t (.ty y) wx hy.text (name_typeB hy.name hy.deep) hsz
  have HLv : Hid (∀ wx, Below w.heap.size w wx → ClassesAt wx lv l) := fun wx hb => hlv.mono hb
  simp only [kdText, tyText, Kd.ty.injEq, refK] at e1 e2 HRe
  obtain ⟨p, c, rfl, hc1, hc2, hcc⟩ := hh.open
  obtain ⟨pl, cap, rfl, _⟩ := hlv.open
  have HC := Lib.hid hcc
  have hlen : h.length ≤ 9223372036854775807 := Nat.le_trans hc1 hc2
  obtain ⟨k, n⟩ := v
  unfold valV holdsTy
  dsimp only
  have HB1 := Lib.hid ((Below.refl w.heap.size w).alloc (Nat.le_refl _) (.cells #[.int .i64 k, .int .i64 n] 27))
  clear hh hlv
  by_cases h1 : k = 1
  · subst h1
    rw [if_pos rfl]
    have HW : Hid (∀ wx, Calls Tryz.prog 49 #[.int .i64 n] wx fun e w' => e = .returned (.bool (decide (-2147483648 ≤ n) && decide (n ≤ 2147483647))) ∧ wx = w') := fun wx => refWord32_any n wx
    clear hT hS hcc hsz hy HRe HLv hR hcf
    generalize (decide (-2147483648 ≤ n) && decide (n ≤ 2147483647)) = q at *
    cases hi : decide (y = Ty.i)
    all_goals
      rw [hi] at e1
      clear hi e2
      go_enter Tryz.func18, Tryz.ntmps18
      go_wp2_with (go_at_call 49; (with_reducible refine (HW.out _).mono ?_); rintro e w3 ⟨rfl, rfl⟩)
      go_ret
      exact ⟨rfl, HB1.out⟩
  · rw [if_neg h1]
    have q1 : ((k : Int) == 1) = false := by simpa using h1
    by_cases h2 : k = 2
    · subst h2
      rw [if_pos rfl]
      clear hT hS hcc hsz hy HRe HLv hR hcf h1 q1
      generalize decide (y = Ty.j) = q at *
      go_enter Tryz.func18, Tryz.ntmps18
      go_wp2_with (first | fail)
      go_ret
      exact ⟨rfl, HB1.out⟩
    · rw [if_neg h2]
      have q2 : ((k : Int) == 2) = false := by simpa using h2
      by_cases h3 : k = 3
      · subst h3
        rw [if_pos rfl]
        clear h1 h2 q1 q2
        cases hr : isRef y with
        | false =>
          rw [hr] at HRe
          rw [Bool.false_and, Bool.false_and]
          clear hT hS hcc hsz hy HLv hR hcf hr e1 e2
          go_enter Tryz.func18, Tryz.ntmps18
          go_wp2_with (go_at_call 42; (with_reducible refine (HRe.out _).mono ?_); rintro e w3 ⟨rfl, rfl⟩)
          go_ret
          exact ⟨rfl, HB1.out⟩
        | true =>
          rw [hr] at HRe
          rw [Bool.true_and]
          by_cases h0 : 0 ≤ n
          · by_cases hl : n ≤ (h.length : Int)
            · rw [decide_eq_true h0, decide_eq_true hl, Bool.true_and, Bool.true_and]
              have z1 : decide (n < 0) = false := by simp; omega
              have z2 : decide ((h.length : Int) < n) = false := by simp; omega
              by_cases hz : n = 0
              · subst hz
                rw [decide_eq_true rfl, Bool.true_or]
                clear hT hS hcc hsz hy HLv hR hcf hr e1 e2 z1
                go_enter Tryz.func18, Tryz.ntmps18
                go_wp2_with (go_at_call 42; (with_reducible refine (HRe.out _).mono ?_); rintro e w3 ⟨rfl, rfl⟩)
                all_goals first | (exfalso; omega) | skip
                go_ret
                exact ⟨rfl, HB1.out⟩
              · rw [decide_eq_false hz, Bool.false_or]
                obtain ⟨j, rfl⟩ : ∃ j : Nat, n = (j : Int) + 1 := ⟨n.toNat - 1, by omega⟩
                have hj : j < h.length := by omega
                have hje : ((j : Int) + 1).toNat - 1 = j := by omega
                obtain ⟨x, hx⟩ : ∃ x, h[j]? = some x := ⟨h[j], by simp [hj]⟩
                rw [hje, hx]
                obtain ⟨tx, htx⟩ := hT x (List.mem_of_getElem? hx)
                have hsx := hS x (List.mem_of_getElem? hx)
                dsimp only
                rw [htx.of]
                obtain ⟨b, o, vs, rfl, ⟨hv, rfl, _⟩, _, hcells⟩ := HC.out j x hx
                have hcells := hcells.mono HB1.out hcells.lt
                obtain ⟨c0, c1, _⟩ := hcells
                have HD : Hid (∀ wx, Below w.heap.size w wx → _) := fun wx hb => refFits_ty l (.slice pl l.length cap) hR hcf tx wx x.type t y (HLv.out wx hb) htx.text hy.text htx.good hy.name htx.deep hy.deep hsx hsz
                have z3 : ((j : Int) + 1 == 0) = false := by simpa using hz
                clear hT hS hcc hsz hy HLv hR hcf hr e1 e2 hje htx hsx h0 hz hx
                generalize fitsTy (allC l) tx y = q at *
                go_enter Tryz.func18, Tryz.ntmps18
                go_wp2_with (first
                  | (go_at_call 42; (with_reducible refine (HRe.out _).mono ?_); rintro e w3 ⟨rfl, rfl⟩)
                  | (go_at_call 12; (with_reducible refine (HD.out _ HB1.out).mono ?_); rintro e w4 ⟨rfl, hB4⟩))
                all_goals first | (exfalso; omega) | skip
                go_ret
                exact ⟨rfl, below_call HB1.out (Nat.le_refl _) hB4⟩
            · rw [decide_eq_false hl, Bool.and_false, Bool.false_and]
              have z1 : decide (n < 0) = false := by simp; omega
              have z2 : decide ((h.length : Int) < n) = true := by simp; omega
              clear hT hS hcc hsz hy HLv hR hcf hr e1 e2
              go_enter Tryz.func18, Tryz.ntmps18
              go_wp2_with (go_at_call 42; (with_reducible refine (HRe.out _).mono ?_); rintro e w3 ⟨rfl, rfl⟩)
              all_goals first | (exfalso; omega) | skip
              go_ret
              exact ⟨rfl, HB1.out⟩
          · rw [decide_eq_false h0, Bool.false_and, Bool.false_and]
            have z1 : decide (n < 0) = true := by simp; omega
            clear hT hS hcc hsz hy HLv hR hcf hr e1 e2
            go_enter Tryz.func18, Tryz.ntmps18
            go_wp2_with (go_at_call 42; (with_reducible refine (HRe.out _).mono ?_); rintro e w3 ⟨rfl, rfl⟩)
            all_goals first | (exfalso; omega) | skip
            go_ret
            exact ⟨rfl, HB1.out⟩
      · rw [if_neg h3]
        have q3 : ((k : Int) == 3) = false := by simpa using h3
        have q4 : ((k : Int) != 3) = true := by simpa using h3
        clear hT hS hcc hsz hy HLv hR hcf h1 h2 h3 HRe e1 e2
        go_enter Tryz.func18, Tryz.ntmps18
        go_wp2_with (first | fail)
        go_ret
        exact ⟨rfl, HB1.out⟩
set_option maxHeartbeats 2000000 in
set_option maxRecDepth 100000 in
theorem refTypesOf_any (l : List Class) (lv : Value) (hR : Right l) (hcf : ∀ c ∈ l, classFault c = 0) (w : World) (hlv : ClassesAt w lv l) (x : Thing) (hv : Value) (t : Ty) (ht : ThingTy (allC l) x t) (hx : SliceOf w 2 ValCells hv x.has) (hsz : x.type.size ≤ maxLen) (hn : ∀ e, t = .ar e → x.has.length ≤ 10) :
    Calls Tryz.prog 47 #[lv, .agg #[.string x.type, hv]] w (RowPost w (typesT (allC l) x)) := by
  have hT : typesT (allC l) x = typesTy (allC l) x.has.length t := by unfold typesT; rw [ht.of]; rfl
  rw [hT]
  obtain ⟨p, c, rfl, hc1, hc2, _⟩ := hx.open
  have hlen : x.has.length ≤ 9223372036854775807 := Nat.le_trans hc1 hc2
  obtain ⟨hpa, fa⟩ := kd_first ht.text
  have ga := kd_arrQ ht.text hpa
  have hB1 := Lib.hid ((Below.refl w.heap.size w).alloc (Nat.le_refl _) (.cells #[.string x.type, .slice p x.has.length c] 56))
  have hs63 : x.type.size ≤ 9223372036854775807 := hsz
  have i1 : (0 : Int) < (x.type.size : Int) := by omega
  have i2 : (1 : Int) ≤ (x.type.size : Int) := by omega
  have i3 : (x.type.size : Int) ≤ 9223372036854775807 := by omega
  cases t with
  | i => exact absurd ht.ref (by decide)
  | j => exact absurd ht.ref (by decide)
  | ar e =>
    have hn10 := hn e rfl
    obtain ⟨t1, t2, _⟩ := tail_text ht.text
    have hel : str (tyText e) = x.type.extract 1 x.type.size := by rw [t1, str_lst]
    show Calls _ _ _ _ (RowPost w (List.replicate x.has.length (str (tyText e))))
    rw [hel]
    simp only [headL, headQ] at fa ga
    obtain ⟨pl, cap, rfl, _⟩ := hlv.open
    obtain ⟨w1, hw1⟩ : ∃ w1, w1 = w.alloc (.cells #[.string x.type, .slice p x.has.length c] 56) := ⟨_, rfl⟩
    have q0 : w1.cell? ⟨w.heap.size, 0, none⟩ = some (.string x.type) := by rw [hw1]; simp
    have q1 : w1.cell? ⟨w.heap.size, 1, none⟩ = some (.slice p x.has.length c) := by rw [hw1]; simp
    have hB1' : Below w.heap.size w w1 := by rw [hw1]; exact hB1.out
    have HW := Lib.hid hw1.symm
    unfold RowPost
    have hb91 : (((x.type[0]'hpa).toNat : Int) != 91) = false := by rw [bne, ga]; rfl
    clear hlv ht hx hsz hn hT hR hcf t1 t2 hel hB1
    go_enter Tryz.func47, Tryz.ntmps47
    go_wp2_with (first | fail)
    rw [HW.out]
    clear HW hw1
    go_loopw [5, 6] (fun v i wr => ∃ k : Nat, k ≤ x.has.length ∧ Hid (wr.ownsRow w1.heap.size 9 1 v k ((List.replicate k (x.type.extract 1 x.type.size)).map Value.string)) ∧ Hid (Below w1.heap.size w1 wr) ∧ i = .int .i64 k) (fun _ i _ => x.has.length - (intOf i).toNat)
    case atStart => exact ⟨0, by omega, World.ownsRow_nil _ _ _ _, Below.refl _ _, rfl⟩
    case round =>
      obtain ⟨k, hk, hown, hB, rfl⟩ := hrel
      obtain ⟨va, vc, rfl⟩ := ownsRow_shape hown.out
      have r0 := (hB.out.cell (p := ⟨w.heap.size, 0, none⟩) (hcells_lt q0)).trans q0
      have r1 := (hB.out.cell (p := ⟨w.heap.size, 1, none⟩) (hcells_lt q1)).trans q1
      by_cases hkl : k < x.has.length
      · have hbs := hB.out.size
        go_wp2_with (at_builtin; (refine wpList_append_text1 rfl _ _ rfl w1.heap.size _ _ _ rfl hown.out (x.type.extract 1 x.type.size) _ rfl rfl (by omega) hbs ?_); intro v3 w8 hown3 hg3)
        have HO3 : Hid (w8.ownsRow w1.heap.size 9 1 v3 (k + 1) ((List.replicate (k + 1) (x.type.extract 1 x.type.size)).map Value.string)) := by
          unfold Hid
          rw [List.replicate_succ', List.map_append]
          exact hown3
        have HB3 := Lib.hid ((hB.out.alloc hbs (.cells #[.string (x.type.extract 1 x.type.size)] 9)).grown hg3 (Nat.le_trans hbs (by simp)) (fun g hg => (hown.out.lt g hg).1))
        clear hown hB hown3 hg3
        go_roundw
        case rel => exact ⟨k + 1, by omega, HO3, HB3, by simp⟩
        case measure => simp [intOf]; omega
      · obtain rfl : k = x.has.length := by omega
        have HO := Lib.hid (ownsRow_base hown.out hB1'.size)
        have HB := Lib.hid (below_call hB1' (Nat.le_refl _) hB.out)
        clear hown hB q0 q1
        go_wp2_with (first | fail)
        go_ret
        exact ⟨⟨_, rfl, by have := HO.out; simpa using this⟩, HB.out⟩
  | cl n =>
    have HCl : Hid (∀ wx, _) := fun wx => refClassIn_any x.type (.cl n) wx ht.text hsz
    have HLa : Hid (∀ wx, Below w.heap.size w wx → _) := fun wx hb => refTypes_any l lv n wx hR hcf (hlv.mono hb) ht.good
    obtain ⟨pl, cap, rfl, _⟩ := hlv.open
    simp only [headL, headQ, baseOf, str_lst] at fa ga HCl
    show Calls _ _ _ _ (RowPost w (typesOf (layC (allC l) n)))
    unfold RowPost at HLa ⊢
    clear hlv ht hx hsz hn hT hR hcf
    generalize typesOf (layC (allC l) n) = L at *
    go_enter Tryz.func47, Tryz.ntmps47
    go_wp2_with (first
      | (go_at_call 45; (with_reducible refine (HCl.out _).mono ?_); rintro e w3 ⟨rfl, rfl⟩)
      | (go_at_call 54; (with_reducible refine (HLa.out _ hB1.out).mono ?_); rintro e w4 ⟨⟨v4, rfl, hv4⟩, hB4⟩))
    go_ret
    exact ⟨⟨_, rfl, ownsRow_base hv4 hB1.out.size⟩, below_call hB1.out (Nat.le_refl _) hB4⟩
set_option maxHeartbeats 4000000 in
set_option maxRecDepth 100000 in
theorem refThing_any (l : List Class) (lv : Value) (hR : Right l) (hcf : ∀ c ∈ l, classFault c = 0) (w : World) (hlv : ClassesAt w lv l) (x : Thing) (hv : Value) (hx : SliceOf w 2 ValCells hv x.has) (hsz : x.type.size ≤ maxLen) :
    Calls Tryz.prog 46 #[lv, .agg #[.string x.type, hv]] w fun e w' => e = .returned (.int .i64 (thingFault (allC l) x)) ∧ Below w.heap.size w w' := by
  have HX : Hid (∀ wx, Below w.heap.size w wx → SliceOf wx 2 ValCells hv x.has) := fun wx hb => hx.mono hb (by decide) (fun _ _ h => h)
  have HLv : Hid (∀ wx, Below w.heap.size w wx → ClassesAt wx lv l) := fun wx hb => hlv.mono hb
  obtain ⟨p, c, rfl, hc1, hc2, _⟩ := hx.open
  have hlen : x.has.length ≤ 9223372036854775807 := Nat.le_trans hc1 hc2
  have BX := Lib.hid (boxed_new w #[.string x.type, .slice p x.has.length c] 56)
  have HIs : Hid (∀ wx, _) := fun wx => refIsRef_any x.type wx hsz
  have hs63 : x.type.size ≤ 9223372036854775807 := hsz
  cases hr : refB (lst x.type) with
  | false =>
    rw [thing_bad hr]
    rw [show x.type.data.toList = lst x.type from rfl, hr] at HIs
    obtain ⟨pl, cap, rfl, _⟩ := hlv.open
    clear hx hlv hr HX HLv hR hcf
    go_enter Tryz.func46, Tryz.ntmps46
    go_wp2_with (go_at_call 42; (with_reducible refine (HIs.out _).mono ?_); rintro e w3 ⟨rfl, rfl⟩)
    go_ret
    exact ⟨rfl, BX.out.below⟩
  | true =>
    rw [show x.type.data.toList = lst x.type from rfl, hr] at HIs
    have HK : Hid (∀ wx, Below w.heap.size w wx → _) := fun wx hb => refKind_any l lv x.type wx (HLv.out wx hb) hsz
    by_cases hk : kindR (allC l) x.type = 0
    · obtain ⟨t, ht⟩ := thing_type hr hk
      rw [thing_ty hr hk ht]
      rw [hk] at HK
      obtain ⟨hpa, fa⟩ := kd_first ht.text
      have ga := kd_arrQ ht.text hpa
      have i1 : (0 : Int) < (x.type.size : Int) := by omega
      have i3 : (x.type.size : Int) ≤ 9223372036854775807 := by omega
      have HT : Hid (∀ wx, Below w.heap.size w wx → (∀ e, t = .ar e → x.has.length ≤ 10) → _) := fun wx hb hn => refTypesOf_any l lv hR hcf wx (HLv.out wx hb) x _ t ht (HX.out wx hb) hsz hn
      have hTy : typesT (allC l) x = typesTy (allC l) x.has.length t := by unfold typesT; rw [ht.of]; rfl
      rw [hTy] at HT
      have HCl : Hid (∀ wx, _) := fun wx => refClassIn_any x.type t wx ht.text hsz
      have HCO : Hid (∀ n wx, Below w.heap.size w wx → _) := fun n wx hb => refClassOf_any l lv n wx (HLv.out wx hb)
      unfold ClassGives at HCO
      obtain ⟨pl, cap, rfl, _⟩ := hlv.open
      cases t with
      | i => exact absurd ht.ref (by decide)
      | j => exact absurd ht.ref (by decide)
      | ar e =>
        simp only [headL, headQ] at fa ga
        have HCx : Hid (∀ wx, Below w.heap.size w wx → _) := fun wx hb => HCO.out (str (baseOf (.ar e))) wx hb
        generalize (findC (allC l) (str (baseOf (.ar e)))).getD noClass = d at *
        generalize (findC (allC l) (str (baseOf (.ar e)))).isSome = isk at *
        obtain ⟨n2, s2, f2, b2, d2, m2⟩ := d
        dsimp only at HCx
        generalize str (baseOf (.ar e)) = cn at *
        clear hx hlv hr hk hTy ht hR hcf HCO HX HLv
        by_cases h10 : 10 < x.has.length
        · show Calls _ _ _ _ fun e w' => e = .returned (.int .i64 ((if 10 < x.has.length then 8 else 0 : Nat) : Int)) ∧ Below w.heap.size w w'
          rw [if_pos h10]
          have z1 : decide ((10 : Int) < (x.has.length : Int)) = true := by simp; omega
          clear HT
          go_enter Tryz.func46, Tryz.ntmps46
          go_upto_region 9 with (first
            | (go_at_call 42; (with_reducible refine (HIs.out _).mono ?_); rintro e w3 ⟨rfl, rfl⟩)
            | (go_at_call 17; (with_reducible refine (HK.out _ BX.out.below).mono ?_); rintro e w4 ⟨rfl, hB4⟩; (have BX4 := BX.out.step hB4); obtain ⟨q0, q1⟩ := boxed2 BX4)
            | (go_at_call 45; (with_reducible refine (HCl.out _).mono ?_); rintro e w5 ⟨rfl, rfl⟩)
            | (go_at_call 19; (with_reducible refine (HCx.out _ BX4.below).mono ?_); rintro e w6 ⟨pf, kf, pd, kd, pm, km, rfl, _, _, _, hB6, _⟩; (have BX7 := (BX4.step hB6).alloc (.cells #[.string n2, .string s2, .slice pf f2.length kf, .bool b2, .slice pd d2.length kd, .slice pm m2.length km] 47)); clear q0 q1; obtain ⟨q0, q1⟩ := boxed2 BX7))
          go_quiet (fail)
          go_wp2_with (first | fail)
          go_ret
          exact ⟨rfl, below_drewN BX7.below _⟩
        · show Calls _ _ _ _ fun e w' => e = .returned (.int .i64 ((if 10 < x.has.length then 8 else 0 : Nat) : Int)) ∧ Below w.heap.size w w'
          rw [if_neg h10]
          have z1 : decide ((10 : Int) < (x.has.length : Int)) = false := by simp; omega
          have HT2 : Hid (∀ wx, Below w.heap.size w wx → wx.cell? ⟨w.heap.size, 0, none⟩ = some (.string x.type) → wx.cell? ⟨w.heap.size, 1, none⟩ = some (.slice p x.has.length c) → Calls Tryz.prog 47 #[.slice pl l.length cap, .agg #[.string x.type, .slice p x.has.length c]] wx fun e w' => (∃ p2 c2, e = .returned (.slice p2 x.has.length c2)) ∧ Below w.heap.size w w' ∧ w'.cell? ⟨w.heap.size, 0, none⟩ = some (.string x.type) ∧ w'.cell? ⟨w.heap.size, 1, none⟩ = some (.slice p x.has.length c)) := fun wx hb h0 h1 =>
            (HT.out wx hb (fun _ _ => by omega)).mono fun e2 w' ⟨⟨v, hv1, hv2⟩, hv3⟩ => by
              obtain ⟨p2, c2, rfl⟩ := ownsRow_shape hv2
              exact ⟨⟨p2, c2, by rw [hv1]; simp [typesTy]⟩, below_call hb (Nat.le_refl _) hv3, (hv3.cell (p := ⟨w.heap.size, 0, none⟩) (hcells_lt h0)).trans h0, (hv3.cell (p := ⟨w.heap.size, 1, none⟩) (hcells_lt h1)).trans h1⟩
          clear HT
          go_enter Tryz.func46, Tryz.ntmps46
          go_upto_region 9 with (first
            | (go_at_call 42; (with_reducible refine (HIs.out _).mono ?_); rintro e w3 ⟨rfl, rfl⟩)
            | (go_at_call 17; (with_reducible refine (HK.out _ BX.out.below).mono ?_); rintro e w4 ⟨rfl, hB4⟩; (have BX4 := BX.out.step hB4); obtain ⟨q0, q1⟩ := boxed2 BX4)
            | (go_at_call 45; (with_reducible refine (HCl.out _).mono ?_); rintro e w5 ⟨rfl, rfl⟩)
            | (go_at_call 19; (with_reducible refine (HCx.out _ BX4.below).mono ?_); rintro e w6 ⟨pf, kf, pd, kd, pm, km, rfl, _, _, _, hB6, _⟩; (have BX7 := (BX4.step hB6).alloc (.cells #[.string n2, .string s2, .slice pf f2.length kf, .bool b2, .slice pd d2.length kd, .slice pm m2.length km] 47)); clear q0 q1; obtain ⟨q0, q1⟩ := boxed2 BX7))
          have hB7 := BX7.below
          have hB7d := BX7.below.drew
          go_region_held3 (fun w' => Below w.heap.size w w' ∧ w'.cell? ⟨w.heap.size, 0, none⟩ = some (.string x.type) ∧ w'.cell? ⟨w.heap.size, 1, none⟩ = some (.slice p x.has.length c)) (go_keep)
            (first | (go_at_call 47; refine (HT2.out _ ?_ ?_ ?_).mono ?_; (simp [*]); (simp [*]); (simp [*]); rintro e w8 ⟨⟨p2, c2, rfl⟩, hB8, hc80, hc81⟩))
          all_goals
            go_wp2_with (first | fail)
            go_ret
            exact ⟨rfl, hB8⟩
      | cl n =>
        simp only [headL, headQ, baseOf, str_lst] at fa ga HCl
        have HCx : Hid (∀ wx, Below w.heap.size w wx → _) := fun wx hb => HCO.out n wx hb
        have hF2 : shapeTy (allC l) x.has.length (.cl n) = if ((findC (allC l) n).getD noClass).face then 7 else if (typesOf (layC (allC l) n)).length ≠ x.has.length then 8 else 0 := rfl
        rw [hF2]
        clear hx hlv hr hk hTy ht hR hcf HCO HX HLv hF2
        generalize (findC (allC l) n).getD noClass = d at *
        generalize (findC (allC l) n).isSome = isk at *
        obtain ⟨n2, s2, f2, b2, d2, m2⟩ := d
        dsimp only at HCx ⊢
        cases b2 with
        | true =>
          rw [if_pos rfl]
          clear HT
          go_enter Tryz.func46, Tryz.ntmps46
          go_wp2_with (first
            | (go_at_call 42; (with_reducible refine (HIs.out _).mono ?_); rintro e w3 ⟨rfl, rfl⟩)
            | (go_at_call 17; (with_reducible refine (HK.out _ BX.out.below).mono ?_); rintro e w4 ⟨rfl, hB4⟩; (have BX4 := BX.out.step hB4); obtain ⟨q0, q1⟩ := boxed2 BX4)
            | (go_at_call 45; (with_reducible refine (HCl.out _).mono ?_); rintro e w5 ⟨rfl, rfl⟩)
            | (go_at_call 19; (with_reducible refine (HCx.out _ BX4.below).mono ?_); rintro e w6 ⟨pf, kf, pd, kd, pm, km, rfl, _, _, _, hB6, _⟩; (have BX7 := (BX4.step hB6).alloc (.cells #[.string n2, .string s2, .slice pf f2.length kf, .bool true, .slice pd d2.length kd, .slice pm m2.length km] 47)); clear q0 q1; obtain ⟨q0, q1⟩ := boxed2 BX7))
          go_ret
          exact ⟨rfl, BX7.below⟩
        | false =>
          rw [if_neg (by decide)]
          obtain ⟨L, hL⟩ : ∃ L, typesOf (layC (allC l) n) = L := ⟨_, rfl⟩
          have HT2 : Hid (∀ wx, Below w.heap.size w wx → Calls Tryz.prog 47 #[.slice pl l.length cap, .agg #[.string x.type, .slice p x.has.length c]] wx fun e w' => (∃ p2 c2, e = .returned (.slice p2 L.length c2)) ∧ Below wx.heap.size wx w') := fun wx hb =>
            (HT.out wx hb (fun _ h => by cases h)).mono fun e2 w' ⟨⟨v, hv1, hv2⟩, hv3⟩ => by
              obtain ⟨p2, c2, rfl⟩ := ownsRow_shape hv2
              exact ⟨⟨p2, c2, by rw [hv1, ← hL]; rfl⟩, hv3⟩
          rw [hL]
          clear HT hL
          by_cases hll : L.length = x.has.length
          · rw [if_neg (by rw [hll]; simp)]
            rw [hll] at HT2
            clear hll
            go_enter Tryz.func46, Tryz.ntmps46
            go_upto_region 9 with (first
            | (go_at_call 42; (with_reducible refine (HIs.out _).mono ?_); rintro e w3 ⟨rfl, rfl⟩)
            | (go_at_call 17; (with_reducible refine (HK.out _ BX.out.below).mono ?_); rintro e w4 ⟨rfl, hB4⟩; (have BX4 := BX.out.step hB4); obtain ⟨q0, q1⟩ := boxed2 BX4)
            | (go_at_call 45; (with_reducible refine (HCl.out _).mono ?_); rintro e w5 ⟨rfl, rfl⟩)
            | (go_at_call 19; (with_reducible refine (HCx.out _ BX4.below).mono ?_); rintro e w6 ⟨pf, kf, pd, kd, pm, km, rfl, _, _, _, hB6, _⟩; (have BX7 := (BX4.step hB6).alloc (.cells #[.string n2, .string s2, .slice pf f2.length kf, .bool false, .slice pd d2.length kd, .slice pm m2.length km] 47)); clear q0 q1; obtain ⟨q0, q1⟩ := boxed2 BX7))
            first
              | (go_region_with (go_at_call 47; (with_reducible refine (HT2.out _ BX7.below.drew).mono ?_); rintro e w8 ⟨⟨p2, c2, rfl⟩, hB8⟩; (have BX8 := BX7.drew.step hB8); obtain ⟨r0, r1⟩ := boxed2 BX8))
              | fail
            all_goals
              go_wp2_with (first | fail)
              go_ret
              exact ⟨rfl, BX8.below⟩
          · rw [if_pos hll]
            have z2 : ((L.length : Int) != (x.has.length : Int)) = true := by simp; omega
            have z3 : ((L.length : Int) == (x.has.length : Int)) = false := by simp; omega
            clear hll
            go_enter Tryz.func46, Tryz.ntmps46
            go_upto_region 9 with (first
            | (go_at_call 42; (with_reducible refine (HIs.out _).mono ?_); rintro e w3 ⟨rfl, rfl⟩)
            | (go_at_call 17; (with_reducible refine (HK.out _ BX.out.below).mono ?_); rintro e w4 ⟨rfl, hB4⟩; (have BX4 := BX.out.step hB4); obtain ⟨q0, q1⟩ := boxed2 BX4)
            | (go_at_call 45; (with_reducible refine (HCl.out _).mono ?_); rintro e w5 ⟨rfl, rfl⟩)
            | (go_at_call 19; (with_reducible refine (HCx.out _ BX4.below).mono ?_); rintro e w6 ⟨pf, kf, pd, kd, pm, km, rfl, _, _, _, hB6, _⟩; (have BX7 := (BX4.step hB6).alloc (.cells #[.string n2, .string s2, .slice pf f2.length kf, .bool false, .slice pd d2.length kd, .slice pm m2.length km] 47)); clear q0 q1; obtain ⟨q0, q1⟩ := boxed2 BX7))
            first
              | (go_region_with (go_at_call 47; (with_reducible refine (HT2.out _ BX7.below.drew).mono ?_); rintro e w8 ⟨⟨p2, c2, rfl⟩, hB8⟩; (have BX8 := BX7.drew.step hB8); obtain ⟨r0, r1⟩ := boxed2 BX8))
              | fail
            all_goals
              go_wp2_with (first | fail)
              go_ret
              exact ⟨rfl, BX8.below⟩
    · rw [thing_kind hr hk]
      have hk0 : (((kindR (allC l) x.type : Nat) : Int) != 0) = true := by simpa using hk
      obtain ⟨pl, cap, rfl, _⟩ := hlv.open
      clear hx hlv hr hk HX HLv hR hcf
      generalize kindR (allC l) x.type = f at *
      go_enter Tryz.func46, Tryz.ntmps46
      go_wp2_with (first
        | (go_at_call 42; (with_reducible refine (HIs.out _).mono ?_); rintro e w3 ⟨rfl, rfl⟩)
        | (go_at_call 17; (with_reducible refine (HK.out _ BX.out.below).mono ?_); rintro e w4 ⟨rfl, hB4⟩))
      go_ret
      exact ⟨rfl, (BX.out.step hB4).below⟩
end Go.Proofs.YtbakcdgjibmceaaGreatDoor
