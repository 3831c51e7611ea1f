/-
  WALK over the reference's Fits. Conditions: a right world, kinds that are there; texts of at most maxLen signs.
-/
import Derived.Test.YtpjkpmmjehnahaaGreatDoorRefKind
import Derived.StillTailTactics
namespace Go.Proofs.YtpjkpmmjehnahaaGreatDoor
open Go.RowKit Go.Shelf Go.Lib
theorem good_typeB {l : List Class} (hf : ∀ c ∈ l, classFault c = 0) {x : Ty} (h : goodTy (allC l) x = true) (hd : deepTy x ≤ 3) : typeB (tyText x) = true := typeB_text (good_name hf x h) hd
theorem kd_typeB {l : List Class} (hf : ∀ c ∈ l, classFault c = 0) {x : Kd} (h : goodKd (allC l) x = true) (hd : deepKd x ≤ 3) : ∀ y, x = .ty y → typeB (tyText y) = true := by
  rintro y rfl
  exact good_typeB hf h hd
theorem sThing_text : sThing.toList = kdText (.ty (.cl sObject)) := by rw [ByteArray.toList_eq]; rfl
set_option maxHeartbeats 1000000 in
set_option maxRecDepth 100000 in
theorem refFits_plain (w : World) (l : List Class) (lv : Value) (hR : Right l) (hcf : ∀ c ∈ l, classFault c = 0) (hlv : ClassesAt w lv l) (a b : Str) (x y : Kd) (ha : kdText x = lst a) (hb : kdText y = lst b) (hx : goodKd (allC l) x = true) (hy : goodKd (allC l) y = true) (hdx : deepKd x ≤ 3) (hdy : deepKd y ≤ 3) (hsa : a.size ≤ maxLen) (hsb : b.size ≤ maxLen)
    (h : (y = .t ∨ x = y ∨ (x = .n ∧ refK y = true)) ∨ (refK x = false ∨ refK y = false)) :
    Calls Tryz.prog 39 #[lv, .string a, .string b] w fun e w' => e = .returned (.bool (fitsKd (allC l) x y)) ∧ w = w' := by
  have hT := kd_is hb .t
  have hE := kd_same ha hb
  have hN := kd_is ha .n
  have HA : Hid (∀ wx, _) := fun wx => refIs_any a x wx ha (kd_typeB hcf hx hdx) hsa
  have HB : Hid (∀ wx, _) := fun wx => refIs_any b y wx hb (kd_typeB hcf hy hdy) hsb
  obtain ⟨pl, cap, rfl, _⟩ := hlv.open
  simp only [kdText] at hT hN
  by_cases h0 : y = .t ∨ x = y ∨ (x = .n ∧ refK y = true)
  · rw [fits_triv hR hx h0]
    obtain ⟨eT, hT2⟩ : ∃ e, decide (y = Kd.t) = e := ⟨_, rfl⟩
    obtain ⟨eE, hE2⟩ : ∃ e, decide (x = y) = e := ⟨_, rfl⟩
    obtain ⟨eN, hN2⟩ : ∃ e, decide (x = Kd.n) = e := ⟨_, rfl⟩
    have hor : (eT || eE || (eN && refK y)) = true := by
      rw [← hT2, ← hE2, ← hN2]
      rcases h0 with h0 | h0 | ⟨h0, h1⟩ <;> simp [*]
    rw [hT2] at hT
    rw [hE2] at hE
    rw [hN2] at hN
    clear hT2 hE2 hN2 h0 h ha hb hx hy hR hcf hlv hdx hdy hsa hsb
    generalize refK x = rx at *
    generalize refK y = ry at *
    cases eT <;> cases eE <;> cases eN <;> cases ry <;> first | (exact absurd hor (by decide)) | skip
    all_goals
      clear hor
      go_enter Tryz.func39, Tryz.ntmps39
      go_wp2_with (go_at_call 72; (with_reducible refine (HB.out _).mono ?_); rintro e w3 ⟨rfl, rfl⟩)
      go_ret
      exact ⟨rfl, rfl⟩
  · have h1 : y ≠ .t := fun h => h0 (Or.inl h)
    have h2 : x ≠ y := fun h => h0 (Or.inr (Or.inl h))
    have h3 : ¬ (x = .n ∧ refK y = true) := fun h => h0 (Or.inr (Or.inr h))
    have hw : refK x = false ∨ refK y = false := by
      rcases h with h | h
      · exact absurd h h0
      · exact h
    rw [fits_word h1 h2 h3 hw]
    rw [decide_eq_false h1] at hT
    rw [decide_eq_false h2] at hE
    obtain ⟨eN, hN2⟩ : ∃ e, decide (x = Kd.n) = e := ⟨_, rfl⟩
    have hor : (eN && refK y) = false := by
      rw [← hN2]
      cases hr : refK y with
      | false => simp
      | true => simp; exact fun h => h3 ⟨h, hr⟩
    have hor2 : (refK x && refK y) = false := by
      rcases hw with h | h <;> simp [h]
    rw [hN2] at hN
    clear hN2 h0 h ha hb hx hy hR hcf hlv hdx hdy hsa hsb h1 h2 h3 hw
    generalize refK x = rx at *
    generalize refK y = ry at *
    cases eN <;> cases rx <;> cases ry <;> first | (exact absurd hor (by decide)) | (exact absurd hor2 (by decide)) | skip
    all_goals
      clear hor hor2
      go_enter Tryz.func39, Tryz.ntmps39
      go_wp2_with (first
        | (go_at_call 72; (with_reducible refine (HA.out _).mono ?_); rintro e w3 ⟨rfl, rfl⟩)
        | (go_at_call 72; (with_reducible refine (HB.out _).mono ?_); rintro e w3 ⟨rfl, rfl⟩))
      go_ret
      exact ⟨rfl, rfl⟩
set_option maxHeartbeats 4000000 in
set_option maxRecDepth 100000 in
theorem refFits_arr (w : World) (pl : Option Addr) (n cap : Nat) (a b a1 b1 : Str) (ru rv r : Bool) (HA : ∀ wx, Calls Tryz.prog 72 #[.string a] wx fun e w' => e = .returned (.bool true) ∧ wx = w') (HB : ∀ wx, Calls Tryz.prog 72 #[.string b] wx fun e w' => e = .returned (.bool true) ∧ wx = w')
    (HA2 : ∀ wx, Calls Tryz.prog 72 #[.string a1] wx fun e w' => e = .returned (.bool ru) ∧ wx = w') (HB2 : ∀ wx, Calls Tryz.prog 72 #[.string b1] wx fun e w' => e = .returned (.bool rv) ∧ wx = w')
    (HI : ∀ wx, Below w.heap.size w wx → Calls Tryz.prog 39 #[.slice pl n cap, .string a1, .string b1] wx fun e w' => e = .returned (.bool r) ∧ Below wx.heap.size wx w')
    (hrf : (ru && rv) = false → r = false) (hpa : 0 < a.size) (hpb : 0 < b.size) (ga : (((a[0]'hpa).toNat : Int) == 91) = true) (gb : (((b[0]'hpb).toNat : Int) == 91) = true)
    (hxa : a.extract 1 a.size = a1) (hxb : b.extract 1 b.size = b1) (hsa : a.size ≤ maxLen) (hsb : b.size ≤ maxLen)
    (hT : (b.toList == [84]) = false) (hE : (a.toList == b.toList) = false) (hN : (a.toList == [78]) = false) (hO : (b.toList == [76, 79, 98, 106, 101, 99, 116, 59]) = false) :
    Calls Tryz.prog 39 #[.slice pl n cap, .string a, .string b] w fun e w' => e = .returned (.bool r) ∧ Below w.heap.size w w' := by
  replace HA := Lib.hid HA
  replace HB := Lib.hid HB
  have QA2 : Hid (∀ wx, Calls Tryz.prog 72 #[.string a1] wx fun e w' => e = .returned (.bool ru) ∧ w' = wx) := fun wx => (HA2 wx).mono fun e w' h => ⟨h.1, h.2.symm⟩
  have QB2 : Hid (∀ wx, Calls Tryz.prog 72 #[.string b1] wx fun e w' => e = .returned (.bool rv) ∧ w' = wx) := fun wx => (HB2 wx).mono fun e w' h => ⟨h.1, h.2.symm⟩
  replace HA2 := Lib.hid HA2
  replace HB2 := Lib.hid HB2
  replace HI := Lib.hid HI
  replace hrf := Lib.hid hrf
  unfold maxLen at hsa hsb
  have i1 : (0 : Int) < (a.size : Int) := by omega
  have i2 : (0 : Int) < (b.size : Int) := by omega
  have i3 : (1 : Int) ≤ (a.size : Int) := by omega
  have i4 : (1 : Int) ≤ (b.size : Int) := by omega
  have i5 : (a.size : Int) ≤ 9223372036854775807 := by omega
  by_cases hrr : (ru && rv) = true
  · rw [Bool.and_eq_true] at hrr
    obtain ⟨rfl, rfl⟩ := hrr
    clear hrf
    go_enter Tryz.func39, Tryz.ntmps39
    go_upto_region 10 with (first
      | (go_at_call 72; (with_reducible refine (HA.out _).mono ?_); rintro e w3 ⟨rfl, rfl⟩)
      | (go_at_call 72; (with_reducible refine (HB.out _).mono ?_); rintro e w3 ⟨rfl, rfl⟩))
    refine wp_region_still_tail 14 (by kernel_rfl) (by kernel_rfl) ?_
    simp only [List.take_succ_cons, List.take_zero, List.drop_succ_cons, List.drop_zero]
    repeat still_step
    still_call (QA2.out _)
    repeat still_step
    still_call (QB2.out _)
    repeat still_step
    refine wpStill_nil ?_
    change wpList _ _ _ _ _ w.drew
    go_wp2_with (go_at_call 39; (with_reducible refine (HI.out _ (Below.refl _ _).drew).mono ?_); rintro e w4 ⟨rfl, hB4⟩)
    go_ret
    exact ⟨rfl, below_call (Below.refl _ _).drew (Nat.le_refl _) hB4⟩
  · rw [Bool.not_eq_true] at hrr
    rw [hrf.out hrr]
    clear hrf HI
    cases ru <;> cases rv <;> first | (exact absurd hrr (by decide)) | skip
    all_goals
      go_enter Tryz.func39, Tryz.ntmps39
      go_upto_region 10 with (first
        | (go_at_call 72; (with_reducible refine (HA.out _).mono ?_); rintro e w3 ⟨rfl, rfl⟩)
        | (go_at_call 72; (with_reducible refine (HB.out _).mono ?_); rintro e w3 ⟨rfl, rfl⟩))
      go_quiet (first
        | (go_at_call 72; with_reducible exact Calls.quiet_of_same (QA2.out _))
        | (go_at_call 72; with_reducible exact Calls.quiet_of_same (QB2.out _)))
      go_wp2
      go_ret
      exact ⟨rfl, below_drewN (Below.refl _ _) _⟩
set_option maxHeartbeats 4000000 in
set_option maxRecDepth 100000 in
theorem refFits_ty (l : List Class) (lv : Value) (hR : Right l) (hcf : ∀ c ∈ l, classFault c = 0) : ∀ (x : Ty) (w : World) (a b : Str) (y : Ty), ClassesAt w lv l → tyText x = lst a → tyText y = lst b → goodTy (allC l) x = true → goodTy (allC l) y = true → deepTy x ≤ 3 → deepTy y ≤ 3 → a.size ≤ maxLen → b.size ≤ maxLen →
    Calls Tryz.prog 39 #[lv, .string a, .string b] w fun e w' => e = .returned (.bool (fitsTy (allC l) x y)) ∧ Below w.heap.size w w' := by
  have plain : ∀ (x : Ty) (w : World) (a b : Str) (y : Ty), ClassesAt w lv l → tyText x = lst a → tyText y = lst b → goodTy (allC l) x = true → goodTy (allC l) y = true → deepTy x ≤ 3 → deepTy y ≤ 3 → a.size ≤ maxLen → b.size ≤ maxLen → (x = y ∨ isRef x = false ∨ isRef y = false) →
      Calls Tryz.prog 39 #[lv, .string a, .string b] w fun e w' => e = .returned (.bool (fitsTy (allC l) x y)) ∧ Below w.heap.size w w' := fun x w a b y hm ha hb hx hy hdx hdy hsa hsb h =>
    (refFits_plain w l lv hR hcf hm a b (.ty x) (.ty y) ha hb hx hy hdx hdy hsa hsb (by
      rcases h with h | h
      · exact Or.inl (Or.inr (Or.inl (by rw [h])))
      · exact Or.inr h)).mono fun e w' ⟨h1, h2⟩ => ⟨h1, h2 ▸ Below.refl _ _⟩
  intro x
  induction x with
  | i => intro w a b y hm ha hb hx hy hdx hdy hsa hsb; exact plain _ w a b y hm ha hb hx hy hdx hdy hsa hsb (Or.inr (Or.inl rfl))
  | j => intro w a b y hm ha hb hx hy hdx hdy hsa hsb; exact plain _ w a b y hm ha hb hx hy hdx hdy hsa hsb (Or.inr (Or.inl rfl))
  | cl c =>
    intro w a b y hm ha hb hx hy hdx hdy hsa hsb
    by_cases he : Ty.cl c = y ∨ isRef y = false
    · exact plain _ w a b y hm ha hb hx hy hdx hdy hsa hsb (by rcases he with he | he; exact Or.inl he; exact Or.inr (Or.inr he))
    · have hne : Ty.cl c ≠ y := fun h => he (Or.inl h)
      have hT := kd_is (x := .ty y) hb .t
      have hE := kd_same (x := .ty (.cl c)) (y := .ty y) ha hb
      have hN := kd_is (x := .ty (.cl c)) ha .n
      simp only [kdText] at hT hN
      rw [decide_eq_false (by intro h; cases h)] at hT hN
      rw [decide_eq_false (by intro h; injection h with h; exact hne h)] at hE
      have hO := kd_is (x := .ty y) hb (.ty (.cl sObject))
      rw [show kdText (.ty (.cl sObject)) = [76, 79, 98, 106, 101, 99, 116, 59] from rfl] at hO
      have HA : Hid (∀ wx, _) := fun wx => refIs_any a (.ty (.cl c)) wx ha (kd_typeB hcf hx hdx) hsa
      have HB : Hid (∀ wx, _) := fun wx => refIs_any b (.ty y) wx hb (kd_typeB hcf hy hdy) hsb
      have HCa : Hid (∀ wx, _) := fun wx => refClassIn_any a (.cl c) wx ha hsa
      have HCb : Hid (∀ wx, _) := fun wx => refClassIn_any b y wx hb hsb
      obtain ⟨hpa, fa⟩ := kd_first ha
      obtain ⟨hpb, fb⟩ := kd_first hb
      have ga := kd_arrQ ha hpa
      have gb := kd_arrQ hb hpb
      have HEv := Lib.hid (refEvery_any l lv c w hR hcf hm hx (known_ne hcf))
      unfold RowPost at HEv
      have HCon : Hid (∀ d v wx, StrsAt wx v (sortS (everyC (allC l) c)) → _) := fun d v wx h => in_any (sortS (everyC (allC l) c)) v d wx h
      have hob := hR.object _ c hx (Nat.le_refl _)
      obtain ⟨pl, cap, rfl, _⟩ := hm.open
      simp only [refK, isRef, baseOf, str_lst, headL, headQ] at HA HCa fa ga
      clear hm ha hx hsa hne
      cases y with
      | i => exact absurd (Or.inr rfl) he
      | j => exact absurd (Or.inr rfl) he
      | cl d =>
        simp only [refK, isRef, baseOf, str_lst, headL, headQ] at HB HCb fb gb
        have HC2 := Lib.hid (HCon.out d)
        rw [memB_sort] at HC2
        show Calls _ _ _ _ fun e w' => e = .returned (.bool (memB (everyC (allC l) c) d)) ∧ Below w.heap.size w w'
        rw [show decide (Kd.ty (.cl d) = .ty (.cl sObject)) = decide (d = sObject) by rw [Bool.eq_iff_iff]; simp] at hO
        have hOr : decide (d = sObject) = true → memB (everyC (allC l) c) d = true := fun h => by rw [of_decide_eq_true h]; exact memB_iff.2 hob
        have HOR := Lib.hid hOr
        generalize decide (d = sObject) = r2 at *
        generalize memB (everyC (allC l) c) d = r at *
        clear he HCon hb hy hsb hob hOr hR hcf hdx hdy
        cases r2 with
        | true =>
          rw [HOR.out rfl]
          clear HOR
          go_enter Tryz.func39, Tryz.ntmps39
          go_wp2_with (first
            | (go_at_call 72; (with_reducible refine (HA.out _).mono ?_); rintro e w3 ⟨rfl, rfl⟩)
            | (go_at_call 72; (with_reducible refine (HB.out _).mono ?_); rintro e w3 ⟨rfl, rfl⟩))
          go_ret
          exact ⟨rfl, Below.refl _ _⟩
        | false =>
          clear HOR
          go_enter Tryz.func39, Tryz.ntmps39
          go_wp2_with (first
            | (go_at_call 72; (with_reducible refine (HA.out _).mono ?_); rintro e w3 ⟨rfl, rfl⟩)
            | (go_at_call 72; (with_reducible refine (HB.out _).mono ?_); rintro e w3 ⟨rfl, rfl⟩)
            | (go_at_call 73; (with_reducible refine (HCa.out _).mono ?_); rintro e w3 ⟨rfl, rfl⟩)
            | (go_at_call 73; (with_reducible refine (HCb.out _).mono ?_); rintro e w3 ⟨rfl, rfl⟩)
            | (go_at_call 41; (with_reducible refine HEv.out.mono ?_); rintro e w4 ⟨⟨v, rfl, hv⟩, hB4⟩; (have hv2 := strsAt_of_owns hv); obtain ⟨pv, kv, rfl⟩ := ownsRow_shape hv)
            | (go_at_call 22; (with_reducible refine (HC2.out _ _ hv2).mono ?_); rintro e w5 ⟨rfl, rfl⟩))
          go_ret
          exact ⟨rfl, hB4⟩
      | ar z =>
        rw [decide_eq_false (by intro h; cases h)] at hO
        simp only [refK, isRef, headL, headQ] at HB fb gb
        clear he HCon HCa HCb HEv hb hy hsb hob hR hcf hdx hdy
        go_enter Tryz.func39, Tryz.ntmps39
        go_wp2_with (first
          | (go_at_call 72; (with_reducible refine (HA.out _).mono ?_); rintro e w3 ⟨rfl, rfl⟩)
          | (go_at_call 72; (with_reducible refine (HB.out _).mono ?_); rintro e w3 ⟨rfl, rfl⟩))
        go_ret
        exact ⟨rfl, Below.refl _ _⟩
  | ar u ih =>
    intro w a b y hm ha hb hx hy hdx hdy hsa hsb
    by_cases he : Ty.ar u = y ∨ isRef y = false
    · exact plain _ w a b y hm ha hb hx hy hdx hdy hsa hsb (by rcases he with he | he; exact Or.inl he; exact Or.inr (Or.inr he))
    · have hne : Ty.ar u ≠ y := fun h => he (Or.inl h)
      have hT := kd_is (x := .ty y) hb .t
      have hE := kd_same (x := .ty (.ar u)) (y := .ty y) ha hb
      have hN := kd_is (x := .ty (.ar u)) ha .n
      simp only [kdText] at hT hN
      rw [decide_eq_false (by intro h; cases h)] at hT hN
      rw [decide_eq_false (by intro h; injection h with h; exact hne h)] at hE
      have hO := kd_is (x := .ty y) hb (.ty (.cl sObject))
      rw [show kdText (.ty (.cl sObject)) = [76, 79, 98, 106, 101, 99, 116, 59] from rfl] at hO
      have HA : Hid (∀ wx, _) := fun wx => refIs_any a (.ty (.ar u)) wx ha (kd_typeB hcf hx hdx) hsa
      have HB : Hid (∀ wx, _) := fun wx => refIs_any b (.ty y) wx hb (kd_typeB hcf hy hdy) hsb
      obtain ⟨hpa, fa⟩ := kd_first ha
      obtain ⟨hpb, fb⟩ := kd_first hb
      have ga := kd_arrQ ha hpa
      have gb := kd_arrQ hb hpb
      obtain ⟨pl, cap, rfl, _⟩ := hm.open
      simp only [refK, isRef, headL, headQ] at HA fa ga
      cases y with
      | i => exact absurd (Or.inr rfl) he
      | j => exact absurd (Or.inr rfl) he
      | cl d =>
        simp only [refK, isRef, headL, headQ] at HB fb gb
        show Calls _ _ _ _ fun e w' => e = .returned (.bool (decide (d = sObject))) ∧ Below w.heap.size w w'
        rw [show decide (Kd.ty (.cl d) = .ty (.cl sObject)) = decide (d = sObject) by rw [Bool.eq_iff_iff]; simp] at hO
        generalize decide (d = sObject) = r at *
        clear he hm ha hb hx hy hsa hsb hne ih plain hdx hdy hR hcf
        cases r
        all_goals
          go_enter Tryz.func39, Tryz.ntmps39
          go_wp2_with (first
            | (go_at_call 72; (with_reducible refine (HA.out _).mono ?_); rintro e w3 ⟨rfl, rfl⟩)
            | (go_at_call 72; (with_reducible refine (HB.out _).mono ?_); rintro e w3 ⟨rfl, rfl⟩))
          go_ret
          exact ⟨rfl, Below.refl _ _⟩
      | ar v =>
        rw [decide_eq_false (by intro h; cases h)] at hO
        simp only [refK, isRef, headL, headQ] at HB fb gb
        obtain ⟨ta, tas, hsz1⟩ := tail_text ha
        obtain ⟨tb, tbs, hsz2⟩ := tail_text hb
        have du : deepTy u ≤ 3 := by simp only [deepTy] at hdx; omega
        have dv : deepTy v ≤ 3 := by simp only [deepTy] at hdy; omega
        have HA2 : Hid (∀ wx, _) := fun wx => refIs_any (a.extract 1 a.size) (.ty u) wx ta (kd_typeB hcf hx du) (Nat.le_trans tas hsa)
        have HB2 : Hid (∀ wx, _) := fun wx => refIs_any (b.extract 1 b.size) (.ty v) wx tb (kd_typeB hcf hy dv) (Nat.le_trans tbs hsb)
        have HI : Hid (∀ wx, Below w.heap.size w wx → _) := fun wx hb => ih wx (a.extract 1 a.size) (b.extract 1 b.size) v (hm.mono hb) ta tb hx hy du dv (Nat.le_trans tas hsa) (Nat.le_trans tbs hsb)
        have hw : Hid (isRef u = false ∨ isRef v = false → fitsTy (allC l) u v = false) := fun h => by
          rw [fitsTy_word h]
          exact decide_eq_false fun he => hne (by rw [he])
        simp only [refK] at HA2 HB2
        show Calls _ _ _ _ fun e w' => e = .returned (.bool (fitsTy (allC l) u v)) ∧ Below w.heap.size w w'
        exact refFits_arr w pl _ cap a b _ _ (isRef u) (isRef v) _ HA.out HB.out HA2.out HB2.out HI.out (fun h => hw.out (by cases hu : isRef u <;> cases hv : isRef v <;> simp [hu, hv] at h ⊢)) hpa hpb ga gb rfl rfl hsa hsb hT hE hN hO
/-- the reference's Fits, of right kinds -/
theorem refFits_any (l : List Class) (lv : Value) (hR : Right l) (hcf : ∀ c ∈ l, classFault c = 0) (w : World) (hm : ClassesAt w lv l) (a b : Str) (x y : Kd) (ha : IsKd (allC l) a x) (hb : IsKd (allC l) b y) (hdx : deepKd x ≤ 3) (hdy : deepKd y ≤ 3) (hsa : a.size ≤ maxLen) (hsb : b.size ≤ maxLen) :
    Calls Tryz.prog 39 #[lv, .string a, .string b] w fun e w' => e = .returned (.bool (fitsKd (allC l) x y)) ∧ Below w.heap.size w w' := by
  have plain : (y = .t ∨ x = y ∨ (x = .n ∧ refK y = true)) ∨ (refK x = false ∨ refK y = false) → Calls Tryz.prog 39 #[lv, .string a, .string b] w fun e w' => e = .returned (.bool (fitsKd (allC l) x y)) ∧ Below w.heap.size w w' := fun h =>
    (refFits_plain w l lv hR hcf hm a b x y ha.1 hb.1 ha.2 hb.2 hdx hdy hsa hsb h).mono fun e w' ⟨h1, h2⟩ => ⟨h1, h2 ▸ Below.refl _ _⟩
  cases x with
  | n => exact plain (Or.inr (Or.inl rfl))
  | t => exact plain (Or.inr (Or.inl rfl))
  | ty u =>
    cases y with
    | n => exact plain (Or.inr (Or.inr rfl))
    | t => exact plain (Or.inl (Or.inl rfl))
    | ty v => exact refFits_ty l lv hR hcf u w a b v hm ha.1 hb.1 ha.2 hb.2 hdx hdy hsa hsb
end Go.Proofs.YtpjkpmmjehnahaaGreatDoor
