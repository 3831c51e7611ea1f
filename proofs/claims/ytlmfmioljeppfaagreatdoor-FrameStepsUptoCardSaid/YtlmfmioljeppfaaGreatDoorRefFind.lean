/-
  WALKS over the reference's ClassIn, IsRef (of kinds), KindFault, KindsFault, Fits. Conditions: a right world, kinds that are there; texts of at most maxLen signs.
  WALK over the reference's Fits. Conditions: a right world, kinds that are there; texts of at most maxLen signs.
  WALKS over the reference's FieldOf, ownMethod, FoundMethod. Conditions: a right world, a class that is there.
-/
import Derived.Test.YtlmfmioljeppfaaGreatDoorSub
import Derived.Test.YtlmfmioljeppfaaGreatDoorLayLaw
import Derived.Test.YtlmfmioljeppfaaGreatDoorRefNames
import Derived.Test.YtlmfmioljeppfaaGreatDoorFind
import Derived.StillTailTactics
namespace Go.Proofs.YtlmfmioljeppfaaGreatDoor
open Go.RowKit Go.Shelf Go.Lib
def headQ : Ty → Bool
  | .ar _ => true
  | _ => false
theorem kd_arrQ {k : Str} {x : Ty} (h : tyText x = lst k) (hp : 0 < k.size) : (((k[0]'hp).toNat : Int) == 91) = headQ x := by
  have hk : k[0]'hp = (lst k)[0]'(by have h1 : (lst k).length = k.size := rfl; omega) := rfl
  have h0 : (lst k)[0]? = (tyText x)[0]? := by rw [h]
  rw [hk]
  have h2 : (lst k)[0]? = some ((lst k)[0]'(by have h1 : (lst k).length = k.size := rfl; omega)) := List.getElem?_eq_getElem _
  rw [h2] at h0
  generalize (lst k)[0]'(by have h1 : (lst k).length = k.size := rfl; omega) = b at *
  cases x with
  | i => simp [tyText] at h0; subst h0; rfl
  | j => simp [tyText] at h0; subst h0; rfl
  | cl c => simp [tyText] at h0; subst h0; rfl
  | ar y => simp [tyText] at h0; subst h0; rfl
theorem kd_cut {k : Str} {x : Ty} {c : Str} (h : tyText x = lst k) (hc : coreTy x = .cl c) : k.size = deepTy x + c.size + 2 ∧ k.extract (deepTy x + 1) (k.size - 1) = c := by
  have h1 : (lst k).length = k.size := rfl
  have h2 := text_length x
  have h3 : (tyText (.cl c)).length = c.size + 2 := by
    have e2 : (lst c).length = c.size := rfl
    simp [tyText, e2]
  rw [hc, h3, h, h1] at h2
  refine ⟨by omega, ?_⟩
  apply ByteArray.ext
  apply Array.toList_inj.1
  have h4 : (k.extract (deepTy x + 1) (k.size - 1)).data.toList = ((lst k).drop (deepTy x + 1)).take (k.size - 1 - (deepTy x + 1)) := by
    rw [ByteArray.data_extract, Array.toList_extract, List.extract_eq_take_drop]
  have h5 : (lst k).drop (deepTy x + 1) = lst c ++ [59] := by
    rw [← h, ← List.drop_drop, drop_ty, hc]; rfl
  have e2 : (lst c).length = c.size := rfl
  rw [h4, h5, List.take_append_of_le_length (by omega), List.take_of_length_le (by omega)]
theorem kd_at {k : Str} {x : Ty} (h : tyText x = lst k) (hp : deepTy x < k.size) : (((k[deepTy x]'hp).toNat : Int) == 76) = headL (coreTy x) := by
  have hk : k[deepTy x]'hp = (lst k)[deepTy x]'(by have h1 : (lst k).length = k.size := rfl; omega) := rfl
  have h0 : (lst k)[deepTy x]? = (tyText (coreTy x))[0]? := by
    rw [← h, ← drop_ty, List.getElem?_drop, Nat.add_zero]
  rw [hk]
  have h2 : (lst k)[deepTy x]? = some ((lst k)[deepTy x]'(by have h1 : (lst k).length = k.size := rfl; omega)) := List.getElem?_eq_getElem _
  rw [h2] at h0
  generalize (lst k)[deepTy x]'(by have h1 : (lst k).length = k.size := rfl; omega) = b at *
  rcases core_cases x with ⟨hc, _⟩ | ⟨hc, _⟩ | ⟨c, hc, _⟩ <;> rw [hc] at h0 ⊢ <;> simp [tyText] at h0 <;> subst h0 <;> rfl
set_option maxHeartbeats 1000000 in
set_option maxRecDepth 100000 in
theorem refClassIn_any (k : Str) (x : Ty) (w : World) (h : tyText x = lst k) (hs : k.size ≤ maxLen) : Calls Tryz.prog 75 #[.string k] w fun e w' => e = .returned (.string (str (baseOf x))) ∧ w = w' := by
  obtain ⟨f1, f2, f3, f4⟩ := typeFacts k 0 (Nat.zero_le _)
  rw [List.drop_zero, Nat.zero_add] at *
  have hd : deepOf k.data.toList = deepTy x := by rw [show k.data.toList = tyText x from h.symm, deepOf_ty]
  rw [hd] at f3 f4
  have hlen : deepTy x < k.size := by
    have h1 : (lst k).length = k.size := rfl
    rw [← h1, ← h, text_length]
    have := List.length_pos_iff.2 (tyText_ne (coreTy x))
    omega
  have hat := kd_at h hlen
  have hcut : ∀ c, coreTy x = .cl c → k.size = deepTy x + c.size + 2 ∧ k.extract (deepTy x + 1) (k.size - 1) = c := fun c hc => kd_cut h hc
  have hcc := core_cases x
  generalize deepTy x = n at *
  generalize coreTy x = y at *
  generalize baseOf x = bs at *
  unfold maxLen at hs
  have F3 := Lib.hid f3
  have F4 := Lib.hid f4
  have HC := Lib.hid hcut
  have HA := Lib.hid hat
  have HCC := Lib.hid hcc
  clear f1 f2 f3 f4 hcut hat hcc h hd
  go_enter Tryz.func75, Tryz.ntmps75
  go_wp2_with fail
  go_loop [3] (fun x => ∃ j : Nat, j ≤ n ∧ x = .int .i64 j) (fun x => n - (intOf x).toNat)
  case atStart => exact ⟨0, by omega, rfl⟩
  case round =>
    obtain ⟨j, hj, rfl⟩ := hrel
    by_cases hlt : j < n
    · have hks : j < k.size := by omega
      have hc : (((k[j]).toNat : Int) == 91) = true := sign_is (c := 91) (F3.out j hks (Nat.zero_le _) hlt) rfl
      go_wp2_with fail
      go_round
      case rel => exact ⟨j + 1, by omega, by go_num⟩
      case measure => simp [intOf]; omega
    · have hki : j = n := by omega
      subst hki
      have hc : (((k[j]).toNat : Int) == 91) = false := sign_not (c := 91) (F4.out hlen) rfl
      rcases HCC.out with ⟨hcy, rfl⟩ | ⟨hcy, rfl⟩ | ⟨c, hcy, rfl⟩
      · have h6 := HA.out
        rw [hcy] at h6
        simp only [headL] at h6
        clear hcy
        go_wp2_with fail
        go_ret
        exact ⟨rfl, rfl⟩
      · have h6 := HA.out
        rw [hcy] at h6
        simp only [headL] at h6
        clear hcy
        go_wp2_with fail
        go_ret
        exact ⟨rfl, rfl⟩
      · have h6 := HA.out
        rw [hcy] at h6
        simp only [headL] at h6
        obtain ⟨g1, g2⟩ := HC.out c hcy
        have g3 : k.extract (j + 1) (j + c.size + 1) = c := by rw [show j + c.size + 1 = k.size - 1 by omega]; exact g2
        have HG := Lib.hid g3
        clear hcy g2 g3
        go_wp2_with fail
        go_ret
        exact ⟨congrArg (fun z => Ending.returned (.string z)) HG.out, rfl⟩
theorem refB_kd {x : Kd} (h : ∀ y, x = .ty y → typeB (tyText y) = true) : refB (kdText x) = refK x := by
  cases x with
  | n => rfl
  | t => rfl
  | ty y =>
    show refB (tyText y) = isRef y
    unfold refB
    rw [h y rfl, wordB_ty, Bool.true_and, Bool.not_not]
theorem refIs_any (k : Str) (x : Kd) (w : World) (h : kdText x = lst k) (ht : ∀ y, x = .ty y → typeB (tyText y) = true) (hs : k.size ≤ maxLen) :
    Calls Tryz.prog 78 #[.string k] w fun e w' => e = .returned (.bool (refK x)) ∧ w = w' := by
  rw [← refB_kd ht, h]
  exact refIsRef_any k w hs
set_option maxHeartbeats 1000000 in
set_option maxRecDepth 100000 in
theorem refKind_any (l : List Class) (lv : Value) (k : Str) (w : World) (hlv : ClassesAt w lv l) (hs : k.size ≤ maxLen) :
    Calls Tryz.prog 40 #[lv, .string k] w fun e w' => e = .returned (.int .i64 (kindR (allC l) k)) ∧ Below w.heap.size w w' := by
  have HCO : Hid (∀ n, _) := fun n => refClassOf_any l lv n w hlv
  unfold ClassGives at HCO
  obtain ⟨pl, cap, rfl, _⟩ := hlv.open
  clear hlv
  by_cases h1 : lst k = [78] ∨ lst k = [84]
  · have hr : kindR (allC l) k = 0 := by unfold kindR; rw [if_pos h1]
    rw [hr]
    have hk1 : (k.toList == [78]) = decide (lst k = [78]) := by rw [ByteArray.toList_eq, Bool.eq_iff_iff]; simp
    have hk2 : (k.toList == [84]) = decide (lst k = [84]) := by rw [ByteArray.toList_eq, Bool.eq_iff_iff]; simp
    clear HCO hr
    rcases h1 with h1 | h1
    · rw [decide_eq_true h1] at hk1
      clear hk2 h1
      go_enter Tryz.func40, Tryz.ntmps40
      go_wp2
      go_ret
      exact ⟨rfl, Below.refl _ _⟩
    · rw [decide_eq_true h1] at hk2
      rw [decide_eq_false (by rw [h1]; decide)] at hk1
      clear h1
      go_enter Tryz.func40, Tryz.ntmps40
      go_wp2
      go_ret
      exact ⟨rfl, Below.refl _ _⟩
  · have hk1 : (k.toList == [78]) = false := by rw [ByteArray.toList_eq]; simpa using fun h => h1 (Or.inl h)
    have hk2 : (k.toList == [84]) = false := by rw [ByteArray.toList_eq]; simpa using fun h => h1 (Or.inr h)
    have HT : Hid (∀ wx, _) := fun wx => refIsType_any k wx hs
    rw [show k.data.toList = lst k from rfl] at HT
    have HK : Hid (kindR (allC l) k = if !typeB (lst k) then 1 else if (classIn (lst k)).isEmpty then 0 else if (findC (allC l) (str (classIn (lst k)))).isSome then 0 else 3) := by unfold Hid kindR; rw [if_neg h1]
    clear h1
    cases ht : typeB (lst k) with
    | false =>
      rw [ht] at HT HK
      have hr : kindR (allC l) k = 1 := HK.out
      rw [hr]
      clear HK hr ht hs HCO
      go_enter Tryz.func40, Tryz.ntmps40
      go_wp2_with (go_at_call 15; (with_reducible refine (HT.out _).mono ?_); rintro e w2 ⟨rfl, rfl⟩)
      go_ret
      exact ⟨rfl, Below.refl _ _⟩
    | true =>
      rw [ht] at HT HK
      obtain ⟨x, h3, h4, _⟩ := typeB_ty (lst k) ht
      rw [h4] at HK
      replace HK : Hid (kindR (allC l) k = if (baseOf x).isEmpty then 0 else if (findC (allC l) (str (baseOf x))).isSome then 0 else 3) := HK
      have HC : Hid (∀ wx, _) := fun wx => refClassIn_any k x wx h3 hs
      have hbe : ((str (baseOf x)).toList == []) = (baseOf x).isEmpty := by rw [ByteArray.toList_eq]; show (baseOf x == []) = _; cases baseOf x <;> rfl
      have HL := Lib.hid (HCO.out (str (baseOf x)))
      clear hs h3 h4 ht HCO
      generalize (findC (allC l) (str (baseOf x))).isSome = is at *
      generalize (findC (allC l) (str (baseOf x))).getD noClass = d at *
      generalize str (baseOf x) = b at *
      generalize (baseOf x).isEmpty = em at *
      generalize kindR (allC l) k = r at *
      obtain ⟨n2, s2, f2, b2, d2, m2⟩ := d
      dsimp only at HL
      cases em <;> cases is
      all_goals
        have hr := HK.out
        simp only [if_true, if_false, Bool.false_eq_true] at hr
        subst hr
        clear HK
        go_enter Tryz.func40, Tryz.ntmps40
        go_wp2_with (first
          | (go_at_call 15; (with_reducible refine (HT.out _).mono ?_); rintro e w2 ⟨rfl, rfl⟩)
          | (go_at_call 75; (with_reducible refine (HC.out _).mono ?_); rintro e w3 ⟨rfl, rfl⟩)
          | (go_at_call 14; (with_reducible refine HL.out.mono ?_); rintro e w4 ⟨p1, k1, p2, k2, p3, k3, rfl, _, _, _, hB4, _⟩))
        go_ret
        exact ⟨rfl, hB4.alloc hB4.size _⟩
end Go.Proofs.YtlmfmioljeppfaaGreatDoor
namespace Go.Proofs.YtlmfmioljeppfaaGreatDoor
open Go.RowKit Go.Shelf Go.Lib
theorem good_typeB {l : List Class} (hf : ∀ c ∈ l, classFault c = 0) {x : Ty} (h : goodTy (allC l) x = true) (hd : deepTy x ≤ 3) : typeB (tyText x) = true := typeB_text (good_name hf x h) hd
theorem kd_typeB {l : List Class} (hf : ∀ c ∈ l, classFault c = 0) {x : Kd} (h : goodKd (allC l) x = true) (hd : deepKd x ≤ 3) : ∀ y, x = .ty y → typeB (tyText y) = true := by
  rintro y rfl
  exact good_typeB hf h hd
theorem name_typeB {y : Ty} (h : nameOk y = true) (hd : deepTy y ≤ 3) : ∀ z, Kd.ty y = .ty z → typeB (tyText z) = true := by
  rintro z ⟨⟩
  exact typeB_text h hd
set_option maxHeartbeats 1000000 in
set_option maxRecDepth 100000 in
theorem refFits_plain (w : World) (l : List Class) (lv : Value) (hR : Right l) (hcf : ∀ c ∈ l, classFault c = 0) (hlv : ClassesAt w lv l) (a b : Str) (x y : Kd) (ha : kdText x = lst a) (hb : kdText y = lst b) (hx : goodKd (allC l) x = true) (hdx : deepKd x ≤ 3) (hty : ∀ z, y = .ty z → typeB (tyText z) = true) (hsa : a.size ≤ maxLen) (hsb : b.size ≤ maxLen)
    (h : (y = .t ∨ x = y ∨ (x = .n ∧ refK y = true)) ∨ (refK x = false ∨ refK y = false)) :
    Calls Tryz.prog 49 #[lv, .string a, .string b] w fun e w' => e = .returned (.bool (fitsKd (allC l) x y)) ∧ w = w' := by
  have hT := kd_is hb .t
  have hE := kd_same ha hb
  have hN := kd_is ha .n
  have HA : Hid (∀ wx, _) := fun wx => refIs_any a x wx ha (kd_typeB hcf hx hdx) hsa
  have HB : Hid (∀ wx, _) := fun wx => refIs_any b y wx hb hty hsb
  obtain ⟨pl, cap, rfl, _⟩ := hlv.open
  simp only [kdText] at hT hN
  by_cases h0 : y = .t ∨ x = y ∨ (x = .n ∧ refK y = true)
  · rw [fits_triv hR hx h0]
    obtain ⟨eT, hT2⟩ : ∃ e, decide (y = Kd.t) = e := ⟨_, rfl⟩
    obtain ⟨eE, hE2⟩ : ∃ e, decide (x = y) = e := ⟨_, rfl⟩
    obtain ⟨eN, hN2⟩ : ∃ e, decide (x = Kd.n) = e := ⟨_, rfl⟩
    have hor : (eT || eE || (eN && refK y)) = true := by
      rw [← hT2, ← hE2, ← hN2]
      rcases h0 with h0 | h0 | ⟨h0, h1⟩ <;> simp [*]
    rw [hT2] at hT
    rw [hE2] at hE
    rw [hN2] at hN
    clear hT2 hE2 hN2 h0 h ha hb hx hty hR hcf hlv hdx hsa hsb
    generalize refK x = rx at *
    generalize refK y = ry at *
    cases eT <;> cases eE <;> cases eN <;> cases ry <;> first | (exact absurd hor (by decide)) | skip
    all_goals
      clear hor
      go_enter Tryz.func49, Tryz.ntmps49
      go_wp2_with (go_at_call 78; (with_reducible refine (HB.out _).mono ?_); rintro e w3 ⟨rfl, rfl⟩)
      go_ret
      exact ⟨rfl, rfl⟩
  · have h1 : y ≠ .t := fun h => h0 (Or.inl h)
    have h2 : x ≠ y := fun h => h0 (Or.inr (Or.inl h))
    have h3 : ¬ (x = .n ∧ refK y = true) := fun h => h0 (Or.inr (Or.inr h))
    have hw : refK x = false ∨ refK y = false := by
      rcases h with h | h
      · exact absurd h h0
      · exact h
    rw [fits_word h1 h2 h3 hw]
    rw [decide_eq_false h1] at hT
    rw [decide_eq_false h2] at hE
    obtain ⟨eN, hN2⟩ : ∃ e, decide (x = Kd.n) = e := ⟨_, rfl⟩
    have hor : (eN && refK y) = false := by
      rw [← hN2]
      cases hr : refK y with
      | false => simp
      | true => simp; exact fun h => h3 ⟨h, hr⟩
    have hor2 : (refK x && refK y) = false := by
      rcases hw with h | h <;> simp [h]
    rw [hN2] at hN
    clear hN2 h0 h ha hb hx hty hR hcf hlv hdx hsa hsb h1 h2 h3 hw
    generalize refK x = rx at *
    generalize refK y = ry at *
    cases eN <;> cases rx <;> cases ry <;> first | (exact absurd hor (by decide)) | (exact absurd hor2 (by decide)) | skip
    all_goals
      clear hor hor2
      go_enter Tryz.func49, Tryz.ntmps49
      go_wp2_with (first
        | (go_at_call 78; (with_reducible refine (HA.out _).mono ?_); rintro e w3 ⟨rfl, rfl⟩)
        | (go_at_call 78; (with_reducible refine (HB.out _).mono ?_); rintro e w3 ⟨rfl, rfl⟩))
      go_ret
      exact ⟨rfl, rfl⟩
set_option maxHeartbeats 4000000 in
set_option maxRecDepth 100000 in
theorem refFits_arr (w : World) (pl : Option Addr) (n cap : Nat) (a b a1 b1 : Str) (ru rv r : Bool) (HA : ∀ wx, Calls Tryz.prog 78 #[.string a] wx fun e w' => e = .returned (.bool true) ∧ wx = w') (HB : ∀ wx, Calls Tryz.prog 78 #[.string b] wx fun e w' => e = .returned (.bool true) ∧ wx = w')
    (HA2 : ∀ wx, Calls Tryz.prog 78 #[.string a1] wx fun e w' => e = .returned (.bool ru) ∧ wx = w') (HB2 : ∀ wx, Calls Tryz.prog 78 #[.string b1] wx fun e w' => e = .returned (.bool rv) ∧ wx = w')
    (HI : ∀ wx, Below w.heap.size w wx → Calls Tryz.prog 49 #[.slice pl n cap, .string a1, .string b1] wx fun e w' => e = .returned (.bool r) ∧ Below wx.heap.size wx w')
    (hrf : (ru && rv) = false → r = false) (hpa : 0 < a.size) (hpb : 0 < b.size) (ga : (((a[0]'hpa).toNat : Int) == 91) = true) (gb : (((b[0]'hpb).toNat : Int) == 91) = true)
    (hxa : a.extract 1 a.size = a1) (hxb : b.extract 1 b.size = b1) (hsa : a.size ≤ maxLen) (hsb : b.size ≤ maxLen)
    (hT : (b.toList == [84]) = false) (hE : (a.toList == b.toList) = false) (hN : (a.toList == [78]) = false) (hO : (b.toList == [76, 79, 98, 106, 101, 99, 116, 59]) = false) :
    Calls Tryz.prog 49 #[.slice pl n cap, .string a, .string b] w fun e w' => e = .returned (.bool r) ∧ Below w.heap.size w w' := by
  replace HA := Lib.hid HA
  replace HB := Lib.hid HB
  have QA2 : Hid (∀ wx, Calls Tryz.prog 78 #[.string a1] wx fun e w' => e = .returned (.bool ru) ∧ w' = wx) := fun wx => (HA2 wx).mono fun e w' h => ⟨h.1, h.2.symm⟩
  have QB2 : Hid (∀ wx, Calls Tryz.prog 78 #[.string b1] wx fun e w' => e = .returned (.bool rv) ∧ w' = wx) := fun wx => (HB2 wx).mono fun e w' h => ⟨h.1, h.2.symm⟩
  replace HA2 := Lib.hid HA2
  replace HB2 := Lib.hid HB2
  replace HI := Lib.hid HI
  replace hrf := Lib.hid hrf
  unfold maxLen at hsa hsb
  have i1 : (0 : Int) < (a.size : Int) := by omega
  have i2 : (0 : Int) < (b.size : Int) := by omega
  have i3 : (1 : Int) ≤ (a.size : Int) := by omega
  have i4 : (1 : Int) ≤ (b.size : Int) := by omega
  have i5 : (a.size : Int) ≤ 9223372036854775807 := by omega
  by_cases hrr : (ru && rv) = true
  · rw [Bool.and_eq_true] at hrr
    obtain ⟨rfl, rfl⟩ := hrr
    clear hrf
    go_enter Tryz.func49, Tryz.ntmps49
    go_upto_region 10 with (first
      | (go_at_call 78; (with_reducible refine (HA.out _).mono ?_); rintro e w3 ⟨rfl, rfl⟩)
      | (go_at_call 78; (with_reducible refine (HB.out _).mono ?_); rintro e w3 ⟨rfl, rfl⟩))
    refine wp_region_still_tail 14 (by kernel_rfl) (by kernel_rfl) ?_
    simp only [List.take_succ_cons, List.take_zero, List.drop_succ_cons, List.drop_zero]
    repeat still_step
    still_call (QA2.out _)
    repeat still_step
    still_call (QB2.out _)
    repeat still_step
    refine wpStill_nil ?_
    change wpList _ _ _ _ _ w.drew
    go_wp2_with (go_at_call 49; (with_reducible refine (HI.out _ (Below.refl _ _).drew).mono ?_); rintro e w4 ⟨rfl, hB4⟩)
    go_ret
    exact ⟨rfl, below_call (Below.refl _ _).drew (Nat.le_refl _) hB4⟩
  · rw [Bool.not_eq_true] at hrr
    rw [hrf.out hrr]
    clear hrf HI
    cases ru <;> cases rv <;> first | (exact absurd hrr (by decide)) | skip
    all_goals
      go_enter Tryz.func49, Tryz.ntmps49
      go_upto_region 10 with (first
        | (go_at_call 78; (with_reducible refine (HA.out _).mono ?_); rintro e w3 ⟨rfl, rfl⟩)
        | (go_at_call 78; (with_reducible refine (HB.out _).mono ?_); rintro e w3 ⟨rfl, rfl⟩))
      go_quiet (first
        | (go_at_call 78; with_reducible exact Calls.quiet_of_same (QA2.out _))
        | (go_at_call 78; with_reducible exact Calls.quiet_of_same (QB2.out _)))
      go_wp2
      go_ret
      exact ⟨rfl, below_drewN (Below.refl _ _) _⟩
set_option maxHeartbeats 4000000 in
set_option maxRecDepth 100000 in
theorem refFits_ty (l : List Class) (lv : Value) (hR : Right l) (hcf : ∀ c ∈ l, classFault c = 0) : ∀ (x : Ty) (w : World) (a b : Str) (y : Ty), ClassesAt w lv l → tyText x = lst a → tyText y = lst b → goodTy (allC l) x = true → nameOk y = true → deepTy x ≤ 3 → deepTy y ≤ 3 → a.size ≤ maxLen → b.size ≤ maxLen →
    Calls Tryz.prog 49 #[lv, .string a, .string b] w fun e w' => e = .returned (.bool (fitsTy (allC l) x y)) ∧ Below w.heap.size w w' := by
  have plain : ∀ (x : Ty) (w : World) (a b : Str) (y : Ty), ClassesAt w lv l → tyText x = lst a → tyText y = lst b → goodTy (allC l) x = true → nameOk y = true → deepTy x ≤ 3 → deepTy y ≤ 3 → a.size ≤ maxLen → b.size ≤ maxLen → (x = y ∨ isRef x = false ∨ isRef y = false) →
      Calls Tryz.prog 49 #[lv, .string a, .string b] w fun e w' => e = .returned (.bool (fitsTy (allC l) x y)) ∧ Below w.heap.size w w' := fun x w a b y hm ha hb hx hy hdx hdy hsa hsb h =>
    (refFits_plain w l lv hR hcf hm a b (.ty x) (.ty y) ha hb hx hdx (name_typeB hy hdy) hsa hsb (by
      rcases h with h | h
      · exact Or.inl (Or.inr (Or.inl (by rw [h])))
      · exact Or.inr h)).mono fun e w' ⟨h1, h2⟩ => ⟨h1, h2 ▸ Below.refl _ _⟩
  intro x
  induction x with
  | i => intro w a b y hm ha hb hx hy hdx hdy hsa hsb; exact plain _ w a b y hm ha hb hx hy hdx hdy hsa hsb (Or.inr (Or.inl rfl))
  | j => intro w a b y hm ha hb hx hy hdx hdy hsa hsb; exact plain _ w a b y hm ha hb hx hy hdx hdy hsa hsb (Or.inr (Or.inl rfl))
  | cl c =>
    intro w a b y hm ha hb hx hy hdx hdy hsa hsb
    by_cases he : Ty.cl c = y ∨ isRef y = false
    · exact plain _ w a b y hm ha hb hx hy hdx hdy hsa hsb (by rcases he with he | he; exact Or.inl he; exact Or.inr (Or.inr he))
    · have hne : Ty.cl c ≠ y := fun h => he (Or.inl h)
      have hT := kd_is (x := .ty y) hb .t
      have hE := kd_same (x := .ty (.cl c)) (y := .ty y) ha hb
      have hN := kd_is (x := .ty (.cl c)) ha .n
      simp only [kdText] at hT hN
      rw [decide_eq_false (by intro h; cases h)] at hT hN
      rw [decide_eq_false (by intro h; injection h with h; exact hne h)] at hE
      have hO := kd_is (x := .ty y) hb (.ty (.cl sObject))
      rw [show kdText (.ty (.cl sObject)) = [76, 79, 98, 106, 101, 99, 116, 59] from rfl] at hO
      have HA : Hid (∀ wx, _) := fun wx => refIs_any a (.ty (.cl c)) wx ha (kd_typeB hcf hx hdx) hsa
      have HB : Hid (∀ wx, _) := fun wx => refIs_any b (.ty y) wx hb (name_typeB hy hdy) hsb
      have HCa : Hid (∀ wx, _) := fun wx => refClassIn_any a (.cl c) wx ha hsa
      have HCb : Hid (∀ wx, _) := fun wx => refClassIn_any b y wx hb hsb
      obtain ⟨hpa, fa⟩ := kd_first ha
      obtain ⟨hpb, fb⟩ := kd_first hb
      have ga := kd_arrQ ha hpa
      have gb := kd_arrQ hb hpb
      have HEv := Lib.hid (refEvery_any l lv c w hR hcf hm hx (known_ne hcf))
      unfold RowPost at HEv
      have HCon : Hid (∀ d v wx, StrsAt wx v (sortS (everyC (allC l) c)) → _) := fun d v wx h => in_any (sortS (everyC (allC l) c)) v d wx h
      have hob := hR.object _ c hx (Nat.le_refl _)
      obtain ⟨pl, cap, rfl, _⟩ := hm.open
      simp only [refK, isRef, baseOf, str_lst, headL, headQ] at HA HCa fa ga
      clear hm ha hx hsa hne
      cases y with
      | i => exact absurd (Or.inr rfl) he
      | j => exact absurd (Or.inr rfl) he
      | cl d =>
        simp only [refK, isRef, baseOf, str_lst, headL, headQ] at HB HCb fb gb
        have HC2 := Lib.hid (HCon.out d)
        rw [memB_sort] at HC2
        show Calls _ _ _ _ fun e w' => e = .returned (.bool (memB (everyC (allC l) c) d)) ∧ Below w.heap.size w w'
        rw [show decide (Kd.ty (.cl d) = .ty (.cl sObject)) = decide (d = sObject) by rw [Bool.eq_iff_iff]; simp] at hO
        have hOr : decide (d = sObject) = true → memB (everyC (allC l) c) d = true := fun h => by rw [of_decide_eq_true h]; exact memB_iff.2 hob
        have HOR := Lib.hid hOr
        generalize decide (d = sObject) = r2 at *
        generalize memB (everyC (allC l) c) d = r at *
        clear he HCon hb hy hsb hob hOr hR hcf hdx hdy
        cases r2 with
        | true =>
          rw [HOR.out rfl]
          clear HOR
          go_enter Tryz.func49, Tryz.ntmps49
          go_wp2_with (first
            | (go_at_call 78; (with_reducible refine (HA.out _).mono ?_); rintro e w3 ⟨rfl, rfl⟩)
            | (go_at_call 78; (with_reducible refine (HB.out _).mono ?_); rintro e w3 ⟨rfl, rfl⟩))
          go_ret
          exact ⟨rfl, Below.refl _ _⟩
        | false =>
          clear HOR
          go_enter Tryz.func49, Tryz.ntmps49
          go_wp2_with (first
            | (go_at_call 78; (with_reducible refine (HA.out _).mono ?_); rintro e w3 ⟨rfl, rfl⟩)
            | (go_at_call 78; (with_reducible refine (HB.out _).mono ?_); rintro e w3 ⟨rfl, rfl⟩)
            | (go_at_call 75; (with_reducible refine (HCa.out _).mono ?_); rintro e w3 ⟨rfl, rfl⟩)
            | (go_at_call 75; (with_reducible refine (HCb.out _).mono ?_); rintro e w3 ⟨rfl, rfl⟩)
            | (go_at_call 85; (with_reducible refine HEv.out.mono ?_); rintro e w4 ⟨⟨v, rfl, hv⟩, hB4⟩; (have hv2 := strsAt_of_owns hv); obtain ⟨pv, kv, rfl⟩ := ownsRow_shape hv)
            | (go_at_call 38; (with_reducible refine (HC2.out _ _ hv2).mono ?_); rintro e w5 ⟨rfl, rfl⟩))
          go_ret
          exact ⟨rfl, hB4⟩
      | ar z =>
        rw [decide_eq_false (by intro h; cases h)] at hO
        simp only [refK, isRef, headL, headQ] at HB fb gb
        clear he HCon HCa HCb HEv hb hy hsb hob hR hcf hdx hdy
        go_enter Tryz.func49, Tryz.ntmps49
        go_wp2_with (first
          | (go_at_call 78; (with_reducible refine (HA.out _).mono ?_); rintro e w3 ⟨rfl, rfl⟩)
          | (go_at_call 78; (with_reducible refine (HB.out _).mono ?_); rintro e w3 ⟨rfl, rfl⟩))
        go_ret
        exact ⟨rfl, Below.refl _ _⟩
  | ar u ih =>
    intro w a b y hm ha hb hx hy hdx hdy hsa hsb
    by_cases he : Ty.ar u = y ∨ isRef y = false
    · exact plain _ w a b y hm ha hb hx hy hdx hdy hsa hsb (by rcases he with he | he; exact Or.inl he; exact Or.inr (Or.inr he))
    · have hne : Ty.ar u ≠ y := fun h => he (Or.inl h)
      have hT := kd_is (x := .ty y) hb .t
      have hE := kd_same (x := .ty (.ar u)) (y := .ty y) ha hb
      have hN := kd_is (x := .ty (.ar u)) ha .n
      simp only [kdText] at hT hN
      rw [decide_eq_false (by intro h; cases h)] at hT hN
      rw [decide_eq_false (by intro h; injection h with h; exact hne h)] at hE
      have hO := kd_is (x := .ty y) hb (.ty (.cl sObject))
      rw [show kdText (.ty (.cl sObject)) = [76, 79, 98, 106, 101, 99, 116, 59] from rfl] at hO
      have HA : Hid (∀ wx, _) := fun wx => refIs_any a (.ty (.ar u)) wx ha (kd_typeB hcf hx hdx) hsa
      have HB : Hid (∀ wx, _) := fun wx => refIs_any b (.ty y) wx hb (name_typeB hy hdy) hsb
      obtain ⟨hpa, fa⟩ := kd_first ha
      obtain ⟨hpb, fb⟩ := kd_first hb
      have ga := kd_arrQ ha hpa
      have gb := kd_arrQ hb hpb
      obtain ⟨pl, cap, rfl, _⟩ := hm.open
      simp only [refK, isRef, headL, headQ] at HA fa ga
      cases y with
      | i => exact absurd (Or.inr rfl) he
      | j => exact absurd (Or.inr rfl) he
      | cl d =>
        simp only [refK, isRef, headL, headQ] at HB fb gb
        show Calls _ _ _ _ fun e w' => e = .returned (.bool (decide (d = sObject))) ∧ Below w.heap.size w w'
        rw [show decide (Kd.ty (.cl d) = .ty (.cl sObject)) = decide (d = sObject) by rw [Bool.eq_iff_iff]; simp] at hO
        generalize decide (d = sObject) = r at *
        clear he hm ha hb hx hy hsa hsb hne ih plain hdx hdy hR hcf
        cases r
        all_goals
          go_enter Tryz.func49, Tryz.ntmps49
          go_wp2_with (first
            | (go_at_call 78; (with_reducible refine (HA.out _).mono ?_); rintro e w3 ⟨rfl, rfl⟩)
            | (go_at_call 78; (with_reducible refine (HB.out _).mono ?_); rintro e w3 ⟨rfl, rfl⟩))
          go_ret
          exact ⟨rfl, Below.refl _ _⟩
      | ar v =>
        rw [decide_eq_false (by intro h; cases h)] at hO
        simp only [refK, isRef, headL, headQ] at HB fb gb
        obtain ⟨ta, tas, hsz1⟩ := tail_text ha
        obtain ⟨tb, tbs, hsz2⟩ := tail_text hb
        have du : deepTy u ≤ 3 := by simp only [deepTy] at hdx; omega
        have dv : deepTy v ≤ 3 := by simp only [deepTy] at hdy; omega
        have HA2 : Hid (∀ wx, _) := fun wx => refIs_any (a.extract 1 a.size) (.ty u) wx ta (kd_typeB hcf hx du) (Nat.le_trans tas hsa)
        have HB2 : Hid (∀ wx, _) := fun wx => refIs_any (b.extract 1 b.size) (.ty v) wx tb (name_typeB (y := v) hy dv) (Nat.le_trans tbs hsb)
        have HI : Hid (∀ wx, Below w.heap.size w wx → _) := fun wx hb => ih wx (a.extract 1 a.size) (b.extract 1 b.size) v (hm.mono hb) ta tb hx hy du dv (Nat.le_trans tas hsa) (Nat.le_trans tbs hsb)
        have hw : Hid (isRef u = false ∨ isRef v = false → fitsTy (allC l) u v = false) := fun h => by
          rw [fitsTy_word h]
          exact decide_eq_false fun he => hne (by rw [he])
        simp only [refK] at HA2 HB2
        show Calls _ _ _ _ fun e w' => e = .returned (.bool (fitsTy (allC l) u v)) ∧ Below w.heap.size w w'
        exact refFits_arr w pl _ cap a b _ _ (isRef u) (isRef v) _ HA.out HB.out HA2.out HB2.out HI.out (fun h => hw.out (by cases hu : isRef u <;> cases hv : isRef v <;> simp [hu, hv] at h ⊢)) hpa hpb ga gb rfl rfl hsa hsb hT hE hN hO
/-- the reference's Fits, of right kinds -/
theorem refFits_any (l : List Class) (lv : Value) (hR : Right l) (hcf : ∀ c ∈ l, classFault c = 0) (w : World) (hm : ClassesAt w lv l) (a b : Str) (x y : Kd) (ha : IsKd (allC l) a x) (hb : IsKd (allC l) b y) (hdx : deepKd x ≤ 3) (hdy : deepKd y ≤ 3) (hsa : a.size ≤ maxLen) (hsb : b.size ≤ maxLen) :
    Calls Tryz.prog 49 #[lv, .string a, .string b] w fun e w' => e = .returned (.bool (fitsKd (allC l) x y)) ∧ Below w.heap.size w w' := by
  have plain : (y = .t ∨ x = y ∨ (x = .n ∧ refK y = true)) ∨ (refK x = false ∨ refK y = false) → Calls Tryz.prog 49 #[lv, .string a, .string b] w fun e w' => e = .returned (.bool (fitsKd (allC l) x y)) ∧ Below w.heap.size w w' := fun h =>
    (refFits_plain w l lv hR hcf hm a b x y ha.1 hb.1 ha.2 hdx (kd_typeB hcf hb.2 hdy) hsa hsb h).mono fun e w' ⟨h1, h2⟩ => ⟨h1, h2 ▸ Below.refl _ _⟩
  cases x with
  | n => exact plain (Or.inr (Or.inl rfl))
  | t => exact plain (Or.inr (Or.inl rfl))
  | ty u =>
    cases y with
    | n => exact plain (Or.inr (Or.inr rfl))
    | t => exact plain (Or.inl (Or.inl rfl))
    | ty v => exact refFits_ty l lv hR hcf u w a b v hm ha.1 hb.1 ha.2 (good_name hcf v hb.2) hdx hdy hsa hsb
end Go.Proofs.YtlmfmioljeppfaaGreatDoor
namespace Go.Proofs.YtlmfmioljeppfaaGreatDoor
open Go.RowKit Go.Shelf Go.Lib
theorem hcells_lt {w : World} {b o : Nat} {v : Value} (h : w.cell? ⟨b, o, none⟩ = some v) : b < w.heap.size := Cells.lt (w := w) (b := b) (o := o) (v := v) (r := []) ⟨h, trivial⟩
set_option maxHeartbeats 4000000 in
set_option maxRecDepth 100000 in
theorem refFieldOf_any (l : List Class) (lv : Value) (c n : Str) (w : World) (hR : Right l) (hlv : ClassesAt w lv l) (hk : (findC (allC l) c).isSome = true) :
    Calls Tryz.prog 83 #[lv, .string c, .string n] w fun e w' => e = .returned (fieldV (fieldC (allC l) c n)) ∧ Below w.heap.size w w' := by
  have HL : Hid (∀ wx, Below w.heap.size w wx → _) := fun wx hb => refSupers_fuel l lv hR _ c wx (hlv.mono hb) hk (Nat.le_refl _)
  unfold RowPost at HL
  have HCO : Hid (∀ (a : Str) wx, Below w.heap.size w wx → _) := fun a wx hb => refClassOf_any l lv a wx (hlv.mono hb)
  unfold ClassGives at HCO
  obtain ⟨pl, cap, rfl, _⟩ := hlv.open
  have hblk : Blk (w.alloc (.cells #[.string ⟨#[]⟩, .string ⟨#[]⟩] 130)) w.heap.size 130 zField := Blk.new w _ zField
  have hB1 : Below w.heap.size w (w.alloc (.cells #[.string ⟨#[]⟩, .string ⟨#[]⟩] 130)) := (Below.refl _ _).alloc (Nat.le_refl _) _
  unfold fieldC
  clear hlv hk hR
  generalize lineC (allC l) c = L at *
  go_enter Tryz.func83, Tryz.ntmps83
  go_wp2_with (go_at_call 103; (with_reducible refine (HL.out _ hB1).mono ?_); rintro e w3 ⟨⟨v3, rfl, hv3⟩, hB3⟩; obtain ⟨pv, kv, rfl⟩ := ownsRow_shape hv3)
  have hs3 := strsAt_of_owns hv3
  obtain ⟨pv', kv', he, h1, h2, hcc⟩ := hs3.open
  injection he with he1 he2 he3
  subst he1 he3
  clear he2
  have HC := Lib.hid hcc
  have hlen : L.length ≤ 9223372036854775807 := Nat.le_trans h1 h2
  have HBl : Hid (Blk w3 w.heap.size 130 zField) := hblk.step hB3
  have HBw := Lib.hid (below_call hB1 (Nat.le_refl _) hB3)
  clear hs3 hcc hv3 hblk hB1 hB3 HL
  go_loopw [10] (fun x wr => ∃ k : Nat, k ≤ L.length ∧ Hid (fieldGo (allC l) n (L.drop k) = fieldGo (allC l) n L) ∧ Below w3.heap.size w3 wr ∧ x = .int .i64 k) (fun x _ => L.length - (intOf x).toNat)
  case atStart => exact ⟨0, by omega, rfl, Below.refl _ _, rfl⟩
  case round =>
    obtain ⟨k, hk, hff, hB, rfl⟩ := hrel
    by_cases hkl : k < L.length
    · obtain ⟨a, ha⟩ : ∃ a, L[k]? = some a := ⟨L[k], by simp [hkl]⟩
      obtain ⟨b, o, vs, rfl, hR, _, hcells⟩ := HC.out k a ha
      unfold StrCells at hR; subst hR
      have HCell : Hid (∀ wx, Below w3.heap.size w3 wx → wx.cell? ⟨b, o + k, none⟩ = some (.string a)) := fun wx hb => by have := (hcells.mono hb hcells.lt).1; rwa [Nat.mul_one] at this
      have c0 := HCell.out wr hB
      have hstep := fieldGo_drop (allC l) n L k a ha
      rw [hff.out] at hstep
      have HCa := Lib.hid (HCO.out a wr (below_call HBw.out (Nat.le_refl _) hB))
      rw [show (findC (allC l) a).getD noClass = classC (allC l) a from rfl] at HCa
      have HX := Lib.hid ha
      clear ha hcells hff
      generalize classC (allC l) a = d at *
      generalize (findC (allC l) a).isSome = is at *
      obtain ⟨n2, s2, f2, b2, d2, m2⟩ := d
      dsimp only at HCa hstep
      have HS := Lib.hid hstep
      have HBr := Lib.hid hB
      clear hstep hB
      go_wp2_with (go_at_call 14; (with_reducible refine HCa.out.mono ?_); rintro e w4 ⟨p1, k1, p2, k2, p3, k3, rfl, _, hfs, _, hB4, _⟩)
      have BX := boxed_new w4 #[.string n2, .string s2, .slice p1 f2.length k1, .bool b2, .slice p2 d2.length k2, .slice p3 m2.length k3] 36
      have hB5 := below_call (below_call HBr.out (Nat.le_refl _) hB4) (Nat.le_refl _) BX.below
      have hfs5 := hfs.mono BX.below (by decide) (fun _ _ h => h)
      generalize w4.alloc (.cells #[.string n2, .string s2, .slice p1 f2.length k1, .bool b2, .slice p2 d2.length k2, .slice p3 m2.length k3] 36) = w5 at *
      obtain ⟨pd', kd', he, g1, g2, hdd⟩ := hfs5.open
      injection he with he1 he2 he3
      subst he1 he3
      clear he2 hfs5 hfs
      have HD := Lib.hid hdd
      have hlen2 : d2.length ≤ 9223372036854775807 := Nat.le_trans g1 g2
      have HBX := Lib.hid BX
      have HB5 := Lib.hid hB5
      clear hdd BX hB5 hB4 c0
      go_loopw [13] (fun x wy => ∃ j : Nat, j ≤ d2.length ∧ Hid (fieldIn n (d2.drop j) = fieldIn n d2) ∧ Below w5.heap.size w5 wy ∧ x = .int .i64 j) (fun x _ => d2.length - (intOf x).toNat)
      case atStart => exact ⟨0, by omega, rfl, Below.refl _ _, rfl⟩
      case round =>
        obtain ⟨j, hj, hgg, hB, rfl⟩ := hrel
        obtain ⟨y0, y1, y2, y3, y4, y5⟩ := boxed6 (HBX.out.step hB)
        clear y0 y1 y2 y3 y5
        by_cases hjl : j < d2.length
        · obtain ⟨f, hf⟩ : ∃ a, d2[j]? = some a := ⟨d2[j], by simp [hjl]⟩
          obtain ⟨bb, oo, vs, rfl, hR, _, hcells⟩ := HD.out j f hf
          unfold FieldCells at hR; subst hR
          obtain ⟨u0, u1, _⟩ := hcells.mono hB hcells.lt
          have hst2 := fieldIn_drop n d2 j f hf
          rw [hgg.out] at hst2
          have HXf := Lib.hid hf
          have e1 := strEq f.name n
          clear hf hcells hgg
          by_cases hyes : f.name = n
          · rw [if_pos hyes] at hst2
            rw [decide_eq_true hyes] at e1
            have hS2 := HS.out
            rw [hst2] at hS2
            have hBe := below_call HB5.out (Nat.le_refl _) hB
            have hBl := HBl.out.step hBe
            obtain ⟨q0, q1⟩ := hBl.field
            have hfz := hBl.frozen
            have hlt := hBl.lt
            have c0 := HCell.out wr hBe
            have HF := Lib.hid hS2
            have HE := Lib.hid (below_set2 (below_call HBw.out (Nat.le_refl _) hBe) (Nat.le_refl w.heap.size) (.string f.name) (.string f.type)).drew
            clear hst2 hS2 hyes hBl hB hBe
            go_upto_region 10 with (first | fail)
            go_region
            all_goals go_wp2
            all_goals exact bodyPost_ret (v := .tuple #[.string a, .agg #[.string f.name, .string f.type], .bool true]) (by simp [results, Tryz.results83, go_sem, *]) rfl ⟨by rw [HF.out]; rfl, HE.out⟩
          · rw [if_neg hyes] at hst2
            rw [decide_eq_false hyes] at e1
            have hst := Lib.hid hst2.symm
            have HBa := Lib.hid hB
            clear hst2 hyes hB
            go_wp2_with (first | fail)
            go_roundw
            case rel => exact ⟨j + 1, by omega, hst.out, HBa.out, by simp⟩
            case measure => simp [intOf]; omega
        · obtain rfl : j = d2.length := by omega
          have hno : fieldIn n d2 = none := by rw [← hgg.out, List.drop_eq_nil_of_le (Nat.le_refl _)]; rfl
          have hS2 := HS.out
          rw [hno] at hS2
          have hst : Hid (fieldGo (allC l) n (L.drop (k + 1)) = fieldGo (allC l) n L) := hS2.symm
          have HBa := Lib.hid (below_call HB5.out (Nat.le_refl _) hB)
          clear hno hS2 hgg hB
          go_wp2_with (first | fail)
          go_roundw
          case rel => exact ⟨k + 1, by omega, hst.out, HBa.out, by simp⟩
          case measure => simp [intOf]; omega
    · obtain rfl : k = L.length := by omega
      have hno : fieldGo (allC l) n L = none := by rw [← hff.out, List.drop_eq_nil_of_le (Nat.le_refl _)]; rfl
      have hBl := HBl.out.step hB
      obtain ⟨q0, q1⟩ := hBl.field
      have hfz := hBl.frozen
      have hlt := hBl.lt
      have HS := Lib.hid hno
      have HE := Lib.hid (below_set2 (below_call HBw.out (Nat.le_refl _) hB) (Nat.le_refl w.heap.size) (.string ⟨#[]⟩) (.string ⟨#[]⟩))
      clear hno hff hBl hB
      go_wp2_with (first | fail)
      exact bodyPost_ret (v := .tuple #[.string ⟨#[]⟩, .agg #[.string ⟨#[]⟩, .string ⟨#[]⟩], .bool false]) (by simp [results, Tryz.results83, go_sem, *]) rfl ⟨by rw [HS.out]; rfl, HE.out⟩
/-- a method as a value, wherever its parts lie -/
def MethodForm (m : Method) (v : Value) : Prop := ∃ pc kc ph kh, v = .agg #[.string m.name, .string m.type, .bool m.static, .bool m.abs, .bool m.priv, .int .i64 m.locals, .slice pc m.code.length kc, .slice ph m.handlers.length kh]
theorem MethodForm.none : MethodForm noMethod (.agg zMethod.toArray) := ⟨.none, 0, .none, 0, rfl⟩
def RefOwnPost (w : World) (o : Option Method) (e : Ending) (w' : World) : Prop := (∃ v, e = .returned (.tuple #[v, .bool o.isSome]) ∧ MethodForm (o.getD noMethod) v) ∧ Below w.heap.size w w'
set_option maxHeartbeats 4000000 in
set_option maxRecDepth 100000 in
theorem refOwn_any (l : List Class) (lv : Value) (c n t : Str) (w : World) (hlv : ClassesAt w lv l) :
    Calls Tryz.prog 198 #[lv, .string c, .string n, .string t] w (RefOwnPost w (ownIn n t (classC (allC l) c).methods)) := by
  have HCO : Hid (∀ wx, Below w.heap.size w wx → _) := fun wx hb => refClassOf_any l lv c wx (hlv.mono hb)
  unfold ClassGives at HCO
  obtain ⟨pl, cap, rfl, _⟩ := hlv.open
  have hblk : Blk (w.alloc (.cells #[.string ⟨#[]⟩, .string ⟨#[]⟩, .bool false, .bool false, .bool false, .int .i64 0, .slice none 0 0, .slice none 0 0] 53)) w.heap.size 53 zMethod := Blk.new w _ zMethod
  have hB1 : Below w.heap.size w (w.alloc (.cells #[.string ⟨#[]⟩, .string ⟨#[]⟩, .bool false, .bool false, .bool false, .int .i64 0, .slice none 0 0, .slice none 0 0] 53)) := (Below.refl _ _).alloc (Nat.le_refl _) _
  rw [show (findC (allC l) c).getD noClass = classC (allC l) c from rfl] at HCO
  clear hlv
  generalize classC (allC l) c = d at *
  generalize (findC (allC l) c).isSome = is at *
  obtain ⟨n2, s2, f2, b2, d2, ms⟩ := d
  dsimp only at *
  go_enter Tryz.func198, Tryz.ntmps198
  go_wp2_with (go_at_call 14; (with_reducible refine (HCO.out _ hB1).mono ?_); rintro e w4 ⟨p1, k1, p2, k2, p3, k3, rfl, _, _, hms, hB4, _⟩)
  have BX := boxed_new w4 #[.string n2, .string s2, .slice p1 f2.length k1, .bool b2, .slice p2 d2.length k2, .slice p3 ms.length k3] 36
  have HB5 := Lib.hid (below_call (below_call hB1 (Nat.le_refl _) hB4) (Nat.le_refl _) BX.below)
  have hms5 : SliceOf (w4.alloc (.cells #[.string n2, .string s2, .slice p1 f2.length k1, .bool b2, .slice p2 d2.length k2, .slice p3 ms.length k3] 36)) 8 (MethodCells _) _ _ := hms.mono BX.below (by decide) (fun _ _ h => h.mono BX.below)
  have HBl : Hid (Blk (w4.alloc (.cells #[.string n2, .string s2, .slice p1 f2.length k1, .bool b2, .slice p2 d2.length k2, .slice p3 ms.length k3] 36)) w.heap.size 53 zMethod) := (hblk.step hB4).step BX.below
  generalize w4.alloc (.cells #[.string n2, .string s2, .slice p1 f2.length k1, .bool b2, .slice p2 d2.length k2, .slice p3 ms.length k3] 36) = w5 at *
  obtain ⟨pd', kd', he, g1, g2, hdd⟩ := hms5.open
  injection he with he1 he2 he3
  subst he1 he3
  clear he2 hms5 hms
  have HD := Lib.hid hdd
  have hlen2 : ms.length ≤ 9223372036854775807 := Nat.le_trans g1 g2
  have HBX := Lib.hid BX
  clear hdd BX hB4 hB1 hblk
  go_loopw [12] (fun x wy => ∃ j : Nat, j ≤ ms.length ∧ Hid (ownIn n t (ms.drop j) = ownIn n t ms) ∧ Below w5.heap.size w5 wy ∧ x = .int .i64 j) (fun x _ => ms.length - (intOf x).toNat)
  case atStart => exact ⟨0, by omega, rfl, Below.refl _ _, rfl⟩
  case round =>
    obtain ⟨k, hk, hff, hB, rfl⟩ := hrel
    obtain ⟨y0, y1, y2, y3, y4, y5⟩ := boxed6 (HBX.out.step hB)
    clear y0 y1 y2 y3 y4
    by_cases hkl : k < ms.length
    · obtain ⟨m, hx⟩ : ∃ a, ms[k]? = some a := ⟨ms[k], by simp [hkl]⟩
      obtain ⟨b, o, vs, rfl, ⟨cv, hv, rfl, k1, k2⟩, _, hcells⟩ := HD.out k m hx
      obtain ⟨c0, c1, c2, c3, c4, c5, c6, c7, _⟩ := hcells.mono hB hcells.lt
      have hstep := ownIn_drop n t ms k m hx
      rw [hff.out] at hstep
      obtain ⟨pc, kc, rfl, _⟩ := k1.open
      obtain ⟨ph, kh, rfl, _⟩ := k2.open
      have e1 := strEq m.name n
      have e2 := strEq m.type t
      have HX := Lib.hid hx
      clear k1 k2 hcells hff hx
      by_cases hyes : m.name = n ∧ m.type = t
      · rw [if_pos hyes] at hstep
        rw [decide_eq_true hyes.1] at e1
        rw [decide_eq_true hyes.2] at e2
        have hBl := HBl.out.step hB
        obtain ⟨q0, q1, q2, q3, q4, q5, q6, q7⟩ := hBl.method
        have hfz := hBl.frozen
        have hlt := hBl.lt
        have HS := Lib.hid hstep
        have HE := Lib.hid (below_set8 (below_call HB5.out (Nat.le_refl _) hB) (Nat.le_refl w.heap.size) (.string m.name) (.string m.type) (.bool m.static) (.bool m.abs) (.bool m.priv) (.int .i64 m.locals) (.slice pc m.code.length kc) (.slice ph m.handlers.length kh))
        clear hstep hyes hBl hB
        go_wp2_with (first | fail)
        exact bodyPost_ret (v := .tuple #[.agg #[.string m.name, .string m.type, .bool m.static, .bool m.abs, .bool m.priv, .int .i64 m.locals, .slice pc m.code.length kc, .slice ph m.handlers.length kh], .bool true]) (by simp [results, Tryz.results198, go_sem, *]) rfl (by rw [HS.out]; exact ⟨⟨_, rfl, pc, kc, ph, kh, rfl⟩, HE.out⟩)
      · rw [if_neg hyes] at hstep
        have hst := Lib.hid hstep.symm
        have hno : (decide (m.name = n) && decide (m.type = t)) = false := by
          rw [Bool.and_eq_false_iff, decide_eq_false_iff_not, decide_eq_false_iff_not]
          by_cases h1 : m.name = n
          · exact Or.inr fun h2 => hyes ⟨h1, h2⟩
          · exact Or.inl h1
        rw [← e1, ← e2] at hno
        have HBa := Lib.hid hB
        clear hstep hyes hB e1 e2
        obtain ⟨b1, g1⟩ : ∃ q, (m.name.toList == n.toList) = q := ⟨_, rfl⟩
        obtain ⟨b2, g2⟩ : ∃ q, (m.type.toList == t.toList) = q := ⟨_, rfl⟩
        rw [g1, g2] at hno
        cases b1 <;> cases b2
        all_goals first
          | (exact absurd hno (by decide))
          | (clear hno
             go_wp2_with (first | fail)
             go_roundw
             case rel => exact ⟨k + 1, by omega, hst.out, HBa.out, by simp⟩
             case measure => simp [intOf]; omega)
    · obtain rfl : k = ms.length := by omega
      have hno : ownIn n t ms = none := by rw [← hff.out, List.drop_eq_nil_of_le (Nat.le_refl _)]; rfl
      have hBl := HBl.out.step hB
      obtain ⟨q0, q1, q2, q3, q4, q5, q6, q7⟩ := hBl.method
      have hfz := hBl.frozen
      have hlt := hBl.lt
      have HS := Lib.hid hno
      have HE := Lib.hid (below_set8 (below_call HB5.out (Nat.le_refl _) hB) (Nat.le_refl w.heap.size) (.string ⟨#[]⟩) (.string ⟨#[]⟩) (.bool false) (.bool false) (.bool false) (.int .i64 0) (.slice none 0 0) (.slice none 0 0))
      clear hno hff hBl hB
      go_wp2_with (first | fail)
      exact bodyPost_ret (v := .tuple #[.agg zMethod.toArray, .bool false]) (by simp [results, Tryz.results198, go_sem, *, zMethod]) rfl (by rw [HS.out]; exact ⟨⟨_, rfl, MethodForm.none⟩, HE.out⟩)
def RefFoundPost (w : World) (o : Option (Str × Method)) (e : Ending) (w' : World) : Prop := (∃ v, e = .returned (methodV3 v o) ∧ MethodForm ((o.map (·.2)).getD noMethod) v) ∧ Below w.heap.size w w'
set_option maxHeartbeats 4000000 in
set_option maxRecDepth 100000 in
theorem refFound_any (l : List Class) (lv : Value) (c n t : Str) (w : World) (hR : Right l) (hcf : ∀ c ∈ l, classFault c = 0) (hlv : ClassesAt w lv l) (hk : (findC (allC l) c).isSome = true) :
    Calls Tryz.prog 166 #[lv, .string c, .string n, .string t] w (RefFoundPost w (methodC (allC l) c n t)) := by
  have HL : Hid (∀ wx, Below w.heap.size w wx → _) := fun wx hb => refSupers_fuel l lv hR _ c wx (hlv.mono hb) hk (Nat.le_refl _)
  have HEv : Hid (∀ wx, Below w.heap.size w wx → _) := fun wx hb => refEvery_any l lv c wx hR hcf (hlv.mono hb) hk (fun x hx => known_ne hcf x hx)
  unfold RowPost at HL HEv
  have HCO : Hid (∀ (a : Str) wx, Below w.heap.size w wx → _) := fun a wx hb => refClassOf_any l lv a wx (hlv.mono hb)
  have HOwn : Hid (∀ (a : Str) wx, Below w.heap.size w wx → _) := fun a wx hb => refOwn_any l lv a n t wx (hlv.mono hb)
  unfold ClassGives at HCO
  unfold RefOwnPost at HOwn
  obtain ⟨pl, cap, rfl, _⟩ := hlv.open
  have hblk : Blk (w.alloc (.cells #[.string ⟨#[]⟩, .string ⟨#[]⟩, .bool false, .bool false, .bool false, .int .i64 0, .slice none 0 0, .slice none 0 0] 53)) w.heap.size 53 zMethod := Blk.new w _ zMethod
  have hB1 : Below w.heap.size w (w.alloc (.cells #[.string ⟨#[]⟩, .string ⟨#[]⟩, .bool false, .bool false, .bool false, .int .i64 0, .slice none 0 0, .slice none 0 0] 53)) := (Below.refl _ _).alloc (Nat.le_refl _) _
  have HMC : Hid (methodC (allC l) c n t = match methodGo (allC l) n t (lineC (allC l) c) with
    | some x => some x
    | none => turnGo (allC l) n t (sortS (everyC (allC l) c)) [false, true]) := by
      unfold Hid; rw [← turnGo_two]; rfl
  clear hlv hk hR hcf
  generalize methodC (allC l) c n t = res at *
  generalize lineC (allC l) c = L at *
  generalize sortS (everyC (allC l) c) = E at *
  go_enter Tryz.func166, Tryz.ntmps166
  go_wp2_with (go_at_call 103; (with_reducible refine (HL.out _ hB1).mono ?_); rintro e w3 ⟨⟨v3, rfl, hv3⟩, hB3⟩; obtain ⟨pv, kv, rfl⟩ := ownsRow_shape hv3)
  have hs3 := strsAt_of_owns hv3
  obtain ⟨pv', kv', he, h1, h2, hcc⟩ := hs3.open
  injection he with he1 he2 he3
  subst he1 he3
  clear he2
  have HC := Lib.hid hcc
  have hlen : L.length ≤ 9223372036854775807 := Nat.le_trans h1 h2
  have HBl : Hid (Blk w3 w.heap.size 53 zMethod) := hblk.step hB3
  have HBw := Lib.hid (below_call hB1 (Nat.le_refl _) hB3)
  clear hs3 hcc hv3 hblk hB1 hB3 HL
  go_loopw [12] (fun x wr => ∃ k : Nat, k ≤ L.length ∧ Hid (methodGo (allC l) n t (L.drop k) = methodGo (allC l) n t L) ∧ Below w3.heap.size w3 wr ∧ x = .int .i64 k) (fun x _ => L.length - (intOf x).toNat)
  case atStart => exact ⟨0, by omega, rfl, Below.refl _ _, rfl⟩
  case round =>
    obtain ⟨k, hk, hff, hB, rfl⟩ := hrel
    by_cases hkl : k < L.length
    · obtain ⟨a, ha⟩ : ∃ a, L[k]? = some a := ⟨L[k], by simp [hkl]⟩
      obtain ⟨b, o, vs, rfl, hR, _, hcells⟩ := HC.out k a ha
      unfold StrCells at hR; subst hR
      have HCell : Hid (∀ wx, Below w3.heap.size w3 wx → wx.cell? ⟨b, o + k, none⟩ = some (.string a)) := fun wx hb => by have := (hcells.mono hb hcells.lt).1; rwa [Nat.mul_one] at this
      have c0 := HCell.out wr hB
      have hstep := methodGo_drop (allC l) n t L k a ha
      rw [hff.out] at hstep
      have HO := Lib.hid (HOwn.out a wr (below_call HBw.out (Nat.le_refl _) hB))
      have HX := Lib.hid ha
      clear ha hcells hff
      generalize (classC (allC l) a).methods = m2 at *
      cases hq : ownIn n t m2 with
      | some m =>
        rw [hq] at hstep HO
        simp only [Option.isSome_some, Option.getD_some] at HO
        have hres : Hid (res = some (a, m)) := by unfold Hid; rw [HMC.out, hstep]
        have HBr := Lib.hid hB
        clear hstep hq HMC hB
        go_upto_region 7 with (go_at_call 198; (with_reducible refine HO.out.mono ?_); rintro e w5 ⟨⟨v5, rfl, pc, kc, ph, kh, rfl⟩, hB5⟩)
        have hB5r := below_call HBr.out (Nat.le_refl _) hB5
        have hBl5 := HBl.out.step hB5r
        obtain ⟨q0, q1, q2, q3, q4, q5, q6, q7⟩ := hBl5.method
        have hfz := hBl5.frozen
        have hlt := hBl5.lt
        have c1 := HCell.out w5 hB5r
        have hbl := hcells_lt (HCell.out w3 (Below.refl _ _))
        have hblt : b < w5.heap.size := Nat.lt_of_lt_of_le hbl hB5r.size
        have hBe := below_call HBw.out (Nat.le_refl _) hB5r
        have HE := Lib.hid ((below_set8 hBe (Nat.le_refl w.heap.size) (.string m.name) (.string m.type) (.bool m.static) (.bool m.abs) (.bool m.priv) (.int .i64 m.locals) (.slice pc m.code.length kc) (.slice ph m.handlers.length kh)).alloc (Nat.le_trans hBe.size (by simp)) (.cells #[.string m.name, .string m.type, .bool m.static, .bool m.abs, .bool m.priv, .int .i64 m.locals, .slice pc m.code.length kc, .slice ph m.handlers.length kh] 53)).drew
        clear hBl5 hBe hB5 hB5r
        go_region
        all_goals go_wp2
        all_goals exact bodyPost_ret (v := .tuple #[.string a, .agg #[.string m.name, .string m.type, .bool m.static, .bool m.abs, .bool m.priv, .int .i64 m.locals, .slice pc m.code.length kc, .slice ph m.handlers.length kh], .bool true]) (by simp [results, Tryz.results166, go_sem, *]) rfl (by rw [hres.out]; exact ⟨⟨_, rfl, pc, kc, ph, kh, rfl⟩, HE.out⟩)
      | none =>
        rw [hq] at hstep HO
        simp only [Option.isSome_none, Option.getD_none] at HO
        have hst : Hid (methodGo (allC l) n t (L.drop (k + 1)) = methodGo (allC l) n t L) := hstep.symm
        have HBr := Lib.hid hB
        clear hstep hq hB
        go_wp2_with (go_at_call 198; (with_reducible refine HO.out.mono ?_); rintro e w5 ⟨⟨v5, rfl, pc, kc, ph, kh, rfl⟩, hB5⟩)
        go_roundw
        case rel => exact ⟨k + 1, by omega, hst.out, (below_call HBr.out (Nat.le_refl _) hB5).alloc (below_call HBr.out (Nat.le_refl _) hB5).size _, by simp⟩
        case measure => simp [intOf]; omega
    · obtain rfl : k = L.length := by omega
      have hno : methodGo (allC l) n t L = none := by rw [← hff.out, List.drop_eq_nil_of_le (Nat.le_refl _)]; rfl
      have HM2 : Hid (res = turnGo (allC l) n t E [false, true]) := by unfold Hid; rw [HMC.out, hno]
      have HBr := Lib.hid (below_call HBw.out (Nat.le_refl _) hB)
      have HEw := Lib.hid (HEv.out wr (below_call HBw.out (Nat.le_refl _) hB))
      have HBl4 : Hid (Blk wr w.heap.size 53 zMethod) := HBl.out.step hB
      clear hno hff HMC hB HBw HBl HC
      go_wp2_with (go_at_call 85; (with_reducible refine HEw.out.mono ?_); rintro e w6 ⟨⟨v6, rfl, hv6⟩, hB6⟩; obtain ⟨pe, ke, rfl⟩ := ownsRow_shape hv6)
      have hs6 := strsAt_of_owns hv6
      obtain ⟨pe', ke', he, h3, h4, hee⟩ := hs6.open
      injection he with he1 he2 he3
      subst he1 he3
      clear he2
      have HCe := Lib.hid hee
      have hlenE : E.length ≤ 9223372036854775807 := Nat.le_trans h3 h4
      have HB6 := Lib.hid (below_call HBr.out (Nat.le_refl _) hB6)
      have HBl6 : Hid (Blk w6 w.heap.size 53 zMethod) := HBl4.out.step hB6
      clear hee hs6 hv6 hB6 HEw HBl4 HBr
      go_loopw [16] (fun x wx => ∃ j : Nat, j ≤ 2 ∧ Hid (res = turnGo (allC l) n t E ([false, true].drop j)) ∧ Below w6.heap.size w6 wx ∧ x = .int .i64 j) (fun x _ => 2 - (intOf x).toNat)
      case atStart => exact ⟨0, by omega, HM2, Below.refl _ _, rfl⟩
      case round =>
        obtain ⟨j, hj, hgg, hB, rfl⟩ := hrel
        by_cases hjl : j < 2
        · obtain ⟨a, ha⟩ : ∃ a, [false, true][j]? = some a := ⟨[false, true][j]'(by simp; omega), by simp⟩
          have hja : (((j : Int)) == 1) = a := by
            match j, ha with
            | 0, ha => simp at ha; subst ha; rfl
            | 1, ha => simp at ha; subst ha; rfl
          have hstep := turnGo_drop (allC l) n t E [false, true] j a ha
          have HG : Hid (res = match faceGo (allC l) n t a E with
            | some x => some x
            | none => turnGo (allC l) n t E ([false, true].drop (j + 1))) := hgg.out.trans hstep
          have hji : (j : Int) < 2 := by omega
          have HBj := Lib.hid hB
          clear ha hstep hgg
          go_wp2_with (first | fail)
          go_loopw [17] (fun x wy => ∃ i : Nat, i ≤ E.length ∧ Hid (faceGo (allC l) n t a (E.drop i) = faceGo (allC l) n t a E) ∧ Below w6.heap.size w6 wy ∧ x = .int .i64 i) (fun x _ => E.length - (intOf x).toNat)
          case atStart => exact ⟨0, by omega, rfl, hB, rfl⟩
          case round =>
            clear hB
            obtain ⟨i, hi, hff, hB, rfl⟩ := hrel
            by_cases hil : i < E.length
            · obtain ⟨z, hz⟩ : ∃ a, E[i]? = some a := ⟨E[i], by simp [hil]⟩
              obtain ⟨be, oe, vs, rfl, hR, _, hcells⟩ := HCe.out i z hz
              unfold StrCells at hR; subst hR
              have HCell : Hid (∀ wx, Below w6.heap.size w6 wx → wx.cell? ⟨be, oe + i, none⟩ = some (.string z)) := fun wx hb => by have := (hcells.mono hb hcells.lt).1; rwa [Nat.mul_one] at this
              have c0 := HCell.out wr hB
              have hstep := faceGo_drop (allC l) n t a E i z hz
              rw [hff.out] at hstep
              have hBwr := below_call HB6.out (Nat.le_refl _) hB
              have HCz := Lib.hid (HCO.out z wr hBwr)
              have HOz : Hid (∀ wx, Below wr.heap.size wr wx → _) := fun wx hb => HOwn.out z wx (below_call hBwr (Nat.le_refl _) hb)
              rw [show (findC (allC l) z).getD noClass = classC (allC l) z from rfl] at HCz
              have HZ := Lib.hid hz
              have HBwr := Lib.hid hBwr
              clear hz hcells hff hBwr
              generalize classC (allC l) z = d at *
              generalize (findC (allC l) z).isSome = is at *
              obtain ⟨n2, s2, f2, b2, d2, m2⟩ := d
              dsimp only at hstep HCz HOz
              have HBr2 := Lib.hid hB
              clear hB
              go_upto_region 16 with (go_at_call 14; (with_reducible refine HCz.out.mono ?_); rintro e w4 ⟨p1, k1, p2, k2, p3, k3, rfl, _, _, _, hB4, _⟩)
              have BX := boxed_new w4 #[.string n2, .string s2, .slice p1 f2.length k1, .bool b2, .slice p2 d2.length k2, .slice p3 m2.length k3] 36
              have hB5 := below_call hB4 (Nat.le_refl _) BX.below
              generalize w4.alloc (.cells #[.string n2, .string s2, .slice p1 f2.length k1, .bool b2, .slice p2 d2.length k2, .slice p3 m2.length k3] 36) = w5 at *
              have c1 := HCell.out w5 (below_call HBr2.out (Nat.le_refl _) hB5)
              have HO5 := Lib.hid (HOz.out w5 hB5)
              have HBX := Lib.hid BX
              have HB5 := Lib.hid hB5
              clear BX hB5 hB4 HCz HOz c0
              cases hq : ownIn n t m2 with
              | none =>
                rw [hq] at hstep HO5
                simp only [Option.isSome_none, Option.getD_none] at HO5
                have hst : Hid (faceGo (allC l) n t a (E.drop (i + 1)) = faceGo (allC l) n t a E) := hstep.symm
                clear hstep hq
                go_wp2_with (go_at_call 198; (with_reducible refine HO5.out.mono ?_); rintro e w7 ⟨⟨v7, rfl, pc, kc, ph, kh, rfl⟩, hB7⟩)
                go_roundw
                case rel =>
                  have hBq := below_call (below_call HBr2.out (Nat.le_refl _) HB5.out) (Nat.le_refl _) hB7
                  exact ⟨i + 1, by omega, hst.out, hBq.alloc hBq.size _, by simp⟩
                case measure => simp [intOf]; omega
              | some m =>
                rw [hq] at hstep HO5
                simp only [Option.isSome_some, Option.getD_some] at HO5
                clear hq
                go_upto_region 17 with (go_at_call 198; (with_reducible refine HO5.out.mono ?_); rintro e w7 ⟨⟨v7, rfl, pc, kc, ph, kh, rfl⟩, hB7⟩)
                have hBx7 := HBX.out.step hB7
                obtain ⟨y0, y1, y2, y3, y4, y5⟩ := boxed6 hBx7
                have hlt7 := hBx7.size
                have hB7w := below_call (below_call HBr2.out (Nat.le_refl _) HB5.out) (Nat.le_refl _) hB7
                have hBa7 := hB7w.alloc hB7w.size (.cells #[.string m.name, .string m.type, .bool m.static, .bool m.abs, .bool m.priv, .int .i64 m.locals, .slice pc m.code.length kc, .slice ph m.handlers.length kh] 53)
                obtain ⟨yes, hy⟩ : ∃ q, (m.abs == a) = q := ⟨_, rfl⟩
                rw [hy] at hstep
                have HBa7 := Lib.hid hBa7
                have HB7w := Lib.hid hB7w
                have HS := Lib.hid hstep
                clear hstep hBa7 hB7w hB7 hBx7 y0 y1 y2 y4 y5
                by_cases hbb : (b2 && yes) = true
                · rw [Bool.and_eq_true] at hbb
                  obtain ⟨rfl, rfl⟩ := hbb
                  have hres : Hid (res = some (z, m)) := by
                    unfold Hid; rw [HG.out, HS.out]; rfl
                  have hBl7 := HBl6.out.step HB7w.out
                  obtain ⟨q0, q1, q2, q3, q4, q5, q6, q7⟩ := hBl7.method
                  have hfz := hBl7.frozen
                  have hlt := hBl7.lt
                  have c7 := HCell.out w7 HB7w.out
                  have hblt : be < w7.heap.size := Nat.lt_of_lt_of_le (hcells_lt (HCell.out w6 (Below.refl _ _))) HB7w.out.size
                  have hBe := below_call HB6.out (Nat.le_refl _) HB7w.out
                  have HE := Lib.hid ((below_set8 hBe (Nat.le_refl w.heap.size) (.string m.name) (.string m.type) (.bool m.static) (.bool m.abs) (.bool m.priv) (.int .i64 m.locals) (.slice pc m.code.length kc) (.slice ph m.handlers.length kh)).alloc (Nat.le_trans hBe.size (by simp)) (.cells #[.string m.name, .string m.type, .bool m.static, .bool m.abs, .bool m.priv, .int .i64 m.locals, .slice pc m.code.length kc, .slice ph m.handlers.length kh] 53)).drew
                  clear hBl7 hBe
                  go_upto_region 18 with (first | fail)
                  go_region
                  all_goals go_wp2
                  all_goals exact bodyPost_ret (v := .tuple #[.string z, .agg #[.string m.name, .string m.type, .bool m.static, .bool m.abs, .bool m.priv, .int .i64 m.locals, .slice pc m.code.length kc, .slice ph m.handlers.length kh], .bool true]) (by simp [results, Tryz.results166, go_sem, *]) rfl (by rw [hres.out]; exact ⟨⟨_, rfl, pc, kc, ph, kh, rfl⟩, HE.out⟩)
                · have hst : Hid (faceGo (allC l) n t a (E.drop (i + 1)) = faceGo (allC l) n t a E) := by
                    unfold Hid; rw [HS.out, if_neg hbb]
                  cases b2 <;> cases yes <;> first | (exact absurd rfl hbb) | skip
                  all_goals
                    clear hbb
                    go_wp2_with (first | fail)
                    go_roundw
                    case rel => exact ⟨i + 1, by omega, hst.out, HBa7.out, by simp⟩
                    case measure => simp [intOf]; omega
            · obtain rfl : i = E.length := by omega
              have hno : faceGo (allC l) n t a E = none := by rw [← hff.out, List.drop_eq_nil_of_le (Nat.le_refl _)]; rfl
              have hst : Hid (res = turnGo (allC l) n t E ([false, true].drop (j + 1))) := by unfold Hid; rw [HG.out, hno]
              have HBe := Lib.hid hB
              clear hno hff hB HG
              go_wp2_with (first | fail)
              go_roundw
              case rel => exact ⟨j + 1, by omega, hst.out, HBe.out, by simp⟩
              case measure => simp [intOf]; omega
        · obtain rfl : j = 2 := by omega
          have hres : Hid (res = none) := hgg.out
          have hBl := HBl6.out.step hB
          obtain ⟨q0, q1, q2, q3, q4, q5, q6, q7⟩ := hBl.method
          have hfz := hBl.frozen
          have hlt := hBl.lt
          have HE := Lib.hid (below_set8 (below_call HB6.out (Nat.le_refl _) hB) (Nat.le_refl w.heap.size) (.string ⟨#[]⟩) (.string ⟨#[]⟩) (.bool false) (.bool false) (.bool false) (.int .i64 0) (.slice none 0 0) (.slice none 0 0))
          clear hgg hBl hB
          go_wp2_with (first | fail)
          exact bodyPost_ret (v := .tuple #[.string ⟨#[]⟩, .agg zMethod.toArray, .bool false]) (by simp [results, Tryz.results166, go_sem, *, zMethod]) rfl (by rw [hres.out]; exact ⟨⟨_, rfl, MethodForm.none⟩, HE.out⟩)
end Go.Proofs.YtlmfmioljeppfaaGreatDoor
