/-
  WALKS over the reference's ClassIn, IsRef (of kinds), KindFault, KindsFault, Fits. Conditions: a right world, kinds that are there; texts of at most maxLen signs.
-/
import Derived.Test.YtpjkpmmjehnahaaGreatDoorSub
import Derived.Test.YtpjkpmmjehnahaaGreatDoorJoinLaw
import Derived.Test.YtpjkpmmjehnahaaGreatDoorRefNames
namespace Go.Proofs.YtpjkpmmjehnahaaGreatDoor
open Go.RowKit Go.Shelf Go.Lib
def headQ : Ty → Bool
  | .ar _ => true
  | _ => false
theorem kd_arrQ {k : Str} {x : Ty} (h : tyText x = lst k) (hp : 0 < k.size) : (((k[0]'hp).toNat : Int) == 91) = headQ x := by
  have hk : k[0]'hp = (lst k)[0]'(by have h1 : (lst k).length = k.size := rfl; omega) := rfl
  have h0 : (lst k)[0]? = (tyText x)[0]? := by rw [h]
  rw [hk]
  have h2 : (lst k)[0]? = some ((lst k)[0]'(by have h1 : (lst k).length = k.size := rfl; omega)) := List.getElem?_eq_getElem _
  rw [h2] at h0
  generalize (lst k)[0]'(by have h1 : (lst k).length = k.size := rfl; omega) = b at *
  cases x with
  | i => simp [tyText] at h0; subst h0; rfl
  | j => simp [tyText] at h0; subst h0; rfl
  | cl c => simp [tyText] at h0; subst h0; rfl
  | ar y => simp [tyText] at h0; subst h0; rfl
theorem kd_cut {k : Str} {x : Ty} {c : Str} (h : tyText x = lst k) (hc : coreTy x = .cl c) : k.size = deepTy x + c.size + 2 ∧ k.extract (deepTy x + 1) (k.size - 1) = c := by
  have h1 : (lst k).length = k.size := rfl
  have h2 := text_length x
  have h3 : (tyText (.cl c)).length = c.size + 2 := by
    have e2 : (lst c).length = c.size := rfl
    simp [tyText, e2]
  rw [hc, h3, h, h1] at h2
  refine ⟨by omega, ?_⟩
  apply ByteArray.ext
  apply Array.toList_inj.1
  have h4 : (k.extract (deepTy x + 1) (k.size - 1)).data.toList = ((lst k).drop (deepTy x + 1)).take (k.size - 1 - (deepTy x + 1)) := by
    rw [ByteArray.data_extract, Array.toList_extract, List.extract_eq_take_drop]
  have h5 : (lst k).drop (deepTy x + 1) = lst c ++ [59] := by
    rw [← h, ← List.drop_drop, drop_ty, hc]; rfl
  have e2 : (lst c).length = c.size := rfl
  rw [h4, h5, List.take_append_of_le_length (by omega), List.take_of_length_le (by omega)]
theorem kd_at {k : Str} {x : Ty} (h : tyText x = lst k) (hp : deepTy x < k.size) : (((k[deepTy x]'hp).toNat : Int) == 76) = headL (coreTy x) := by
  have hk : k[deepTy x]'hp = (lst k)[deepTy x]'(by have h1 : (lst k).length = k.size := rfl; omega) := rfl
  have h0 : (lst k)[deepTy x]? = (tyText (coreTy x))[0]? := by
    rw [← h, ← drop_ty, List.getElem?_drop, Nat.add_zero]
  rw [hk]
  have h2 : (lst k)[deepTy x]? = some ((lst k)[deepTy x]'(by have h1 : (lst k).length = k.size := rfl; omega)) := List.getElem?_eq_getElem _
  rw [h2] at h0
  generalize (lst k)[deepTy x]'(by have h1 : (lst k).length = k.size := rfl; omega) = b at *
  rcases core_cases x with ⟨hc, _⟩ | ⟨hc, _⟩ | ⟨c, hc, _⟩ <;> rw [hc] at h0 ⊢ <;> simp [tyText] at h0 <;> subst h0 <;> rfl
set_option maxHeartbeats 1000000 in
set_option maxRecDepth 100000 in
theorem refClassIn_any (k : Str) (x : Ty) (w : World) (h : tyText x = lst k) (hs : k.size ≤ maxLen) : Calls Tryz.prog 73 #[.string k] w fun e w' => e = .returned (.string (str (baseOf x))) ∧ w = w' := by
  obtain ⟨f1, f2, f3, f4⟩ := typeFacts k 0 (Nat.zero_le _)
  rw [List.drop_zero, Nat.zero_add] at *
  have hd : deepOf k.data.toList = deepTy x := by rw [show k.data.toList = tyText x from h.symm, deepOf_ty]
  rw [hd] at f3 f4
  have hlen : deepTy x < k.size := by
    have h1 : (lst k).length = k.size := rfl
    rw [← h1, ← h, text_length]
    have := List.length_pos_iff.2 (tyText_ne (coreTy x))
    omega
  have hat := kd_at h hlen
  have hcut : ∀ c, coreTy x = .cl c → k.size = deepTy x + c.size + 2 ∧ k.extract (deepTy x + 1) (k.size - 1) = c := fun c hc => kd_cut h hc
  have hcc := core_cases x
  generalize deepTy x = n at *
  generalize coreTy x = y at *
  generalize baseOf x = bs at *
  unfold maxLen at hs
  have F3 := Lib.hid f3
  have F4 := Lib.hid f4
  have HC := Lib.hid hcut
  have HA := Lib.hid hat
  have HCC := Lib.hid hcc
  clear f1 f2 f3 f4 hcut hat hcc h hd
  go_enter Tryz.func73, Tryz.ntmps73
  go_wp2_with fail
  go_loop [3] (fun x => ∃ j : Nat, j ≤ n ∧ x = .int .i64 j) (fun x => n - (intOf x).toNat)
  case atStart => exact ⟨0, by omega, rfl⟩
  case round =>
    obtain ⟨j, hj, rfl⟩ := hrel
    by_cases hlt : j < n
    · have hks : j < k.size := by omega
      have hc : (((k[j]).toNat : Int) == 91) = true := sign_is (c := 91) (F3.out j hks (Nat.zero_le _) hlt) rfl
      go_wp2_with fail
      go_round
      case rel => exact ⟨j + 1, by omega, by go_num⟩
      case measure => simp [intOf]; omega
    · have hki : j = n := by omega
      subst hki
      have hc : (((k[j]).toNat : Int) == 91) = false := sign_not (c := 91) (F4.out hlen) rfl
      rcases HCC.out with ⟨hcy, rfl⟩ | ⟨hcy, rfl⟩ | ⟨c, hcy, rfl⟩
      · have h6 := HA.out
        rw [hcy] at h6
        simp only [headL] at h6
        clear hcy
        go_wp2_with fail
        go_ret
        exact ⟨rfl, rfl⟩
      · have h6 := HA.out
        rw [hcy] at h6
        simp only [headL] at h6
        clear hcy
        go_wp2_with fail
        go_ret
        exact ⟨rfl, rfl⟩
      · have h6 := HA.out
        rw [hcy] at h6
        simp only [headL] at h6
        obtain ⟨g1, g2⟩ := HC.out c hcy
        have g3 : k.extract (j + 1) (j + c.size + 1) = c := by rw [show j + c.size + 1 = k.size - 1 by omega]; exact g2
        have HG := Lib.hid g3
        clear hcy g2 g3
        go_wp2_with fail
        go_ret
        exact ⟨congrArg (fun z => Ending.returned (.string z)) HG.out, rfl⟩
theorem refB_kd {x : Kd} (h : ∀ y, x = .ty y → typeB (tyText y) = true) : refB (kdText x) = refK x := by
  cases x with
  | n => rfl
  | t => rfl
  | ty y =>
    show refB (tyText y) = isRef y
    unfold refB
    rw [h y rfl, wordB_ty, Bool.true_and, Bool.not_not]
theorem refIs_any (k : Str) (x : Kd) (w : World) (h : kdText x = lst k) (ht : ∀ y, x = .ty y → typeB (tyText y) = true) (hs : k.size ≤ maxLen) :
    Calls Tryz.prog 72 #[.string k] w fun e w' => e = .returned (.bool (refK x)) ∧ w = w' := by
  rw [← refB_kd ht, h]
  exact refIsRef_any k w hs
set_option maxHeartbeats 1000000 in
set_option maxRecDepth 100000 in
theorem refKind_any (l : List Class) (lv : Value) (k : Str) (w : World) (hlv : ClassesAt w lv l) (hs : k.size ≤ maxLen) :
    Calls Tryz.prog 69 #[lv, .string k] w fun e w' => e = .returned (.int .i64 (kindR (allC l) k)) ∧ Below w.heap.size w w' := by
  have HCO : Hid (∀ n, _) := fun n => refClassOf_any l lv n w hlv
  unfold ClassGives at HCO
  obtain ⟨pl, cap, rfl, _⟩ := hlv.open
  clear hlv
  by_cases h1 : lst k = [78] ∨ lst k = [84]
  · have hr : kindR (allC l) k = 0 := by unfold kindR; rw [if_pos h1]
    rw [hr]
    have hk1 : (k.toList == [78]) = decide (lst k = [78]) := by rw [ByteArray.toList_eq, Bool.eq_iff_iff]; simp
    have hk2 : (k.toList == [84]) = decide (lst k = [84]) := by rw [ByteArray.toList_eq, Bool.eq_iff_iff]; simp
    clear HCO hr
    rcases h1 with h1 | h1
    · rw [decide_eq_true h1] at hk1
      clear hk2 h1
      go_enter Tryz.func69, Tryz.ntmps69
      go_wp2
      go_ret
      exact ⟨rfl, Below.refl _ _⟩
    · rw [decide_eq_true h1] at hk2
      rw [decide_eq_false (by rw [h1]; decide)] at hk1
      clear h1
      go_enter Tryz.func69, Tryz.ntmps69
      go_wp2
      go_ret
      exact ⟨rfl, Below.refl _ _⟩
  · have hk1 : (k.toList == [78]) = false := by rw [ByteArray.toList_eq]; simpa using fun h => h1 (Or.inl h)
    have hk2 : (k.toList == [84]) = false := by rw [ByteArray.toList_eq]; simpa using fun h => h1 (Or.inr h)
    have HT : Hid (∀ wx, _) := fun wx => refIsType_any k wx hs
    rw [show k.data.toList = lst k from rfl] at HT
    have HK : Hid (kindR (allC l) k = if !typeB (lst k) then 1 else if (classIn (lst k)).isEmpty then 0 else if (findC (allC l) (str (classIn (lst k)))).isSome then 0 else 3) := by unfold Hid kindR; rw [if_neg h1]
    clear h1
    cases ht : typeB (lst k) with
    | false =>
      rw [ht] at HT HK
      have hr : kindR (allC l) k = 1 := HK.out
      rw [hr]
      clear HK hr ht hs HCO
      go_enter Tryz.func69, Tryz.ntmps69
      go_wp2_with (go_at_call 79; (with_reducible refine (HT.out _).mono ?_); rintro e w2 ⟨rfl, rfl⟩)
      go_ret
      exact ⟨rfl, Below.refl _ _⟩
    | true =>
      rw [ht] at HT HK
      obtain ⟨x, h3, h4, _⟩ := typeB_ty (lst k) ht
      rw [h4] at HK
      replace HK : Hid (kindR (allC l) k = if (baseOf x).isEmpty then 0 else if (findC (allC l) (str (baseOf x))).isSome then 0 else 3) := HK
      have HC : Hid (∀ wx, _) := fun wx => refClassIn_any k x wx h3 hs
      have hbe : ((str (baseOf x)).toList == []) = (baseOf x).isEmpty := by rw [ByteArray.toList_eq]; show (baseOf x == []) = _; cases baseOf x <;> rfl
      have HL := Lib.hid (HCO.out (str (baseOf x)))
      clear hs h3 h4 ht HCO
      generalize (findC (allC l) (str (baseOf x))).isSome = is at *
      generalize (findC (allC l) (str (baseOf x))).getD noClass = d at *
      generalize str (baseOf x) = b at *
      generalize (baseOf x).isEmpty = em at *
      generalize kindR (allC l) k = r at *
      obtain ⟨n2, s2, f2, b2, d2, m2⟩ := d
      dsimp only at HL
      cases em <;> cases is
      all_goals
        have hr := HK.out
        simp only [if_true, if_false, Bool.false_eq_true] at hr
        subst hr
        clear HK
        go_enter Tryz.func69, Tryz.ntmps69
        go_wp2_with (first
          | (go_at_call 79; (with_reducible refine (HT.out _).mono ?_); rintro e w2 ⟨rfl, rfl⟩)
          | (go_at_call 73; (with_reducible refine (HC.out _).mono ?_); rintro e w3 ⟨rfl, rfl⟩)
          | (go_at_call 52; (with_reducible refine HL.out.mono ?_); rintro e w4 ⟨p1, k1, p2, k2, p3, k3, rfl, _, _, _, hB4, _⟩))
        go_ret
        exact ⟨rfl, hB4.alloc hB4.size _⟩
set_option maxHeartbeats 1000000 in
theorem refKinds_any (l : List Class) (lv : Value) (a b : Str) (w : World) (ho : ∀ c ∈ l, ClassOk c) (hlv : ClassesAt w lv l) (ha : a.size ≤ maxLen) (hb : b.size ≤ maxLen) :
    Calls Tryz.prog 37 #[lv, .string a, .string b] w fun e w' => e = .returned (.int .i64 (kindsFault l a b)) ∧ Below w.heap.size w w' := by
  have HW := Lib.hid (refWorld_any l lv w ho hlv)
  have HA : Hid (∀ wx, Below w.heap.size w wx → _) := fun wx hb => refKind_any l lv a wx (hlv.mono hb) ha
  have HB : Hid (∀ wx, Below w.heap.size w wx → _) := fun wx hb2 => refKind_any l lv b wx (hlv.mono hb2) hb
  obtain ⟨pl, cap, rfl, _⟩ := hlv.open
  have hca := kindR_cases (allC l) a
  have hcb := kindR_cases (allC l) b
  have HF : Hid (kindsFault l a b = if readFault l ≠ 0 then readFault l else if kindR (allC l) a = 1 ∨ kindR (allC l) b = 1 then 1 else if kindR (allC l) a ≠ 0 ∨ kindR (allC l) b ≠ 0 then 3 else 0) := rfl
  clear ho hlv ha hb
  generalize kindsFault l a b = f at *
  generalize kindR (allC l) a = x at *
  generalize kindR (allC l) b = y at *
  generalize readFault l = r at *
  by_cases hz : r = 0
  · subst hz
    rcases hca with rfl | rfl | rfl <;> rcases hcb with rfl | rfl | rfl
    all_goals
      have hf := HF.out
      simp at hf
      subst hf
      clear HF
      go_enter Tryz.func37, Tryz.ntmps37
      go_wp2_with (first
        | (go_at_call 69; (with_reducible refine (HB.out _ hB3).mono ?_); rintro e w4 ⟨rfl, hB4⟩; (have hB5 := below_call hB3 (Nat.le_refl _) hB4))
        | (go_at_call 69; (with_reducible refine (HA.out _ hB2).mono ?_); rintro e w3 ⟨rfl, hB3'⟩; (have hB3 := below_call hB2 (Nat.le_refl _) hB3'))
        | (go_at_call 14; (with_reducible refine HW.out.mono ?_); rintro e w2 ⟨rfl, hB2⟩))
      go_ret
      exact ⟨rfl, hB5⟩
  · have hf := HF.out
    rw [if_pos hz] at hf
    subst hf
    have hz2 : ((f : Int) != 0) = true := by simp; omega
    clear HF hca hcb
    go_enter Tryz.func37, Tryz.ntmps37
    go_wp2_with (go_at_call 14; (with_reducible refine HW.out.mono ?_); rintro e w2 ⟨rfl, hB2⟩)
    go_ret
    exact ⟨rfl, hB2⟩
end Go.Proofs.YtpjkpmmjehnahaaGreatDoor
