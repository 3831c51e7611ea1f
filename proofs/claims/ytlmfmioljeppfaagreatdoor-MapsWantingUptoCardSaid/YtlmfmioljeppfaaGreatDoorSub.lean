/-
  WALKS over desc.Class, sub.Refs, Thing, Kind, Does. Conditions: texts of at most maxLen signs; a right world, kinds that are there.
-/
import Derived.Test.YtlmfmioljeppfaaGreatDoorLayLaw
import Derived.Test.YtlmfmioljeppfaaGreatDoorLineLaw
import Derived.Deep.QuietTactic
import Derived.BigQuiet
namespace Go.Proofs.YtlmfmioljeppfaaGreatDoor
open Go.RowKit Go.Shelf Go.Lib
set_option maxHeartbeats 1000000 in
set_option maxRecDepth 100000 in
theorem descClass_any (k : Str) (x : Ty) (w : World) (h : tyText x = lst k) (hs : k.size ≤ maxLen) : Calls Tryz.prog 129 #[.string k] w fun e w' => e = .returned (.string (str (baseOf x))) ∧ w = w' := by
  have HT := Lib.hid (trimLeft_any k w)
  have hr : lst (k.extract (deepOf k.data.toList) k.size) = tyText (coreTy x) := by
    have h1 := Lib.extract_to_end k (deepOf k.data.toList)
    rw [show k.data.toList = tyText x from h.symm, deepOf_ty, drop_ty] at h1
    rw [show k.data.toList = tyText x from h.symm, deepOf_ty]
    unfold lst
    rw [← h1]
  have hrk : (k.extract (deepOf k.data.toList) k.size).size ≤ k.size := by rw [ByteArray.size_extract]; omega
  generalize k.extract (deepOf k.data.toList) k.size = r at *
  have HN : Hid (∀ w, _) := fun w => number_any r w
  rw [show r.data.toList = tyText (coreTy x) from hr, wordB_ty] at HN
  clear h
  rcases core_cases x with ⟨hc, hb⟩ | ⟨hc, hb⟩ | ⟨c, hc, hb⟩
  · rw [hc] at HN
    rw [hb]
    clear hr hc hb
    go_enter Tryz.func129, Tryz.ntmps129
    go_wp2_with (first
      | (go_at_call 135; (with_reducible refine HT.out.mono ?_); rintro e w2 ⟨rfl, rfl⟩)
      | (go_at_call 131; (with_reducible refine (HN.out _).mono ?_); rintro e w3 ⟨rfl, rfl⟩))
    go_ret
    exact ⟨rfl, rfl⟩
  · rw [hc] at HN
    rw [hb]
    clear hr hc hb
    go_enter Tryz.func129, Tryz.ntmps129
    go_wp2_with (first
      | (go_at_call 135; (with_reducible refine HT.out.mono ?_); rintro e w2 ⟨rfl, rfl⟩)
      | (go_at_call 131; (with_reducible refine (HN.out _).mono ?_); rintro e w3 ⟨rfl, rfl⟩))
    go_ret
    exact ⟨rfl, rfl⟩
  · rw [hc] at HN hr
    rw [hb]
    have hsz : r.size = c.size + 2 := by
      have := congrArg List.length hr
      simp [tyText, lst] at this
      have e1 : r.size = r.data.size := rfl
      have e2 : c.size = c.data.size := rfl
      omega
    have hcut : r.extract 1 (c.size + 2 - 1) = str (lst c) := by
      apply ByteArray.ext
      apply Array.toList_inj.1
      have h1 : (r.extract 1 (c.size + 2 - 1)).data.toList = ((lst r).drop 1).take (c.size + 2 - 1 - 1) := by
        rw [ByteArray.data_extract, Array.toList_extract, List.extract_eq_take_drop]
      rw [h1, hr]
      show (lst c ++ [59]).take (c.size + 2 - 1 - 1) = lst c
      have e2 : (lst c).length = c.size := rfl
      rw [List.take_append_of_le_length (by omega), List.take_of_length_le (by omega)]
    have HCut := Lib.hid hcut
    have hrs : c.size + 2 ≤ 9223372036854775807 := by unfold maxLen at hs; omega
    clear hc hb hs hcut
    go_enter Tryz.func129, Tryz.ntmps129
    go_wp2_with (first
      | (go_at_call 135; (with_reducible refine HT.out.mono ?_); rintro e w2 ⟨rfl, rfl⟩)
      | (go_at_call 131; (with_reducible refine (HN.out _).mono ?_); rintro e w3 ⟨rfl, rfl⟩))
    go_ret
    exact ⟨by rw [← HCut.out]; rfl, rfl⟩
theorem refK_text (x : Kd) : (Lib.hasPrefix (kdText x) [76] || Lib.hasPrefix (kdText x) [91]) = refK x := by
  cases x with
  | n => rfl
  | t => rfl
  | ty y => cases y <;> rfl
theorem refs_any (k : Str) (x : Kd) (w : World) (h : kdText x = lst k) : Calls Tryz.prog 151 #[.string k] w fun e w' => e = .returned (.bool (refK x)) ∧ w = w' := by
  have H1 := Lib.hid (hasPrefix_any k ⟨#[76]⟩ w)
  have H2 := Lib.hid (hasPrefix_any k ⟨#[91]⟩ w)
  rw [show k.data.toList = kdText x from h.symm] at H1 H2
  have hr : Hid ((Lib.hasPrefix (kdText x) [76] || Lib.hasPrefix (kdText x) [91]) = refK x) := refK_text x
  simp only at H1 H2
  generalize Lib.hasPrefix (kdText x) [76] = a at *
  generalize Lib.hasPrefix (kdText x) [91] = b at *
  clear h
  cases a <;> cases b
  all_goals
    go_enter Tryz.func151, Tryz.ntmps151
    go_wp2_with (first
      | (go_at_call 145; (with_reducible refine H1.out.mono ?_); rintro e w2 ⟨rfl, rfl⟩)
      | (go_at_call 145; (with_reducible refine H2.out.mono ?_); rintro e w3 ⟨rfl, rfl⟩))
    go_ret
    exact ⟨by rw [← hr.out]; rfl, rfl⟩
def sThing : Str := ⟨#[76, 79, 98, 106, 101, 99, 116, 59]⟩
theorem thing_object (w : World) : Calls Tryz.prog 142 #[.string ⟨#[79, 98, 106, 101, 99, 116]⟩] w fun e w' => e = .returned (.string sThing) ∧ w = w' := by
  go_enter Tryz.func142, Tryz.ntmps142
  go_wp2
  go_ret
  exact ⟨rfl, rfl⟩
theorem base_le : ∀ x : Ty, (baseOf x).length ≤ (tyText x).length
  | .i => Nat.zero_le _
  | .j => Nat.zero_le _
  | .cl c => by simp [baseOf, tyText]; omega
  | .ar x => Nat.le_trans (base_le x) (by simp [tyText])
theorem kd_is {k : Str} {x : Kd} (h : kdText x = lst k) (z : Kd) : (k.toList == kdText z) = decide (x = z) := by
  rw [ByteArray.toList_eq, show k.data.toList = kdText x from h.symm, Bool.eq_iff_iff, beq_iff_eq, decide_eq_true_eq]
  exact ⟨kdText_inj, fun h => by rw [h]⟩
theorem kd_same {k m : Str} {x y : Kd} (h : kdText x = lst k) (g : kdText y = lst m) : (k.toList == m.toList) = decide (x = y) := by
  have := kd_is h y
  rwa [show kdText y = m.toList from by rw [g, ByteArray.toList_eq]] at this
set_option maxHeartbeats 1000000 in
set_option maxRecDepth 100000 in
theorem kind_any (w0 w : World) (B : Nat) (cs : List Class) (hm : ClassMap w0 w B cs) (hn : (cs.map (·.name)).Nodup) (k : Str) (hs : k.size ≤ maxLen) :
    Calls Tryz.prog 91 #[.map (some B), .string k] w fun e w' => e = .returned (errV (kindR cs k)) ∧ Below w.heap.size w w' := by
  by_cases h1 : lst k = [78] ∨ lst k = [84]
  · have hr : kindR cs k = 0 := by unfold kindR; rw [if_pos h1]
    rw [hr]
    have hk1 : (k.toList == [78]) = decide (lst k = [78]) := by rw [ByteArray.toList_eq, Bool.eq_iff_iff]; simp
    have hk2 : (k.toList == [84]) = decide (lst k = [84]) := by rw [ByteArray.toList_eq, Bool.eq_iff_iff]; simp
    clear hm hn hr
    rcases h1 with h1 | h1
    · rw [decide_eq_true h1] at hk1
      clear hk2 h1
      go_enter Tryz.func91, Tryz.ntmps91
      go_wp2
      go_ret
      exact ⟨rfl, Below.refl _ _⟩
    · rw [decide_eq_true h1] at hk2
      rw [decide_eq_false (by rw [h1]; decide)] at hk1
      clear h1
      go_enter Tryz.func91, Tryz.ntmps91
      go_wp2
      go_ret
      exact ⟨rfl, Below.refl _ _⟩
  · have hk1 : (k.toList == [78]) = false := by rw [ByteArray.toList_eq]; simpa using fun h => h1 (Or.inl h)
    have hk2 : (k.toList == [84]) = false := by rw [ByteArray.toList_eq]; simpa using fun h => h1 (Or.inr h)
    have HD := Lib.hid (descCheck_any k w hs)
    rw [errV_type] at HD
    have HK : Hid (kindR cs k = if !typeB (lst k) then 1 else if (classIn (lst k)).isEmpty then 0 else if (findC cs (str (classIn (lst k)))).isSome then 0 else 3) := by unfold Hid kindR; rw [if_neg h1]
    clear h1
    cases ht : typeB (lst k) with
    | false =>
      rw [ht] at HD HK
      have hr : kindR cs k = 1 := HK.out
      rw [hr, show errV 1 = .iface 29 (.int .i64 1) from rfl]
      replace HD : Hid (Calls Tryz.prog 53 #[.string k] w fun e w' => e = .returned (.iface 29 (.int .i64 1)) ∧ Below w.heap.size w w') := HD
      clear HK hr ht hm hn hs
      go_enter Tryz.func91, Tryz.ntmps91
      go_wp2_with (go_at_call 53; (with_reducible refine HD.out.mono ?_); rintro e w2 ⟨rfl, hB2⟩)
      go_ret
      exact ⟨rfl, hB2⟩
    | true =>
      rw [ht] at HD HK
      replace HD : Hid (Calls Tryz.prog 53 #[.string k] w fun e w' => e = .returned .nilIface ∧ Below w.heap.size w w') := HD
      obtain ⟨x, h3, h4, _⟩ := typeB_ty (lst k) ht
      rw [h4] at HK
      replace HK : Hid (kindR cs k = if (baseOf x).isEmpty then 0 else if (findC cs (str (baseOf x))).isSome then 0 else 3) := HK
      have HC : Hid (∀ wx, _) := fun wx => descClass_any k x wx h3 hs
      have hbs : (str (baseOf x)).size ≤ maxLen := by
        have := base_le x
        rw [h3] at this
        exact Nat.le_trans this hs
      have hbe : (str (baseOf x)).toList.isEmpty = (baseOf x).isEmpty := by rw [ByteArray.toList_eq]; rfl
      obtain ⟨p1, k1, p2, k2, p3, k3, _, _, _, hlk⟩ := hm.look3 hn (str (baseOf x)) hbs
      have HL := Lib.hid hlk
      clear hlk hm hn hs h3 h4 ht hbs
      generalize (findC cs (str (baseOf x))).isSome = is at *
      generalize (findC cs (str (baseOf x))).getD noClass = d at *
      generalize str (baseOf x) = b at *
      generalize (baseOf x).isEmpty = em at *
      obtain ⟨n2, s2, f2, b2, d2, m2⟩ := d
      unfold classV at HL
      dsimp only at HL
      cases em with
      | true =>
        have hr : kindR cs k = 0 := HK.out
        rw [hr, show errV 0 = .nilIface from rfl]
        clear HK hr HL
        go_enter Tryz.func91, Tryz.ntmps91
        go_wp2_with (first
          | (go_at_call 53; (with_reducible refine HD.out.mono ?_); rintro e w2 ⟨rfl, hB2⟩)
          | (go_at_call 129; (with_reducible refine (HC.out _).mono ?_); rintro e w3 ⟨rfl, rfl⟩))
        go_ret
        exact ⟨rfl, hB2⟩
      | false =>
        cases is with
        | true =>
          have hr : kindR cs k = 0 := HK.out
          rw [hr, show errV 0 = .nilIface from rfl]
          clear HK hr
          go_enter Tryz.func91, Tryz.ntmps91
          go_upto_region 8 with (first
            | (go_at_call 53; (with_reducible refine HD.out.mono ?_); rintro e w2 ⟨rfl, hB2⟩)
            | (go_at_call 129; (with_reducible refine (HC.out _).mono ?_); rintro e w3 ⟨rfl, rfl⟩))
          have hl2 := (HL.out _ hB2).1
          go_wp2_with (first | fail)
          go_ret
          exact ⟨rfl, hB2.alloc hB2.size _⟩
        | false =>
          have hr : kindR cs k = 3 := HK.out
          rw [hr, show errV 3 = .iface 29 (.int .i64 3) from rfl]
          clear HK hr
          go_enter Tryz.func91, Tryz.ntmps91
          go_upto_region 8 with (first
            | (go_at_call 53; (with_reducible refine HD.out.mono ?_); rintro e w2 ⟨rfl, hB2⟩)
            | (go_at_call 129; (with_reducible refine (HC.out _).mono ?_); rintro e w3 ⟨rfl, rfl⟩))
          have hl2 := (HL.out _ hB2).1
          go_wp2_with (first | fail)
          go_ret
          exact ⟨rfl, hB2.alloc hB2.size _⟩
def headL : Ty → Bool
  | .cl _ => true
  | _ => false
theorem kd_first {k : Str} {x : Ty} (h : tyText x = lst k) : ∃ hp : 0 < k.size, (((k[0]'hp).toNat : Int) == 76) = headL x := by
  have hp : 0 < k.size := by
    have h1 : (lst k).length = k.size := rfl
    rw [← h] at h1
    have := List.length_pos_iff.2 (tyText_ne x)
    omega
  refine ⟨hp, ?_⟩
  have hk : k[0]'hp = (lst k)[0]'(by have h1 : (lst k).length = k.size := rfl; omega) := rfl
  have h0 : (lst k)[0]? = (tyText x)[0]? := by rw [h]
  rw [hk]
  have h2 : (lst k)[0]? = some ((lst k)[0]'(by have h1 : (lst k).length = k.size := rfl; omega)) := List.getElem?_eq_getElem _
  rw [h2] at h0
  generalize (lst k)[0]'(by have h1 : (lst k).length = k.size := rfl; omega) = b at *
  cases x with
  | i => simp [tyText] at h0; subst h0; rfl
  | j => simp [tyText] at h0; subst h0; rfl
  | cl c => simp [tyText] at h0; subst h0; rfl
  | ar y => simp [tyText] at h0; subst h0; rfl
theorem fits_triv {l : List Class} (hr : Right l) {x y : Kd} (hx : goodKd (allC l) x = true) (h : y = .t ∨ x = y ∨ (x = .n ∧ refK y = true)) : fitsKd (allC l) x y = true := by
  rcases h with rfl | rfl | ⟨rfl, h⟩
  · cases x <;> rfl
  · exact fits_refl hr x hx
  · cases y with
    | n => rfl
    | t => rfl
    | ty z => exact h
theorem fits_word {cs : List Class} {x y : Kd} (h1 : y ≠ .t) (h2 : x ≠ y) (h3 : ¬ (x = .n ∧ refK y = true)) (h : refK x = false ∨ refK y = false) : fitsKd cs x y = false := by
  cases y with
  | t => exact absurd rfl h1
  | n => cases x with
    | n => exact absurd rfl h2
    | t => rfl
    | ty _ => rfl
  | ty z => cases x with
    | n =>
      cases hz : isRef z with
      | true => exact absurd ⟨rfl, hz⟩ h3
      | false => exact hz
    | t => rfl
    | ty u =>
      show fitsTy cs u z = false
      rw [fitsTy_word h]
      exact decide_eq_false fun he => h2 (by rw [he])
set_option maxHeartbeats 1000000 in
set_option maxRecDepth 100000 in
theorem does_plain (w0 w : World) (B : Nat) (l : List Class) (hm : WorldMap w0 w B l) (a b : Str) (x y : Kd) (ha : kdText x = lst a) (hb : kdText y = lst b) (hx : goodKd (allC l) x = true)
    (h : (y = .t ∨ x = y ∨ (x = .n ∧ refK y = true)) ∨ (refK x = false ∨ refK y = false)) :
    Calls Tryz.prog 185 #[.map (some B), .string a, .string b] w fun e w' => e = .returned (.bool (fitsKd (allC l) x y)) ∧ w = w' := by
  have hT := kd_is hb .t
  have hE := kd_same ha hb
  have hN := kd_is ha .n
  have HA : Hid (∀ wx, _) := fun wx => refs_any a x wx ha
  have HB : Hid (∀ wx, _) := fun wx => refs_any b y wx hb
  simp only [kdText] at hT hN
  by_cases h0 : y = .t ∨ x = y ∨ (x = .n ∧ refK y = true)
  · rw [fits_triv hm.right hx h0]
    obtain ⟨eT, hT2⟩ : ∃ e, decide (y = Kd.t) = e := ⟨_, rfl⟩
    obtain ⟨eE, hE2⟩ : ∃ e, decide (x = y) = e := ⟨_, rfl⟩
    obtain ⟨eN, hN2⟩ : ∃ e, decide (x = Kd.n) = e := ⟨_, rfl⟩
    have hor : (eT || eE || (eN && refK y)) = true := by
      rw [← hT2, ← hE2, ← hN2]
      rcases h0 with h0 | h0 | ⟨h0, h1⟩ <;> simp [*]
    rw [hT2] at hT
    rw [hE2] at hE
    rw [hN2] at hN
    clear hT2 hE2 hN2 h0 h hm ha hb hx
    generalize refK x = rx at *
    generalize refK y = ry at *
    cases eT <;> cases eE <;> cases eN <;> cases ry <;> first | (exact absurd hor (by decide)) | skip
    all_goals
      clear hor
      go_enter Tryz.func185, Tryz.ntmps185
      go_wp2_with (go_at_call 151; (with_reducible refine (HB.out _).mono ?_); rintro e w3 ⟨rfl, rfl⟩)
      go_ret
      exact ⟨rfl, rfl⟩
  · have h1 : y ≠ .t := fun h => h0 (Or.inl h)
    have h2 : x ≠ y := fun h => h0 (Or.inr (Or.inl h))
    have h3 : ¬ (x = .n ∧ refK y = true) := fun h => h0 (Or.inr (Or.inr h))
    have hw : refK x = false ∨ refK y = false := by
      rcases h with h | h
      · exact absurd h h0
      · exact h
    rw [fits_word h1 h2 h3 hw]
    rw [decide_eq_false h1] at hT
    rw [decide_eq_false h2] at hE
    obtain ⟨eN, hN2⟩ : ∃ e, decide (x = Kd.n) = e := ⟨_, rfl⟩
    have hor : (eN && refK y) = false := by
      rw [← hN2]
      cases hr : refK y with
      | false => simp
      | true => simp; exact fun h => h3 ⟨h, hr⟩
    have hor2 : (refK x && refK y) = false := by
      rcases hw with h | h <;> simp [h]
    rw [hN2] at hN
    clear hN2 h0 h hm ha hb hx h1 h2 h3 hw
    generalize refK x = rx at *
    generalize refK y = ry at *
    cases eN <;> cases rx <;> cases ry <;> first | (exact absurd hor (by decide)) | (exact absurd hor2 (by decide)) | skip
    all_goals
      clear hor hor2
      go_enter Tryz.func185, Tryz.ntmps185
      go_wp2_with (first
        | (go_at_call 151; (with_reducible refine (HA.out _).mono ?_); rintro e w3 ⟨rfl, rfl⟩)
        | (go_at_call 151; (with_reducible refine (HB.out _).mono ?_); rintro e w3 ⟨rfl, rfl⟩))
      go_ret
      exact ⟨rfl, rfl⟩
theorem tail_text {k : Str} {x : Ty} (h : tyText (.ar x) = lst k) : tyText x = lst (k.extract 1 k.size) ∧ (k.extract 1 k.size).size ≤ k.size ∧ 1 ≤ k.size := by
  have h1 : lst (k.extract 1 k.size) = (lst k).drop 1 := by
    unfold lst
    exact (Lib.extract_to_end k 1).symm ▸ rfl
  refine ⟨by rw [h1, ← h]; rfl, by rw [ByteArray.size_extract]; omega, ?_⟩
  have h2 : (lst k).length = k.size := rfl
  rw [← h2, ← h]; simp [tyText]
theorem str_lst (c : Str) : str (lst c) = c := rfl
set_option maxHeartbeats 2000000 in
set_option maxRecDepth 100000 in
theorem does_ty (w0 : World) (B : Nat) (l : List Class) : ∀ (x : Ty) (w : World) (a b : Str) (y : Ty), WorldMap w0 w B l → tyText x = lst a → tyText y = lst b → goodTy (allC l) x = true → a.size ≤ maxLen → b.size ≤ maxLen →
    Calls Tryz.prog 185 #[.map (some B), .string a, .string b] w fun e w' => e = .returned (.bool (fitsTy (allC l) x y)) ∧ Below w.heap.size w w' := by
  have plain : ∀ (x : Ty) (w : World) (a b : Str) (y : Ty), WorldMap w0 w B l → tyText x = lst a → tyText y = lst b → goodTy (allC l) x = true → (x = y ∨ isRef x = false ∨ isRef y = false) →
      Calls Tryz.prog 185 #[.map (some B), .string a, .string b] w fun e w' => e = .returned (.bool (fitsTy (allC l) x y)) ∧ Below w.heap.size w w' := fun x w a b y hm ha hb hx h =>
    (does_plain w0 w B l hm a b (.ty x) (.ty y) ha hb hx (by
      rcases h with h | h
      · exact Or.inl (Or.inr (Or.inl (by rw [h])))
      · exact Or.inr h)).mono fun e w' ⟨h1, h2⟩ => ⟨h1, h2 ▸ Below.refl _ _⟩
  intro x
  induction x with
  | i => intro w a b y hm ha hb hx _ _; exact plain _ w a b y hm ha hb hx (Or.inr (Or.inl rfl))
  | j => intro w a b y hm ha hb hx _ _; exact plain _ w a b y hm ha hb hx (Or.inr (Or.inl rfl))
  | cl c =>
    intro w a b y hm ha hb hx hsa hsb
    by_cases he : Ty.cl c = y ∨ isRef y = false
    · exact plain _ w a b y hm ha hb hx (by rcases he with he | he; exact Or.inl he; exact Or.inr (Or.inr he))
    · have hne : Ty.cl c ≠ y := fun h => he (Or.inl h)
      have hT := kd_is (x := .ty y) hb .t
      have hE := kd_same (x := .ty (.cl c)) (y := .ty y) ha hb
      have hN := kd_is (x := .ty (.cl c)) ha .n
      simp only [kdText] at hT hN
      rw [decide_eq_false (by intro h; cases h)] at hT hN
      rw [decide_eq_false (by intro h; injection h with h; exact hne h)] at hE
      have HA : Hid (∀ wx, _) := fun wx => refs_any a (.ty (.cl c)) wx ha
      have HB : Hid (∀ wx, _) := fun wx => refs_any b (.ty y) wx hb
      have HCa : Hid (∀ wx, _) := fun wx => descClass_any a (.cl c) wx ha hsa
      have HCb : Hid (∀ wx, _) := fun wx => descClass_any b y wx hb hsb
      obtain ⟨hpa, fa⟩ := kd_first ha
      obtain ⟨hpb, fb⟩ := kd_first hb
      have HEv := Lib.hid (every_any w0 w B (allC l) hm.map hm.right.nodup hm.faces hm.right.small hm.right.closed c hx)
      have HCon : Hid (∀ d v wx, StrsAt wx v (sortS (everyC (allC l) c)) → _) := fun d v wx h => contains_any (sortS (everyC (allC l) c)) v d wx h
      simp only [refK, isRef, baseOf, str_lst, headL] at HA HCa fa
      clear hm ha hx hsa hne
      cases y with
      | i => exact absurd (Or.inr rfl) he
      | j => exact absurd (Or.inr rfl) he
      | cl d =>
        simp only [refK, isRef, baseOf, str_lst, headL] at HB HCb fb
        have HC2 := Lib.hid (HCon.out d)
        rw [memB_sort] at HC2
        show Calls _ _ _ _ fun e w' => e = .returned (.bool (memB (everyC (allC l) c) d)) ∧ Below w.heap.size w w'
        generalize memB (everyC (allC l) c) d = r at *
        clear he HCon hb hsb
        go_enter Tryz.func185, Tryz.ntmps185
        go_wp2_with (first
          | (go_at_call 151; (with_reducible refine (HA.out _).mono ?_); rintro e w3 ⟨rfl, rfl⟩)
          | (go_at_call 151; (with_reducible refine (HB.out _).mono ?_); rintro e w3 ⟨rfl, rfl⟩)
          | (go_at_call 129; (with_reducible refine (HCa.out _).mono ?_); rintro e w3 ⟨rfl, rfl⟩)
          | (go_at_call 129; (with_reducible refine (HCb.out _).mono ?_); rintro e w3 ⟨rfl, rfl⟩)
          | (go_at_call 127; (with_reducible refine HEv.out.mono ?_); rintro e w4 ⟨⟨v, rfl, hv⟩, hB4⟩)
          | (go_at_call 119; (with_reducible refine (HC2.out _ _ hv).mono ?_); rintro e w5 ⟨rfl, rfl⟩))
        go_ret
        exact ⟨rfl, hB4⟩
      | ar z =>
        simp only [refK, isRef, headL] at HB fb
        clear he HCon HCa HCb HEv hb hsb
        go_enter Tryz.func185, Tryz.ntmps185
        go_wp2_with (first
          | (go_at_call 151; (with_reducible refine (HA.out _).mono ?_); rintro e w3 ⟨rfl, rfl⟩)
          | (go_at_call 151; (with_reducible refine (HB.out _).mono ?_); rintro e w3 ⟨rfl, rfl⟩))
        go_ret
        exact ⟨rfl, Below.refl _ _⟩
  | ar u ih =>
    intro w a b y hm ha hb hx hsa hsb
    by_cases he : Ty.ar u = y ∨ isRef y = false
    · exact plain _ w a b y hm ha hb hx (by rcases he with he | he; exact Or.inl he; exact Or.inr (Or.inr he))
    · have hne : Ty.ar u ≠ y := fun h => he (Or.inl h)
      have hT := kd_is (x := .ty y) hb .t
      have hE := kd_same (x := .ty (.ar u)) (y := .ty y) ha hb
      have hN := kd_is (x := .ty (.ar u)) ha .n
      simp only [kdText] at hT hN
      rw [decide_eq_false (by intro h; cases h)] at hT hN
      rw [decide_eq_false (by intro h; injection h with h; exact hne h)] at hE
      have HA : Hid (∀ wx, _) := fun wx => refs_any a (.ty (.ar u)) wx ha
      have HB : Hid (∀ wx, _) := fun wx => refs_any b (.ty y) wx hb
      obtain ⟨hpa, fa⟩ := kd_first ha
      obtain ⟨hpb, fb⟩ := kd_first hb
      simp only [refK, isRef, headL] at HA fa
      cases y with
      | i => exact absurd (Or.inr rfl) he
      | j => exact absurd (Or.inr rfl) he
      | cl d =>
        have hO := kd_is (x := .ty (.cl d)) hb (.ty (.cl sObject))
        rw [show kdText (.ty (.cl sObject)) = sThing.toList by rw [ByteArray.toList_eq]; rfl] at hO
        have HTh : Hid (∀ wx, _) := fun wx => thing_object wx
        simp only [refK, isRef, headL] at HB fb
        show Calls _ _ _ _ fun e w' => e = .returned (.bool (decide (d = sObject))) ∧ Below w.heap.size w w'
        rw [show decide (Kd.ty (.cl d) = .ty (.cl sObject)) = decide (d = sObject) by rw [Bool.eq_iff_iff]; simp] at hO
        generalize decide (d = sObject) = r at *
        clear he hm ha hb hx hsa hsb hne ih
        go_enter Tryz.func185, Tryz.ntmps185
        go_wp2_with (first
          | (go_at_call 151; (with_reducible refine (HA.out _).mono ?_); rintro e w3 ⟨rfl, rfl⟩)
          | (go_at_call 151; (with_reducible refine (HB.out _).mono ?_); rintro e w3 ⟨rfl, rfl⟩)
          | (go_at_call 142; (with_reducible refine (HTh.out _).mono ?_); rintro e w3 ⟨rfl, rfl⟩))
        go_ret
        exact ⟨rfl, Below.refl _ _⟩
      | ar v =>
        simp only [refK, isRef, headL] at HB fb
        obtain ⟨ta, tas, hsz1⟩ := tail_text ha
        obtain ⟨tb, tbs, hsz2⟩ := tail_text hb
        have HA2 : Hid (∀ wx, _) := fun wx => refs_any (a.extract 1 a.size) (.ty u) wx ta
        have HB2 : Hid (∀ wx, _) := fun wx => refs_any (b.extract 1 b.size) (.ty v) wx tb
        have HI : Hid (∀ wx, Below w.heap.size w wx → _) := fun wx hb => ih wx (a.extract 1 a.size) (b.extract 1 b.size) v (hm.step hb) ta tb hx (Nat.le_trans tas hsa) (Nat.le_trans tbs hsb)
        have hw : Hid (isRef u = false ∨ isRef v = false → fitsTy (allC l) u v = false) := fun h => by
          rw [fitsTy_word h]
          exact decide_eq_false fun he => hne (by rw [he])
        simp only [refK] at HA2 HB2
        show Calls _ _ _ _ fun e w' => e = .returned (.bool (fitsTy (allC l) u v)) ∧ Below w.heap.size w w'
        clear he hm ha hb hx hsa hsb hne ih ta tas tb tbs
        generalize isRef u = ru at *
        generalize isRef v = rv at *
        generalize fitsTy (allC l) u v = r at *
        generalize hxa : a.extract 1 a.size = a1 at *
        generalize hxb : b.extract 1 b.size = b1 at *
        have hrf : Hid ((ru && rv) = false → r = false) := fun h => hw.out (by cases ru <;> cases rv <;> simp at *)
        clear hw
        cases ru <;> cases rv
        all_goals
          go_enter Tryz.func185, Tryz.ntmps185
          go_upto_region 9 with (first
            | (go_at_call 151; (with_reducible refine (HA.out _).mono ?_); rintro e w3 ⟨rfl, rfl⟩)
            | (go_at_call 151; (with_reducible refine (HB.out _).mono ?_); rintro e w3 ⟨rfl, rfl⟩))
          go_quiet (fail)
          go_wp2_with (first
            | (go_at_call 151; (with_reducible refine (HA2.out _).mono ?_); rintro e w3 ⟨rfl, rfl⟩)
            | (go_at_call 151; (with_reducible refine (HB2.out _).mono ?_); rintro e w3 ⟨rfl, rfl⟩)
            | (go_at_call 185; (with_reducible refine (HI.out _ (below_drewN (Below.refl _ _) _)).mono ?_); rintro e w4 ⟨rfl, hB4⟩))
          go_ret
          first
            | exact ⟨rfl, below_call (below_drewN (Below.refl _ _) _) (Nat.le_refl _) hB4⟩
            | exact ⟨by rw [hrf.out rfl]; rfl, below_drewN (Below.refl _ _) _⟩
theorem does_any (w0 w : World) (B : Nat) (l : List Class) (hm : WorldMap w0 w B l) (a b : Str) (x y : Kd) (ha : IsKd (allC l) a x) (hb : IsKd (allC l) b y) (hsa : a.size ≤ maxLen) (hsb : b.size ≤ maxLen) :
    Calls Tryz.prog 185 #[.map (some B), .string a, .string b] w fun e w' => e = .returned (.bool (fitsKd (allC l) x y)) ∧ Below w.heap.size w w' := by
  have plain : (y = .t ∨ x = y ∨ (x = .n ∧ refK y = true)) ∨ (refK x = false ∨ refK y = false) → Calls Tryz.prog 185 #[.map (some B), .string a, .string b] w fun e w' => e = .returned (.bool (fitsKd (allC l) x y)) ∧ Below w.heap.size w w' := fun h =>
    (does_plain w0 w B l hm a b x y ha.1 hb.1 ha.2 h).mono fun e w' ⟨h1, h2⟩ => ⟨h1, h2 ▸ Below.refl _ _⟩
  cases x with
  | n => exact plain (Or.inr (Or.inl rfl))
  | t => exact plain (Or.inr (Or.inl rfl))
  | ty u =>
    cases y with
    | n => exact plain (Or.inr (Or.inr rfl))
    | t => exact plain (Or.inl (Or.inl rfl))
    | ty v => exact does_ty w0 B l u w a b v hm ha.1 hb.1 ha.2 hsa hsb
def thText (c : Str) : Str := (⟨#[76]⟩ ++ c) ++ ⟨#[59]⟩
theorem lst_th (c : Str) : lst (thText c) = tyText (.cl c) := by
  unfold thText lst
  rw [ByteArray.data_append, ByteArray.data_append, Array.toList_append, Array.toList_append]; rfl
theorem th_size (c : Str) : (thText c).size = c.size + 2 := by
  unfold thText
  rw [ByteArray.size_append, ByteArray.size_append]
  show 1 + c.size + 1 = _; omega
theorem thing_any (c : Str) (w : World) (hs : c.size ≤ 4194304) : Calls Tryz.prog 142 #[.string c] w fun e w' => e = .returned (.string (thText c)) ∧ w = w' := by
  have hs2 : (⟨#[76]⟩ ++ c : ByteArray).size ≤ 4194305 := by rw [ByteArray.size_append]; show 1 + c.size ≤ _; omega
  go_enter Tryz.func142, Tryz.ntmps142
  go_wp2
  go_ret
  exact ⟨rfl, rfl⟩
theorem class_name20 {l : List Class} (hf : ∀ c ∈ l, classFault c = 0) {x : Str} (hx : (findC (allC l) x).isSome = true) : x.size ≤ 20 := by
  obtain ⟨c, hc, rfl⟩ := findC_mem hx
  unfold allC at hc
  rcases List.mem_cons.1 hc with rfl | hc
  · decide
  · rcases List.mem_cons.1 hc with rfl | hc
    · decide
    · have h := hf c hc
      unfold classFault at h
      split at h
      · cases h
      · rename_i h1
        rw [Bool.not_eq_true, Bool.or_eq_false_iff, Bool.not_eq_false'] at h1
        have h2 := h1.1
        unfold nameB at h2
        split at h2
        · cases h2
        · rw [Bool.and_eq_true, Bool.and_eq_true] at h2
          exact of_decide_eq_true h2.1.1
end Go.Proofs.YtlmfmioljeppfaaGreatDoor
