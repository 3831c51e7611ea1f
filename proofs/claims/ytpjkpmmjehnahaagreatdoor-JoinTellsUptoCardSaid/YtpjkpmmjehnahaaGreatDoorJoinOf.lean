/-
  WALKS over sub.Thing, join.Of, Join, Below. Conditions: a right world, kinds that are there; texts of at most 4194304 signs.
-/
import Derived.Test.YtpjkpmmjehnahaaGreatDoorJoin
namespace Go.Proofs.YtpjkpmmjehnahaaGreatDoor
open Go.RowKit Go.Shelf Go.Lib
/-- the text of a class's type -/
def thText (c : Str) : Str := (⟨#[76]⟩ ++ c) ++ ⟨#[59]⟩
theorem lst_th (c : Str) : lst (thText c) = tyText (.cl c) := by
  unfold thText lst
  rw [ByteArray.data_append, ByteArray.data_append, Array.toList_append, Array.toList_append]; rfl
theorem th_size (c : Str) : (thText c).size = c.size + 2 := by
  unfold thText
  rw [ByteArray.size_append, ByteArray.size_append]
  show 1 + c.size + 1 = _; omega
theorem thing_any (c : Str) (w : World) (hs : c.size ≤ 4194304) : Calls Tryz.prog 95 #[.string c] w fun e w' => e = .returned (.string (thText c)) ∧ w = w' := by
  have hs2 : (⟨#[76]⟩ ++ c : ByteArray).size ≤ 4194305 := by rw [ByteArray.size_append]; show 1 + c.size ≤ _; omega
  go_enter Tryz.func95, Tryz.ntmps95
  go_wp2
  go_ret
  exact ⟨rfl, rfl⟩
theorem class_name20 {l : List Class} (hf : ∀ c ∈ l, classFault c = 0) {x : Str} (hx : (findC (allC l) x).isSome = true) : x.size ≤ 20 := by
  obtain ⟨c, hc, rfl⟩ := findC_mem hx
  unfold allC at hc
  rcases List.mem_cons.1 hc with rfl | hc
  · decide
  · rcases List.mem_cons.1 hc with rfl | hc
    · decide
    · have h := hf c hc
      unfold classFault at h
      split at h
      · cases h
      · rename_i h1
        rw [Bool.not_eq_true, Bool.or_eq_false_iff, Bool.not_eq_false'] at h1
        have h2 := h1.1
        unfold nameB at h2
        split at h2
        · cases h2
        · rw [Bool.and_eq_true, Bool.and_eq_true] at h2
          exact of_decide_eq_true h2.1.1
def headA : Ty → Bool
  | .ar _ => true
  | _ => false
theorem kd_arr {k : Str} {x : Ty} (h : tyText x = lst k) (hp : 0 < k.size) : (((k[0]'hp).toNat : Int) == 91) = headA x := by
  have hk : k[0]'hp = (lst k)[0]'(by have h1 : (lst k).length = k.size := rfl; omega) := rfl
  have h0 : (lst k)[0]? = (tyText x)[0]? := by rw [h]
  rw [hk]
  have h2 : (lst k)[0]? = some ((lst k)[0]'(by have h1 : (lst k).length = k.size := rfl; omega)) := List.getElem?_eq_getElem _
  rw [h2] at h0
  generalize (lst k)[0]'(by have h1 : (lst k).length = k.size := rfl; omega) = b at *
  cases x with
  | i => simp [tyText] at h0; subst h0; rfl
  | j => simp [tyText] at h0; subst h0; rfl
  | cl c => simp [tyText] at h0; subst h0; rfl
  | ar y => simp [tyText] at h0; subst h0; rfl
def OfPost (w : World) (cs : List Class) (x y : Kd) (n : Nat) (e : Ending) (w' : World) : Prop :=
  (∃ z, e = .returned (.string z) ∧ kdText (joinKd cs x y) = lst z ∧ z.size ≤ n) ∧ Below w.heap.size w w'
theorem of_text {cs : List Class} (T : Tree cs) (ho : (findC cs sObject).isSome = true) {a b : Str} {x y : Kd} (ha : kdText x = lst a) (hb : kdText y = lst b) (hx : goodKd cs x = true)
    (h : x = y ∨ (x = .n ∧ refK y = true) ∨ (y = .n ∧ refK x = true) ∨ (refK x = false ∨ refK y = false)) :
    kdText (joinKd cs x y) = lst (if decide (x = y) then a else if decide (x = .n) && refK y then b else if decide (y = .n) && refK x then a else ⟨#[84]⟩) := by
  by_cases h1 : x = y
  · subst h1
    rw [decide_eq_true rfl, if_pos rfl, join_idem T ho hx]; exact ha
  · rw [decide_eq_false h1, if_neg (by decide)]
    by_cases h2 : x = .n ∧ refK y = true
    · obtain ⟨rfl, h2⟩ := h2
      rw [h2, if_pos (by decide)]
      cases y with
      | n => cases h2
      | t => cases h2
      | ty z => rw [joinKd_nt, if_pos (show isRef z = true from h2)]; exact hb
    · have e2 : (decide (x = .n) && refK y) = false := by
        rw [Bool.and_eq_false_iff]
        by_cases hn : x = .n
        · exact Or.inr (by cases hr : refK y with | false => rfl | true => exact absurd ⟨hn, hr⟩ h2)
        · exact Or.inl (decide_eq_false hn)
      rw [e2, if_neg (by decide)]
      by_cases h3 : y = .n ∧ refK x = true
      · obtain ⟨rfl, h3⟩ := h3
        rw [h3, if_pos (by decide)]
        cases x with
        | n => cases h3
        | t => cases h3
        | ty z => rw [joinKd_tn, if_pos (show isRef z = true from h3)]; exact ha
      · have e3 : (decide (y = .n) && refK x) = false := by
          rw [Bool.and_eq_false_iff]
          by_cases hn : y = .n
          · exact Or.inr (by cases hr : refK x with | false => rfl | true => exact absurd ⟨hn, hr⟩ h3)
          · exact Or.inl (decide_eq_false hn)
        rw [e3, if_neg (by decide)]
        have h4 : refK x = false ∨ refK y = false := by
          rcases h with h | h | h | h
          · exact absurd h h1
          · exact absurd h h2
          · exact absurd h h3
          · exact h
        rw [join_word h1 h2 h3 h4]; rfl
set_option maxHeartbeats 4000000 in
set_option maxRecDepth 100000 in
theorem of_plain (w0 w : World) (B : Nat) (l : List Class) (hm : WorldMap w0 w B l) (a b : Str) (x y : Kd) (ha : kdText x = lst a) (hb : kdText y = lst b) (hx : goodKd (allC l) x = true)
    (h : x = y ∨ (x = .n ∧ refK y = true) ∨ (y = .n ∧ refK x = true) ∨ (refK x = false ∨ refK y = false)) :
    Calls Tryz.prog 76 #[.map (some B), .string a, .string b] w (OfPost w (allC l) x y (30 + a.size + b.size)) := by
  have hE := kd_same ha hb
  have hN := kd_is ha .n
  have hM := kd_is hb .n
  have HA : Hid (∀ wx, _) := fun wx => refs_any a x wx ha
  have HB : Hid (∀ wx, _) := fun wx => refs_any b y wx hb
  have hT := of_text hm.right.tree (object_known l) ha hb hx h
  unfold OfPost
  simp only [kdText] at hN hM
  generalize joinKd (allC l) x y = r at *
  have hor : (decide (x = y) || (decide (x = .n) && refK y) || (decide (y = .n) && refK x) || !(refK x) || !(refK y)) = true := by
    rcases h with h | ⟨h, g⟩ | ⟨h, g⟩ | h | h <;> simp [*]
  clear hm ha hb hx h
  generalize decide (x = y) = eE at *
  generalize decide (x = .n) = eN at *
  generalize decide (y = .n) = eM at *
  generalize refK x = rx at *
  generalize refK y = ry at *
  cases eE <;> cases eN <;> cases eM <;> cases rx <;> cases ry <;> first | (exact absurd hor (by decide)) | skip
  all_goals
    clear hor
    simp only [if_true, if_false, Bool.and_true, Bool.and_false, Bool.false_eq_true] at hT
    have HT := Lib.hid hT
    clear hT
    go_enter Tryz.func76, Tryz.ntmps76
    go_wp2_with (first
      | (go_at_call 93; (with_reducible refine (HA.out _).mono ?_); rintro e w3 ⟨rfl, rfl⟩)
      | (go_at_call 93; (with_reducible refine (HB.out _).mono ?_); rintro e w3 ⟨rfl, rfl⟩))
    go_ret
    first
      | exact ⟨⟨a, rfl, HT.out, by omega⟩, Below.refl _ _⟩
      | exact ⟨⟨b, rfl, HT.out, by omega⟩, Below.refl _ _⟩
      | exact ⟨⟨⟨#[84]⟩, rfl, HT.out, by show 1 ≤ _; omega⟩, Below.refl _ _⟩
theorem joinKd_cc (cs : List Class) (c d : Str) : joinKd cs (.ty (.cl c)) (.ty (.cl d)) = .ty (.cl (lcaC cs c d)) := rfl
theorem arText_size (z : Str) : (arText z).size = z.size + 1 := by unfold arText; rw [ByteArray.size_append]; show 1 + z.size = _; omega
set_option maxHeartbeats 4000000 in
set_option maxRecDepth 100000 in
theorem of_ty (w0 : World) (B : Nat) (l : List Class) : ∀ (x : Ty) (w : World) (a b : Str) (y : Ty), WorldMap w0 w B l → tyText x = lst a → tyText y = lst b → goodTy (allC l) x = true → goodTy (allC l) y = true → a.size ≤ 4194304 → b.size ≤ 4194304 →
    Calls Tryz.prog 76 #[.map (some B), .string a, .string b] w (OfPost w (allC l) (.ty x) (.ty y) (30 + a.size + b.size)) := by
  have plain : ∀ (x : Ty) (w : World) (a b : Str) (y : Ty), WorldMap w0 w B l → tyText x = lst a → tyText y = lst b → goodTy (allC l) x = true → (x = y ∨ isRef x = false ∨ isRef y = false) →
      Calls Tryz.prog 76 #[.map (some B), .string a, .string b] w (OfPost w (allC l) (.ty x) (.ty y) (30 + a.size + b.size)) := fun x w a b y hm ha hb hx h =>
    of_plain w0 w B l hm a b (.ty x) (.ty y) ha hb hx (by
      rcases h with h | h
      · exact Or.inl (by rw [h])
      · exact Or.inr (Or.inr (Or.inr h)))
  -- two refs that are not the same, of which one is an array and the other no array of refs
  intro x
  induction x with
  | i => intro w a b y hm ha hb hx _ _ _; exact plain _ w a b y hm ha hb hx (Or.inr (Or.inl rfl))
  | j => intro w a b y hm ha hb hx _ _ _; exact plain _ w a b y hm ha hb hx (Or.inr (Or.inl rfl))
  | cl c =>
    intro w a b y hm ha hb hx hy hsa hsb
    by_cases he : Ty.cl c = y ∨ isRef y = false
    · exact plain _ w a b y hm ha hb hx (by rcases he with he | he; exact Or.inl he; exact Or.inr (Or.inr he))
    · have hne : Ty.cl c ≠ y := fun h => he (Or.inl h)
      have hE := kd_same (x := .ty (.cl c)) (y := .ty y) ha hb
      have hN := kd_is (x := .ty (.cl c)) ha .n
      have hM := kd_is (x := .ty y) hb .n
      simp only [kdText] at hN hM
      rw [decide_eq_false (by intro h; cases h)] at hN hM
      rw [decide_eq_false (by intro h; injection h with h; exact hne h)] at hE
      have HA : Hid (∀ wx, _) := fun wx => refs_any a (.ty (.cl c)) wx ha
      have HB : Hid (∀ wx, _) := fun wx => refs_any b (.ty y) wx hb
      have HCa : Hid (∀ wx, _) := fun wx => descClass_any a (.cl c) wx ha (Nat.le_trans hsa (by decide))
      have HCb : Hid (∀ wx, _) := fun wx => descClass_any b y wx hb (Nat.le_trans hsb (by decide))
      obtain ⟨hpa, fa⟩ := kd_first ha
      obtain ⟨hpb, fb⟩ := kd_first hb
      have ga := kd_arr ha hpa
      have gb := kd_arr hb hpb
      simp only [refK, isRef, baseOf, str_lst, headL, headA] at HA HCa fa ga
      cases y with
      | i => exact absurd (Or.inr rfl) he
      | j => exact absurd (Or.inr rfl) he
      | cl d =>
        simp only [refK, isRef, baseOf, str_lst, headL, headA] at HB HCb fb gb
        have hlca := class_name20 hm.faults (hm.right.tree.known c _ hx (hm.right.tree.lub1 c d hx hy).1)
        have HCl := classes_any w0 w B l hm c d hx hy
        rw [hm.right.classes hx hy (fun h => hne (by rw [h]))] at HCl
        unfold OfPost
        rw [joinKd_cc]
        generalize lcaC (allC l) c d = r at *
        have HC2 := Lib.hid HCl
        have HTh : Hid (∀ wx, _) := fun wx => thing_any r wx (Nat.le_trans hlca (by decide))
        have hts := th_size r
        have hfin : Hid ((thText r).size ≤ 30 + a.size + b.size) := by unfold Hid; omega
        clear HCl he hm ha hx hb hy hsa hsb hne hlca hts
        go_enter Tryz.func76, Tryz.ntmps76
        go_wp2_with (first
          | (go_at_call 93; (with_reducible refine (HA.out _).mono ?_); rintro e w3 ⟨rfl, rfl⟩)
          | (go_at_call 93; (with_reducible refine (HB.out _).mono ?_); rintro e w3 ⟨rfl, rfl⟩)
          | (go_at_call 94; (with_reducible refine (HCa.out _).mono ?_); rintro e w3 ⟨rfl, rfl⟩)
          | (go_at_call 94; (with_reducible refine (HCb.out _).mono ?_); rintro e w3 ⟨rfl, rfl⟩)
          | (go_at_call 100; (with_reducible refine HC2.out.mono ?_); rintro e w4 ⟨rfl, hB4⟩)
          | (go_at_call 95; (with_reducible refine (HTh.out _).mono ?_); rintro e w5 ⟨rfl, rfl⟩))
        go_ret
        exact ⟨⟨_, rfl, (lst_th r).symm, hfin.out⟩, hB4⟩
      | ar z =>
        simp only [refK, isRef, headL, headA] at HB fb gb
        have HTh : Hid (∀ wx, _) := fun wx => thing_object wx
        clear he HCa HCb hm ha hx hb hy hsa hsb hne
        go_enter Tryz.func76, Tryz.ntmps76
        go_wp2_with (first
          | (go_at_call 93; (with_reducible refine (HA.out _).mono ?_); rintro e w3 ⟨rfl, rfl⟩)
          | (go_at_call 93; (with_reducible refine (HB.out _).mono ?_); rintro e w3 ⟨rfl, rfl⟩)
          | (go_at_call 95; (with_reducible refine (HTh.out _).mono ?_); rintro e w3 ⟨rfl, rfl⟩))
        go_ret
        exact ⟨⟨_, rfl, rfl, by show 8 ≤ _; omega⟩, Below.refl _ _⟩
  | ar u ih =>
    intro w a b y hm ha hb hx hy hsa hsb
    by_cases he : Ty.ar u = y ∨ isRef y = false
    · exact plain _ w a b y hm ha hb hx (by rcases he with he | he; exact Or.inl he; exact Or.inr (Or.inr he))
    · have hne : Ty.ar u ≠ y := fun h => he (Or.inl h)
      have hE := kd_same (x := .ty (.ar u)) (y := .ty y) ha hb
      have hN := kd_is (x := .ty (.ar u)) ha .n
      have hM := kd_is (x := .ty y) hb .n
      simp only [kdText] at hN hM
      rw [decide_eq_false (by intro h; cases h)] at hN hM
      rw [decide_eq_false (by intro h; injection h with h; exact hne h)] at hE
      have HA : Hid (∀ wx, _) := fun wx => refs_any a (.ty (.ar u)) wx ha
      have HB : Hid (∀ wx, _) := fun wx => refs_any b (.ty y) wx hb
      have HTh : Hid (∀ wx, _) := fun wx => thing_object wx
      obtain ⟨hpa, fa⟩ := kd_first ha
      obtain ⟨hpb, fb⟩ := kd_first hb
      have ga := kd_arr ha hpa
      have gb := kd_arr hb hpb
      simp only [refK, isRef, headL, headA] at HA fa ga
      cases y with
      | i => exact absurd (Or.inr rfl) he
      | j => exact absurd (Or.inr rfl) he
      | cl d =>
        simp only [refK, isRef, headL, headA] at HB fb gb
        clear he hm ha hx hb hy hsa hsb hne ih
        go_enter Tryz.func76, Tryz.ntmps76
        go_wp2_with (first
          | (go_at_call 93; (with_reducible refine (HA.out _).mono ?_); rintro e w3 ⟨rfl, rfl⟩)
          | (go_at_call 93; (with_reducible refine (HB.out _).mono ?_); rintro e w3 ⟨rfl, rfl⟩)
          | (go_at_call 95; (with_reducible refine (HTh.out _).mono ?_); rintro e w3 ⟨rfl, rfl⟩))
        go_ret
        exact ⟨⟨_, rfl, rfl, by show 8 ≤ _; omega⟩, Below.refl _ _⟩
      | ar v =>
        simp only [refK, isRef, headL, headA] at HB fb gb
        obtain ⟨ta, tas, hsz1⟩ := tail_text ha
        obtain ⟨tb, tbs, hsz2⟩ := tail_text hb
        have HA2 : Hid (∀ wx, _) := fun wx => refs_any (a.extract 1 a.size) (.ty u) wx ta
        have HB2 : Hid (∀ wx, _) := fun wx => refs_any (b.extract 1 b.size) (.ty v) wx tb
        have huv : u ≠ v := fun h => hne (by rw [h])
        have es1 : (a.extract 1 a.size).size = a.size - 1 := by rw [ByteArray.size_extract]; omega
        have es2 : (b.extract 1 b.size).size = b.size - 1 := by rw [ByteArray.size_extract]; omega
        simp only [refK] at HA2 HB2
        by_cases hr : isRef u = true ∧ isRef v = true
        · have HI : Hid (∀ wx, Below w.heap.size w wx → _) := fun wx hb => ih wx (a.extract 1 a.size) (b.extract 1 b.size) v (hm.step hb) ta tb hx hy (Nat.le_trans tas hsa) (Nat.le_trans tbs hsb)
          obtain ⟨z, hz1, hz2⟩ := join_arr (cs := allC l) hr.1 hr.2
          unfold OfPost at HI ⊢
          rw [hz1] at HI
          rw [hz2]
          rw [hr.1] at HA2
          rw [hr.2] at HB2
          clear he hm ha hb hx hy hne ih ta tas tb tbs huv hr hz1 hz2
          generalize hxa : a.extract 1 a.size = a1 at *
          generalize hxb : b.extract 1 b.size = b1 at *
          go_enter Tryz.func76, Tryz.ntmps76
          go_upto_region 12 with (first
            | (go_at_call 93; (with_reducible refine (HA.out _).mono ?_); rintro e w3 ⟨rfl, rfl⟩)
            | (go_at_call 93; (with_reducible refine (HB.out _).mono ?_); rintro e w3 ⟨rfl, rfl⟩)
            | (go_at_call 93; (with_reducible refine (HA2.out _).mono ?_); rintro e w3 ⟨rfl, rfl⟩)
            | (go_at_call 93; (with_reducible refine (HB2.out _).mono ?_); rintro e w3 ⟨rfl, rfl⟩))
          go_region_with (go_at_call 76; (with_reducible refine (HI.out _ (Below.refl _ _).drew).mono ?_); rintro e w4 ⟨⟨z4, rfl, hz4, hs4⟩, hB4⟩)
          all_goals
            have hfin : kdText (.ty (.ar z)) = lst (arText z4) ∧ (arText z4).size ≤ 30 + a.size + b.size := ⟨by rw [lst_ar, ← hz4]; rfl, by rw [arText_size]; omega⟩
            have HF := Lib.hid hfin
            have HB4 := Lib.hid hB4
            clear hfin hz4 hs4 hB4
            go_wp2
            go_ret
            exact ⟨⟨arText z4, rfl, HF.out.1, HF.out.2⟩, below_call (Below.refl _ _).drew (Nat.le_refl _) HB4.out⟩
        · have hw : isRef u = false ∨ isRef v = false := by
            cases hu : isRef u with
            | false => exact Or.inl rfl
            | true => cases hv : isRef v with
              | false => exact Or.inr rfl
              | true => exact absurd ⟨hu, hv⟩ hr
          unfold OfPost
          rw [join_arr_word huv hw]
          clear he hm ha hb hx hy hsa hsb hne ih ta tas tb tbs huv hr
          generalize isRef u = ru at *
          generalize isRef v = rv at *
          generalize hxa : a.extract 1 a.size = a1 at *
          generalize hxb : b.extract 1 b.size = b1 at *
          have hor : (ru && rv) = false := by rcases hw with h | h <;> simp [h]
          clear hw
          cases ru <;> cases rv <;> first | (exact absurd hor (by decide)) | skip
          all_goals
            go_enter Tryz.func76, Tryz.ntmps76
            go_wp2_with (first
              | (go_at_call 93; (with_reducible refine (HA.out _).mono ?_); rintro e w3 ⟨rfl, rfl⟩)
              | (go_at_call 93; (with_reducible refine (HB.out _).mono ?_); rintro e w3 ⟨rfl, rfl⟩)
              | (go_at_call 93; (with_reducible refine (HA2.out _).mono ?_); rintro e w3 ⟨rfl, rfl⟩)
              | (go_at_call 93; (with_reducible refine (HB2.out _).mono ?_); rintro e w3 ⟨rfl, rfl⟩)
              | (go_at_call 95; (with_reducible refine (HTh.out _).mono ?_); rintro e w3 ⟨rfl, rfl⟩))
            go_ret
            exact ⟨⟨_, rfl, rfl, by show 8 ≤ _; omega⟩, Below.refl _ _⟩
/-- Of, of right kinds -/
theorem of_any (w0 w : World) (B : Nat) (l : List Class) (hm : WorldMap w0 w B l) (a b : Str) (x y : Kd) (ha : IsKd (allC l) a x) (hb : IsKd (allC l) b y) (hsa : a.size ≤ 4194304) (hsb : b.size ≤ 4194304) :
    Calls Tryz.prog 76 #[.map (some B), .string a, .string b] w (OfPost w (allC l) x y (30 + a.size + b.size)) := by
  have plain := of_plain w0 w B l hm a b x y ha.1 hb.1 ha.2
  cases x with
  | n => exact plain (Or.inr (Or.inr (Or.inr (Or.inl rfl))))
  | t => exact plain (Or.inr (Or.inr (Or.inr (Or.inl rfl))))
  | ty u =>
    cases y with
    | n => exact plain (Or.inr (Or.inr (Or.inr (Or.inr rfl))))
    | t => exact plain (Or.inr (Or.inr (Or.inr (Or.inr rfl))))
    | ty v => exact of_ty w0 B l u w a b v hm ha.1 hb.1 ha.2 hb.2 hsa hsb
set_option maxRecDepth 100000 in
theorem join_no (l : List Class) (lv : Value) (a b : Str) (w : World) (hl : Laid w) (ho : ∀ c ∈ l, ClassOk c) (hlv : ClassesAt w lv l) (ha : a.size ≤ maxLen) (hb : b.size ≤ maxLen) (hf : kindsFault l a b ≠ 0) :
    Calls Tryz.prog 43 #[lv, .string a, .string b] w fun e w' => e = .returned (.tuple #[.string .empty, .iface 24 (.int .i64 (kindsFault l a b))]) ∧ Below w.heap.size w w' := by
  have HRd := Lib.hid (subRead_any l lv a b w hl ho hlv ha hb)
  obtain ⟨pl, cap, rfl, _⟩ := hlv.open
  have HF := Lib.hid hf
  clear hl ho hlv ha hb hf
  unfold SubPost at HRd
  generalize kindsFault l a b = f at *
  go_enter Tryz.func43, Tryz.ntmps43
  go_wp2_with (go_at_call 70; (with_reducible refine HRd.out.mono ?_); rintro e w2 ⟨hB2, ⟨hz, _⟩ | ⟨_, rfl⟩⟩; (exact absurd hz HF.out))
  go_ret2
  exact ⟨rfl, hB2⟩
/-- a text that Join tells -/
def JoinGives (w : World) (cs : List Class) (r : Kd) (n : Nat) (e : Ending) (w' : World) : Prop := ∃ z, e = .returned (.tuple #[.string z, .nilIface]) ∧ IsKd cs z r ∧ z.size ≤ n ∧ Below w.heap.size w w'
set_option maxRecDepth 100000 in
theorem join_yes (l : List Class) (lv : Value) (a b : Str) (w : World) (hl : Laid w) (ho : ∀ c ∈ l, ClassOk c) (hlv : ClassesAt w lv l) (ha : a.size ≤ 4194304) (hb : b.size ≤ 4194304) (hf : kindsFault l a b = 0) (x y : Kd) (hx : IsKd (allC l) a x) (hy : IsKd (allC l) b y) :
    Calls Tryz.prog 43 #[lv, .string a, .string b] w (JoinGives w (allC l) (joinKd (allC l) x y) (30 + a.size + b.size)) := by
  have HRd := Lib.hid (subRead_any l lv a b w hl ho hlv (Nat.le_trans ha (by decide)) (Nat.le_trans hb (by decide)))
  obtain ⟨pl, cap, rfl, _⟩ := hlv.open
  have HF := Lib.hid hf
  have HD : Hid (∀ (w0 wx : World) B, WorldMap w0 wx B l → _) := fun w0 wx B hm => of_any w0 wx B l hm a b x y hx hy ha hb
  have HG : Hid (Right l → goodKd (allC l) (joinKd (allC l) x y) = true) := fun hr => (joinKd_up hr.tree (object_known l) hx.2 hy.2).2.2
  clear hl ho hlv ha hb hf hx hy
  unfold SubPost at HRd
  unfold OfPost at HD
  generalize kindsFault l a b = f at *
  generalize joinKd (allC l) x y = r at *
  go_enter Tryz.func43, Tryz.ntmps43
  go_wp2_with (first
    | (go_at_call 70; (with_reducible refine HRd.out.mono ?_); rintro e w2 ⟨hB2, ⟨_, rfl, hm⟩ | ⟨hz, _⟩⟩; rotate_left; (exact absurd HF.out hz))
    | (go_at_call 76; (with_reducible refine (HD.out _ _ _ hm).mono ?_); rintro e w3 ⟨⟨z, rfl, hz, hs⟩, hB3⟩))
  go_ret2
  exact ⟨_, rfl, ⟨hz, HG.out hm.right⟩, hs, below_call hB2 (Nat.le_refl _) hB3⟩
set_option maxRecDepth 100000 in
theorem below_no (l : List Class) (lv : Value) (a b : Str) (w : World) (hl : Laid w) (ho : ∀ c ∈ l, ClassOk c) (hlv : ClassesAt w lv l) (ha : a.size ≤ maxLen) (hb : b.size ≤ maxLen) (hf : kindsFault l a b ≠ 0) :
    Calls Tryz.prog 44 #[lv, .string a, .string b] w fun e w' => e = .returned (.tuple #[.bool false, .iface 24 (.int .i64 (kindsFault l a b))]) ∧ Below w.heap.size w w' := by
  have HRd := Lib.hid (subRead_any l lv a b w hl ho hlv ha hb)
  obtain ⟨pl, cap, rfl, _⟩ := hlv.open
  have HF := Lib.hid hf
  clear hl ho hlv ha hb hf
  unfold SubPost at HRd
  generalize kindsFault l a b = f at *
  go_enter Tryz.func44, Tryz.ntmps44
  go_wp2_with (go_at_call 70; (with_reducible refine HRd.out.mono ?_); rintro e w2 ⟨hB2, ⟨hz, _⟩ | ⟨_, rfl⟩⟩; (exact absurd hz HF.out))
  go_ret2
  exact ⟨rfl, hB2⟩
set_option maxRecDepth 100000 in
theorem below_yes (l : List Class) (lv : Value) (a b : Str) (w : World) (hl : Laid w) (ho : ∀ c ∈ l, ClassOk c) (hlv : ClassesAt w lv l) (ha : a.size ≤ 4194304) (hb : b.size ≤ 4194304) (hf : kindsFault l a b = 0) (x y : Kd) (hx : IsKd (allC l) a x) (hy : IsKd (allC l) b y) :
    Calls Tryz.prog 44 #[lv, .string a, .string b] w fun e w' => e = .returned (.tuple #[.bool (decide (joinKd (allC l) x y = y)), .nilIface]) ∧ Below w.heap.size w w' := by
  have HRd := Lib.hid (subRead_any l lv a b w hl ho hlv (Nat.le_trans ha (by decide)) (Nat.le_trans hb (by decide)))
  obtain ⟨pl, cap, rfl, _⟩ := hlv.open
  have HF := Lib.hid hf
  have HD : Hid (∀ (w0 wx : World) B, WorldMap w0 wx B l → _) := fun w0 wx B hm => of_any w0 wx B l hm a b x y hx hy ha hb
  have HQ : Hid (∀ z : Str, kdText (joinKd (allC l) x y) = lst z → (z.toList == b.toList) = decide (joinKd (allC l) x y = y)) := fun z hz => kd_same hz hy.1
  clear hl ho hlv ha hb hf hx hy
  unfold SubPost at HRd
  unfold OfPost at HD
  generalize kindsFault l a b = f at *
  generalize joinKd (allC l) x y = r at *
  generalize decide (r = y) = q at *
  go_enter Tryz.func44, Tryz.ntmps44
  go_wp2_with (first
    | (go_at_call 70; (with_reducible refine HRd.out.mono ?_); rintro e w2 ⟨hB2, ⟨_, rfl, hm⟩ | ⟨hz, _⟩⟩; rotate_left; (exact absurd HF.out hz))
    | (go_at_call 76; (with_reducible refine (HD.out _ _ _ hm).mono ?_); rintro e w3 ⟨⟨z, rfl, hz, hs⟩, hB3⟩; have hq := HQ.out z hz))
  go_ret2
  exact ⟨rfl, below_call hB2 (Nat.le_refl _) hB3⟩
end Go.Proofs.YtpjkpmmjehnahaaGreatDoor
