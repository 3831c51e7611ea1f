/-
  WALK over the law's beasts.
  WALKS over sub.Read, Fits, Is and the law's catIs. Conditions: as in XRead; texts of at most maxLen signs.
  WALKS over join.classes. Conditions: a right world, classes that are there.
  WALKS over join.Of, Join, Below. Conditions: a right world, kinds that are there; texts of at most 4194304 signs.
-/
import Derived.Test.YtbakcdgjibmceaaGreatDoorTexts
import Derived.Test.YtbakcdgjibmceaaGreatDoorSub
import Derived.Test.YtbakcdgjibmceaaGreatDoorRow
import Derived.Test.YtbakcdgjibmceaaGreatDoorFaults
import Derived.Test.YtbakcdgjibmceaaGreatDoorJoinLaw
namespace Go.Proofs.YtbakcdgjibmceaaGreatDoor
open Go.RowKit Go.Shelf Go.Lib
def sCat : Str := ⟨#[67, 97, 116]⟩
def sBeast : Str := ⟨#[66, 101, 97, 115, 116]⟩
def beastsL : List Class := [⟨sCat, sBeast, [], false, [], []⟩, ⟨sBeast, sObject, [], false, [], []⟩]
theorem beasts_fault : namedFault beastsL sCat = 0 := by decide +kernel
theorem beasts_line : lineC (allC beastsL) sCat = [sCat, sBeast, sObject] := by decide +kernel
theorem beasts_ok : ∀ c ∈ beastsL, ClassOk c := by
  intro c hc
  simp only [beastsL, List.mem_cons, List.mem_nil_iff, or_false] at hc
  rcases hc with rfl | rfl
  · exact ⟨by decide, by decide, (fun x h => by cases h), (fun x h => by cases h), (fun x h => by cases h)⟩
  · exact ⟨by decide, by decide, (fun x h => by cases h), (fun x h => by cases h), (fun x h => by cases h)⟩
end Go.Proofs.YtbakcdgjibmceaaGreatDoor
namespace Go.Proofs.YtbakcdgjibmceaaGreatDoor
open Go.RowKit Go.Shelf Go.Lib
theorem cmp01 (w : World) : (binOp .eql 30 .nilIface (.iface 35 (.int .i64 1))).run Tryz.prog w = .ok (.bool false) w := by kernel_rfl
theorem cmp11 (w : World) : (binOp .eql 30 (.iface 35 (.int .i64 1)) (.iface 35 (.int .i64 1))).run Tryz.prog w = .ok (.bool true) w := by kernel_rfl
theorem cmp31 (w : World) : (binOp .eql 30 (.iface 35 (.int .i64 3)) (.iface 35 (.int .i64 1))).run Tryz.prog w = .ok (.bool false) w := by kernel_rfl
def SubPost (w : World) (l : List Class) (a b : Str) (e : Ending) (w' : World) : Prop :=
  Below w.heap.size w w' ∧
  ((kindsFault l a b = 0 ∧ e = .returned (.tuple #[.map (some w.heap.size), .nilIface]) ∧ WorldMap w w' w.heap.size l) ∨
   (kindsFault l a b ≠ 0 ∧ e = .returned (.tuple #[.map none, .iface 35 (.int .i64 (kindsFault l a b))])))
theorem sub_no {w w' : World} {l : List Class} {a b : Str} {k : Nat} (hb : Below w.heap.size w w') (h : kindsFault l a b = k) (hn : k ≠ 0) : SubPost w l a b (.returned (.tuple #[.map none, .iface 35 (.int .i64 k)])) w' := by
  subst h; exact ⟨hb, Or.inr ⟨hn, rfl⟩⟩
/-- .. whatever the kinds are -/
def FitsSome (w : World) (e : Ending) (w' : World) : Prop := ∃ r v, e = .returned (.tuple #[.bool r, v]) ∧ Below w.heap.size w w'
theorem cats_beast : namedFault beastsL sBeast = 0 ∧ memB (everyC (allC beastsL) sCat) sBeast = true ∧ memB (everyC (allC beastsL) sBeast) sCat = false := by decide +kernel
end Go.Proofs.YtbakcdgjibmceaaGreatDoor
namespace Go.Proofs.YtbakcdgjibmceaaGreatDoor
open Go.RowKit Go.Shelf Go.Lib
set_option maxHeartbeats 1000000 in
set_option maxRecDepth 100000 in
theorem classes_any (w0 w : World) (B : Nat) (l : List Class) (hm : WorldMap w0 w B l) (c d : Str) (hc : (findC (allC l) c).isSome = true) (hd : (findC (allC l) d).isSome = true) :
    Calls Tryz.prog 149 #[.map (some B), .string c, .string d] w fun e w' => e = .returned (.string (if ((classC (allC l) c).face || (classC (allC l) d).face) = true then sObject else lcaC (allC l) c d)) ∧ Below w.heap.size w w' := by
  obtain ⟨p1, k1, p2, k2, p3, k3, _, _, _, _, hlc⟩ := hm.map.look2 hm.right.nodup c (hm.map.names hc)
  obtain ⟨p4, k4, p5, k5, p6, k6, _, _, _, _, hld⟩ := hm.map.look2 hm.right.nodup d (hm.map.names hd)
  have HLd := Lib.hid (line_any w0 w B l hm.right hm.map d hd)
  have HLc : Hid (∀ wx, Below w.heap.size w wx → _) := fun wx hb => line_any w0 wx B l hm.right (hm.map.step hb) c hc
  have hl13 : (lineC (allC l) c).length ≤ 13 := by
    have h1 := lineF_length (allC l) (everyC (allC l) c).length c
    have h2 := (every_facts hm.right.closed hc).1.length
    have h3 := hm.right.small
    unfold lineC; omega
  unfold lcaC
  have hcf := class_face
  show Calls _ _ _ _ fun e w' => e = .returned (.string (if (((findC (allC l) c).getD noClass).face || ((findC (allC l) d).getD noClass).face) = true then sObject else lcaGo (lineC (allC l) d) (lineC (allC l) c))) ∧ Below w.heap.size w w'
  clear hm hc hd
  generalize (findC (allC l) c).getD noClass = x at *
  generalize (findC (allC l) d).getD noClass = y at *
  generalize lineC (allC l) c = Lc at *
  generalize lineC (allC l) d = Ld at *
  obtain ⟨n1, s1, f1, b1, d1, m1⟩ := x
  obtain ⟨n2, s2, f2, b2, d2, m2⟩ := y
  unfold classV at hlc hld
  dsimp only at *
  cases b1 with
  | true =>
    clear HLd HLc hld
    go_enter Tryz.func149, Tryz.ntmps149
    go_wp2
    go_ret
    exact ⟨rfl, Below.refl _ _⟩
  | false =>
    cases b2 with
    | true =>
      clear HLd HLc
      go_enter Tryz.func149, Tryz.ntmps149
      go_wp2
      go_ret
      exact ⟨rfl, Below.refl _ _⟩
    | false =>
      show Calls _ _ _ _ fun e w' => e = .returned (.string (lcaGo Ld Lc)) ∧ Below w.heap.size w w'
      go_enter Tryz.func149, Tryz.ntmps149
      go_wp2_with (first
        | (go_at_call 160; (have hB3' := hB3); (with_reducible refine (HLc.out _ hB3).mono ?_); rintro e w4 ⟨⟨v4, rfl, hv4⟩, hB4⟩; obtain ⟨pa, ca, rfl⟩ := ownsRow_shape hv4)
        | (go_at_call 160; (with_reducible refine HLd.out.mono ?_); rintro e w3 ⟨⟨v3, rfl, hv3⟩, hB3⟩))
      have hs3 := (strsAt_of_owns hv3).mono hB4
      have hs4 := strsAt_of_owns hv4
      have hB := below_call hB3 (Nat.le_refl _) hB4
      obtain ⟨pa', ca', he, h1, h2, hcc⟩ := hs4.open
      injection he with he1 he2 he3
      subst he1 he3
      clear he2
      have HC := Lib.hid hcc
      have HCon : Hid (∀ x, _) := fun x => contains_any Ld v3 x w4 hs3
      have hlen : Lc.length ≤ 9223372036854775807 := Nat.le_trans h1 h2
      clear hs3 hs4 hcc hv3 hv4 hB3 hB4 HLc HLd hlc hld
      go_loopw [27] (fun x wr => ∃ k : Nat, k ≤ Lc.length ∧ Hid (lcaGo Ld (Lc.drop k) = lcaGo Ld Lc) ∧ w4 = wr ∧ x = .int .i64 k) (fun x _ => Lc.length - (intOf x).toNat)
      case atStart => exact ⟨0, by omega, rfl, rfl, rfl⟩
      case round =>
        obtain ⟨k, hk, hff, rfl, rfl⟩ := hrel
        by_cases hkl : k < Lc.length
        · obtain ⟨a, ha⟩ : ∃ a, Lc[k]? = some a := ⟨Lc[k], by simp [hkl]⟩
          obtain ⟨b, o, vs, rfl, hR, _, hcells⟩ := HC.out k a ha
          unfold StrCells at hR; subst hR
          have c0 := hcells.1
          rw [Nat.mul_one] at c0
          have hstep := lcaGo_drop Ld Lc k a ha
          rw [hff.out] at hstep
          have hcon := HCon.out a
          have HX := Lib.hid ha
          clear ha hcells hff
          cases hm : memB Ld a with
          | true =>
            rw [hm] at hcon hstep
            replace hstep : lcaGo Ld Lc = a := hstep
            have HS := Lib.hid hstep
            have HC1 := Lib.hid hcon
            clear hstep hcon hm
            go_wp2_with (go_at_call 118; (with_reducible refine HC1.out.mono ?_); rintro e w5 ⟨rfl, rfl⟩)
            go_ret
            exact ⟨by rw [HS.out]; rfl, hB⟩
          | false =>
            rw [hm] at hcon hstep
            have hst : Hid (lcaGo Ld (Lc.drop (k + 1)) = lcaGo Ld Lc) := hstep.symm
            have HC1 := Lib.hid hcon
            clear hstep hcon hm
            go_wp2_with (go_at_call 118; (with_reducible refine HC1.out.mono ?_); rintro e w5 ⟨rfl, rfl⟩)
            go_roundw
            case rel => exact ⟨k + 1, by omega, hst.out, by simp, by simp⟩
            case measure => simp [intOf]; omega
        · obtain rfl : k = Lc.length := by omega
          have hno : lcaGo Ld Lc = sObject := by rw [← hff.out, List.drop_eq_nil_of_le (Nat.le_refl _)]; rfl
          have HS := Lib.hid hno
          clear hno hff
          go_wp2_with (first | fail)
          go_ret
          exact ⟨by rw [HS.out]; rfl, hB⟩
end Go.Proofs.YtbakcdgjibmceaaGreatDoor
namespace Go.Proofs.YtbakcdgjibmceaaGreatDoor
open Go.RowKit Go.Shelf Go.Lib
def headA : Ty → Bool
  | .ar _ => true
  | _ => false
theorem kd_arr {k : Str} {x : Ty} (h : tyText x = lst k) (hp : 0 < k.size) : (((k[0]'hp).toNat : Int) == 91) = headA x := by
  have hk : k[0]'hp = (lst k)[0]'(by have h1 : (lst k).length = k.size := rfl; omega) := rfl
  have h0 : (lst k)[0]? = (tyText x)[0]? := by rw [h]
  rw [hk]
  have h2 : (lst k)[0]? = some ((lst k)[0]'(by have h1 : (lst k).length = k.size := rfl; omega)) := List.getElem?_eq_getElem _
  rw [h2] at h0
  generalize (lst k)[0]'(by have h1 : (lst k).length = k.size := rfl; omega) = b at *
  cases x with
  | i => simp [tyText] at h0; subst h0; rfl
  | j => simp [tyText] at h0; subst h0; rfl
  | cl c => simp [tyText] at h0; subst h0; rfl
  | ar y => simp [tyText] at h0; subst h0; rfl
def OfPost (w : World) (cs : List Class) (x y : Kd) (n : Nat) (e : Ending) (w' : World) : Prop :=
  (∃ z, e = .returned (.string z) ∧ kdText (joinKd cs x y) = lst z ∧ z.size ≤ n) ∧ Below w.heap.size w w'
theorem of_text {cs : List Class} (T : Tree cs) (ho : (findC cs sObject).isSome = true) {a b : Str} {x y : Kd} (ha : kdText x = lst a) (hb : kdText y = lst b) (hx : goodKd cs x = true)
    (h : x = y ∨ (x = .n ∧ refK y = true) ∨ (y = .n ∧ refK x = true) ∨ (refK x = false ∨ refK y = false)) :
    kdText (joinKd cs x y) = lst (if decide (x = y) then a else if decide (x = .n) && refK y then b else if decide (y = .n) && refK x then a else ⟨#[84]⟩) := by
  by_cases h1 : x = y
  · subst h1
    rw [decide_eq_true rfl, if_pos rfl, join_idem T ho hx]; exact ha
  · rw [decide_eq_false h1, if_neg (by decide)]
    by_cases h2 : x = .n ∧ refK y = true
    · obtain ⟨rfl, h2⟩ := h2
      rw [h2, if_pos (by decide)]
      cases y with
      | n => cases h2
      | t => cases h2
      | ty z => rw [joinKd_nt, if_pos (show isRef z = true from h2)]; exact hb
    · have e2 : (decide (x = .n) && refK y) = false := by
        rw [Bool.and_eq_false_iff]
        by_cases hn : x = .n
        · exact Or.inr (by cases hr : refK y with | false => rfl | true => exact absurd ⟨hn, hr⟩ h2)
        · exact Or.inl (decide_eq_false hn)
      rw [e2, if_neg (by decide)]
      by_cases h3 : y = .n ∧ refK x = true
      · obtain ⟨rfl, h3⟩ := h3
        rw [h3, if_pos (by decide)]
        cases x with
        | n => cases h3
        | t => cases h3
        | ty z => rw [joinKd_tn, if_pos (show isRef z = true from h3)]; exact ha
      · have e3 : (decide (y = .n) && refK x) = false := by
          rw [Bool.and_eq_false_iff]
          by_cases hn : y = .n
          · exact Or.inr (by cases hr : refK x with | false => rfl | true => exact absurd ⟨hn, hr⟩ h3)
          · exact Or.inl (decide_eq_false hn)
        rw [e3, if_neg (by decide)]
        have h4 : refK x = false ∨ refK y = false := by
          rcases h with h | h | h | h
          · exact absurd h h1
          · exact absurd h h2
          · exact absurd h h3
          · exact h
        rw [join_word h1 h2 h3 h4]; rfl
set_option maxHeartbeats 4000000 in
set_option maxRecDepth 100000 in
theorem of_plain (w0 w : World) (B : Nat) (l : List Class) (hm : WorldMap w0 w B l) (a b : Str) (x y : Kd) (ha : kdText x = lst a) (hb : kdText y = lst b) (hx : goodKd (allC l) x = true)
    (h : x = y ∨ (x = .n ∧ refK y = true) ∨ (y = .n ∧ refK x = true) ∨ (refK x = false ∨ refK y = false)) :
    Calls Tryz.prog 112 #[.map (some B), .string a, .string b] w (OfPost w (allC l) x y (30 + a.size + b.size)) := by
  have hE := kd_same ha hb
  have hN := kd_is ha .n
  have hM := kd_is hb .n
  have HA : Hid (∀ wx, _) := fun wx => refs_any a x wx ha
  have HB : Hid (∀ wx, _) := fun wx => refs_any b y wx hb
  have hT := of_text hm.right.tree (object_known l) ha hb hx h
  unfold OfPost
  simp only [kdText] at hN hM
  generalize joinKd (allC l) x y = r at *
  have hor : (decide (x = y) || (decide (x = .n) && refK y) || (decide (y = .n) && refK x) || !(refK x) || !(refK y)) = true := by
    rcases h with h | ⟨h, g⟩ | ⟨h, g⟩ | h | h <;> simp [*]
  clear hm ha hb hx h
  generalize decide (x = y) = eE at *
  generalize decide (x = .n) = eN at *
  generalize decide (y = .n) = eM at *
  generalize refK x = rx at *
  generalize refK y = ry at *
  cases eE <;> cases eN <;> cases eM <;> cases rx <;> cases ry <;> first | (exact absurd hor (by decide)) | skip
  all_goals
    clear hor
    simp only [if_true, if_false, Bool.and_true, Bool.and_false, Bool.false_eq_true] at hT
    have HT := Lib.hid hT
    clear hT
    go_enter Tryz.func112, Tryz.ntmps112
    go_wp2_with (first
      | (go_at_call 79; (with_reducible refine (HA.out _).mono ?_); rintro e w3 ⟨rfl, rfl⟩)
      | (go_at_call 79; (with_reducible refine (HB.out _).mono ?_); rintro e w3 ⟨rfl, rfl⟩))
    go_ret
    first
      | exact ⟨⟨a, rfl, HT.out, by omega⟩, Below.refl _ _⟩
      | exact ⟨⟨b, rfl, HT.out, by omega⟩, Below.refl _ _⟩
      | exact ⟨⟨⟨#[84]⟩, rfl, HT.out, by show 1 ≤ _; omega⟩, Below.refl _ _⟩
theorem joinKd_cc (cs : List Class) (c d : Str) : joinKd cs (.ty (.cl c)) (.ty (.cl d)) = .ty (.cl (lcaC cs c d)) := rfl
theorem arText_size (z : Str) : (arText z).size = z.size + 1 := by unfold arText; rw [ByteArray.size_append]; show 1 + z.size = _; omega
set_option maxHeartbeats 4000000 in
set_option maxRecDepth 100000 in
theorem of_ty (w0 : World) (B : Nat) (l : List Class) : ∀ (x : Ty) (w : World) (a b : Str) (y : Ty), WorldMap w0 w B l → tyText x = lst a → tyText y = lst b → goodTy (allC l) x = true → goodTy (allC l) y = true → a.size ≤ 4194304 → b.size ≤ 4194304 →
    Calls Tryz.prog 112 #[.map (some B), .string a, .string b] w (OfPost w (allC l) (.ty x) (.ty y) (30 + a.size + b.size)) := by
  have plain : ∀ (x : Ty) (w : World) (a b : Str) (y : Ty), WorldMap w0 w B l → tyText x = lst a → tyText y = lst b → goodTy (allC l) x = true → (x = y ∨ isRef x = false ∨ isRef y = false) →
      Calls Tryz.prog 112 #[.map (some B), .string a, .string b] w (OfPost w (allC l) (.ty x) (.ty y) (30 + a.size + b.size)) := fun x w a b y hm ha hb hx h =>
    of_plain w0 w B l hm a b (.ty x) (.ty y) ha hb hx (by
      rcases h with h | h
      · exact Or.inl (by rw [h])
      · exact Or.inr (Or.inr (Or.inr h)))
  -- two refs that are not the same, of which one is an array and the other no array of refs
  intro x
  induction x with
  | i => intro w a b y hm ha hb hx _ _ _; exact plain _ w a b y hm ha hb hx (Or.inr (Or.inl rfl))
  | j => intro w a b y hm ha hb hx _ _ _; exact plain _ w a b y hm ha hb hx (Or.inr (Or.inl rfl))
  | cl c =>
    intro w a b y hm ha hb hx hy hsa hsb
    by_cases he : Ty.cl c = y ∨ isRef y = false
    · exact plain _ w a b y hm ha hb hx (by rcases he with he | he; exact Or.inl he; exact Or.inr (Or.inr he))
    · have hne : Ty.cl c ≠ y := fun h => he (Or.inl h)
      have hE := kd_same (x := .ty (.cl c)) (y := .ty y) ha hb
      have hN := kd_is (x := .ty (.cl c)) ha .n
      have hM := kd_is (x := .ty y) hb .n
      simp only [kdText] at hN hM
      rw [decide_eq_false (by intro h; cases h)] at hN hM
      rw [decide_eq_false (by intro h; injection h with h; exact hne h)] at hE
      have HA : Hid (∀ wx, _) := fun wx => refs_any a (.ty (.cl c)) wx ha
      have HB : Hid (∀ wx, _) := fun wx => refs_any b (.ty y) wx hb
      have HCa : Hid (∀ wx, _) := fun wx => descClass_any a (.cl c) wx ha (Nat.le_trans hsa (by decide))
      have HCb : Hid (∀ wx, _) := fun wx => descClass_any b y wx hb (Nat.le_trans hsb (by decide))
      obtain ⟨hpa, fa⟩ := kd_first ha
      obtain ⟨hpb, fb⟩ := kd_first hb
      have ga := kd_arr ha hpa
      have gb := kd_arr hb hpb
      simp only [refK, isRef, baseOf, str_lst, headL, headA] at HA HCa fa ga
      cases y with
      | i => exact absurd (Or.inr rfl) he
      | j => exact absurd (Or.inr rfl) he
      | cl d =>
        simp only [refK, isRef, baseOf, str_lst, headL, headA] at HB HCb fb gb
        have hlca := class_name20 hm.faults (hm.right.tree.known c _ hx (hm.right.tree.lub1 c d hx hy).1)
        have HCl := classes_any w0 w B l hm c d hx hy
        rw [hm.right.classes hx hy (fun h => hne (by rw [h]))] at HCl
        unfold OfPost
        rw [joinKd_cc]
        generalize lcaC (allC l) c d = r at *
        have HC2 := Lib.hid HCl
        have HTh : Hid (∀ wx, _) := fun wx => thing_any r wx (Nat.le_trans hlca (by decide))
        have hts := th_size r
        have hfin : Hid ((thText r).size ≤ 30 + a.size + b.size) := by unfold Hid; omega
        clear HCl he hm ha hx hb hy hsa hsb hne hlca hts
        go_enter Tryz.func112, Tryz.ntmps112
        go_wp2_with (first
          | (go_at_call 79; (with_reducible refine (HA.out _).mono ?_); rintro e w3 ⟨rfl, rfl⟩)
          | (go_at_call 79; (with_reducible refine (HB.out _).mono ?_); rintro e w3 ⟨rfl, rfl⟩)
          | (go_at_call 77; (with_reducible refine (HCa.out _).mono ?_); rintro e w3 ⟨rfl, rfl⟩)
          | (go_at_call 77; (with_reducible refine (HCb.out _).mono ?_); rintro e w3 ⟨rfl, rfl⟩)
          | (go_at_call 149; (with_reducible refine HC2.out.mono ?_); rintro e w4 ⟨rfl, hB4⟩)
          | (go_at_call 85; (with_reducible refine (HTh.out _).mono ?_); rintro e w5 ⟨rfl, rfl⟩))
        go_ret
        exact ⟨⟨_, rfl, (lst_th r).symm, hfin.out⟩, hB4⟩
      | ar z =>
        simp only [refK, isRef, headL, headA] at HB fb gb
        have HTh : Hid (∀ wx, _) := fun wx => thing_object wx
        clear he HCa HCb hm ha hx hb hy hsa hsb hne
        go_enter Tryz.func112, Tryz.ntmps112
        go_wp2_with (first
          | (go_at_call 79; (with_reducible refine (HA.out _).mono ?_); rintro e w3 ⟨rfl, rfl⟩)
          | (go_at_call 79; (with_reducible refine (HB.out _).mono ?_); rintro e w3 ⟨rfl, rfl⟩)
          | (go_at_call 85; (with_reducible refine (HTh.out _).mono ?_); rintro e w3 ⟨rfl, rfl⟩))
        go_ret
        exact ⟨⟨_, rfl, rfl, by show 8 ≤ _; omega⟩, Below.refl _ _⟩
  | ar u ih =>
    intro w a b y hm ha hb hx hy hsa hsb
    by_cases he : Ty.ar u = y ∨ isRef y = false
    · exact plain _ w a b y hm ha hb hx (by rcases he with he | he; exact Or.inl he; exact Or.inr (Or.inr he))
    · have hne : Ty.ar u ≠ y := fun h => he (Or.inl h)
      have hE := kd_same (x := .ty (.ar u)) (y := .ty y) ha hb
      have hN := kd_is (x := .ty (.ar u)) ha .n
      have hM := kd_is (x := .ty y) hb .n
      simp only [kdText] at hN hM
      rw [decide_eq_false (by intro h; cases h)] at hN hM
      rw [decide_eq_false (by intro h; injection h with h; exact hne h)] at hE
      have HA : Hid (∀ wx, _) := fun wx => refs_any a (.ty (.ar u)) wx ha
      have HB : Hid (∀ wx, _) := fun wx => refs_any b (.ty y) wx hb
      have HTh : Hid (∀ wx, _) := fun wx => thing_object wx
      obtain ⟨hpa, fa⟩ := kd_first ha
      obtain ⟨hpb, fb⟩ := kd_first hb
      have ga := kd_arr ha hpa
      have gb := kd_arr hb hpb
      simp only [refK, isRef, headL, headA] at HA fa ga
      cases y with
      | i => exact absurd (Or.inr rfl) he
      | j => exact absurd (Or.inr rfl) he
      | cl d =>
        simp only [refK, isRef, headL, headA] at HB fb gb
        clear he hm ha hx hb hy hsa hsb hne ih
        go_enter Tryz.func112, Tryz.ntmps112
        go_wp2_with (first
          | (go_at_call 79; (with_reducible refine (HA.out _).mono ?_); rintro e w3 ⟨rfl, rfl⟩)
          | (go_at_call 79; (with_reducible refine (HB.out _).mono ?_); rintro e w3 ⟨rfl, rfl⟩)
          | (go_at_call 85; (with_reducible refine (HTh.out _).mono ?_); rintro e w3 ⟨rfl, rfl⟩))
        go_ret
        exact ⟨⟨_, rfl, rfl, by show 8 ≤ _; omega⟩, Below.refl _ _⟩
      | ar v =>
        simp only [refK, isRef, headL, headA] at HB fb gb
        obtain ⟨ta, tas, hsz1⟩ := tail_text ha
        obtain ⟨tb, tbs, hsz2⟩ := tail_text hb
        have HA2 : Hid (∀ wx, _) := fun wx => refs_any (a.extract 1 a.size) (.ty u) wx ta
        have HB2 : Hid (∀ wx, _) := fun wx => refs_any (b.extract 1 b.size) (.ty v) wx tb
        have huv : u ≠ v := fun h => hne (by rw [h])
        have es1 : (a.extract 1 a.size).size = a.size - 1 := by rw [ByteArray.size_extract]; omega
        have es2 : (b.extract 1 b.size).size = b.size - 1 := by rw [ByteArray.size_extract]; omega
        simp only [refK] at HA2 HB2
        by_cases hr : isRef u = true ∧ isRef v = true
        · have HI : Hid (∀ wx, Below w.heap.size w wx → _) := fun wx hb => ih wx (a.extract 1 a.size) (b.extract 1 b.size) v (hm.step hb) ta tb hx hy (Nat.le_trans tas hsa) (Nat.le_trans tbs hsb)
          obtain ⟨z, hz1, hz2⟩ := join_arr (cs := allC l) hr.1 hr.2
          unfold OfPost at HI ⊢
          rw [hz1] at HI
          rw [hz2]
          rw [hr.1] at HA2
          rw [hr.2] at HB2
          clear he hm ha hb hx hy hne ih ta tas tb tbs huv hr hz1 hz2
          generalize hxa : a.extract 1 a.size = a1 at *
          generalize hxb : b.extract 1 b.size = b1 at *
          go_enter Tryz.func112, Tryz.ntmps112
          go_upto_region 12 with (first
            | (go_at_call 79; (with_reducible refine (HA.out _).mono ?_); rintro e w3 ⟨rfl, rfl⟩)
            | (go_at_call 79; (with_reducible refine (HB.out _).mono ?_); rintro e w3 ⟨rfl, rfl⟩)
            | (go_at_call 79; (with_reducible refine (HA2.out _).mono ?_); rintro e w3 ⟨rfl, rfl⟩)
            | (go_at_call 79; (with_reducible refine (HB2.out _).mono ?_); rintro e w3 ⟨rfl, rfl⟩))
          go_region_with (go_at_call 112; (with_reducible refine (HI.out _ (Below.refl _ _).drew).mono ?_); rintro e w4 ⟨⟨z4, rfl, hz4, hs4⟩, hB4⟩)
          all_goals
            have hfin : kdText (.ty (.ar z)) = lst (arText z4) ∧ (arText z4).size ≤ 30 + a.size + b.size := ⟨by rw [lst_ar, ← hz4]; rfl, by rw [arText_size]; omega⟩
            have HF := Lib.hid hfin
            have HB4 := Lib.hid hB4
            clear hfin hz4 hs4 hB4
            go_wp2
            go_ret
            exact ⟨⟨arText z4, rfl, HF.out.1, HF.out.2⟩, below_call (Below.refl _ _).drew (Nat.le_refl _) HB4.out⟩
        · have hw : isRef u = false ∨ isRef v = false := by
            cases hu : isRef u with
            | false => exact Or.inl rfl
            | true => cases hv : isRef v with
              | false => exact Or.inr rfl
              | true => exact absurd ⟨hu, hv⟩ hr
          unfold OfPost
          rw [join_arr_word huv hw]
          clear he hm ha hb hx hy hsa hsb hne ih ta tas tb tbs huv hr
          generalize isRef u = ru at *
          generalize isRef v = rv at *
          generalize hxa : a.extract 1 a.size = a1 at *
          generalize hxb : b.extract 1 b.size = b1 at *
          have hor : (ru && rv) = false := by rcases hw with h | h <;> simp [h]
          clear hw
          cases ru <;> cases rv <;> first | (exact absurd hor (by decide)) | skip
          all_goals
            go_enter Tryz.func112, Tryz.ntmps112
            go_wp2_with (first
              | (go_at_call 79; (with_reducible refine (HA.out _).mono ?_); rintro e w3 ⟨rfl, rfl⟩)
              | (go_at_call 79; (with_reducible refine (HB.out _).mono ?_); rintro e w3 ⟨rfl, rfl⟩)
              | (go_at_call 79; (with_reducible refine (HA2.out _).mono ?_); rintro e w3 ⟨rfl, rfl⟩)
              | (go_at_call 79; (with_reducible refine (HB2.out _).mono ?_); rintro e w3 ⟨rfl, rfl⟩)
              | (go_at_call 85; (with_reducible refine (HTh.out _).mono ?_); rintro e w3 ⟨rfl, rfl⟩))
            go_ret
            exact ⟨⟨_, rfl, rfl, by show 8 ≤ _; omega⟩, Below.refl _ _⟩
/-- Of, of right kinds -/
theorem of_any (w0 w : World) (B : Nat) (l : List Class) (hm : WorldMap w0 w B l) (a b : Str) (x y : Kd) (ha : IsKd (allC l) a x) (hb : IsKd (allC l) b y) (hsa : a.size ≤ 4194304) (hsb : b.size ≤ 4194304) :
    Calls Tryz.prog 112 #[.map (some B), .string a, .string b] w (OfPost w (allC l) x y (30 + a.size + b.size)) := by
  have plain := of_plain w0 w B l hm a b x y ha.1 hb.1 ha.2
  cases x with
  | n => exact plain (Or.inr (Or.inr (Or.inr (Or.inl rfl))))
  | t => exact plain (Or.inr (Or.inr (Or.inr (Or.inl rfl))))
  | ty u =>
    cases y with
    | n => exact plain (Or.inr (Or.inr (Or.inr (Or.inr rfl))))
    | t => exact plain (Or.inr (Or.inr (Or.inr (Or.inr rfl))))
    | ty v => exact of_ty w0 B l u w a b v hm ha.1 hb.1 ha.2 hb.2 hsa hsb
/-- a text that Join tells -/
def JoinGives (w : World) (cs : List Class) (r : Kd) (n : Nat) (e : Ending) (w' : World) : Prop := ∃ z, e = .returned (.tuple #[.string z, .nilIface]) ∧ IsKd cs z r ∧ z.size ≤ n ∧ Below w.heap.size w w'
end Go.Proofs.YtbakcdgjibmceaaGreatDoor
