/-
  WALKS over the reference's Join. Conditions: a right world, kinds that are there; texts of at most 4194304 signs.
-/
import Derived.Test.YtpjkpmmjehnahaaGreatDoorRefFits
import Derived.Test.YtpjkpmmjehnahaaGreatDoorJoinOf
namespace Go.Proofs.YtpjkpmmjehnahaaGreatDoor
open Go.RowKit Go.Shelf Go.Lib
set_option maxHeartbeats 4000000 in
set_option maxRecDepth 100000 in
theorem refJoin_plain (w : World) (l : List Class) (lv : Value) (hR : Right l) (hcf : ∀ c ∈ l, classFault c = 0) (hlv : ClassesAt w lv l) (a b : Str) (x y : Kd) (ha : kdText x = lst a) (hb : kdText y = lst b) (hx : goodKd (allC l) x = true) (hy : goodKd (allC l) y = true) (hdx : deepKd x ≤ 3) (hdy : deepKd y ≤ 3) (hsa : a.size ≤ 4194304) (hsb : b.size ≤ 4194304)
    (h : x = y ∨ (x = .n ∧ refK y = true) ∨ (y = .n ∧ refK x = true) ∨ (refK x = false ∨ refK y = false)) :
    Calls Tryz.prog 45 #[lv, .string a, .string b] w (OfPost w (allC l) x y (30 + a.size + b.size)) := by
  have hE := kd_same ha hb
  have hN := kd_is ha .n
  have hM := kd_is hb .n
  have HA : Hid (∀ wx, _) := fun wx => refIs_any a x wx ha (kd_typeB hcf hx hdx) (Nat.le_trans hsa (by decide))
  have HB : Hid (∀ wx, _) := fun wx => refIs_any b y wx hb (kd_typeB hcf hy hdy) (Nat.le_trans hsb (by decide))
  have hT := of_text hR.tree (object_known l) ha hb hx h
  obtain ⟨pl, cap, rfl, _⟩ := hlv.open
  unfold OfPost
  simp only [kdText] at hN hM
  generalize joinKd (allC l) x y = r at *
  have hor : (decide (x = y) || (decide (x = .n) && refK y) || (decide (y = .n) && refK x) || !(refK x) || !(refK y)) = true := by
    rcases h with h | ⟨h, g⟩ | ⟨h, g⟩ | h | h <;> simp [*]
  clear hlv hR hcf hdx hdy hsa hsb ha hb hx hy h
  generalize decide (x = y) = eE at *
  generalize decide (x = .n) = eN at *
  generalize decide (y = .n) = eM at *
  generalize refK x = rx at *
  generalize refK y = ry at *
  cases eE <;> cases eN <;> cases eM <;> cases rx <;> cases ry <;> first | (exact absurd hor (by decide)) | skip
  all_goals
    clear hor
    simp only [if_true, if_false, Bool.and_true, Bool.and_false, Bool.false_eq_true] at hT
    have HT := Lib.hid hT
    clear hT
    go_enter Tryz.func45, Tryz.ntmps45
    go_wp2_with (first
      | (go_at_call 72; (with_reducible refine (HA.out _).mono ?_); rintro e w3 ⟨rfl, rfl⟩)
      | (go_at_call 72; (with_reducible refine (HB.out _).mono ?_); rintro e w3 ⟨rfl, rfl⟩))
    go_ret
    first
      | exact ⟨⟨a, rfl, HT.out, by omega⟩, Below.refl _ _⟩
      | exact ⟨⟨b, rfl, HT.out, by omega⟩, Below.refl _ _⟩
      | exact ⟨⟨⟨#[84]⟩, rfl, HT.out, by show 1 ≤ _; omega⟩, Below.refl _ _⟩
set_option maxHeartbeats 4000000 in
set_option maxRecDepth 100000 in
theorem refJoin_cls (w : World) (l : List Class) (lv : Value) (hR : Right l) (hcf : ∀ c ∈ l, classFault c = 0) (hlv : ClassesAt w lv l) (a b c d : Str) (ha : tyText (.cl c) = lst a) (hb : tyText (.cl d) = lst b) (hx : (findC (allC l) c).isSome = true) (hy : (findC (allC l) d).isSome = true) (hne : c ≠ d) (hsa : a.size ≤ 4194304) (hsb : b.size ≤ 4194304) :
    Calls Tryz.prog 45 #[lv, .string a, .string b] w (OfPost w (allC l) (.ty (.cl c)) (.ty (.cl d)) (30 + a.size + b.size)) := by
  have hE := kd_same (x := .ty (.cl c)) (y := .ty (.cl d)) ha hb
  have hN := kd_is (x := .ty (.cl c)) ha .n
  have hM := kd_is (x := .ty (.cl d)) hb .n
  simp only [kdText] at hN hM
  rw [decide_eq_false (by intro h; cases h)] at hN hM
  rw [decide_eq_false (by intro h; injection h with h; injection h with h; exact hne h)] at hE
  have ma : a.size ≤ maxLen := Nat.le_trans hsa (by decide)
  have mb : b.size ≤ maxLen := Nat.le_trans hsb (by decide)
  have HA : Hid (∀ wx, _) := fun wx => refIs_any a (.ty (.cl c)) wx ha (kd_typeB hcf hx (Nat.zero_le _)) ma
  have HB : Hid (∀ wx, _) := fun wx => refIs_any b (.ty (.cl d)) wx hb (kd_typeB hcf hy (Nat.zero_le _)) mb
  have HCa : Hid (∀ wx, _) := fun wx => refClassIn_any a (.cl c) wx ha ma
  have HCb : Hid (∀ wx, _) := fun wx => refClassIn_any b (.cl d) wx hb mb
  obtain ⟨hpa, fa⟩ := kd_first ha
  obtain ⟨hpb, fb⟩ := kd_first hb
  have ga := kd_arrQ ha hpa
  have gb := kd_arrQ hb hpb
  simp only [refK, isRef, baseOf, str_lst, headL, headQ] at HA HCa fa ga HB HCb fb gb
  have HLc : Hid (∀ wx, Below w.heap.size w wx → _) := fun wx hb => refSupers_fuel l lv hR _ c wx (hlv.mono hb) hx (Nat.le_refl _)
  have HLd : Hid (∀ wx, Below w.heap.size w wx → _) := fun wx hb => refSupers_fuel l lv hR _ d wx (hlv.mono hb) hy (Nat.le_refl _)
  unfold RowPost at HLc HLd
  have HOc : Hid (∀ wx, Below w.heap.size w wx → _) := fun wx hb => refClassOf_any l lv c wx (hlv.mono hb)
  have HOd : Hid (∀ wx, Below w.heap.size w wx → _) := fun wx hb => refClassOf_any l lv d wx (hlv.mono hb)
  unfold ClassGives at HOc HOd
  have hnc : (classC (allC l) c).name = c := by
    obtain ⟨e, he⟩ := Option.isSome_iff_exists.1 hx
    unfold classC; rw [he]; have := List.find?_some he; simpa using this
  have hnd : (classC (allC l) d).name = d := by
    obtain ⟨e, he⟩ := Option.isSome_iff_exists.1 hy
    unfold classC; rw [he]; have := List.find?_some he; simpa using this
  have hcl := hR.classes hx hy hne
  have hlca := class_name20 hcf (hR.tree.known c _ hx (hR.tree.lub1 c d hx hy).1)
  unfold OfPost
  rw [joinKd_cc]
  rw [show (findC (allC l) c).getD noClass = classC (allC l) c from rfl] at HOc
  rw [show (findC (allC l) d).getD noClass = classC (allC l) d from rfl] at HOd
  obtain ⟨pl, cap, rfl, _⟩ := hlv.open
  have hlcd : lcaC (allC l) c d = lcaGo (lineC (allC l) d) (lineC (allC l) c) := rfl
  have hfinT : Hid (∀ z : Str, z.size ≤ 20 → (thText z).size ≤ 30 + a.size + b.size) := fun z h => by rw [th_size]; omega
  have hfinO : Hid (sThing.size ≤ 30 + a.size + b.size) := by unfold Hid; show 8 ≤ _; omega
  clear hlv hR hcf ha hb hx hy hne hsa hsb ma mb
  generalize (findC (allC l) c).isSome = ic at *
  generalize (findC (allC l) d).isSome = id at *
  generalize classC (allC l) c = x at *
  generalize classC (allC l) d = y at *
  generalize lineC (allC l) c = Lc at *
  generalize lineC (allC l) d = Ld at *
  generalize lcaC (allC l) c d = r at *
  obtain ⟨n1, s1, f1, b1, d1, m1⟩ := x
  obtain ⟨n2, s2, f2, b2, d2, m2⟩ := y
  dsimp only at *
  subst hnc hnd
  have HLCA := Lib.hid hlca
  have HCL := Lib.hid hcl
  have HRC := Lib.hid hlcd
  clear hlca hcl hlcd
  go_enter Tryz.func45, Tryz.ntmps45
  go_upto_region 17 with (first
    | (go_at_call 72; (with_reducible refine (HA.out _).mono ?_); rintro e w3 ⟨rfl, rfl⟩)
    | (go_at_call 72; (with_reducible refine (HB.out _).mono ?_); rintro e w3 ⟨rfl, rfl⟩)
    | (go_at_call 73; (with_reducible refine (HCa.out _).mono ?_); rintro e w3 ⟨rfl, rfl⟩)
    | (go_at_call 52; (with_reducible refine (HOc.out _ (Below.refl _ _)).mono ?_); rintro e w4 ⟨p1, k1, p2, k2, p3, k3, rfl, _, _, _, hB4, _⟩))
  have BX := boxed_new w4 #[.string n1, .string s1, .slice p1 f1.length k1, .bool b1, .slice p2 d1.length k2, .slice p3 m1.length k3] 37
  have hB5 := below_call hB4 (Nat.le_refl _) BX.below
  generalize w4.alloc (.cells #[.string n1, .string s1, .slice p1 f1.length k1, .bool b1, .slice p2 d1.length k2, .slice p3 m1.length k3] 37) = w5 at *
  have HBX := Lib.hid BX
  clear BX hB4
  go_upto_region 18 with (first
    | (go_at_call 73; (with_reducible refine (HCb.out _).mono ?_); rintro e w3 ⟨rfl, rfl⟩)
    | (go_at_call 52; (with_reducible refine (HOd.out _ hB5).mono ?_); rintro e w6 ⟨p4, k4, p5, k5, p6, k6, rfl, _, _, _, hB6, _⟩))
  have BY := boxed_new w6 #[.string n2, .string s2, .slice p4 f2.length k4, .bool b2, .slice p5 d2.length k5, .slice p6 m2.length k6] 37
  have hB57 := below_call hB6 (Nat.le_refl _) BY.below
  have hB7 := below_call hB5 (Nat.le_refl _) hB57
  generalize w6.alloc (.cells #[.string n2, .string s2, .slice p4 f2.length k4, .bool b2, .slice p5 d2.length k5, .slice p6 m2.length k6] 37) = w7 at *
  have HBX7 := Lib.hid (HBX.out.step hB57)
  have HBY := Lib.hid BY
  clear BY hB6 hB57 HBX hB5
  obtain ⟨x0, x1, x2, x3, x4, x5⟩ := boxed6 HBX7.out
  obtain ⟨y0, y1, y2, y3, y4, y5⟩ := boxed6 HBY.out
  clear x1 x2 x4 x5 y1 y2 y4 y5
  by_cases hbb : (b1 || b2) = true
  · have hro := HCL.out
    rw [if_pos hbb] at hro
    subst hro
    cases b1 <;> cases b2 <;> first | (exact absurd hbb (by decide)) | skip
    all_goals
      clear hbb
      go_wp2_with (first | fail)
      go_ret
      exact ⟨⟨_, rfl, rfl, hfinO.out⟩, hB7⟩
  · rw [Bool.not_eq_true, Bool.or_eq_false_iff] at hbb
    obtain ⟨rfl, rfl⟩ := hbb
    clear HCL
    go_upto_region 21 with (go_at_call 62; (with_reducible refine (HLc.out _ hB7).mono ?_); rintro e w8 ⟨⟨v8, rfl, hv8⟩, hB8⟩; obtain ⟨pa, ca, rfl⟩ := ownsRow_shape hv8)
    have HBY8 := Lib.hid (HBY.out.step hB8)
    have hB8w := below_call hB7 (Nat.le_refl _) hB8
    clear x0 x3 y0 y3
    obtain ⟨y0, y1, y2, y3, y4, y5⟩ := boxed6 HBY8.out
    clear y1 y2 y3 y4 y5
    go_wp2_with (go_at_call 62; (with_reducible refine (HLd.out _ hB8w).mono ?_); rintro e w9 ⟨⟨v9, rfl, hv9⟩, hB9⟩; obtain ⟨pb, cb, rfl⟩ := ownsRow_shape hv9)
    have hs8 := (strsAt_of_owns hv8).mono hB9
    have hs9 := strsAt_of_owns hv9
    have hB := below_call hB8w (Nat.le_refl _) hB9
    obtain ⟨pa', ca', he, h1, h2, hcc⟩ := hs8.open
    injection he with he1 he2 he3
    subst he1 he3
    clear he2
    have HC := Lib.hid hcc
    have HIn : Hid (∀ x, _) := fun x => in_any Ld _ x w9 hs9
    have hlen : Lc.length ≤ 9223372036854775807 := Nat.le_trans h1 h2
    clear hs8 hs9 hcc hv8 hv9 hB7 hB8 hB8w hB9 HLc HLd y0 HBX7 HBY HBY8
    go_loopw [14] (fun x wr => ∃ k : Nat, k ≤ Lc.length ∧ Hid (lcaGo Ld (Lc.drop k) = lcaGo Ld Lc) ∧ w9 = wr ∧ x = .int .i64 k) (fun x _ => Lc.length - (intOf x).toNat)
    case atStart => exact ⟨0, by omega, rfl, rfl, rfl⟩
    case round =>
      obtain ⟨k, hk, hff, rfl, rfl⟩ := hrel
      by_cases hkl : k < Lc.length
      · obtain ⟨z, hz⟩ : ∃ z, Lc[k]? = some z := ⟨Lc[k], by simp [hkl]⟩
        obtain ⟨bb, oo, vs, rfl, hR, _, hcells⟩ := HC.out k z hz
        unfold StrCells at hR; subst hR
        have c0 := hcells.1
        rw [Nat.mul_one] at c0
        have hstep := lcaGo_drop Ld Lc k z hz
        rw [hff.out] at hstep
        have hin := HIn.out z
        have HX := Lib.hid hz
        clear hz hcells hff
        cases hm : memB Ld z with
        | true =>
          rw [hm] at hin hstep
          replace hstep : lcaGo Ld Lc = z := hstep
          have hrz : r = z := HRC.out.trans hstep
          subst hrz
          have hz20 := HLCA.out
          have hz1 : (⟨#[76]⟩ ++ r : ByteArray).size ≤ 21 := by rw [ByteArray.size_append]; show 1 + r.size ≤ _; omega
          have HI1 := Lib.hid hin
          clear hstep hin hm
          go_wp2_with (go_at_call 22; (with_reducible refine HI1.out.mono ?_); rintro e w5 ⟨rfl, rfl⟩)
          go_ret
          exact ⟨⟨thText r, rfl, (lst_th r).symm, hfinT.out r hz20⟩, hB⟩
        | false =>
          rw [hm] at hin hstep
          have hst : Hid (lcaGo Ld (Lc.drop (k + 1)) = lcaGo Ld Lc) := hstep.symm
          have HI1 := Lib.hid hin
          clear hstep hin hm
          go_wp2_with (go_at_call 22; (with_reducible refine HI1.out.mono ?_); rintro e w5 ⟨rfl, rfl⟩)
          go_roundw
          case rel => exact ⟨k + 1, by omega, hst.out, by simp, by simp⟩
          case measure => simp [intOf]; omega
      · obtain rfl : k = Lc.length := by omega
        have hno : r = sObject := by rw [HRC.out, ← hff.out, List.drop_eq_nil_of_le (Nat.le_refl _)]; rfl
        subst hno
        clear hff
        go_wp2_with (first | fail)
        go_ret
        exact ⟨⟨_, rfl, rfl, hfinO.out⟩, hB⟩
set_option maxHeartbeats 4000000 in
set_option maxRecDepth 100000 in
theorem refJoin_arr (w : World) (pl : Option Addr) (n cap m : Nat) (T : Str → Prop) (a b a1 b1 : Str) (ru rv : Bool) (HA : ∀ wx, Calls Tryz.prog 72 #[.string a] wx fun e w' => e = .returned (.bool true) ∧ wx = w') (HB : ∀ wx, Calls Tryz.prog 72 #[.string b] wx fun e w' => e = .returned (.bool true) ∧ wx = w')
    (HA2 : ∀ wx, Calls Tryz.prog 72 #[.string a1] wx fun e w' => e = .returned (.bool ru) ∧ wx = w') (HB2 : ∀ wx, Calls Tryz.prog 72 #[.string b1] wx fun e w' => e = .returned (.bool rv) ∧ wx = w')
    (HI : (ru && rv) = true → ∀ wx, Below w.heap.size w wx → Calls Tryz.prog 45 #[.slice pl n cap, .string a1, .string b1] wx fun e w' => (∃ z, e = .returned (.string z) ∧ T (arText z) ∧ z.size ≤ m) ∧ Below wx.heap.size wx w')
    (hrf : (ru && rv) = false → T sThing) (hm : 7 ≤ m) (hm2 : m ≤ 9000000) (hpa : 0 < a.size) (hpb : 0 < b.size) (ga : (((a[0]'hpa).toNat : Int) == 91) = true) (gb : (((b[0]'hpb).toNat : Int) == 91) = true)
    (hxa : a.extract 1 a.size = a1) (hxb : b.extract 1 b.size = b1) (hsa : a.size ≤ maxLen) (hsb : b.size ≤ maxLen)
    (hE : (a.toList == b.toList) = false) (hN : (a.toList == [78]) = false) (hM : (b.toList == [78]) = false) :
    Calls Tryz.prog 45 #[.slice pl n cap, .string a, .string b] w fun e w' => (∃ z, e = .returned (.string z) ∧ T z ∧ z.size ≤ m + 1) ∧ Below w.heap.size w w' := by
  have QA2 : Hid (∀ wx, Calls Tryz.prog 72 #[.string a1] wx fun e w' => e = .returned (.bool ru) ∧ w' = wx) := fun wx => (HA2 wx).mono fun e w' h => ⟨h.1, h.2.symm⟩
  have QB2 : Hid (∀ wx, Calls Tryz.prog 72 #[.string b1] wx fun e w' => e = .returned (.bool rv) ∧ w' = wx) := fun wx => (HB2 wx).mono fun e w' h => ⟨h.1, h.2.symm⟩
  replace HA := Lib.hid HA
  replace HB := Lib.hid HB
  replace HA2 := Lib.hid HA2
  replace HB2 := Lib.hid HB2
  replace HI := Lib.hid HI
  replace hrf := Lib.hid hrf
  unfold maxLen at hsa hsb
  have i1 : (0 : Int) < (a.size : Int) := by omega
  have i2 : (0 : Int) < (b.size : Int) := by omega
  have i3 : (1 : Int) ≤ (a.size : Int) := by omega
  have i4 : (1 : Int) ≤ (b.size : Int) := by omega
  by_cases hrr : (ru && rv) = true
  · replace HI := Lib.hid (HI.out hrr)
    rw [Bool.and_eq_true] at hrr
    obtain ⟨rfl, rfl⟩ := hrr
    clear hrf QA2 QB2
    go_enter Tryz.func45, Tryz.ntmps45
    go_upto_region 12 with (first
      | (go_at_call 72; (with_reducible refine (HA.out _).mono ?_); rintro e w3 ⟨rfl, rfl⟩)
      | (go_at_call 72; (with_reducible refine (HB.out _).mono ?_); rintro e w3 ⟨rfl, rfl⟩)
      | (go_at_call 72; (with_reducible refine (HA2.out _).mono ?_); rintro e w3 ⟨rfl, rfl⟩)
      | (go_at_call 72; (with_reducible refine (HB2.out _).mono ?_); rintro e w3 ⟨rfl, rfl⟩))
    refine wp_region_still_tail 5 (by kernel_rfl) (by kernel_rfl) ?_
    simp only [List.take_succ_cons, List.take_zero, List.drop_succ_cons, List.drop_zero]
    repeat still_step
    refine wpStill_nil ?_
    change wpList _ _ _ _ _ w.drew
    go_wp2_with (go_at_call 45; (with_reducible refine (HI.out _ (Below.refl _ _).drew).mono ?_); rintro e w4 ⟨⟨z4, rfl, hz4, hs4⟩, hB4⟩)
    go_ret
    exact ⟨⟨arText z4, rfl, hz4, by rw [arText_size]; omega⟩, below_call (Below.refl _ _).drew (Nat.le_refl _) hB4⟩
  · rw [Bool.not_eq_true] at hrr
    replace hrf := Lib.hid (hrf.out hrr)
    clear HI QA2 QB2
    cases ru <;> cases rv <;> first | (exact absurd hrr (by decide)) | skip
    all_goals
      go_enter Tryz.func45, Tryz.ntmps45
      go_wp2_with (first
        | (go_at_call 72; (with_reducible refine (HA.out _).mono ?_); rintro e w3 ⟨rfl, rfl⟩)
        | (go_at_call 72; (with_reducible refine (HB.out _).mono ?_); rintro e w3 ⟨rfl, rfl⟩)
        | (go_at_call 72; (with_reducible refine (HA2.out _).mono ?_); rintro e w3 ⟨rfl, rfl⟩)
        | (go_at_call 72; (with_reducible refine (HB2.out _).mono ?_); rintro e w3 ⟨rfl, rfl⟩))
      go_ret
      exact ⟨⟨sThing, rfl, hrf.out, by show 8 ≤ _; omega⟩, Below.refl _ _⟩
set_option maxHeartbeats 4000000 in
set_option maxRecDepth 100000 in
theorem refJoin_mixed (w : World) (pl : Option Addr) (n cap : Nat) (a b : Str) (p q : Bool) (HA : ∀ wx, Calls Tryz.prog 72 #[.string a] wx fun e w' => e = .returned (.bool true) ∧ wx = w') (HB : ∀ wx, Calls Tryz.prog 72 #[.string b] wx fun e w' => e = .returned (.bool true) ∧ wx = w')
    (hpa : 0 < a.size) (hpb : 0 < b.size) (ga : (((a[0]'hpa).toNat : Int) == 91) = p) (gb : (((b[0]'hpb).toNat : Int) == 91) = q) (hpq : (p && q) = false ∧ (p || q) = true)
    (hE : (a.toList == b.toList) = false) (hN : (a.toList == [78]) = false) (hM : (b.toList == [78]) = false) :
    Calls Tryz.prog 45 #[.slice pl n cap, .string a, .string b] w fun e w' => e = .returned (.string sThing) ∧ w = w' := by
  replace HA := Lib.hid HA
  replace HB := Lib.hid HB
  cases p <;> cases q <;> first | (exact absurd hpq (by decide)) | skip
  all_goals
    clear hpq
    go_enter Tryz.func45, Tryz.ntmps45
    go_wp2_with (first
      | (go_at_call 72; (with_reducible refine (HA.out _).mono ?_); rintro e w3 ⟨rfl, rfl⟩)
      | (go_at_call 72; (with_reducible refine (HB.out _).mono ?_); rintro e w3 ⟨rfl, rfl⟩))
    go_ret
    exact ⟨rfl, rfl⟩
theorem refJoin_ty (l : List Class) (lv : Value) (hR : Right l) (hcf : ∀ c ∈ l, classFault c = 0) : ∀ (x : Ty) (w : World) (a b : Str) (y : Ty), ClassesAt w lv l → tyText x = lst a → tyText y = lst b → goodTy (allC l) x = true → goodTy (allC l) y = true → deepTy x ≤ 3 → deepTy y ≤ 3 → a.size ≤ 4194304 → b.size ≤ 4194304 →
    Calls Tryz.prog 45 #[lv, .string a, .string b] w (OfPost w (allC l) (.ty x) (.ty y) (30 + a.size + b.size)) := by
  have plain : ∀ (x : Ty) (w : World) (a b : Str) (y : Ty), ClassesAt w lv l → tyText x = lst a → tyText y = lst b → goodTy (allC l) x = true → goodTy (allC l) y = true → deepTy x ≤ 3 → deepTy y ≤ 3 → a.size ≤ 4194304 → b.size ≤ 4194304 → (x = y ∨ isRef x = false ∨ isRef y = false) →
      Calls Tryz.prog 45 #[lv, .string a, .string b] w (OfPost w (allC l) (.ty x) (.ty y) (30 + a.size + b.size)) := fun x w a b y hm ha hb hx hy hdx hdy hsa hsb h =>
    refJoin_plain w l lv hR hcf hm a b (.ty x) (.ty y) ha hb hx hy hdx hdy hsa hsb (by
      rcases h with h | h
      · exact Or.inl (by rw [h])
      · exact Or.inr (Or.inr (Or.inr h)))
  have big : ∀ {s : Str}, s.size ≤ 4194304 → s.size ≤ maxLen := fun h => Nat.le_trans h (by decide)
  intro x
  induction x with
  | i => intro w a b y hm ha hb hx hy hdx hdy hsa hsb; exact plain _ w a b y hm ha hb hx hy hdx hdy hsa hsb (Or.inr (Or.inl rfl))
  | j => intro w a b y hm ha hb hx hy hdx hdy hsa hsb; exact plain _ w a b y hm ha hb hx hy hdx hdy hsa hsb (Or.inr (Or.inl rfl))
  | cl c =>
    intro w a b y hm ha hb hx hy hdx hdy hsa hsb
    by_cases he : Ty.cl c = y ∨ isRef y = false
    · exact plain _ w a b y hm ha hb hx hy hdx hdy hsa hsb (by rcases he with he | he; exact Or.inl he; exact Or.inr (Or.inr he))
    · have hne : Ty.cl c ≠ y := fun h => he (Or.inl h)
      cases y with
      | i => exact absurd (Or.inr rfl) he
      | j => exact absurd (Or.inr rfl) he
      | cl d => exact refJoin_cls w l lv hR hcf hm a b c d ha hb hx hy (fun h => hne (by rw [h])) hsa hsb
      | ar z =>
        have hE := kd_same (x := .ty (.cl c)) (y := .ty (.ar z)) ha hb
        have hN := kd_is (x := .ty (.cl c)) ha .n
        have hM := kd_is (x := .ty (.ar z)) hb .n
        rw [decide_eq_false (by intro h; cases h)] at hE hN hM
        obtain ⟨hpa, _⟩ := kd_first ha
        obtain ⟨hpb, _⟩ := kd_first hb
        obtain ⟨pl, cap, rfl, _⟩ := hm.open
        refine (refJoin_mixed w pl _ cap a b false true (fun wx => refIs_any a (.ty (.cl c)) wx ha (kd_typeB hcf hx hdx) (big hsa)) (fun wx => refIs_any b (.ty (.ar z)) wx hb (kd_typeB hcf hy hdy) (big hsb)) hpa hpb (kd_arrQ ha hpa) (kd_arrQ hb hpb) ⟨rfl, rfl⟩ hE hN hM).mono ?_
        rintro e w' ⟨rfl, rfl⟩
        exact ⟨⟨_, rfl, rfl, by show 8 ≤ _; omega⟩, Below.refl _ _⟩
  | ar u ih =>
    intro w a b y hm ha hb hx hy hdx hdy hsa hsb
    by_cases he : Ty.ar u = y ∨ isRef y = false
    · exact plain _ w a b y hm ha hb hx hy hdx hdy hsa hsb (by rcases he with he | he; exact Or.inl he; exact Or.inr (Or.inr he))
    · have hne : Ty.ar u ≠ y := fun h => he (Or.inl h)
      cases y with
      | i => exact absurd (Or.inr rfl) he
      | j => exact absurd (Or.inr rfl) he
      | cl d =>
        have hE := kd_same (x := .ty (.ar u)) (y := .ty (.cl d)) ha hb
        have hN := kd_is (x := .ty (.ar u)) ha .n
        have hM := kd_is (x := .ty (.cl d)) hb .n
        rw [decide_eq_false (by intro h; cases h)] at hE hN hM
        obtain ⟨hpa, _⟩ := kd_first ha
        obtain ⟨hpb, _⟩ := kd_first hb
        obtain ⟨pl, cap, rfl, _⟩ := hm.open
        refine (refJoin_mixed w pl _ cap a b true false (fun wx => refIs_any a (.ty (.ar u)) wx ha (kd_typeB hcf hx hdx) (big hsa)) (fun wx => refIs_any b (.ty (.cl d)) wx hb (kd_typeB hcf hy hdy) (big hsb)) hpa hpb (kd_arrQ ha hpa) (kd_arrQ hb hpb) ⟨rfl, rfl⟩ hE hN hM).mono ?_
        rintro e w' ⟨rfl, rfl⟩
        exact ⟨⟨_, rfl, rfl, by show 8 ≤ _; omega⟩, Below.refl _ _⟩
      | ar v =>
        have hE := kd_same (x := .ty (.ar u)) (y := .ty (.ar v)) ha hb
        have hN := kd_is (x := .ty (.ar u)) ha .n
        have hM := kd_is (x := .ty (.ar v)) hb .n
        rw [decide_eq_false (by intro h; cases h)] at hN hM
        rw [decide_eq_false (by intro h; injection h with h; exact hne h)] at hE
        obtain ⟨hpa, _⟩ := kd_first ha
        obtain ⟨hpb, _⟩ := kd_first hb
        obtain ⟨ta, tas, hsz1⟩ := tail_text ha
        obtain ⟨tb, tbs, hsz2⟩ := tail_text hb
        have du : deepTy u ≤ 3 := by simp only [deepTy] at hdx; omega
        have dv : deepTy v ≤ 3 := by simp only [deepTy] at hdy; omega
        have es1 : (a.extract 1 a.size).size = a.size - 1 := by rw [ByteArray.size_extract]; omega
        have es2 : (b.extract 1 b.size).size = b.size - 1 := by rw [ByteArray.size_extract]; omega
        have huv : u ≠ v := fun h => hne (by rw [h])
        have HI : ∀ wx, Below w.heap.size w wx → _ := fun wx hb => ih wx (a.extract 1 a.size) (b.extract 1 b.size) v (hm.mono hb) ta tb hx hy du dv (Nat.le_trans tas hsa) (Nat.le_trans tbs hsb)
        have HA := fun wx => refIs_any a (.ty (.ar u)) wx ha (kd_typeB hcf hx hdx) (big hsa)
        have HB := fun wx => refIs_any b (.ty (.ar v)) wx hb (kd_typeB hcf hy hdy) (big hsb)
        have HA2 := fun wx => refIs_any (a.extract 1 a.size) (.ty u) wx ta (kd_typeB hcf hx du) (big (Nat.le_trans tas hsa))
        have HB2 := fun wx => refIs_any (b.extract 1 b.size) (.ty v) wx tb (kd_typeB hcf hy dv) (big (Nat.le_trans tbs hsb))
        obtain ⟨pl, cap, rfl, _⟩ := hm.open
        refine (refJoin_arr w pl _ cap (29 + a.size + b.size) (fun z => kdText (joinKd (allC l) (.ty (.ar u)) (.ty (.ar v))) = lst z) a b _ _ (isRef u) (isRef v) HA HB HA2 HB2 ?_ ?_ (by omega) (by omega) hpa hpb (kd_arrQ ha hpa) (kd_arrQ hb hpb) rfl rfl (big hsa) (big hsb) hE hN hM).mono ?_
        · intro hr wx hb
          rw [Bool.and_eq_true] at hr
          obtain ⟨z, hz1, hz2⟩ := join_arr (cs := allC l) hr.1 hr.2
          refine (HI wx hb).mono ?_
          rintro e w' ⟨⟨z4, rfl, hz4, hs4⟩, hB4⟩
          rw [hz1] at hz4
          exact ⟨⟨z4, rfl, by rw [hz2, lst_ar, ← hz4]; rfl, by omega⟩, hB4⟩
        · intro hr
          rw [join_arr_word huv (by cases hu : isRef u <;> cases hv : isRef v <;> simp [hu, hv] at hr ⊢)]
          rfl
        · rintro e w' ⟨⟨z4, rfl, hz4, hs4⟩, hB4⟩
          exact ⟨⟨z4, rfl, hz4, by omega⟩, hB4⟩
/-- the reference's Join, of right kinds -/
theorem refJoin_any (l : List Class) (lv : Value) (hR : Right l) (hcf : ∀ c ∈ l, classFault c = 0) (w : World) (hm : ClassesAt w lv l) (a b : Str) (x y : Kd) (ha : IsKd (allC l) a x) (hb : IsKd (allC l) b y) (hdx : deepKd x ≤ 3) (hdy : deepKd y ≤ 3) (hsa : a.size ≤ 4194304) (hsb : b.size ≤ 4194304) :
    Calls Tryz.prog 45 #[lv, .string a, .string b] w (OfPost w (allC l) x y (30 + a.size + b.size)) := by
  have plain := refJoin_plain w l lv hR hcf hm a b x y ha.1 hb.1 ha.2 hb.2 hdx hdy hsa hsb
  cases x with
  | n => exact plain (Or.inr (Or.inr (Or.inr (Or.inl rfl))))
  | t => exact plain (Or.inr (Or.inr (Or.inr (Or.inl rfl))))
  | ty u =>
    cases y with
    | n => exact plain (Or.inr (Or.inr (Or.inr (Or.inr rfl))))
    | t => exact plain (Or.inr (Or.inr (Or.inr (Or.inr rfl))))
    | ty v => exact refJoin_ty l lv hR hcf u w a b v hm ha.1 hb.1 ha.2 hb.2 hdx hdy hsa hsb
end Go.Proofs.YtpjkpmmjehnahaaGreatDoor
