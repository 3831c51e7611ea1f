/-
  WALKS over the reference's Join. Conditions: a right world, kinds that are there; texts of at most 4194304 signs.
  WALKS over the reference's FrameFault, joined, JoinFrames, texts, SameFrame; same's Frame. Conditions: as in XRead; kinds' texts of at most 4194304 signs.
  WALK over the reference's JoinFrames. Conditions: as in XRead; kinds' texts of at most 4194304 signs.
-/
import Derived.Test.YtbakcdgjibmceaaGreatDoorRefFits
import Derived.Test.YtbakcdgjibmceaaGreatDoorJoinOf
import Derived.Test.YtbakcdgjibmceaaGreatDoorFrameOps
import Derived.Deep.RegionHeld3
namespace Go.Proofs.YtbakcdgjibmceaaGreatDoor
open Go.RowKit Go.Shelf Go.Lib
set_option maxHeartbeats 4000000 in
set_option maxRecDepth 100000 in
theorem refJoin_plain (w : World) (l : List Class) (lv : Value) (hR : Right l) (hcf : ∀ c ∈ l, classFault c = 0) (hlv : ClassesAt w lv l) (a b : Str) (x y : Kd) (ha : kdText x = lst a) (hb : kdText y = lst b) (hx : goodKd (allC l) x = true) (hy : goodKd (allC l) y = true) (hdx : deepKd x ≤ 3) (hdy : deepKd y ≤ 3) (hsa : a.size ≤ 4194304) (hsb : b.size ≤ 4194304)
    (h : x = y ∨ (x = .n ∧ refK y = true) ∨ (y = .n ∧ refK x = true) ∨ (refK x = false ∨ refK y = false)) :
    Calls Tryz.prog 111 #[lv, .string a, .string b] w (OfPost w (allC l) x y (30 + a.size + b.size)) := by
  have hE := kd_same ha hb
  have hN := kd_is ha .n
  have hM := kd_is hb .n
  have HA : Hid (∀ wx, _) := fun wx => refIs_any a x wx ha (kd_typeB hcf hx hdx) (Nat.le_trans hsa (by decide))
  have HB : Hid (∀ wx, _) := fun wx => refIs_any b y wx hb (kd_typeB hcf hy hdy) (Nat.le_trans hsb (by decide))
  have hT := of_text hR.tree (object_known l) ha hb hx h
  obtain ⟨pl, cap, rfl, _⟩ := hlv.open
  unfold OfPost
  simp only [kdText] at hN hM
  generalize joinKd (allC l) x y = r at *
  have hor : (decide (x = y) || (decide (x = .n) && refK y) || (decide (y = .n) && refK x) || !(refK x) || !(refK y)) = true := by
    rcases h with h | ⟨h, g⟩ | ⟨h, g⟩ | h | h <;> simp [*]
  clear hlv hR hcf hdx hdy hsa hsb ha hb hx hy h
  generalize decide (x = y) = eE at *
  generalize decide (x = .n) = eN at *
  generalize decide (y = .n) = eM at *
  generalize refK x = rx at *
  generalize refK y = ry at *
  cases eE <;> cases eN <;> cases eM <;> cases rx <;> cases ry <;> first | (exact absurd hor (by decide)) | skip
  all_goals
    clear hor
    simp only [if_true, if_false, Bool.and_true, Bool.and_false, Bool.false_eq_true] at hT
    have HT := Lib.hid hT
    clear hT
    go_enter Tryz.func111, Tryz.ntmps111
    go_wp2_with (first
      | (go_at_call 42; (with_reducible refine (HA.out _).mono ?_); rintro e w3 ⟨rfl, rfl⟩)
      | (go_at_call 42; (with_reducible refine (HB.out _).mono ?_); rintro e w3 ⟨rfl, rfl⟩))
    go_ret
    first
      | exact ⟨⟨a, rfl, HT.out, by omega⟩, Below.refl _ _⟩
      | exact ⟨⟨b, rfl, HT.out, by omega⟩, Below.refl _ _⟩
      | exact ⟨⟨⟨#[84]⟩, rfl, HT.out, by show 1 ≤ _; omega⟩, Below.refl _ _⟩
set_option maxHeartbeats 4000000 in
set_option maxRecDepth 100000 in
theorem refJoin_cls (w : World) (l : List Class) (lv : Value) (hR : Right l) (hcf : ∀ c ∈ l, classFault c = 0) (hlv : ClassesAt w lv l) (a b c d : Str) (ha : tyText (.cl c) = lst a) (hb : tyText (.cl d) = lst b) (hx : (findC (allC l) c).isSome = true) (hy : (findC (allC l) d).isSome = true) (hne : c ≠ d) (hsa : a.size ≤ 4194304) (hsb : b.size ≤ 4194304) :
    Calls Tryz.prog 111 #[lv, .string a, .string b] w (OfPost w (allC l) (.ty (.cl c)) (.ty (.cl d)) (30 + a.size + b.size)) := by
  have hE := kd_same (x := .ty (.cl c)) (y := .ty (.cl d)) ha hb
  have hN := kd_is (x := .ty (.cl c)) ha .n
  have hM := kd_is (x := .ty (.cl d)) hb .n
  simp only [kdText] at hN hM
  rw [decide_eq_false (by intro h; cases h)] at hN hM
  rw [decide_eq_false (by intro h; injection h with h; injection h with h; exact hne h)] at hE
  have ma : a.size ≤ maxLen := Nat.le_trans hsa (by decide)
  have mb : b.size ≤ maxLen := Nat.le_trans hsb (by decide)
  have HA : Hid (∀ wx, _) := fun wx => refIs_any a (.ty (.cl c)) wx ha (kd_typeB hcf hx (Nat.zero_le _)) ma
  have HB : Hid (∀ wx, _) := fun wx => refIs_any b (.ty (.cl d)) wx hb (kd_typeB hcf hy (Nat.zero_le _)) mb
  have HCa : Hid (∀ wx, _) := fun wx => refClassIn_any a (.cl c) wx ha ma
  have HCb : Hid (∀ wx, _) := fun wx => refClassIn_any b (.cl d) wx hb mb
  obtain ⟨hpa, fa⟩ := kd_first ha
  obtain ⟨hpb, fb⟩ := kd_first hb
  have ga := kd_arrQ ha hpa
  have gb := kd_arrQ hb hpb
  simp only [refK, isRef, baseOf, str_lst, headL, headQ] at HA HCa fa ga HB HCb fb gb
  have HLc : Hid (∀ wx, Below w.heap.size w wx → _) := fun wx hb => refSupers_fuel l lv hR _ c wx (hlv.mono hb) hx (Nat.le_refl _)
  have HLd : Hid (∀ wx, Below w.heap.size w wx → _) := fun wx hb => refSupers_fuel l lv hR _ d wx (hlv.mono hb) hy (Nat.le_refl _)
  unfold RowPost at HLc HLd
  have HOc : Hid (∀ wx, Below w.heap.size w wx → _) := fun wx hb => refClassOf_any l lv c wx (hlv.mono hb)
  have HOd : Hid (∀ wx, Below w.heap.size w wx → _) := fun wx hb => refClassOf_any l lv d wx (hlv.mono hb)
  unfold ClassGives at HOc HOd
  have hnc : (classC (allC l) c).name = c := by
    obtain ⟨e, he⟩ := Option.isSome_iff_exists.1 hx
    unfold classC; rw [he]; have := List.find?_some he; simpa using this
  have hnd : (classC (allC l) d).name = d := by
    obtain ⟨e, he⟩ := Option.isSome_iff_exists.1 hy
    unfold classC; rw [he]; have := List.find?_some he; simpa using this
  have hcl := hR.classes hx hy hne
  have hlca := class_name20 hcf (hR.tree.known c _ hx (hR.tree.lub1 c d hx hy).1)
  unfold OfPost
  rw [joinKd_cc]
  rw [show (findC (allC l) c).getD noClass = classC (allC l) c from rfl] at HOc
  rw [show (findC (allC l) d).getD noClass = classC (allC l) d from rfl] at HOd
  obtain ⟨pl, cap, rfl, _⟩ := hlv.open
  have hlcd : lcaC (allC l) c d = lcaGo (lineC (allC l) d) (lineC (allC l) c) := rfl
  have hfinT : Hid (∀ z : Str, z.size ≤ 20 → (thText z).size ≤ 30 + a.size + b.size) := fun z h => by rw [th_size]; omega
  have hfinO : Hid (sThing.size ≤ 30 + a.size + b.size) := by unfold Hid; show 8 ≤ _; omega
  clear hlv hR hcf ha hb hx hy hne hsa hsb ma mb
  generalize (findC (allC l) c).isSome = ic at *
  generalize (findC (allC l) d).isSome = id at *
  generalize classC (allC l) c = x at *
  generalize classC (allC l) d = y at *
  generalize lineC (allC l) c = Lc at *
  generalize lineC (allC l) d = Ld at *
  generalize lcaC (allC l) c d = r at *
  obtain ⟨n1, s1, f1, b1, d1, m1⟩ := x
  obtain ⟨n2, s2, f2, b2, d2, m2⟩ := y
  dsimp only at *
  subst hnc hnd
  have HLCA := Lib.hid hlca
  have HCL := Lib.hid hcl
  have HRC := Lib.hid hlcd
  clear hlca hcl hlcd
  go_enter Tryz.func111, Tryz.ntmps111
  go_upto_region 17 with (first
    | (go_at_call 42; (with_reducible refine (HA.out _).mono ?_); rintro e w3 ⟨rfl, rfl⟩)
    | (go_at_call 42; (with_reducible refine (HB.out _).mono ?_); rintro e w3 ⟨rfl, rfl⟩)
    | (go_at_call 45; (with_reducible refine (HCa.out _).mono ?_); rintro e w3 ⟨rfl, rfl⟩)
    | (go_at_call 19; (with_reducible refine (HOc.out _ (Below.refl _ _)).mono ?_); rintro e w4 ⟨p1, k1, p2, k2, p3, k3, rfl, _, _, _, hB4, _⟩))
  have BX := boxed_new w4 #[.string n1, .string s1, .slice p1 f1.length k1, .bool b1, .slice p2 d1.length k2, .slice p3 m1.length k3] 47
  have hB5 := below_call hB4 (Nat.le_refl _) BX.below
  generalize w4.alloc (.cells #[.string n1, .string s1, .slice p1 f1.length k1, .bool b1, .slice p2 d1.length k2, .slice p3 m1.length k3] 47) = w5 at *
  have HBX := Lib.hid BX
  clear BX hB4
  go_upto_region 18 with (first
    | (go_at_call 45; (with_reducible refine (HCb.out _).mono ?_); rintro e w3 ⟨rfl, rfl⟩)
    | (go_at_call 19; (with_reducible refine (HOd.out _ hB5).mono ?_); rintro e w6 ⟨p4, k4, p5, k5, p6, k6, rfl, _, _, _, hB6, _⟩))
  have BY := boxed_new w6 #[.string n2, .string s2, .slice p4 f2.length k4, .bool b2, .slice p5 d2.length k5, .slice p6 m2.length k6] 47
  have hB57 := below_call hB6 (Nat.le_refl _) BY.below
  have hB7 := below_call hB5 (Nat.le_refl _) hB57
  generalize w6.alloc (.cells #[.string n2, .string s2, .slice p4 f2.length k4, .bool b2, .slice p5 d2.length k5, .slice p6 m2.length k6] 47) = w7 at *
  have HBX7 := Lib.hid (HBX.out.step hB57)
  have HBY := Lib.hid BY
  clear BY hB6 hB57 HBX hB5
  obtain ⟨x0, x1, x2, x3, x4, x5⟩ := boxed6 HBX7.out
  obtain ⟨y0, y1, y2, y3, y4, y5⟩ := boxed6 HBY.out
  clear x1 x2 x4 x5 y1 y2 y4 y5
  by_cases hbb : (b1 || b2) = true
  · have hro := HCL.out
    rw [if_pos hbb] at hro
    subst hro
    cases b1 <;> cases b2 <;> first | (exact absurd hbb (by decide)) | skip
    all_goals
      clear hbb
      go_wp2_with (first | fail)
      go_ret
      exact ⟨⟨_, rfl, rfl, hfinO.out⟩, hB7⟩
  · rw [Bool.not_eq_true, Bool.or_eq_false_iff] at hbb
    obtain ⟨rfl, rfl⟩ := hbb
    clear HCL
    go_upto_region 21 with (go_at_call 125; (with_reducible refine (HLc.out _ hB7).mono ?_); rintro e w8 ⟨⟨v8, rfl, hv8⟩, hB8⟩; obtain ⟨pa, ca, rfl⟩ := ownsRow_shape hv8)
    have HBY8 := Lib.hid (HBY.out.step hB8)
    have hB8w := below_call hB7 (Nat.le_refl _) hB8
    clear x0 x3 y0 y3
    obtain ⟨y0, y1, y2, y3, y4, y5⟩ := boxed6 HBY8.out
    clear y1 y2 y3 y4 y5
    go_wp2_with (go_at_call 125; (with_reducible refine (HLd.out _ hB8w).mono ?_); rintro e w9 ⟨⟨v9, rfl, hv9⟩, hB9⟩; obtain ⟨pb, cb, rfl⟩ := ownsRow_shape hv9)
    have hs8 := (strsAt_of_owns hv8).mono hB9
    have hs9 := strsAt_of_owns hv9
    have hB := below_call hB8w (Nat.le_refl _) hB9
    obtain ⟨pa', ca', he, h1, h2, hcc⟩ := hs8.open
    injection he with he1 he2 he3
    subst he1 he3
    clear he2
    have HC := Lib.hid hcc
    have HIn : Hid (∀ x, _) := fun x => in_any Ld _ x w9 hs9
    have hlen : Lc.length ≤ 9223372036854775807 := Nat.le_trans h1 h2
    clear hs8 hs9 hcc hv8 hv9 hB7 hB8 hB8w hB9 HLc HLd y0 HBX7 HBY HBY8
    go_loopw [14] (fun x wr => ∃ k : Nat, k ≤ Lc.length ∧ Hid (lcaGo Ld (Lc.drop k) = lcaGo Ld Lc) ∧ w9 = wr ∧ x = .int .i64 k) (fun x _ => Lc.length - (intOf x).toNat)
    case atStart => exact ⟨0, by omega, rfl, rfl, rfl⟩
    case round =>
      obtain ⟨k, hk, hff, rfl, rfl⟩ := hrel
      by_cases hkl : k < Lc.length
      · obtain ⟨z, hz⟩ : ∃ z, Lc[k]? = some z := ⟨Lc[k], by simp [hkl]⟩
        obtain ⟨bb, oo, vs, rfl, hR, _, hcells⟩ := HC.out k z hz
        unfold StrCells at hR; subst hR
        have c0 := hcells.1
        rw [Nat.mul_one] at c0
        have hstep := lcaGo_drop Ld Lc k z hz
        rw [hff.out] at hstep
        have hin := HIn.out z
        have HX := Lib.hid hz
        clear hz hcells hff
        cases hm : memB Ld z with
        | true =>
          rw [hm] at hin hstep
          replace hstep : lcaGo Ld Lc = z := hstep
          have hrz : r = z := HRC.out.trans hstep
          subst hrz
          have hz20 := HLCA.out
          have hz1 : (⟨#[76]⟩ ++ r : ByteArray).size ≤ 21 := by rw [ByteArray.size_append]; show 1 + r.size ≤ _; omega
          have HI1 := Lib.hid hin
          clear hstep hin hm
          go_wp2_with (go_at_call 43; (with_reducible refine HI1.out.mono ?_); rintro e w5 ⟨rfl, rfl⟩)
          go_ret
          exact ⟨⟨thText r, rfl, (lst_th r).symm, hfinT.out r hz20⟩, hB⟩
        | false =>
          rw [hm] at hin hstep
          have hst : Hid (lcaGo Ld (Lc.drop (k + 1)) = lcaGo Ld Lc) := hstep.symm
          have HI1 := Lib.hid hin
          clear hstep hin hm
          go_wp2_with (go_at_call 43; (with_reducible refine HI1.out.mono ?_); rintro e w5 ⟨rfl, rfl⟩)
          go_roundw
          case rel => exact ⟨k + 1, by omega, hst.out, by simp, by simp⟩
          case measure => simp [intOf]; omega
      · obtain rfl : k = Lc.length := by omega
        have hno : r = sObject := by rw [HRC.out, ← hff.out, List.drop_eq_nil_of_le (Nat.le_refl _)]; rfl
        subst hno
        clear hff
        go_wp2_with (first | fail)
        go_ret
        exact ⟨⟨_, rfl, rfl, hfinO.out⟩, hB⟩
set_option maxHeartbeats 4000000 in
set_option maxRecDepth 100000 in
theorem refJoin_arr (w : World) (pl : Option Addr) (n cap m : Nat) (T : Str → Prop) (a b a1 b1 : Str) (ru rv : Bool) (HA : ∀ wx, Calls Tryz.prog 42 #[.string a] wx fun e w' => e = .returned (.bool true) ∧ wx = w') (HB : ∀ wx, Calls Tryz.prog 42 #[.string b] wx fun e w' => e = .returned (.bool true) ∧ wx = w')
    (HA2 : ∀ wx, Calls Tryz.prog 42 #[.string a1] wx fun e w' => e = .returned (.bool ru) ∧ wx = w') (HB2 : ∀ wx, Calls Tryz.prog 42 #[.string b1] wx fun e w' => e = .returned (.bool rv) ∧ wx = w')
    (HI : (ru && rv) = true → ∀ wx, Below w.heap.size w wx → Calls Tryz.prog 111 #[.slice pl n cap, .string a1, .string b1] wx fun e w' => (∃ z, e = .returned (.string z) ∧ T (arText z) ∧ z.size ≤ m) ∧ Below wx.heap.size wx w')
    (hrf : (ru && rv) = false → T sThing) (hm : 7 ≤ m) (hm2 : m ≤ 9000000) (hpa : 0 < a.size) (hpb : 0 < b.size) (ga : (((a[0]'hpa).toNat : Int) == 91) = true) (gb : (((b[0]'hpb).toNat : Int) == 91) = true)
    (hxa : a.extract 1 a.size = a1) (hxb : b.extract 1 b.size = b1) (hsa : a.size ≤ maxLen) (hsb : b.size ≤ maxLen)
    (hE : (a.toList == b.toList) = false) (hN : (a.toList == [78]) = false) (hM : (b.toList == [78]) = false) :
    Calls Tryz.prog 111 #[.slice pl n cap, .string a, .string b] w fun e w' => (∃ z, e = .returned (.string z) ∧ T z ∧ z.size ≤ m + 1) ∧ Below w.heap.size w w' := by
  have QA2 : Hid (∀ wx, Calls Tryz.prog 42 #[.string a1] wx fun e w' => e = .returned (.bool ru) ∧ w' = wx) := fun wx => (HA2 wx).mono fun e w' h => ⟨h.1, h.2.symm⟩
  have QB2 : Hid (∀ wx, Calls Tryz.prog 42 #[.string b1] wx fun e w' => e = .returned (.bool rv) ∧ w' = wx) := fun wx => (HB2 wx).mono fun e w' h => ⟨h.1, h.2.symm⟩
  replace HA := Lib.hid HA
  replace HB := Lib.hid HB
  replace HA2 := Lib.hid HA2
  replace HB2 := Lib.hid HB2
  replace HI := Lib.hid HI
  replace hrf := Lib.hid hrf
  unfold maxLen at hsa hsb
  have i1 : (0 : Int) < (a.size : Int) := by omega
  have i2 : (0 : Int) < (b.size : Int) := by omega
  have i3 : (1 : Int) ≤ (a.size : Int) := by omega
  have i4 : (1 : Int) ≤ (b.size : Int) := by omega
  by_cases hrr : (ru && rv) = true
  · replace HI := Lib.hid (HI.out hrr)
    rw [Bool.and_eq_true] at hrr
    obtain ⟨rfl, rfl⟩ := hrr
    clear hrf QA2 QB2
    go_enter Tryz.func111, Tryz.ntmps111
    go_upto_region 12 with (first
      | (go_at_call 42; (with_reducible refine (HA.out _).mono ?_); rintro e w3 ⟨rfl, rfl⟩)
      | (go_at_call 42; (with_reducible refine (HB.out _).mono ?_); rintro e w3 ⟨rfl, rfl⟩)
      | (go_at_call 42; (with_reducible refine (HA2.out _).mono ?_); rintro e w3 ⟨rfl, rfl⟩)
      | (go_at_call 42; (with_reducible refine (HB2.out _).mono ?_); rintro e w3 ⟨rfl, rfl⟩))
    refine wp_region_still_tail 5 (by kernel_rfl) (by kernel_rfl) ?_
    simp only [List.take_succ_cons, List.take_zero, List.drop_succ_cons, List.drop_zero]
    repeat still_step
    refine wpStill_nil ?_
    change wpList _ _ _ _ _ w.drew
    go_wp2_with (go_at_call 111; (with_reducible refine (HI.out _ (Below.refl _ _).drew).mono ?_); rintro e w4 ⟨⟨z4, rfl, hz4, hs4⟩, hB4⟩)
    go_ret
    exact ⟨⟨arText z4, rfl, hz4, by rw [arText_size]; omega⟩, below_call (Below.refl _ _).drew (Nat.le_refl _) hB4⟩
  · rw [Bool.not_eq_true] at hrr
    replace hrf := Lib.hid (hrf.out hrr)
    clear HI QA2 QB2
    cases ru <;> cases rv <;> first | (exact absurd hrr (by decide)) | skip
    all_goals
      go_enter Tryz.func111, Tryz.ntmps111
      go_wp2_with (first
        | (go_at_call 42; (with_reducible refine (HA.out _).mono ?_); rintro e w3 ⟨rfl, rfl⟩)
        | (go_at_call 42; (with_reducible refine (HB.out _).mono ?_); rintro e w3 ⟨rfl, rfl⟩)
        | (go_at_call 42; (with_reducible refine (HA2.out _).mono ?_); rintro e w3 ⟨rfl, rfl⟩)
        | (go_at_call 42; (with_reducible refine (HB2.out _).mono ?_); rintro e w3 ⟨rfl, rfl⟩))
      go_ret
      exact ⟨⟨sThing, rfl, hrf.out, by show 8 ≤ _; omega⟩, Below.refl _ _⟩
set_option maxHeartbeats 4000000 in
set_option maxRecDepth 100000 in
theorem refJoin_mixed (w : World) (pl : Option Addr) (n cap : Nat) (a b : Str) (p q : Bool) (HA : ∀ wx, Calls Tryz.prog 42 #[.string a] wx fun e w' => e = .returned (.bool true) ∧ wx = w') (HB : ∀ wx, Calls Tryz.prog 42 #[.string b] wx fun e w' => e = .returned (.bool true) ∧ wx = w')
    (hpa : 0 < a.size) (hpb : 0 < b.size) (ga : (((a[0]'hpa).toNat : Int) == 91) = p) (gb : (((b[0]'hpb).toNat : Int) == 91) = q) (hpq : (p && q) = false ∧ (p || q) = true)
    (hE : (a.toList == b.toList) = false) (hN : (a.toList == [78]) = false) (hM : (b.toList == [78]) = false) :
    Calls Tryz.prog 111 #[.slice pl n cap, .string a, .string b] w fun e w' => e = .returned (.string sThing) ∧ w = w' := by
  replace HA := Lib.hid HA
  replace HB := Lib.hid HB
  cases p <;> cases q <;> first | (exact absurd hpq (by decide)) | skip
  all_goals
    clear hpq
    go_enter Tryz.func111, Tryz.ntmps111
    go_wp2_with (first
      | (go_at_call 42; (with_reducible refine (HA.out _).mono ?_); rintro e w3 ⟨rfl, rfl⟩)
      | (go_at_call 42; (with_reducible refine (HB.out _).mono ?_); rintro e w3 ⟨rfl, rfl⟩))
    go_ret
    exact ⟨rfl, rfl⟩
theorem refJoin_ty (l : List Class) (lv : Value) (hR : Right l) (hcf : ∀ c ∈ l, classFault c = 0) : ∀ (x : Ty) (w : World) (a b : Str) (y : Ty), ClassesAt w lv l → tyText x = lst a → tyText y = lst b → goodTy (allC l) x = true → goodTy (allC l) y = true → deepTy x ≤ 3 → deepTy y ≤ 3 → a.size ≤ 4194304 → b.size ≤ 4194304 →
    Calls Tryz.prog 111 #[lv, .string a, .string b] w (OfPost w (allC l) (.ty x) (.ty y) (30 + a.size + b.size)) := by
  have plain : ∀ (x : Ty) (w : World) (a b : Str) (y : Ty), ClassesAt w lv l → tyText x = lst a → tyText y = lst b → goodTy (allC l) x = true → goodTy (allC l) y = true → deepTy x ≤ 3 → deepTy y ≤ 3 → a.size ≤ 4194304 → b.size ≤ 4194304 → (x = y ∨ isRef x = false ∨ isRef y = false) →
      Calls Tryz.prog 111 #[lv, .string a, .string b] w (OfPost w (allC l) (.ty x) (.ty y) (30 + a.size + b.size)) := fun x w a b y hm ha hb hx hy hdx hdy hsa hsb h =>
    refJoin_plain w l lv hR hcf hm a b (.ty x) (.ty y) ha hb hx hy hdx hdy hsa hsb (by
      rcases h with h | h
      · exact Or.inl (by rw [h])
      · exact Or.inr (Or.inr (Or.inr h)))
  have big : ∀ {s : Str}, s.size ≤ 4194304 → s.size ≤ maxLen := fun h => Nat.le_trans h (by decide)
  intro x
  induction x with
  | i => intro w a b y hm ha hb hx hy hdx hdy hsa hsb; exact plain _ w a b y hm ha hb hx hy hdx hdy hsa hsb (Or.inr (Or.inl rfl))
  | j => intro w a b y hm ha hb hx hy hdx hdy hsa hsb; exact plain _ w a b y hm ha hb hx hy hdx hdy hsa hsb (Or.inr (Or.inl rfl))
  | cl c =>
    intro w a b y hm ha hb hx hy hdx hdy hsa hsb
    by_cases he : Ty.cl c = y ∨ isRef y = false
    · exact plain _ w a b y hm ha hb hx hy hdx hdy hsa hsb (by rcases he with he | he; exact Or.inl he; exact Or.inr (Or.inr he))
    · have hne : Ty.cl c ≠ y := fun h => he (Or.inl h)
      cases y with
      | i => exact absurd (Or.inr rfl) he
      | j => exact absurd (Or.inr rfl) he
      | cl d => exact refJoin_cls w l lv hR hcf hm a b c d ha hb hx hy (fun h => hne (by rw [h])) hsa hsb
      | ar z =>
        have hE := kd_same (x := .ty (.cl c)) (y := .ty (.ar z)) ha hb
        have hN := kd_is (x := .ty (.cl c)) ha .n
        have hM := kd_is (x := .ty (.ar z)) hb .n
        rw [decide_eq_false (by intro h; cases h)] at hE hN hM
        obtain ⟨hpa, _⟩ := kd_first ha
        obtain ⟨hpb, _⟩ := kd_first hb
        obtain ⟨pl, cap, rfl, _⟩ := hm.open
        refine (refJoin_mixed w pl _ cap a b false true (fun wx => refIs_any a (.ty (.cl c)) wx ha (kd_typeB hcf hx hdx) (big hsa)) (fun wx => refIs_any b (.ty (.ar z)) wx hb (kd_typeB hcf hy hdy) (big hsb)) hpa hpb (kd_arrQ ha hpa) (kd_arrQ hb hpb) ⟨rfl, rfl⟩ hE hN hM).mono ?_
        rintro e w' ⟨rfl, rfl⟩
        exact ⟨⟨_, rfl, rfl, by show 8 ≤ _; omega⟩, Below.refl _ _⟩
  | ar u ih =>
    intro w a b y hm ha hb hx hy hdx hdy hsa hsb
    by_cases he : Ty.ar u = y ∨ isRef y = false
    · exact plain _ w a b y hm ha hb hx hy hdx hdy hsa hsb (by rcases he with he | he; exact Or.inl he; exact Or.inr (Or.inr he))
    · have hne : Ty.ar u ≠ y := fun h => he (Or.inl h)
      cases y with
      | i => exact absurd (Or.inr rfl) he
      | j => exact absurd (Or.inr rfl) he
      | cl d =>
        have hE := kd_same (x := .ty (.ar u)) (y := .ty (.cl d)) ha hb
        have hN := kd_is (x := .ty (.ar u)) ha .n
        have hM := kd_is (x := .ty (.cl d)) hb .n
        rw [decide_eq_false (by intro h; cases h)] at hE hN hM
        obtain ⟨hpa, _⟩ := kd_first ha
        obtain ⟨hpb, _⟩ := kd_first hb
        obtain ⟨pl, cap, rfl, _⟩ := hm.open
        refine (refJoin_mixed w pl _ cap a b true false (fun wx => refIs_any a (.ty (.ar u)) wx ha (kd_typeB hcf hx hdx) (big hsa)) (fun wx => refIs_any b (.ty (.cl d)) wx hb (kd_typeB hcf hy hdy) (big hsb)) hpa hpb (kd_arrQ ha hpa) (kd_arrQ hb hpb) ⟨rfl, rfl⟩ hE hN hM).mono ?_
        rintro e w' ⟨rfl, rfl⟩
        exact ⟨⟨_, rfl, rfl, by show 8 ≤ _; omega⟩, Below.refl _ _⟩
      | ar v =>
        have hE := kd_same (x := .ty (.ar u)) (y := .ty (.ar v)) ha hb
        have hN := kd_is (x := .ty (.ar u)) ha .n
        have hM := kd_is (x := .ty (.ar v)) hb .n
        rw [decide_eq_false (by intro h; cases h)] at hN hM
        rw [decide_eq_false (by intro h; injection h with h; exact hne h)] at hE
        obtain ⟨hpa, _⟩ := kd_first ha
        obtain ⟨hpb, _⟩ := kd_first hb
        obtain ⟨ta, tas, hsz1⟩ := tail_text ha
        obtain ⟨tb, tbs, hsz2⟩ := tail_text hb
        have du : deepTy u ≤ 3 := by simp only [deepTy] at hdx; omega
        have dv : deepTy v ≤ 3 := by simp only [deepTy] at hdy; omega
        have es1 : (a.extract 1 a.size).size = a.size - 1 := by rw [ByteArray.size_extract]; omega
        have es2 : (b.extract 1 b.size).size = b.size - 1 := by rw [ByteArray.size_extract]; omega
        have huv : u ≠ v := fun h => hne (by rw [h])
        have HI : ∀ wx, Below w.heap.size w wx → _ := fun wx hb => ih wx (a.extract 1 a.size) (b.extract 1 b.size) v (hm.mono hb) ta tb hx hy du dv (Nat.le_trans tas hsa) (Nat.le_trans tbs hsb)
        have HA := fun wx => refIs_any a (.ty (.ar u)) wx ha (kd_typeB hcf hx hdx) (big hsa)
        have HB := fun wx => refIs_any b (.ty (.ar v)) wx hb (kd_typeB hcf hy hdy) (big hsb)
        have HA2 := fun wx => refIs_any (a.extract 1 a.size) (.ty u) wx ta (kd_typeB hcf hx du) (big (Nat.le_trans tas hsa))
        have HB2 := fun wx => refIs_any (b.extract 1 b.size) (.ty v) wx tb (kd_typeB hcf hy dv) (big (Nat.le_trans tbs hsb))
        obtain ⟨pl, cap, rfl, _⟩ := hm.open
        refine (refJoin_arr w pl _ cap (29 + a.size + b.size) (fun z => kdText (joinKd (allC l) (.ty (.ar u)) (.ty (.ar v))) = lst z) a b _ _ (isRef u) (isRef v) HA HB HA2 HB2 ?_ ?_ (by omega) (by omega) hpa hpb (kd_arrQ ha hpa) (kd_arrQ hb hpb) rfl rfl (big hsa) (big hsb) hE hN hM).mono ?_
        · intro hr wx hb
          rw [Bool.and_eq_true] at hr
          obtain ⟨z, hz1, hz2⟩ := join_arr (cs := allC l) hr.1 hr.2
          refine (HI wx hb).mono ?_
          rintro e w' ⟨⟨z4, rfl, hz4, hs4⟩, hB4⟩
          rw [hz1] at hz4
          exact ⟨⟨z4, rfl, by rw [hz2, lst_ar, ← hz4]; rfl, by omega⟩, hB4⟩
        · intro hr
          rw [join_arr_word huv (by cases hu : isRef u <;> cases hv : isRef v <;> simp [hu, hv] at hr ⊢)]
          rfl
        · rintro e w' ⟨⟨z4, rfl, hz4, hs4⟩, hB4⟩
          exact ⟨⟨z4, rfl, hz4, by omega⟩, hB4⟩
/-- the reference's Join, of right kinds -/
theorem refJoin_any (l : List Class) (lv : Value) (hR : Right l) (hcf : ∀ c ∈ l, classFault c = 0) (w : World) (hm : ClassesAt w lv l) (a b : Str) (x y : Kd) (ha : IsKd (allC l) a x) (hb : IsKd (allC l) b y) (hdx : deepKd x ≤ 3) (hdy : deepKd y ≤ 3) (hsa : a.size ≤ 4194304) (hsb : b.size ≤ 4194304) :
    Calls Tryz.prog 111 #[lv, .string a, .string b] w (OfPost w (allC l) x y (30 + a.size + b.size)) := by
  have plain := refJoin_plain w l lv hR hcf hm a b x y ha.1 hb.1 ha.2 hb.2 hdx hdy hsa hsb
  cases x with
  | n => exact plain (Or.inr (Or.inr (Or.inr (Or.inl rfl))))
  | t => exact plain (Or.inr (Or.inr (Or.inr (Or.inl rfl))))
  | ty u =>
    cases y with
    | n => exact plain (Or.inr (Or.inr (Or.inr (Or.inr rfl))))
    | t => exact plain (Or.inr (Or.inr (Or.inr (Or.inr rfl))))
    | ty v => exact refJoin_ty l lv hR hcf u w a b v hm ha.1 hb.1 ha.2 hb.2 hdx hdy hsa hsb
end Go.Proofs.YtbakcdgjibmceaaGreatDoor
namespace Go.Proofs.YtbakcdgjibmceaaGreatDoor
open Go.RowKit Go.Shelf Go.Lib
set_option maxHeartbeats 1000000 in
theorem refTexts_any (a b : List Str) (va vb : Value) (w : World) (ha : StrsAt w va a) (hb : StrsAt w vb b) : Calls Tryz.prog 73 #[va, vb] w fun e w' => e = .returned (.bool (decide (a = b))) ∧ Below w.heap.size w w' := by
  obtain ⟨p, cap, rfl, h1, h2, hcc⟩ := ha.open
  obtain ⟨q, cbp, rfl, k1, k2, hdd⟩ := hb.open
  have HC := Lib.hid hcc
  have HD := Lib.hid hdd
  have hlen : a.length ≤ 9223372036854775807 := Nat.le_trans h1 h2
  clear ha hb hcc hdd
  by_cases hl : a.length = b.length
  · have hl' : ((a.length : Int) != (b.length : Int)) = false := by simp [hl]
    go_enter Tryz.func73, Tryz.ntmps73
    go_wp2_with (first | fail)
    all_goals first | (exfalso; omega) | skip
    go_loopw [5] (fun i wr => ∃ k : Nat, k ≤ a.length ∧ Hid (decide (a.drop k = b.drop k) = decide (a = b)) ∧ Below w.heap.size w wr ∧ i = .int .i64 k) (fun i _ => a.length - (intOf i).toNat)
    case atStart => exact ⟨0, by omega, rfl, Below.refl _ _, rfl⟩
    case round =>
      obtain ⟨k, hk, hff, hB, rfl⟩ := hrel
      by_cases hkl : k < a.length
      · obtain ⟨x, hx⟩ : ∃ x, a[k]? = some x := ⟨a[k], by simp [hkl]⟩
        obtain ⟨y, hy⟩ : ∃ y, b[k]? = some y := ⟨b[k]'(by omega), by simp [← hl, hkl]⟩
        obtain ⟨b1, o1, vs, rfl, hR, _, hcells⟩ := HC.out k x hx
        unfold StrCells at hR; subst hR
        obtain ⟨b2, o2, vs, rfl, hR, _, hcellt⟩ := HD.out k y hy
        unfold StrCells at hR; subst hR
        have c0 := (hcells.mono hB hcells.lt).1
        have d0 := (hcellt.mono hB hcellt.lt).1
        rw [Nat.mul_one] at c0 d0
        have hstep := texts_drop a b hl k x y hx hy
        rw [hff.out, ← strEq] at hstep
        have HX := Lib.hid hx
        have hkb : k < b.length := by omega
        clear hx hy hcells hcellt
        cases he : x.toList == y.toList with
        | true =>
          rw [he, Bool.true_and] at hstep
          have hst := Lib.hid hstep.symm
          clear hstep
          go_upto_region 6 with (first | fail)
          go_quiet (fail)
          go_wp2
          go_roundw
          case rel => exact ⟨k + 1, by omega, hst.out, ⟨hB.os, hB.tape, hB.output, hB.size, hB.block⟩, by simp⟩
          case measure => simp [intOf]; omega
        | false =>
          rw [he, Bool.false_and] at hstep
          have HS := Lib.hid hstep
          clear hstep
          go_upto_region 6 with (first | fail)
          go_quiet (fail)
          go_wp2
          go_ret
          exact ⟨by rw [HS.out]; rfl, ⟨hB.os, hB.tape, hB.output, hB.size, hB.block⟩⟩
      · obtain rfl : k = a.length := by omega
        have hyes : decide (a = b) = true := by rw [← hff.out, List.drop_eq_nil_of_le (Nat.le_refl _), List.drop_eq_nil_of_le (by omega)]; rfl
        have HS := Lib.hid hyes
        clear hyes
        go_wp2_with (first | fail)
        go_ret
        exact ⟨by rw [HS.out]; rfl, hB⟩
  · have hne : decide (a = b) = false := by simpa using fun h => hl (by rw [h])
    have hl' : ((a.length : Int) != (b.length : Int)) = true := by simp; omega
    rw [hne]
    go_enter Tryz.func73, Tryz.ntmps73
    go_wp2_with (first | fail)
    all_goals first | (exfalso; omega) | skip
    go_ret
    exact ⟨rfl, Below.refl _ _⟩
set_option maxRecDepth 100000 in
theorem refSameFrame_any (a b : Frm) (a1 a2 b1 b2 : Value) (w : World) (ha : FrameAt w a1 a2 a) (hb : FrameAt w b1 b2 b) :
    Calls Tryz.prog 36 #[.agg #[a1, a2], .agg #[b1, b2]] w fun e w' => e = .returned (.bool (decide (a = b))) ∧ Below w.heap.size w w' := by
  have HE1 : Hid (∀ wx, Below w.heap.size w wx → _) := fun wx h => refTexts_any a.locals b.locals a1 b1 wx (ha.1.mono h) (hb.1.mono h)
  have HE2 : Hid (∀ wx, Below w.heap.size w wx → _) := fun wx h => refTexts_any a.stack b.stack a2 b2 wx (ha.2.mono h) (hb.2.mono h)
  rw [frm_eq]
  clear ha hb
  have HB := Lib.hid (((Below.refl w.heap.size w).alloc (Nat.le_refl _) (.cells #[a1, a2] 64)).alloc (by simp) (.cells #[b1, b2] 64))
  obtain ⟨wb, hwb⟩ : ∃ wb, wb = (w.alloc (.cells #[a1, a2] 64)).alloc (.cells #[b1, b2] 64) := ⟨_, rfl⟩
  have HA1 : Hid (Blk wb w.heap.size 64 [a1, a2]) := by
    rw [hwb]
    exact (Blk.new w 64 [a1, a2]).step ((Below.refl _ _).alloc (Nat.le_refl _) _)
  have HA2 : Hid (Blk wb (w.heap.size + 1) 64 [b1, b2]) := by
    rw [hwb]
    have := Blk.new (w.alloc (.cells #[a1, a2] 64)) 64 [b1, b2]
    unfold Hid
    simpa using this
  rw [← hwb] at HB
  have HW := Lib.hid hwb.symm
  clear hwb
  generalize decide (a.locals = b.locals) = d at *
  cases d with
  | true =>
    rw [Bool.true_and]
    generalize decide (a.stack = b.stack) = r at *
    go_enter Tryz.func36, Tryz.ntmps36
    go_wp2_with (first
      | (go_at_call 73; rw [HW.out]; (with_reducible refine (HE1.out _ HB.out).mono ?_); rintro e w3 ⟨rfl, hB3⟩; (have hB3' := below_call HB.out (Nat.le_refl _) hB3); obtain ⟨q0, q1⟩ := (HA1.out.step hB3).cells2; obtain ⟨q2, q3⟩ := (HA2.out.step hB3).cells2)
      | (go_at_call 73; (with_reducible refine (HE2.out _ hB3').mono ?_); rintro e w4 ⟨rfl, hB4⟩))
    go_ret
    exact ⟨rfl, below_call hB3' (Nat.le_refl _) hB4⟩
  | false =>
    rw [Bool.false_and]
    go_enter Tryz.func36, Tryz.ntmps36
    go_wp2_with (first
      | (go_at_call 73; rw [HW.out]; (with_reducible refine (HE1.out _ HB.out).mono ?_); rintro e w3 ⟨rfl, hB3⟩; (have hB3' := below_call HB.out (Nat.le_refl _) hB3)))
    go_ret
    exact ⟨rfl, hB3'⟩
set_option maxRecDepth 100000 in
theorem sameFrame_any (a b : Frm) (a1 a2 b1 b2 : Value) (w : World) (ha : FrameAt w a1 a2 a) (hb : FrameAt w b1 b2 b) :
    Calls Tryz.prog 32 #[.agg #[a1, a2], .agg #[b1, b2]] w fun e w' => e = .returned (.bool (decide (a = b))) ∧ Below w.heap.size w w' := by
  have HE1 : Hid (∀ wx, Below w.heap.size w wx → _) := fun wx h => texts_any a.locals b.locals a1 b1 wx (ha.1.mono h) (hb.1.mono h)
  have HE2 : Hid (∀ wx, Below w.heap.size w wx → _) := fun wx h => texts_any a.stack b.stack a2 b2 wx (ha.2.mono h) (hb.2.mono h)
  rw [frm_eq]
  clear ha hb
  have HB := Lib.hid (((Below.refl w.heap.size w).alloc (Nat.le_refl _) (.cells #[a1, a2] 64)).alloc (by simp) (.cells #[b1, b2] 64))
  obtain ⟨wb, hwb⟩ : ∃ wb, wb = (w.alloc (.cells #[a1, a2] 64)).alloc (.cells #[b1, b2] 64) := ⟨_, rfl⟩
  have HA1 : Hid (Blk wb w.heap.size 64 [a1, a2]) := by
    rw [hwb]
    exact (Blk.new w 64 [a1, a2]).step ((Below.refl _ _).alloc (Nat.le_refl _) _)
  have HA2 : Hid (Blk wb (w.heap.size + 1) 64 [b1, b2]) := by
    rw [hwb]
    have := Blk.new (w.alloc (.cells #[a1, a2] 64)) 64 [b1, b2]
    unfold Hid
    simpa using this
  rw [← hwb] at HB
  have HW := Lib.hid hwb.symm
  clear hwb
  generalize decide (a.locals = b.locals) = d at *
  cases d with
  | true =>
    rw [Bool.true_and]
    generalize decide (a.stack = b.stack) = r at *
    go_enter Tryz.func32, Tryz.ntmps32
    go_wp2_with (first
      | (go_at_call 70; rw [HW.out]; (with_reducible refine (HE1.out _ HB.out).mono ?_); rintro e w3 ⟨rfl, hB3⟩; (have hB3' := below_call HB.out (Nat.le_refl _) hB3); obtain ⟨q0, q1⟩ := (HA1.out.step hB3).cells2; obtain ⟨q2, q3⟩ := (HA2.out.step hB3).cells2)
      | (go_at_call 70; (with_reducible refine (HE2.out _ hB3').mono ?_); rintro e w4 ⟨rfl, hB4⟩))
    go_ret
    exact ⟨rfl, below_call hB3' (Nat.le_refl _) hB4⟩
  | false =>
    rw [Bool.false_and]
    go_enter Tryz.func32, Tryz.ntmps32
    go_wp2_with (first
      | (go_at_call 70; rw [HW.out]; (with_reducible refine (HE1.out _ HB.out).mono ?_); rintro e w3 ⟨rfl, hB3⟩; (have hB3' := below_call HB.out (Nat.le_refl _) hB3)))
    go_ret
    exact ⟨rfl, hB3'⟩
theorem run_append_strs {w : World} (ty : TypeId) (base : Nat) (v : Value) (n : Nat) (xs : List Value) (hown : w.ownsRow base 9 1 v n xs) (y : Value) (l : List Str) (hy : StrsAt w y l) (h63 : n + l.length ≤ maxLen) (hbytes : (n + l.length) * 16 ≤ 140737488355328) (hbase : base ≤ w.heap.size) :
    ∃ v' w', (Builtin.append_ #[43, 43] ty #[v, y]).run Tryz.prog w = .ok v' w' ∧ w'.ownsRow base 9 1 v' (n + l.length) (xs ++ l.map Value.string) ∧ w.grownBy w' v.ownBlock := by
  obtain ⟨i0, hi, hz0, hz1, hz2⟩ := info_parts info_string
  rcases hy with ⟨rfl, rfl⟩ | ⟨ad, cap, rfl, hh⟩
  · exact ⟨v, w, run_append_owned_none w base 43 ty 9 i0 1 Tryz.underlying43 hi v n xs hown, by simpa using hown, World.grownBy.refl w _⟩
  · have hy : StrsAt w (.slice (some ad) l.length cap) l := Or.inr ⟨ad, cap, rfl, hh⟩
    obtain ⟨v', w', hr, h2, h3, _⟩ := run_append_own (P := Tryz.prog) w base 43 ty 9 i0 (.string .empty) 1 16 Tryz.underlying43 hi hz0 hz1 hz2 rfl (by decide) v n xs hown ad l.length cap (l.map Value.string) (by simp) (strs_news hy)
      (fun u hu => by obtain ⟨x, _, rfl⟩ := List.mem_map.1 hu; rfl) h63 hbytes hbase
    exact ⟨v', w', hr, h2, h3⟩
/-- append of a list of texts, at a step of a region that draws its order -/
theorem step_append_strs {w : World} {ops : Array Oper} {o : Oper} {a : Act} {K : Act → World → Prop} {Q : Exit → Act → World → Prop} {E : Prop} (hgd : o.guard = none) (s x : Operand)
    (ho : o.op = .call { callee := .builtin .append, args := #[s, x], argTypes := #[43, 43] })
    (base : Nat) (v : Value) (n : Nat) (xs : List Value) (hs : a.eval s = v) (hown : w.ownsRow base 9 1 v n xs)
    (y : Value) (l : List Str) (hx : a.eval x = y) (hy : StrsAt w y l) (h63 : n + l.length ≤ maxLen) (hbytes : (n + l.length) * 16 ≤ 140737488355328) (hbase : base ≤ w.heap.size)
    (h : ∀ v' w', w'.ownsRow base 9 1 v' (n + l.length) (xs ++ l.map Value.string) → w.grownBy w' v.ownBlock → K (a.put o.dst v') w') :
    if Region.wanted o (yielded ops a.tmps) = true then Oper.wp Tryz.prog o a w K Q else E := by
  have hw : Region.wanted o (yielded ops a.tmps) = true := by simp [Region.wanted, hgd]
  rw [if_pos hw]
  obtain ⟨v', w', hr, h2, h3⟩ := run_append_strs o.type base v n xs hown y l hy h63 hbytes hbase
  exact Lib.wp_append_run w s x 43 43 ho v y hs hx v' w' hr (h v' w' h2 h3)
set_option maxHeartbeats 4000000 in
set_option maxRecDepth 100000 in
theorem refFrameFault_any (l : List Class) (lv : Value) (w : World) (hlv : ClassesAt w lv l) (f : Frm) (f1 f2 : Value) (hf : FrameAt w f1 f2 f) (hS : FrmShort f) :
    Calls Tryz.prog 28 #[lv, .agg #[f1, f2]] w fun e w' => e = .returned (.int .i64 (frameR (allC l) f)) ∧ Below w.heap.size w w' := by
  have HFm : Hid (∀ wx, Below w.heap.size w wx → FrameAt wx f1 f2 f) := fun wx hb => hf.mono hb
  obtain ⟨p1, c1, rfl, _⟩ := hf.1.open
  obtain ⟨p2, c2, rfl, _⟩ := hf.2.open
  have BX := Lib.hid (boxed_new w #[.slice p1 f.locals.length c1, .slice p2 f.stack.length c2] 64)
  by_cases hbig : 8 < f.locals.length ∨ 8 < f.stack.length
  · rw [frameR_full hbig]
    clear hf hS hlv
    by_cases h1 : 8 < f.locals.length
    · have z1 : decide ((8 : Int) < (f.locals.length : Int)) = true := by simp; omega
      clear hbig
      go_enter Tryz.func28, Tryz.ntmps28
      go_wp2_with (first | fail)
      go_ret
      exact ⟨rfl, BX.out.below⟩
    · have z1 : decide ((8 : Int) < (f.locals.length : Int)) = false := by simp; omega
      have z2 : decide ((8 : Int) < (f.stack.length : Int)) = true := by simp; omega
      clear hbig
      go_enter Tryz.func28, Tryz.ntmps28
      go_wp2_with (first | fail)
      go_ret
      exact ⟨rfl, BX.out.below⟩
  · have HR := Lib.hid (frameR_kinds (cs := allC l) hbig)
    have HK : Hid (∀ wx k, Below w.heap.size w wx → k ∈ f.locals ++ f.stack → _) := fun wx k hb hk => refKind_any l lv k wx (hlv.mono hb) (Nat.le_trans ((List.mem_append.1 hk).elim (hS.1 k) (hS.2 k)) (by decide))
    have z1 : decide ((8 : Int) < (f.locals.length : Int)) = false := by simp; omega
    have z2 : decide ((8 : Int) < (f.stack.length : Int)) = false := by simp; omega
    have hl1 : f.locals.length ≤ 8 := by omega
    have hl2 : f.stack.length ≤ 8 := by omega
    obtain ⟨pl, cap, rfl, _⟩ := hlv.open
    have hln : (f.locals ++ f.stack).length ≤ 16 := by rw [List.length_append]; omega
    obtain ⟨w1, hw1⟩ : ∃ w1, w1 = w.alloc (.cells #[.slice p1 f.locals.length c1, .slice p2 f.stack.length c2] 64) := ⟨_, rfl⟩
    have hk1 : Blk w1 w.heap.size 64 [.slice p1 f.locals.length c1, .slice p2 f.stack.length c2] := by rw [hw1]; exact Blk.new w 64 _
    have hB1 : Below w.heap.size w w1 := by rw [hw1]; exact (Below.refl _ _).alloc (Nat.le_refl _) _
    have hsz : w.heap.size + 1 ≤ w1.heap.size := by rw [hw1]; simp
    have HW := Lib.hid hw1.symm
    clear hf hS hbig hlv hw1 BX
    generalize frameR (allC l) f = res at *
    go_enter Tryz.func28, Tryz.ntmps28
    go_upto_region 3 with (first | fail)
    rw [HW.out]
    obtain ⟨q0, q1⟩ := hk1.cells2
    have hBz := (hB1.alloc hB1.size (.cells #[] 9)).drew
    have ho0 : (w1.alloc (.cells #[] 9)).drew.ownsRow (w.heap.size + 1) 9 1 (.slice (some ⟨w1.heap.size, 0, none⟩) 0 0) 0 [] := ownsRow_none w1.drew (w.heap.size + 1) hsz
    have hkz := hk1.step ((Below.refl w1.heap.size w1).alloc (Nat.le_refl _) (.cells #[] 9))
    obtain ⟨r0, r1⟩ := hkz.cells2
    have hS1 := (HFm.out _ hBz).1
    have hb63 : 0 + f.locals.length ≤ maxLen := by unfold maxLen; omega
    have hb16 : (0 + f.locals.length) * 16 ≤ 140737488355328 := by omega
    have hc63 : 0 + f.locals.length + f.stack.length ≤ maxLen := by unfold maxLen; omega
    have hc16 : (0 + f.locals.length + f.stack.length) * 16 ≤ 140737488355328 := by omega
    have hkd := hkz.step ((Below.refl (w1.alloc (.cells #[] 9)).heap.size _).drew)
    have hbz : w.heap.size + 1 ≤ (w1.alloc (.cells #[] 9)).drew.heap.size := Nat.le_trans hsz ((Below.refl w1.heap.size w1).alloc (Nat.le_refl _) (.cells #[] 9)).size
    go_region_law (first
      | (refine step_append_strs (by rfl) _ _ (by rfl) (w.heap.size + 1) _ 0 [] (by rfl) ho0 _ f.locals (by rfl) hS1 hb63 hb16 hbz ?_; intro v1 w2 ho1 hg1; (have hk2 := hkd.grown hg1 (fun e => by have := (ho0.lt _ e).1; omega)); obtain ⟨s0, s1⟩ := hk2.cells2; (have hB2 := hBz.grown hg1 hBz.size (fun g e => by have := (ho0.lt g e).1; omega)); (have hS2 := (HFm.out _ hB2).2))
      | (refine step_append_strs (by rfl) _ _ (by rfl) (w.heap.size + 1) _ _ _ (by rfl) ho1 _ f.stack (by rfl) hS2 hc63 hc16 (Nat.le_trans hbz hg1.size) ?_; intro v2 w3 ho2 hg2; (have hB3 := hB2.grown hg2 hB2.size (fun g e => by have := (ho1.lt g e).1; omega))))
    all_goals
      have hvs : StrsAt w3 v2 (f.locals ++ f.stack) := strsAt_of_owns (by simpa using ho2)
      generalize f.locals ++ f.stack = L at *
      obtain ⟨p, c, rfl, hc1, hc2, hcc⟩ := hvs.open
      have hlen : L.length ≤ 9223372036854775807 := by omega
      have HCc := Lib.hid hcc
      have HBw := Lib.hid hB3
      clear hcc hB3 hvs ho2 hg2 hS2 hB2 s0 s1 hk2 ho1 hg1 hS1 hb63 hb16 hc63 hc16 hbz r0 r1 hkz hkd ho0 hBz q0 q1 HW hsz hB1 hk1
      go_wp2_with (first | fail)
      go_loopw [6] (fun x wr => ∃ k : Nat, k ≤ L.length ∧ Hid (firstFault (kindR (allC l)) (L.drop k) = res) ∧ Below w3.heap.size w3 wr ∧ x = .int .i64 k) (fun x _ => L.length - (intOf x).toNat)
      case atStart => exact ⟨0, by omega, HR.out.symm, Below.refl _ _, rfl⟩
      case round =>
        obtain ⟨k, hk, hff, hB, rfl⟩ := hrel
        by_cases hkl : k < L.length
        · obtain ⟨x, hx⟩ : ∃ a, L[k]? = some a := ⟨L[k], by simp [hkl]⟩
          obtain ⟨b, o, vs, rfl, hR, _, hcells⟩ := HCc.out k x hx
          unfold StrCells at hR; subst hR
          have hBw := below_call HBw.out (Nat.le_refl _) hB
          have c0 := (hcells.mono hB hcells.lt).1
          rw [Nat.mul_one] at c0
          have HKx := Lib.hid (HK.out wr x hBw (List.mem_of_getElem? hx))
          have hstep := first_drop (kindR (allC l)) L k x hx
          rw [hff.out] at hstep
          have HBr := Lib.hid hB
          clear hx hcells hff hB
          by_cases hz : kindR (allC l) x = 0
          · rw [hz] at HKx
            rw [if_pos hz] at hstep
            have hst := Lib.hid hstep.symm
            clear hstep hz hBw
            go_wp2_with (go_at_call 17; (with_reducible refine HKx.out.mono ?_); rintro e w6 ⟨rfl, hB6⟩)
            go_roundw
            case rel => exact ⟨k + 1, by omega, hst.out, below_call HBr.out (Nat.le_refl _) hB6, by simp⟩
            case measure => simp [intOf]; omega
          · rw [if_neg hz] at hstep
            have HRs := Lib.hid hstep
            have HBk := Lib.hid hBw
            have hzi : ((kindR (allC l) x : Nat) : Int) ≠ 0 := by omega
            have hzb : (((kindR (allC l) x : Nat) : Int) != 0) = true := by simpa using hz
            clear hstep hBw
            generalize kindR (allC l) x = f at *
            go_wp2_with (go_at_call 17; (with_reducible refine HKx.out.mono ?_); rintro e w6 ⟨rfl, hB6⟩)
            go_ret
            exact ⟨by rw [HRs.out]; rfl, below_call HBk.out (Nat.le_refl _) hB6⟩
        · obtain rfl : k = L.length := by omega
          have hz : res = 0 := by rw [← hff.out, List.drop_eq_nil_of_le (Nat.le_refl _)]; rfl
          have HZ := Lib.hid hz
          have HBk := Lib.hid (below_call HBw.out (Nat.le_refl _) hB)
          clear hz hff hB
          go_wp2_with (first | fail)
          go_ret
          exact ⟨by rw [HZ.out]; rfl, HBk.out⟩
/-- lists of kinds that can be joined -/
def Joins (cs : List Class) (a b : List Str) : Prop := (∀ k ∈ a, kindR cs k = 0 ∧ k.size ≤ 4194304) ∧ ∀ k ∈ b, kindR cs k = 0 ∧ k.size ≤ 4194304
set_option maxHeartbeats 4000000 in
set_option maxRecDepth 100000 in
theorem refJoinedL_any (l : List Class) (lv : Value) (hR : Right l) (hcf : ∀ c ∈ l, classFault c = 0) (w : World) (hlv : ClassesAt w lv l) (a b : List Str) (av bv : Value) (ha : StrsAt w av a) (hb : StrsAt w bv b) (hj : Joins (allC l) a b) (hab : a.length = b.length) (h8 : a.length ≤ 8) :
    Calls Tryz.prog 72 #[lv, av, bv] w fun e w' => (∃ v, e = .returned v ∧ StrsAt w' v (joinL (allC l) a b)) ∧ Below w.heap.size w w' := by
  have HO : Hid (∀ wx x y, Below w.heap.size w wx → x ∈ a → y ∈ b → Calls Tryz.prog 111 #[lv, .string x, .string y] wx fun e w' => e = .returned (.string (joinS (allC l) x y)) ∧ Below wx.heap.size wx w') := fun wx x y hB h1 h2 => by
    have hx := hj.1 x h1
    have hy := hj.2 y h2
    obtain ⟨X, hX⟩ := kind_of hx.1
    obtain ⟨Y, hY⟩ := kind_of hy.1
    refine (refJoin_any l lv hR hcf wx (hlv.mono hB) x y X Y hX hY (kindR_deep hX hx.1) (kindR_deep hY hy.1) hx.2 hy.2).mono ?_
    rintro e w' ⟨⟨z, rfl, hz, _⟩, hB'⟩
    exact ⟨by rw [joinS_text hX.1 hY.1 hz], hB'⟩
  obtain ⟨p1, c1, rfl, _, _, ha1⟩ := ha.open
  obtain ⟨p2, c2, rfl, _, _, hb1⟩ := hb.open
  obtain ⟨pl, cap, rfl, _⟩ := hlv.open
  obtain ⟨n, hn1⟩ : ∃ n, a.length = n := ⟨_, rfl⟩
  have hn2 : b.length = n := by rw [← hab, hn1]
  rw [hn1, hn2]
  rw [hn1] at h8
  have HA := Lib.hid ha1
  have HB := Lib.hid hb1
  have HN1 := Lib.hid hn1
  have HN2 := Lib.hid hn2
  obtain ⟨i0, hi, hz0, hz1, hz2⟩ := info_parts info_string
  clear ha hb ha1 hb1 hn1 hn2 hab hj hlv hR hcf
  generalize allC l = cs at *
  go_enter Tryz.func72, Tryz.ntmps72
  go_wp2_with (first | fail)
  go_loopw [7, 8] (fun v x wr => ∃ k : Nat, k ≤ n ∧ Hid (wr.ownsRow w.heap.size 9 1 v k ((joinL cs (a.take k) (b.take k)).map Value.string)) ∧ Below w.heap.size w wr ∧ x = .int .i64 k) (fun _ x _ => n - (intOf x).toNat)
  case atStart => exact ⟨0, by omega, World.ownsRow_nil _ _ _ _, Below.refl _ _, rfl⟩
  case round =>
    obtain ⟨k, hk, hown, hB, rfl⟩ := hrel
    obtain ⟨va, vc, rfl⟩ := ownsRow_shape hown.out
    by_cases hkl : k < n
    · obtain ⟨x, hx⟩ : ∃ x, a[k]? = some x := ⟨a[k]'(by rw [HN1.out]; exact hkl), by simp⟩
      obtain ⟨y, hy⟩ : ∃ y, b[k]? = some y := ⟨b[k]'(by rw [HN2.out]; exact hkl), by simp⟩
      obtain ⟨ba, oa, vs, rfl, hR, _, hca⟩ := HA.out k x hx
      unfold StrCells at hR; subst hR
      obtain ⟨bb, ob, vs, rfl, hR, _, hcb⟩ := HB.out k y hy
      unfold StrCells at hR; subst hR
      have c0 := (hca.mono hB hca.lt).1
      have d0 := (hcb.mono hB hcb.lt).1
      rw [Nat.mul_one] at c0 d0
      have hst := joinL_snoc (cs := cs) hx hy
      have HOx := Lib.hid (fun wx hb => HO.out wx x y hb (List.mem_of_getElem? hx) (List.mem_of_getElem? hy))
      generalize joinS cs x y = z at *
      have HSt := Lib.hid hst
      have HBr := Lib.hid hB
      clear hst hx hy hca hcb hB
      go_upto_region 5 with (first | fail)
      have hb63 : k + 1 ≤ maxLen := by unfold maxLen; omega
      have hb16 : (k + 1) * 16 ≤ 140737488355328 := by omega
      have hi1 : (k : Int) < (n : Int) := by omega
      have hi0 : (0 : Int) ≤ (k : Int) := by omega
      go_region_law (first
        | (refine step_append_lies _ (by rfl) _ _ 43 (by rfl) w.heap.size 9 i0 (.string .empty) 1 16 Tryz.underlying43 hi hz0 hz1 hz2 rfl (by decide) _ k _ (by rfl) hown7 ⟨w6.heap.size, 0, none⟩ 1 1 [.string z] (by rfl) rfl (cell_new1 w6 _ 9) (one_str _) (by decide) hb63 hb16 hbase7 (w6.heap.size + 1) (by simp) ?_; intro g cap w8 hown8 hgrow hat hlt)
        | (go_simp; go_at_call 111; refine (HOx.out _ (HBr.out.drew)).mono ?_; rintro e w6 ⟨rfl, hB6'⟩; (have hB6 := below_call ((Below.refl wr.heap.size wr).drew) (Nat.le_refl _) hB6'); (have hBy := hB6.alloc hB6.size (.cells #[.string z] 9)); (have hown7 := ownsRow_belowk hown.out hBy); (have hbase7 := Nat.le_trans HBr.out.size hBy.size)))
      all_goals
        have hO8 := Lib.hid hown8
        have hB8 := Lib.hid ((below_call HBr.out (Nat.le_refl _) hBy).grown hgrow (below_call HBr.out (Nat.le_refl _) hBy).size (fun g e => (hown.out.lt g e).1))
        clear hBy hown7 hbase7 hgrow hat hlt hown8 hB6 hB6' hown HOx c0 d0
        go_wp2_with (first | fail)
        go_roundw
        case rel => exact ⟨k + 1, by omega, by unfold Hid; rw [HSt.out, List.map_append]; exact hO8.out, hB8.out, by simp⟩
        case measure => simp [intOf]; omega
    · obtain rfl : n = k := by omega
      have hj := joinL_full (cs := cs) (a := a) (b := b) (by rw [HN1.out, HN2.out])
      rw [HN1.out] at hj
      have ho1 := hown.out
      rw [hj] at ho1
      have HO1 := Lib.hid ho1
      have HBw := Lib.hid hB
      clear hown hB ho1 hj
      go_wp2_with (first | fail)
      go_ret
      exact ⟨⟨_, rfl, strsAt_of_owns (l := joinL cs a b) (by rw [joinL_length (by rw [HN1.out, HN2.out]), HN1.out]; exact HO1.out)⟩, HBw.out⟩
end Go.Proofs.YtbakcdgjibmceaaGreatDoor
namespace Go.Proofs.YtbakcdgjibmceaaGreatDoor
open Go.RowKit Go.Shelf Go.Lib
set_option maxHeartbeats 4000000 in
set_option maxRecDepth 100000 in
theorem refJoinFrames_any (l : List Class) (lv : Value) (hR : Right l) (hcf : ∀ c ∈ l, classFault c = 0) (w : World) (hlv : ClassesAt w lv l) (a b : Frm) (a1 a2 b1 b2 : Value) (ha : FrameAt w a1 a2 a) (hb : FrameAt w b1 b2 b) (hSa : FrmShort a) (hSb : FrmShort b) (hza : frameR (allC l) a = 0) (hzb : frameR (allC l) b = 0) :
    Calls Tryz.prog 35 #[lv, .agg #[a1, a2], .agg #[b1, b2]] w (BothPost w (allC l) a b) := by
  obtain ⟨hla, hsa, hka1, hka2⟩ := frame_zero hza
  obtain ⟨_, _, hkb1, hkb2⟩ := frame_zero hzb
  have HJ1 : Hid (a.locals.length = b.locals.length → ∀ wx, Below w.heap.size w wx → _) := fun hn wx hB => refJoinedL_any l lv hR hcf wx (hlv.mono hB) a.locals b.locals a1 b1 (ha.1.mono hB) (hb.1.mono hB) ⟨fun k h => ⟨hka1 k h, hSa.1 k h⟩, fun k h => ⟨hkb1 k h, hSb.1 k h⟩⟩ hn hla
  have HJ2 : Hid (a.stack.length = b.stack.length → ∀ wx, Below w.heap.size w wx → _) := fun hn wx hB => refJoinedL_any l lv hR hcf wx (hlv.mono hB) a.stack b.stack a2 b2 (ha.2.mono hB) (hb.2.mono hB) ⟨fun k h => ⟨hka2 k h, hSa.2 k h⟩, fun k h => ⟨hkb2 k h, hSb.2 k h⟩⟩ hn hsa
  obtain ⟨p1, c1, rfl, _⟩ := ha.1.open
  obtain ⟨p2, c2, rfl, _⟩ := ha.2.open
  obtain ⟨p3, c3, rfl, _⟩ := hb.1.open
  obtain ⟨p4, c4, rfl, _⟩ := hb.2.open
  obtain ⟨pl, cap, rfl, _⟩ := hlv.open
  obtain ⟨n, hn1⟩ : ∃ n, a.locals.length = n := ⟨_, rfl⟩
  obtain ⟨n', hn2⟩ : ∃ n, b.locals.length = n := ⟨_, rfl⟩
  obtain ⟨m, hm1⟩ : ∃ n, a.stack.length = n := ⟨_, rfl⟩
  obtain ⟨m', hm2⟩ : ∃ n, b.stack.length = n := ⟨_, rfl⟩
  have hsh : shapedB a b = (decide (n = n') && decide (m = m')) := by unfold shapedB; rw [hn1, hn2, hm1, hm2]
  rw [hn1, hn2] at HJ1
  rw [hm1, hm2] at HJ2
  rw [hn1, hn2, hm1, hm2]
  obtain ⟨w1, hw1⟩ : ∃ w1, w1 = ((w.alloc (.cells #[.slice p1 n c1, .slice p2 m c2] 64)).alloc (.cells #[.slice p3 n' c3, .slice p4 m' c4] 64)).alloc (.cells #[.slice none 0 0, .slice none 0 0] 64) := ⟨_, rfl⟩
  have HB1 : Hid (Below w.heap.size w w1) := by rw [hw1]; exact (((Below.refl _ _).alloc (Nat.le_refl _) _).alloc (by simp) _).alloc (by simp; omega) _
  have HK0 : Hid (Blk w1 w.heap.size 64 [.slice p1 n c1, .slice p2 m c2]) := by
    rw [hw1]
    exact (Blk.new w 64 _).step (((Below.refl _ _).alloc (Nat.le_refl _) _).alloc (by simp) _)
  have HK1 : Hid (Blk w1 (w.heap.size + 1) 64 [.slice p3 n' c3, .slice p4 m' c4]) := by
    rw [hw1]
    have := (Blk.new (w.alloc (.cells #[.slice p1 n c1, .slice p2 m c2] 64)) 64 [.slice p3 n' c3, .slice p4 m' c4]).step ((Below.refl _ _).alloc (Nat.le_refl _) (.cells #[.slice none 0 0, .slice none 0 0] 64))
    unfold Hid
    simpa using this
  have HK2 : Hid (Blk w1 (w.heap.size + 1 + 1) 64 [.slice none 0 0, .slice none 0 0]) := by
    rw [hw1]
    have := Blk.new ((w.alloc (.cells #[.slice p1 n c1, .slice p2 m c2] 64)).alloc (.cells #[.slice p3 n' c3, .slice p4 m' c4] 64)) 64 [.slice none 0 0, .slice none 0 0]
    unfold Hid
    simpa using this
  have HW := Lib.hid hw1.symm
  have HBn := Lib.hid ((((Below.refl w.heap.size w).alloc (Nat.le_refl _) (.cells #[.slice p1 n c1, .slice p2 m c2] 64)).alloc (by simp) (.cells #[.slice p3 n' c3, .slice p4 m' c4] 64)).alloc (by simp; omega) (.cells #[.slice none 0 0, .slice none 0 0] 64))
  unfold BothPost
  clear hka1 hka2 hkb1 hkb2 hza hzb hSa hSb ha hb hlv hw1 hn1 hn2 hm1 hm2 hla hsa
  by_cases h1 : n = n'
  · by_cases h2 : m = m'
    · subst h1 h2
      have z1 : ((n : Int) != (n : Int)) = false := by simp
      have z2 : ((m : Int) != (m : Int)) = false := by simp
      rw [decide_eq_true rfl, decide_eq_true rfl, Bool.and_true] at hsh
      have HS := Lib.hid hsh
      have HL1 := Lib.hid (HJ1.out rfl)
      have HL2 := Lib.hid (HJ2.out rfl)
      clear hsh HBn HJ1 HJ2
      go_enter Tryz.func35, Tryz.ntmps35
      go_upto_region 3 with (first | fail)
      rw [HW.out]
      obtain ⟨q0, q1⟩ := HK0.out.cells2
      obtain ⟨q2, q3⟩ := HK1.out.cells2
      have HC1 : Hid (∀ wx, Below w1.heap.size w1 wx → Calls Tryz.prog 72 #[.slice pl l.length cap, .slice p1 n c1, .slice p3 n c3] wx fun e w' => (∃ p k, e = .returned (.slice p (joinL (allC l) a.locals b.locals).length k) ∧ StrsAt w' (.slice p (joinL (allC l) a.locals b.locals).length k) (joinL (allC l) a.locals b.locals) ∧ Below wx.heap.size wx w') ∧ Below w1.heap.size w1 w' ∧ w'.cell? ⟨w.heap.size, 0, none⟩ = some (.slice p1 n c1) ∧ w'.cell? ⟨w.heap.size, 1, none⟩ = some (.slice p2 m c2) ∧ w'.cell? ⟨w.heap.size + 1, 0, none⟩ = some (.slice p3 n c3) ∧ w'.cell? ⟨w.heap.size + 1, 1, none⟩ = some (.slice p4 m c4)) := fun wx hb =>
        (HL1.out wx (below_call HB1.out (Nat.le_refl _) hb)).mono fun e w' ⟨⟨v, he, hv⟩, hB⟩ => by
          obtain ⟨p, k, rfl, _⟩ := hv.open
          have hb' := below_call hb (Nat.le_refl _) hB
          obtain ⟨z0, z1⟩ := (HK0.out.step hb').cells2
          obtain ⟨z2, z3⟩ := (HK1.out.step hb').cells2
          exact ⟨⟨p, k, he, hv, hB⟩, hb', z0, z1, z2, z3⟩
      have HC2 : Hid (∀ wx, Below w1.heap.size w1 wx → Calls Tryz.prog 72 #[.slice pl l.length cap, .slice p2 m c2, .slice p4 m c4] wx fun e w' => (∃ p k, e = .returned (.slice p (joinL (allC l) a.stack b.stack).length k) ∧ StrsAt w' (.slice p (joinL (allC l) a.stack b.stack).length k) (joinL (allC l) a.stack b.stack) ∧ Below wx.heap.size wx w') ∧ Below w1.heap.size w1 w' ∧ w'.cell? ⟨w.heap.size, 0, none⟩ = some (.slice p1 n c1) ∧ w'.cell? ⟨w.heap.size, 1, none⟩ = some (.slice p2 m c2) ∧ w'.cell? ⟨w.heap.size + 1, 0, none⟩ = some (.slice p3 n c3) ∧ w'.cell? ⟨w.heap.size + 1, 1, none⟩ = some (.slice p4 m c4)) := fun wx hb =>
        (HL2.out wx (below_call HB1.out (Nat.le_refl _) hb)).mono fun e w' ⟨⟨v, he, hv⟩, hB⟩ => by
          obtain ⟨p, k, rfl, _⟩ := hv.open
          have hb' := below_call hb (Nat.le_refl _) hB
          obtain ⟨z0, z1⟩ := (HK0.out.step hb').cells2
          obtain ⟨z2, z3⟩ := (HK1.out.step hb').cells2
          exact ⟨⟨p, k, he, hv, hB⟩, hb', z0, z1, z2, z3⟩
      have hBd := (Below.refl w1.heap.size w1).drew
      clear HL1 HL2
      have hm1 : ¬ w.heap.size = w.heap.size + 1 + 1 := by omega
      have hm2 : ¬ w.heap.size + 1 + 1 = w.heap.size := by omega
      go_region_held3 (fun w' => w'.cell? ⟨w.heap.size, 0, none⟩ = some (.slice p1 n c1) ∧ w'.cell? ⟨w.heap.size, 1, none⟩ = some (.slice p2 m c2) ∧ w'.cell? ⟨w.heap.size + 1, 0, none⟩ = some (.slice p3 n c3) ∧ w'.cell? ⟨w.heap.size + 1, 1, none⟩ = some (.slice p4 m c4)) (go_keep)
        (first
          | (go_at_call 72; (with_reducible refine (HC1.out _ ?_).mono ?_); (exact hBd); rintro e w4 ⟨⟨pa, ka, rfl, hv1, _⟩, hB4, z0, z1, z2, z3⟩)
          | (go_at_call 72; (with_reducible refine (HC2.out _ ?_).mono ?_); (exact hB4); rintro e w5 ⟨⟨pb, kb, rfl, hv2, hB45⟩, hB5, y0, y1, y2, y3⟩; (have i2 := HK2.out.step hB5); obtain ⟨s0, s1⟩ := i2.cells2; (have f0 := i2.frozen 0); (have f1 := i2.frozen 1)))
      all_goals
        have hr1 := StrsAt.apart (hv1.mono hB45) i2 (fun s h => by cases h) (fun s h => by cases h) (w' := ((w5.setCell ⟨w.heap.size + 1 + 1, 0, none⟩ (.slice pa (joinL (allC l) a.locals b.locals).length ka)).setCell ⟨w.heap.size + 1 + 1, 1, none⟩ (.slice pb (joinL (allC l) a.stack b.stack).length kb))) (fun g hg => by rw [heap_setCell_other _ _ _ _ hg, heap_setCell_other _ _ _ _ hg])
        have hr2 := StrsAt.apart hv2 i2 (fun s h => by cases h) (fun s h => by cases h) (w' := ((w5.setCell ⟨w.heap.size + 1 + 1, 0, none⟩ (.slice pa (joinL (allC l) a.locals b.locals).length ka)).setCell ⟨w.heap.size + 1 + 1, 1, none⟩ (.slice pb (joinL (allC l) a.stack b.stack).length kb))) (fun g hg => by rw [heap_setCell_other _ _ _ _ hg, heap_setCell_other _ _ _ _ hg])
        have hbs := below_set2 (b := w.heap.size + 1 + 1) (below_call HB1.out (Nat.le_refl _) hB5) (by omega) (.slice pa (joinL (allC l) a.locals b.locals).length ka) (.slice pb (joinL (allC l) a.stack b.stack).length kb)
        have HR1 := Lib.hid hr1
        have HR2 := Lib.hid hr2
        have HBs := Lib.hid hbs
        clear hr1 hr2 hbs
        go_wp2_with (first | fail)
        exact bodyPost_ret (v := .tuple #[.agg #[.slice pa (joinL (allC l) a.locals b.locals).length ka, .slice pb (joinL (allC l) a.stack b.stack).length kb], .bool true]) (by simp [results, Tryz.results35, go_sem, *]) rfl ⟨HBs.out, Or.inl ⟨HS.out, _, _, rfl, HR1.out, HR2.out⟩⟩
    · have z1 : ((n : Int) != (n' : Int)) = false := by simp [h1]
      have z2 : ((m : Int) != (m' : Int)) = true := by simp; omega
      rw [decide_eq_false h2, Bool.and_false] at hsh
      have HS := Lib.hid hsh
      clear hsh h1 h2
      go_enter Tryz.func35, Tryz.ntmps35
      go_wp2_with (first | fail)
      exact bodyPost_ret (v := .tuple #[.agg #[.slice none 0 0, .slice none 0 0], .bool false]) (by simp [results, Tryz.results35, go_sem, *]) rfl ⟨HBn.out, Or.inr ⟨HS.out, rfl⟩⟩
  · have z1 : ((n : Int) != (n' : Int)) = true := by simp; omega
    rw [decide_eq_false h1, Bool.false_and] at hsh
    have HS := Lib.hid hsh
    clear hsh h1
    go_enter Tryz.func35, Tryz.ntmps35
    go_wp2_with (first | fail)
    exact bodyPost_ret (v := .tuple #[.agg #[.slice none 0 0, .slice none 0 0], .bool false]) (by simp [results, Tryz.results35, go_sem, *]) rfl ⟨HBn.out, Or.inr ⟨HS.out, rfl⟩⟩
end Go.Proofs.YtbakcdgjibmceaaGreatDoor
