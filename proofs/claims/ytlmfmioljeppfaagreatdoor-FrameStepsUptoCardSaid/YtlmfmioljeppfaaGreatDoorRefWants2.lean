/-
  WALK over the reference's answer of what an instruction wants, the operations. Conditions: as in XRead; a right instruction.
-/
import Derived.Test.YtlmfmioljeppfaaGreatDoorRefWants
namespace Go.Proofs.YtlmfmioljeppfaaGreatDoor
open Go.RowKit Go.Shelf Go.Lib
theorem StrsAt.drewS {w : World} {v : Value} {l : List Str} (h : StrsAt w v l) : StrsAt w.drew v l := h.mono ((Below.refl _ _).drew)
theorem StrsAt.allocS {w : World} {v : Value} {l : List Str} (h : StrsAt w v l) (o : Obj) : StrsAt (w.alloc o) v l := h.mono ((Below.refl _ _).alloc (Nat.le_refl _) o)
theorem strs_two (w : World) (s t : Str) : StrsAt (w.alloc (.cells #[.string s, .string t] 9)) (.slice (some ⟨w.heap.size, 0, none⟩) 2 2) [s, t] :=
  strsAt_of_owns (base := w.heap.size) (l := [s, t]) ⟨rfl, Or.inr ⟨w.heap.size, 2, #[.string s, .string t], rfl, Nat.le_refl _, heap_alloc_new _ _, Nat.le_refl _, by decide, rfl, rfl⟩⟩
theorem strs_one' (w : World) (s : Str) (o : Obj) : StrsAt ((w.alloc o).alloc (.cells #[.string s] 9)) (.slice (some ⟨w.heap.size + 1, 0, none⟩) 1 1) [s] := by
  have := strs_one (w.alloc o) s
  rwa [World.size_alloc] at this
theorem strs_two' (w : World) (s t : Str) (o : Obj) : StrsAt ((w.alloc o).alloc (.cells #[.string s, .string t] 9)) (.slice (some ⟨w.heap.size + 1, 0, none⟩) 2 2) [s, t] := by
  have := strs_two (w.alloc o) s t
  rwa [World.size_alloc] at this
theorem word_two {t : Str} (h : wordB (lst t) = true) : t = kI ∨ t = kJ := by
  unfold wordB at h
  simp only [Bool.or_eq_true, beq_iff_eq] at h
  rcases h with h | h
  · exact Or.inl (ByteArray.ext (Array.toList_inj.1 h))
  · exact Or.inr (ByteArray.ext (Array.toList_inj.1 h))
theorem word_typed {op a b : Int} {type cls name : Str} (h : insFault ⟨op, a, b, type, cls, name⟩ = 0) (ho : op = 9 ∨ op = 10) : wordB (lst type) = true := by
  have := ins_typed h
  unfold typedB at this
  rwa [if_pos (by dsimp only; omega)] at this
theorem fieldF_out {cs : List Class} {c n : Str} (h : ¬ (findC cs c).isSome = true) : fieldF cs c n = none := by
  unfold fieldF
  rw [if_pos (fun hk => h (thing_known hk))]
theorem fieldF_none {cs : List Class} {c n : Str} (h : fieldC cs c n = none) : fieldF cs c n = none := by
  unfold fieldF
  rw [h]
  split <;> rfl
theorem fieldF_some {cs : List Class} {c n d : Str} {f : Field} (hk : kindR cs (thText c) = 0) (h : fieldC cs c n = some (d, f)) (hz : kindR cs f.type = 0) : fieldF cs c n = some f.type := by
  unfold fieldF
  rw [h, if_neg (by rw [hk]; decide)]
  exact if_pos hz
theorem fieldF_bad {cs : List Class} {c n d : Str} {f : Field} (h : fieldC cs c n = some (d, f)) (hz : ¬ kindR cs f.type = 0) : fieldF cs c n = none := by
  unfold fieldF
  rw [h]
  split
  · rfl
  · exact if_neg hz
theorem fieldC_small {l : List Class} (hcf : ∀ c ∈ l, classFault c = 0) {c n d : Str} {f : Field} (h : fieldC (allC l) c n = some (d, f)) : f.type.size ≤ maxLen := by
  obtain ⟨y, hy⟩ := ty_of_type (class_fields_type hcf d f (fieldGo_mem h))
  exact hy.size
theorem type_typed {op a b : Int} {type cls name : Str} (h : insFault ⟨op, a, b, type, cls, name⟩ = 0) (ho : op = 18 ∨ op = 20 ∨ op = 21) : typeB type.data.toList = true := by
  have := ins_typed h
  unfold typedB at this
  rw [if_neg (by dsimp only; omega), if_pos (by dsimp only; exact ho)] at this
  exact (Bool.and_eq_true_iff.1 this).1
theorem sig_typed {op a b : Int} {type cls name : Str} (h : insFault ⟨op, a, b, type, cls, name⟩ = 0) (ho : op = 24 ∨ op = 25) : (methodR type).isSome = true := by
  have := ins_typed h
  unfold typedB at this
  rwa [if_neg (by dsimp only; omega), if_neg (by dsimp only; omega), if_neg (by dsimp only; omega), if_pos (by dsimp only; exact ho)] at this
theorem ins_range {op a b : Int} {type cls name : Str} (h : insFault ⟨op, a, b, type, cls, name⟩ = 0) : 1 ≤ op ∧ op ≤ 28 := by
  unfold insFault at h
  split at h
  · cases h
  · rename_i h1
    dsimp only at h1
    omega
theorem wantsF_at (cs : List Class) (from' gives : Str) (a b : Int) (type cls name : Str) :
    wantsF cs from' gives ⟨1, a, b, type, cls, name⟩ = some ([], []) ∧ wantsF cs from' gives ⟨14, a, b, type, cls, name⟩ = some ([], [])
    ∧ wantsF cs from' gives ⟨2, a, b, type, cls, name⟩ = some ([], [type]) ∧ wantsF cs from' gives ⟨3, a, b, type, cls, name⟩ = some ([], [kN])
    ∧ wantsF cs from' gives ⟨9, a, b, type, cls, name⟩ = some (mathSec a type ++ [type], [type])
    ∧ wantsF cs from' gives ⟨10, a, b, type, cls, name⟩ = some ([otherS type], [type])
    ∧ wantsF cs from' gives ⟨11, a, b, type, cls, name⟩ = some ([kJ, kJ], [kI]) ∧ wantsF cs from' gives ⟨12, a, b, type, cls, name⟩ = some ([kI], [])
    ∧ wantsF cs from' gives ⟨15, a, b, type, cls, name⟩ = (if (findC cs cls).isSome && !(classC cs cls).face then some ([], [thText cls]) else none)
    ∧ wantsF cs from' gives ⟨16, a, b, type, cls, name⟩ = ((fieldF cs cls name).map fun t => ([thText cls], [t]))
    ∧ wantsF cs from' gives ⟨17, a, b, type, cls, name⟩ = ((fieldF cs cls name).map fun t => ([t, thText cls], []))
    ∧ wantsF cs from' gives ⟨18, a, b, type, cls, name⟩ = (if kindR cs type = 0 then some ([kI], [arText type]) else none)
    ∧ wantsF cs from' gives ⟨24, a, b, type, cls, name⟩ = callW cs from' cls name type false
    ∧ wantsF cs from' gives ⟨25, a, b, type, cls, name⟩ = callW cs from' cls name type true
    ∧ wantsF cs from' gives ⟨26, a, b, type, cls, name⟩ = (if (gives.toList == [86]) = true then some ([], []) else none)
    ∧ wantsF cs from' gives ⟨27, a, b, type, cls, name⟩ = (if (gives.toList == [86]) = true then none else if kindR cs gives = 0 then some ([gives], []) else none)
    ∧ wantsF cs from' gives ⟨28, a, b, type, cls, name⟩ = some ([thText kFault], []) :=
  ⟨rfl, rfl, rfl, rfl, rfl, rfl, rfl, rfl, rfl, rfl, rfl, rfl, rfl, rfl, rfl, rfl, rfl⟩
set_option maxHeartbeats 4000000 in
set_option maxRecDepth 100000 in
theorem refWants_any (l : List Class) (lv : Value) (hR : Right l) (hcf : ∀ c ∈ l, classFault c = 0) (w : World) (hlv : ClassesAt w lv l) (from' gives : Str) (op a b : Int) (type cls name : Str) (hty : type.size ≤ 1048576) (hcl : cls.size ≤ 4194304) (hgs : gives.size ≤ maxLen) (hx : insFault ⟨op, a, b, type, cls, name⟩ = 0) (hop : ¬ OddOp op) :
    Calls Tryz.prog 48 #[lv, .string from', .string gives, .agg #[.int .i64 op, .int .i64 a, .int .i64 b, .string type, .string cls, .string name]] w (WantsPost w (wantsF (allC l) from' gives ⟨op, a, b, type, cls, name⟩)) := by
  have HTh : Hid (∀ wx, _) := fun wx => rThing_any cls wx hcl
  have HThF : Hid (∀ wx, Calls Tryz.prog 82 #[.string ⟨#[70, 97, 117, 108, 116]⟩] wx fun e w' => e = .returned (.string (thText kFault)) ∧ wx = w') := fun wx => rThing_any kFault wx (by decide)
  have HCO : Hid (∀ wx, Below w.heap.size w wx → _) := fun wx hb => refClassOf_any l lv cls wx (hlv.mono hb)
  unfold ClassGives at HCO
  have hts : type.size ≤ maxLen := Nat.le_trans hty (by decide)
  have HKt : Hid (∀ wx, Below w.heap.size w wx → _) := fun wx hb => refKind_any l lv type wx (hlv.mono hb) hts
  have HIt : Hid (∀ wx, _) := fun wx => refIsType_any type wx hts
  obtain ⟨pl, cap, rfl, _⟩ := hlv.open
  have HLv := Lib.hid hlv
  have HRi := Lib.hid hR
  have HCf := Lib.hid hcf
  have T0 := RX.new w op a b type cls name
  obtain ⟨c0, c1, c2, c3, c4, c5⟩ := T0.cells
  have HT := Lib.hid T0
  obtain ⟨is, his⟩ : ∃ b, (findC (allC l) cls).isSome = b := ⟨_, rfl⟩
  obtain ⟨d, hd⟩ : ∃ c, (findC (allC l) cls).getD noClass = c := ⟨_, rfl⟩
  obtain ⟨ty, hty'⟩ : ∃ b, typeB type.data.toList = b := ⟨_, rfl⟩
  obtain ⟨kt, hkt⟩ : ∃ n, kindR (allC l) type = n := ⟨_, rfl⟩
  rw [his, hd] at HCO
  rw [hty'] at HIt
  rw [hkt] at HKt
  have HIs := Lib.hid his
  have HD := Lib.hid hd
  have HTy := Lib.hid hty'
  have HKT := Lib.hid hkt
  obtain ⟨n2, s2, f2, b2, d2, m2⟩ := d
  dsimp only at HCO
  clear T0 hlv hR hcf his hd hty' hkt hts
  go_enter Tryz.func48, Tryz.ntmps48
  go_upto_region 3 with (first
    | (go_at_call 82; (with_reducible refine (HTh.out _).mono ?_); rintro e w2 ⟨rfl, rfl⟩)
    | (go_at_call 14; (with_reducible refine (HCO.out _ HT.out.below).mono ?_); rintro e w3 ⟨p1, k1, p2, k2, p3, k3, rfl, _, _, _, hB3, _⟩; (have T3 := HT.out.step hB3); (have hlt := T3.box.lt); (have T4 := T3.alloc (.cells #[.string n2, .string s2, .slice p1 f2.length k1, .bool b2, .slice p2 d2.length k2, .slice p3 m2.length k3] 36)); obtain ⟨g0, g1, g2, g3, g4, g5⟩ := T3.cells))
  go_cut [14] (fun s wx => s = .bool (decide (kt = 0) && ty) ∧ RX w wx op a b type cls name)
  case first =>
    by_cases hz : kt = 0
    · subst hz
      go_wp2_with (first
        | (go_at_call 40; (with_reducible refine (HKt.out _ T4.below).mono ?_); rintro e w5 ⟨rfl, hB5⟩; (have T5 := T4.step hB5); obtain ⟨h0, h1, h2, h3, h4, h5⟩ := T5.cells)
        | (go_at_call 15; (with_reducible refine (HIt.out _).mono ?_); rintro e w6 ⟨rfl, rfl⟩))
      go_meet
      exact ⟨rfl, T5⟩
    · have hzb : ((kt : Int) == 0) = false := by simpa using hz
      go_wp2_with (first
        | (go_at_call 40; (with_reducible refine (HKt.out _ T4.below).mono ?_); rintro e w5 ⟨rfl, hB5⟩))
      go_meet
      exact ⟨by rw [decide_eq_false hz, Bool.false_and], T4.step hB5⟩
  case rest =>
    obtain ⟨rfl, T⟩ := hcut
    obtain ⟨E1, E14, E2, E3, E9, E10, E11, E12, E15, E16, E17, E18, E24, E25, E26, E27, E28⟩ := wantsF_at (allC l) from' gives a b type cls name
    by_cases c1 : op = 1
    · subst c1
      obtain ⟨h0, h1, h2, h3, h4, h5⟩ := T.cells
      have hlt := T.box.lt
      have HW : Hid (wantsF (allC l) from' gives ⟨1, a, b, type, cls, name⟩ = some ([], [])) := E1
      have HTc := Lib.hid T
      clear T hop hx E1 E14 E2 E3 E9 E10 E11 E12 E15 E16 E17 E18 E24 E25 E26 E27 E28
      go_wp2_with (first | fail)
      go_ret3
      exact WantsPost.yes HW.out HTc.out.below (strs_none _) (strs_none _)
    by_cases c14 : op = 14
    · subst c14
      obtain ⟨h0, h1, h2, h3, h4, h5⟩ := T.cells
      have hlt := T.box.lt
      have HW : Hid (wantsF (allC l) from' gives ⟨14, a, b, type, cls, name⟩ = some ([], [])) := E14
      have HTc := Lib.hid T
      clear T hop hx E1 E14 E2 E3 E9 E10 E11 E12 E15 E16 E17 E18 E24 E25 E26 E27 E28
      go_wp2_with (first | fail)
      go_ret3
      exact WantsPost.yes HW.out HTc.out.below (strs_none _) (strs_none _)
    by_cases c2 : op = 2
    · subst c2
      obtain ⟨h0, h1, h2, h3, h4, h5⟩ := T.cells
      have hlt := T.box.lt
      have HW : Hid (wantsF (allC l) from' gives ⟨2, a, b, type, cls, name⟩ = some ([], [type])) := E2
      have HTc := Lib.hid T
      clear T hop hx E1 E14 E2 E3 E9 E10 E11 E12 E15 E16 E17 E18 E24 E25 E26 E27 E28
      go_upto_region 9 with (first | fail)
      go_region
      all_goals
        go_wp2_with (first | fail)
        go_ret3
        exact WantsPost.yes HW.out (HTc.out.alloc _).drew.below (strs_none _) (strs_one _ _).drewS
    by_cases c3 : op = 3
    · subst c3
      obtain ⟨h0, h1, h2, h3, h4, h5⟩ := T.cells
      have hlt := T.box.lt
      have HW : Hid (wantsF (allC l) from' gives ⟨3, a, b, type, cls, name⟩ = some ([], [kN])) := E3
      have HTc := Lib.hid T
      clear T hop hx E1 E14 E2 E3 E9 E10 E11 E12 E15 E16 E17 E18 E24 E25 E26 E27 E28
      go_wp2_with (first | fail)
      go_ret3
      exact WantsPost.yes HW.out (HTc.out.alloc _).below (strs_none _) (strs_one _ _)
    by_cases c9 : op = 9
    · subst c9
      by_cases a12 : a = 12
      · subst a12
        obtain ⟨h0, h1, h2, h3, h4, h5⟩ := T.cells
        have hlt := T.box.lt
        have HW : Hid (wantsF (allC l) from' gives ⟨9, 12, b, type, cls, name⟩ = some ([type], [type])) := E9
        have HTc := Lib.hid T
        clear T hop hx E1 E14 E2 E3 E9 E10 E11 E12 E15 E16 E17 E18 E24 E25 E26 E27 E28
        go_upto_region 14 with (first | fail)
        go_region
        all_goals
          go_wp2_with (first | fail)
          go_ret3
          exact WantsPost.yes HW.out ((HTc.out.alloc _).alloc _).drew.below (by first | exact ((strs_one _ _).allocS _).drewS | exact (strs_one' _ _ _).drewS) (by first | exact ((strs_one _ _).allocS _).drewS | exact (strs_one' _ _ _).drewS)
      by_cases a9 : a = 9
      · subst a9
        obtain ⟨h0, h1, h2, h3, h4, h5⟩ := T.cells
        have hlt := T.box.lt
        have HW : Hid (wantsF (allC l) from' gives ⟨9, 9, b, type, cls, name⟩ = some ([kI, type], [type])) := E9
        have HTc := Lib.hid T
        clear T hop hx E1 E14 E2 E3 E9 E10 E11 E12 E15 E16 E17 E18 E24 E25 E26 E27 E28
        go_upto_region 18 with (first | fail)
        go_region
        all_goals
          go_wp2_with (first | fail)
          go_ret3
          exact WantsPost.yes HW.out ((HTc.out.alloc _).alloc _).drew.below (by first | exact ((strs_two _ _ _).allocS _).drewS | exact (strs_two' _ _ _ _).drewS) (by first | exact ((strs_one _ _).allocS _).drewS | exact (strs_one' _ _ _).drewS)
      by_cases a10 : a = 10
      · subst a10
        obtain ⟨h0, h1, h2, h3, h4, h5⟩ := T.cells
        have hlt := T.box.lt
        have HW : Hid (wantsF (allC l) from' gives ⟨9, 10, b, type, cls, name⟩ = some ([kI, type], [type])) := E9
        have HTc := Lib.hid T
        clear T hop hx E1 E14 E2 E3 E9 E10 E11 E12 E15 E16 E17 E18 E24 E25 E26 E27 E28
        go_upto_region 18 with (first | fail)
        go_region
        all_goals
          go_wp2_with (first | fail)
          go_ret3
          exact WantsPost.yes HW.out ((HTc.out.alloc _).alloc _).drew.below (by first | exact ((strs_two _ _ _).allocS _).drewS | exact (strs_two' _ _ _ _).drewS) (by first | exact ((strs_one _ _).allocS _).drewS | exact (strs_one' _ _ _).drewS)
      by_cases a11 : a = 11
      · subst a11
        obtain ⟨h0, h1, h2, h3, h4, h5⟩ := T.cells
        have hlt := T.box.lt
        have HW : Hid (wantsF (allC l) from' gives ⟨9, 11, b, type, cls, name⟩ = some ([kI, type], [type])) := E9
        have HTc := Lib.hid T
        clear T hop hx E1 E14 E2 E3 E9 E10 E11 E12 E15 E16 E17 E18 E24 E25 E26 E27 E28
        go_upto_region 18 with (first | fail)
        go_region
        all_goals
          go_wp2_with (first | fail)
          go_ret3
          exact WantsPost.yes HW.out ((HTc.out.alloc _).alloc _).drew.below (by first | exact ((strs_two _ _ _).allocS _).drewS | exact (strs_two' _ _ _ _).drewS) (by first | exact ((strs_one _ _).allocS _).drewS | exact (strs_one' _ _ _).drewS)
      have y12 : (a == 12) = false := by simpa using a12
      have y9 : (a == 9) = false := by simpa using a9
      have y10 : (a == 10) = false := by simpa using a10
      have y11 : (a == 11) = false := by simpa using a11
      obtain ⟨h0, h1, h2, h3, h4, h5⟩ := T.cells
      have hlt := T.box.lt
      have HW : Hid (wantsF (allC l) from' gives ⟨9, a, b, type, cls, name⟩ = some ([type, type], [type])) := by unfold Hid; rw [E9]; unfold mathSec; rw [if_neg a12, if_neg (by omega)]; rfl
      have HTc := Lib.hid T
      clear T hop hx E1 E14 E2 E3 E9 E10 E11 E12 E15 E16 E17 E18 E24 E25 E26 E27 E28
      go_upto_region 18 with (first | fail)
      go_region
      all_goals
        go_wp2_with (first | fail)
        go_ret3
        exact WantsPost.yes HW.out ((HTc.out.alloc _).alloc _).drew.below (by first | exact ((strs_two _ _ _).allocS _).drewS | exact (strs_two' _ _ _ _).drewS) (by first | exact ((strs_one _ _).allocS _).drewS | exact (strs_one' _ _ _).drewS)
    by_cases c10 : op = 10
    · subst c10
      rcases word_two (word_typed hx (Or.inr rfl)) with rfl | rfl
      · have hk : (kI.toList == [73]) = true := by rw [ByteArray.toList_eq]; rfl
        obtain ⟨h0, h1, h2, h3, h4, h5⟩ := T.cells
        have hlt := T.box.lt
        have HW : Hid (wantsF (allC l) from' gives ⟨10, a, b, kI, cls, name⟩ = some ([kJ], [kI])) := by unfold Hid; rw [E10]; unfold otherS; rw [hk]; rfl
        have HTc := Lib.hid T
        clear T hop hx E1 E14 E2 E3 E9 E10 E11 E12 E15 E16 E17 E18 E24 E25 E26 E27 E28
        go_wp2_with (first | fail)
        go_ret3
        exact WantsPost.yes HW.out ((HTc.out.alloc _).alloc _).below ((strs_one _ _).allocS _) (strs_one' _ _ _)
      · have hk : (kJ.toList == [73]) = false := by rw [ByteArray.toList_eq]; rfl
        obtain ⟨h0, h1, h2, h3, h4, h5⟩ := T.cells
        have hlt := T.box.lt
        have HW : Hid (wantsF (allC l) from' gives ⟨10, a, b, kJ, cls, name⟩ = some ([kI], [kJ])) := by unfold Hid; rw [E10]; unfold otherS; rw [hk]; rfl
        have HTc := Lib.hid T
        clear T hop hx E1 E14 E2 E3 E9 E10 E11 E12 E15 E16 E17 E18 E24 E25 E26 E27 E28
        go_wp2_with (first | fail)
        go_ret3
        exact WantsPost.yes HW.out ((HTc.out.alloc _).alloc _).below ((strs_one _ _).allocS _) (strs_one' _ _ _)
    by_cases c11 : op = 11
    · subst c11
      obtain ⟨h0, h1, h2, h3, h4, h5⟩ := T.cells
      have hlt := T.box.lt
      have HW : Hid (wantsF (allC l) from' gives ⟨11, a, b, type, cls, name⟩ = some ([kJ, kJ], [kI])) := E11
      have HTc := Lib.hid T
      clear T hop hx E1 E14 E2 E3 E9 E10 E11 E12 E15 E16 E17 E18 E24 E25 E26 E27 E28
      go_wp2_with (first | fail)
      go_ret3
      exact WantsPost.yes HW.out ((HTc.out.alloc _).alloc _).below ((strs_two _ _ _).allocS _) (strs_one' _ _ _)
    by_cases c12 : op = 12
    · subst c12
      obtain ⟨h0, h1, h2, h3, h4, h5⟩ := T.cells
      have hlt := T.box.lt
      have HW : Hid (wantsF (allC l) from' gives ⟨12, a, b, type, cls, name⟩ = some ([kI], [])) := E12
      have HTc := Lib.hid T
      clear T hop hx E1 E14 E2 E3 E9 E10 E11 E12 E15 E16 E17 E18 E24 E25 E26 E27 E28
      go_wp2_with (first | fail)
      go_ret3
      exact WantsPost.yes HW.out (HTc.out.alloc _).below (strs_one _ _) (strs_none _)
    by_cases c15 : op = 15
    · subst c15
      cases is with
      | false =>
        obtain ⟨h0, h1, h2, h3, h4, h5⟩ := T.cells
        have hlt := T.box.lt
        have HW : Hid (wantsF (allC l) from' gives ⟨15, a, b, type, cls, name⟩ = none) := by unfold Hid; rw [E15, HIs.out]; rfl
        have HTc := Lib.hid T
        clear T hop hx E1 E14 E2 E3 E9 E10 E11 E12 E15 E16 E17 E18 E24 E25 E26 E27 E28
        go_upto_region 29 with ((go_at_call 14; (with_reducible refine (HCO.out _ HTc.out.below).mono ?_); rintro e w3 ⟨p1, k1, p2, k2, p3, k3, rfl, _, _, _, hB3, _⟩; (have T3 := HTc.out.step hB3); (have hl3 := T3.box.lt); (have q3 : (w3.alloc (.cells #[.string n2, .string s2, .slice p1 f2.length k1, .bool b2, .slice p2 d2.length k2, .slice p3 m2.length k3] 36)).cell? ⟨w3.heap.size, 3, none⟩ = some (.bool b2) := (Blk.new w3 36 [.string n2, .string s2, .slice p1 f2.length k1, .bool b2, .slice p2 d2.length k2, .slice p3 m2.length k3]).cell 3)))
        go_region
        all_goals
          go_wp2_with (first | fail)
          go_ret3
          exact WantsPost.no HW.out ((T3.alloc _).alloc _).drew.below
      | true =>
        have hcl' : (classC (allC l) cls).face = b2 := by show ((findC (allC l) cls).getD noClass).face = b2; rw [HD.out]
        cases b2 with
        | true =>
          obtain ⟨h0, h1, h2, h3, h4, h5⟩ := T.cells
          have hlt := T.box.lt
          have HW : Hid (wantsF (allC l) from' gives ⟨15, a, b, type, cls, name⟩ = none) := by unfold Hid; rw [E15, HIs.out, hcl']; rfl
          have HTc := Lib.hid T
          clear T hop hx E1 E14 E2 E3 E9 E10 E11 E12 E15 E16 E17 E18 E24 E25 E26 E27 E28
          go_upto_region 29 with ((go_at_call 14; (with_reducible refine (HCO.out _ HTc.out.below).mono ?_); rintro e w3 ⟨p1, k1, p2, k2, p3, k3, rfl, _, _, _, hB3, _⟩; (have T3 := HTc.out.step hB3); (have hl3 := T3.box.lt); (have q3 : (w3.alloc (.cells #[.string n2, .string s2, .slice p1 f2.length k1, .bool true, .slice p2 d2.length k2, .slice p3 m2.length k3] 36)).cell? ⟨w3.heap.size, 3, none⟩ = some (.bool true) := (Blk.new w3 36 [.string n2, .string s2, .slice p1 f2.length k1, .bool true, .slice p2 d2.length k2, .slice p3 m2.length k3]).cell 3)))
          go_region
          all_goals
            go_wp2_with (first | fail)
            go_ret3
            exact WantsPost.no HW.out ((T3.alloc _).alloc _).drew.below
        | false =>
          obtain ⟨h0, h1, h2, h3, h4, h5⟩ := T.cells
          have hlt := T.box.lt
          have HW : Hid (wantsF (allC l) from' gives ⟨15, a, b, type, cls, name⟩ = some ([], [thText cls])) := by unfold Hid; rw [E15, HIs.out, hcl']; rfl
          have HTc := Lib.hid T
          clear T hop hx E1 E14 E2 E3 E9 E10 E11 E12 E15 E16 E17 E18 E24 E25 E26 E27 E28
          go_upto_region 29 with ((go_at_call 14; (with_reducible refine (HCO.out _ HTc.out.below).mono ?_); rintro e w3 ⟨p1, k1, p2, k2, p3, k3, rfl, _, _, _, hB3, _⟩; (have T3 := HTc.out.step hB3); (have hl3 := T3.box.lt); (have q3 : (w3.alloc (.cells #[.string n2, .string s2, .slice p1 f2.length k1, .bool false, .slice p2 d2.length k2, .slice p3 m2.length k3] 36)).cell? ⟨w3.heap.size, 3, none⟩ = some (.bool false) := (Blk.new w3 36 [.string n2, .string s2, .slice p1 f2.length k1, .bool false, .slice p2 d2.length k2, .slice p3 m2.length k3]).cell 3)))
          go_region
          all_goals
            go_wp2_with (first | fail)
            go_ret3
            exact WantsPost.yes HW.out ((T3.alloc _).alloc _).drew.below (strs_none _) (strs_one' _ _ _).drewS
    by_cases c16 : op = 16
    · subst c16
      cases is with
      | false =>
        obtain ⟨h0, h1, h2, h3, h4, h5⟩ := T.cells
        have hlt := T.box.lt
        have HW : Hid (wantsF (allC l) from' gives ⟨16, a, b, type, cls, name⟩ = none) := by unfold Hid; rw [E16, fieldF_out (by rw [HIs.out]; decide)]; rfl
        have HTc := Lib.hid T
        clear T hop hx E1 E14 E2 E3 E9 E10 E11 E12 E15 E16 E17 E18 E24 E25 E26 E27 E28
        go_wp2_with (first | fail)
        go_ret3
        exact WantsPost.no HW.out HTc.out.below
      | true =>
        have HFO : Hid (∀ wx, Below w.heap.size w wx → _) := fun wx hb => refFieldOf_any l (.slice pl l.length cap) cls name wx HRi.out (HLv.out.mono hb) HIs.out
        have HKn := Lib.hid (thing_there HCf.out HIs.out)
        cases hf : fieldC (allC l) cls name with
        | none =>
          rw [hf] at HFO
          unfold fieldV at HFO
          obtain ⟨h0, h1, h2, h3, h4, h5⟩ := T.cells
          have hlt := T.box.lt
          have HW : Hid (wantsF (allC l) from' gives ⟨16, a, b, type, cls, name⟩ = none) := by unfold Hid; rw [E16, fieldF_none hf]; rfl
          have HTc := Lib.hid T
          clear T hop hx E1 E14 E2 E3 E9 E10 E11 E12 E15 E16 E17 E18 E24 E25 E26 E27 E28
          clear hf
          go_wp2_with (first | (go_at_call 83; (with_reducible refine (HFO.out _ HTc.out.below).mono ?_); rintro e w3 ⟨rfl, hB3⟩; (have T3 := HTc.out.step hB3); (have hl3 := T3.box.lt); (have T4 := T3.alloc (.cells #[.string ⟨#[]⟩, .string ⟨#[]⟩] 130)); (obtain ⟨g0, g1, g2, g3, g4, g5⟩ := T4.cells); (obtain ⟨r0, r1⟩ := (Blk.new w3 130 [.string ⟨#[]⟩, .string ⟨#[]⟩]).cells2)))
          go_ret3
          exact WantsPost.no HW.out T4.below
        | some cf =>
          obtain ⟨fc, f⟩ := cf
          rw [hf] at HFO
          unfold fieldV at HFO
          have hfs : f.type.size ≤ maxLen := fieldC_small HCf.out hf
          have HKf : Hid (∀ wx, Below w.heap.size w wx → _) := fun wx hb => refKind_any l (.slice pl l.length cap) f.type wx (HLv.out.mono hb) hfs
          by_cases hz : kindR (allC l) f.type = 0
          · rw [hz] at HKf
            obtain ⟨h0, h1, h2, h3, h4, h5⟩ := T.cells
            have hlt := T.box.lt
            have HW : Hid (wantsF (allC l) from' gives ⟨16, a, b, type, cls, name⟩ = some ([thText cls], [f.type])) := by unfold Hid; rw [E16, fieldF_some HKn.out hf hz]; rfl
            have HTc := Lib.hid T
            clear T hop hx E1 E14 E2 E3 E9 E10 E11 E12 E15 E16 E17 E18 E24 E25 E26 E27 E28
            clear hf hz hfs
            go_upto_region 38 with (first | (go_at_call 83; (with_reducible refine (HFO.out _ HTc.out.below).mono ?_); rintro e w3 ⟨rfl, hB3⟩; (have T3 := HTc.out.step hB3); (have hl3 := T3.box.lt); (have T4 := T3.alloc (.cells #[.string f.name, .string f.type] 130)); (obtain ⟨g0, g1, g2, g3, g4, g5⟩ := T4.cells); (obtain ⟨r0, r1⟩ := (Blk.new w3 130 [.string f.name, .string f.type]).cells2)) | (go_at_call 40; (with_reducible refine (HKf.out _ T4.below).mono ?_); rintro e w5 ⟨rfl, hB5⟩; (have T5 := T4.step hB5); (have hl5 := T5.box.lt); (have hl6 : w3.heap.size < w5.heap.size := (Blk.step (Blk.new w3 130 [.string f.name, .string f.type]) hB5).lt); (obtain ⟨j0, j1, j2, j3, j4, j5⟩ := T5.cells); (obtain ⟨s0, s1⟩ := (Blk.step (Blk.new w3 130 [.string f.name, .string f.type]) hB5).cells2)))
            go_region
            all_goals
              go_wp2_with (first | fail)
              go_ret3
              exact WantsPost.yes HW.out ((T5.alloc _).alloc _).drew.below (by first | exact ((strs_one _ _).allocS _).drewS | exact (strs_one' _ _ _).drewS) (by first | exact ((strs_one _ _).allocS _).drewS | exact (strs_one' _ _ _).drewS)
          · have hzb : (((kindR (allC l) f.type : Nat) : Int) != 0) = true := by simpa using hz
            obtain ⟨h0, h1, h2, h3, h4, h5⟩ := T.cells
            have hlt := T.box.lt
            have HW : Hid (wantsF (allC l) from' gives ⟨16, a, b, type, cls, name⟩ = none) := by unfold Hid; rw [E16, fieldF_bad hf hz]; rfl
            have HTc := Lib.hid T
            clear T hop hx E1 E14 E2 E3 E9 E10 E11 E12 E15 E16 E17 E18 E24 E25 E26 E27 E28
            clear hf hz hfs
            generalize kindR (allC l) f.type = fk at *
            go_wp2_with (first | (go_at_call 83; (with_reducible refine (HFO.out _ HTc.out.below).mono ?_); rintro e w3 ⟨rfl, hB3⟩; (have T3 := HTc.out.step hB3); (have hl3 := T3.box.lt); (have T4 := T3.alloc (.cells #[.string f.name, .string f.type] 130)); (obtain ⟨g0, g1, g2, g3, g4, g5⟩ := T4.cells); (obtain ⟨r0, r1⟩ := (Blk.new w3 130 [.string f.name, .string f.type]).cells2)) | (go_at_call 40; (with_reducible refine (HKf.out _ T4.below).mono ?_); rintro e w5 ⟨rfl, hB5⟩; (have T5 := T4.step hB5); (have hl5 := T5.box.lt); (have hl6 : w3.heap.size < w5.heap.size := (Blk.step (Blk.new w3 130 [.string f.name, .string f.type]) hB5).lt); (obtain ⟨j0, j1, j2, j3, j4, j5⟩ := T5.cells); (obtain ⟨s0, s1⟩ := (Blk.step (Blk.new w3 130 [.string f.name, .string f.type]) hB5).cells2)))
            go_ret3
            exact WantsPost.no HW.out T5.below
    by_cases c17 : op = 17
    · subst c17
      cases is with
      | false =>
        obtain ⟨h0, h1, h2, h3, h4, h5⟩ := T.cells
        have hlt := T.box.lt
        have HW : Hid (wantsF (allC l) from' gives ⟨17, a, b, type, cls, name⟩ = none) := by unfold Hid; rw [E17, fieldF_out (by rw [HIs.out]; decide)]; rfl
        have HTc := Lib.hid T
        clear T hop hx E1 E14 E2 E3 E9 E10 E11 E12 E15 E16 E17 E18 E24 E25 E26 E27 E28
        go_wp2_with (first | fail)
        go_ret3
        exact WantsPost.no HW.out HTc.out.below
      | true =>
        have HFO : Hid (∀ wx, Below w.heap.size w wx → _) := fun wx hb => refFieldOf_any l (.slice pl l.length cap) cls name wx HRi.out (HLv.out.mono hb) HIs.out
        have HKn := Lib.hid (thing_there HCf.out HIs.out)
        cases hf : fieldC (allC l) cls name with
        | none =>
          rw [hf] at HFO
          unfold fieldV at HFO
          obtain ⟨h0, h1, h2, h3, h4, h5⟩ := T.cells
          have hlt := T.box.lt
          have HW : Hid (wantsF (allC l) from' gives ⟨17, a, b, type, cls, name⟩ = none) := by unfold Hid; rw [E17, fieldF_none hf]; rfl
          have HTc := Lib.hid T
          clear T hop hx E1 E14 E2 E3 E9 E10 E11 E12 E15 E16 E17 E18 E24 E25 E26 E27 E28
          clear hf
          go_wp2_with (first | (go_at_call 83; (with_reducible refine (HFO.out _ HTc.out.below).mono ?_); rintro e w3 ⟨rfl, hB3⟩; (have T3 := HTc.out.step hB3); (have hl3 := T3.box.lt); (have T4 := T3.alloc (.cells #[.string ⟨#[]⟩, .string ⟨#[]⟩] 130)); (obtain ⟨g0, g1, g2, g3, g4, g5⟩ := T4.cells); (obtain ⟨r0, r1⟩ := (Blk.new w3 130 [.string ⟨#[]⟩, .string ⟨#[]⟩]).cells2)))
          go_ret3
          exact WantsPost.no HW.out T4.below
        | some cf =>
          obtain ⟨fc, f⟩ := cf
          rw [hf] at HFO
          unfold fieldV at HFO
          have hfs : f.type.size ≤ maxLen := fieldC_small HCf.out hf
          have HKf : Hid (∀ wx, Below w.heap.size w wx → _) := fun wx hb => refKind_any l (.slice pl l.length cap) f.type wx (HLv.out.mono hb) hfs
          by_cases hz : kindR (allC l) f.type = 0
          · rw [hz] at HKf
            obtain ⟨h0, h1, h2, h3, h4, h5⟩ := T.cells
            have hlt := T.box.lt
            have HW : Hid (wantsF (allC l) from' gives ⟨17, a, b, type, cls, name⟩ = some ([f.type, thText cls], [])) := by unfold Hid; rw [E17, fieldF_some HKn.out hf hz]; rfl
            have HTc := Lib.hid T
            clear T hop hx E1 E14 E2 E3 E9 E10 E11 E12 E15 E16 E17 E18 E24 E25 E26 E27 E28
            clear hf hz hfs
            go_wp2_with (first | (go_at_call 83; (with_reducible refine (HFO.out _ HTc.out.below).mono ?_); rintro e w3 ⟨rfl, hB3⟩; (have T3 := HTc.out.step hB3); (have hl3 := T3.box.lt); (have T4 := T3.alloc (.cells #[.string f.name, .string f.type] 130)); (obtain ⟨g0, g1, g2, g3, g4, g5⟩ := T4.cells); (obtain ⟨r0, r1⟩ := (Blk.new w3 130 [.string f.name, .string f.type]).cells2)) | (go_at_call 40; (with_reducible refine (HKf.out _ T4.below).mono ?_); rintro e w5 ⟨rfl, hB5⟩; (have T5 := T4.step hB5); (have hl5 := T5.box.lt); (have hl6 : w3.heap.size < w5.heap.size := (Blk.step (Blk.new w3 130 [.string f.name, .string f.type]) hB5).lt); (obtain ⟨j0, j1, j2, j3, j4, j5⟩ := T5.cells); (obtain ⟨s0, s1⟩ := (Blk.step (Blk.new w3 130 [.string f.name, .string f.type]) hB5).cells2)))
            go_ret3
            exact WantsPost.yes HW.out (T5.alloc _).below (strs_two _ _ _) (strs_none _)
          · have hzb : (((kindR (allC l) f.type : Nat) : Int) != 0) = true := by simpa using hz
            obtain ⟨h0, h1, h2, h3, h4, h5⟩ := T.cells
            have hlt := T.box.lt
            have HW : Hid (wantsF (allC l) from' gives ⟨17, a, b, type, cls, name⟩ = none) := by unfold Hid; rw [E17, fieldF_bad hf hz]; rfl
            have HTc := Lib.hid T
            clear T hop hx E1 E14 E2 E3 E9 E10 E11 E12 E15 E16 E17 E18 E24 E25 E26 E27 E28
            clear hf hz hfs
            generalize kindR (allC l) f.type = fk at *
            go_wp2_with (first | (go_at_call 83; (with_reducible refine (HFO.out _ HTc.out.below).mono ?_); rintro e w3 ⟨rfl, hB3⟩; (have T3 := HTc.out.step hB3); (have hl3 := T3.box.lt); (have T4 := T3.alloc (.cells #[.string f.name, .string f.type] 130)); (obtain ⟨g0, g1, g2, g3, g4, g5⟩ := T4.cells); (obtain ⟨r0, r1⟩ := (Blk.new w3 130 [.string f.name, .string f.type]).cells2)) | (go_at_call 40; (with_reducible refine (HKf.out _ T4.below).mono ?_); rintro e w5 ⟨rfl, hB5⟩; (have T5 := T4.step hB5); (have hl5 := T5.box.lt); (have hl6 : w3.heap.size < w5.heap.size := (Blk.step (Blk.new w3 130 [.string f.name, .string f.type]) hB5).lt); (obtain ⟨j0, j1, j2, j3, j4, j5⟩ := T5.cells); (obtain ⟨s0, s1⟩ := (Blk.step (Blk.new w3 130 [.string f.name, .string f.type]) hB5).cells2)))
            go_ret3
            exact WantsPost.no HW.out T5.below
    by_cases c18 : op = 18
    · subst c18
      have hty1 : ty = true := by rw [← HTy.out]; exact type_typed hx (Or.inl rfl)
      subst hty1
      by_cases hz : kt = 0
      · subst hz
        have hkz : (decide ((0 : Nat) = 0) && true) = true := rfl
        rw [hkz] at *
        obtain ⟨h0, h1, h2, h3, h4, h5⟩ := T.cells
        have hlt := T.box.lt
        have HW : Hid (wantsF (allC l) from' gives ⟨18, a, b, type, cls, name⟩ = some ([kI], [arText type])) := by unfold Hid; rw [E18, HKT.out]; rfl
        have HTc := Lib.hid T
        clear T hop hx E1 E14 E2 E3 E9 E10 E11 E12 E15 E16 E17 E18 E24 E25 E26 E27 E28
        clear hkz
        go_upto_region 41 with (first | fail)
        go_region
        all_goals
          go_wp2_with (first | fail)
          go_ret3
          exact WantsPost.yes HW.out ((HTc.out.alloc _).alloc _).drew.below (by first | exact ((strs_one _ _).allocS _).drewS | exact (strs_one' _ _ _).drewS) (by first | exact ((strs_one _ (arText type)).allocS _).drewS | exact (strs_one' _ (arText type) _).drewS)
      · have hkz : (decide (kt = 0) && true) = false := by rw [decide_eq_false hz]; rfl
        rw [hkz] at *
        obtain ⟨h0, h1, h2, h3, h4, h5⟩ := T.cells
        have hlt := T.box.lt
        have HW : Hid (wantsF (allC l) from' gives ⟨18, a, b, type, cls, name⟩ = none) := by unfold Hid; rw [E18, HKT.out, if_neg hz]
        have HTc := Lib.hid T
        clear T hop hx E1 E14 E2 E3 E9 E10 E11 E12 E15 E16 E17 E18 E24 E25 E26 E27 E28
        clear hkz
        go_upto_region 41 with (first | fail)
        go_region
        all_goals
          go_wp2_with (first | fail)
          go_ret3
          exact WantsPost.no HW.out ((HTc.out.alloc _).alloc _).drew.below
    by_cases c24 : op = 24
    · subst c24
      have HCW : Hid (∀ wx, Below w.heap.size w wx → _) := fun wx hb => callWants_any l (.slice pl l.length cap) HRi.out HCf.out wx (HLv.out.mono hb) from' 24 a b type cls name false rfl rfl hty hcl (sig_typed hx (Or.inl rfl))
      cases hq : callW (allC l) from' cls name type false with
      | none =>
        rw [hq] at HCW
        obtain ⟨h0, h1, h2, h3, h4, h5⟩ := T.cells
        have hlt := T.box.lt
        have HW : Hid (wantsF (allC l) from' gives ⟨24, a, b, type, cls, name⟩ = none) := E24.trans hq
        have HTc := Lib.hid T
        clear T hop hx E1 E14 E2 E3 E9 E10 E11 E12 E15 E16 E17 E18 E24 E25 E26 E27 E28
        go_wp2_with (first | (go_at_call 84; (with_reducible refine (HCW.out _ HTc.out.below).mono ?_); rintro e w3 ⟨hB3, hP⟩; rcases hP with ⟨-, v1, v2, rfl⟩ | ⟨_, _, _, _, h, _⟩; rotate_left; (cases h)))
        go_ret3
        exact WantsPost.no HW.out (below_call HTc.out.below (Nat.le_refl _) hB3)
      | some q =>
        obtain ⟨ks, ps⟩ := q
        rw [hq] at HCW
        obtain ⟨h0, h1, h2, h3, h4, h5⟩ := T.cells
        have hlt := T.box.lt
        have HW : Hid (wantsF (allC l) from' gives ⟨24, a, b, type, cls, name⟩ = some (ks, ps)) := E24.trans hq
        have HTc := Lib.hid T
        clear T hop hx E1 E14 E2 E3 E9 E10 E11 E12 E15 E16 E17 E18 E24 E25 E26 E27 E28
        go_wp2_with (first | (go_at_call 84; (with_reducible refine (HCW.out _ HTc.out.below).mono ?_); rintro e w3 ⟨hB3, hP⟩; rcases hP with ⟨h, _⟩ | ⟨_, _, v1, v2, he, rfl, hs1, hs2⟩; (cases h); (injection he with he; injection he with e1 e2; subst e1 e2)))
        go_ret3
        exact WantsPost.yes HW.out (below_call HTc.out.below (Nat.le_refl _) hB3) hs1 hs2
    by_cases c25 : op = 25
    · subst c25
      have HCW : Hid (∀ wx, Below w.heap.size w wx → _) := fun wx hb => callWants_any l (.slice pl l.length cap) HRi.out HCf.out wx (HLv.out.mono hb) from' 25 a b type cls name true rfl rfl hty hcl (sig_typed hx (Or.inr rfl))
      cases hq : callW (allC l) from' cls name type true with
      | none =>
        rw [hq] at HCW
        obtain ⟨h0, h1, h2, h3, h4, h5⟩ := T.cells
        have hlt := T.box.lt
        have HW : Hid (wantsF (allC l) from' gives ⟨25, a, b, type, cls, name⟩ = none) := E25.trans hq
        have HTc := Lib.hid T
        clear T hop hx E1 E14 E2 E3 E9 E10 E11 E12 E15 E16 E17 E18 E24 E25 E26 E27 E28
        go_wp2_with (first | (go_at_call 84; (with_reducible refine (HCW.out _ HTc.out.below).mono ?_); rintro e w3 ⟨hB3, hP⟩; rcases hP with ⟨-, v1, v2, rfl⟩ | ⟨_, _, _, _, h, _⟩; rotate_left; (cases h)))
        go_ret3
        exact WantsPost.no HW.out (below_call HTc.out.below (Nat.le_refl _) hB3)
      | some q =>
        obtain ⟨ks, ps⟩ := q
        rw [hq] at HCW
        obtain ⟨h0, h1, h2, h3, h4, h5⟩ := T.cells
        have hlt := T.box.lt
        have HW : Hid (wantsF (allC l) from' gives ⟨25, a, b, type, cls, name⟩ = some (ks, ps)) := E25.trans hq
        have HTc := Lib.hid T
        clear T hop hx E1 E14 E2 E3 E9 E10 E11 E12 E15 E16 E17 E18 E24 E25 E26 E27 E28
        go_wp2_with (first | (go_at_call 84; (with_reducible refine (HCW.out _ HTc.out.below).mono ?_); rintro e w3 ⟨hB3, hP⟩; rcases hP with ⟨h, _⟩ | ⟨_, _, v1, v2, he, rfl, hs1, hs2⟩; (cases h); (injection he with he; injection he with e1 e2; subst e1 e2)))
        go_ret3
        exact WantsPost.yes HW.out (below_call HTc.out.below (Nat.le_refl _) hB3) hs1 hs2
    by_cases c26 : op = 26
    · subst c26
      cases hv : (gives.toList == [86]) with
      | true =>
        obtain ⟨h0, h1, h2, h3, h4, h5⟩ := T.cells
        have hlt := T.box.lt
        have HW : Hid (wantsF (allC l) from' gives ⟨26, a, b, type, cls, name⟩ = some ([], [])) := by unfold Hid; rw [E26, hv]; rfl
        have HTc := Lib.hid T
        clear T hop hx E1 E14 E2 E3 E9 E10 E11 E12 E15 E16 E17 E18 E24 E25 E26 E27 E28
        go_wp2_with (first | fail)
        go_ret3
        exact WantsPost.yes HW.out HTc.out.below (strs_none _) (strs_none _)
      | false =>
        obtain ⟨h0, h1, h2, h3, h4, h5⟩ := T.cells
        have hlt := T.box.lt
        have HW : Hid (wantsF (allC l) from' gives ⟨26, a, b, type, cls, name⟩ = none) := by unfold Hid; rw [E26, hv]; rfl
        have HTc := Lib.hid T
        clear T hop hx E1 E14 E2 E3 E9 E10 E11 E12 E15 E16 E17 E18 E24 E25 E26 E27 E28
        go_wp2_with (first | fail)
        go_ret3
        exact WantsPost.no HW.out HTc.out.below
    by_cases c27 : op = 27
    · subst c27
      cases hv : (gives.toList == [86]) with
      | true =>
        obtain ⟨h0, h1, h2, h3, h4, h5⟩ := T.cells
        have hlt := T.box.lt
        have HW : Hid (wantsF (allC l) from' gives ⟨27, a, b, type, cls, name⟩ = none) := by unfold Hid; rw [E27, hv]; rfl
        have HTc := Lib.hid T
        clear T hop hx E1 E14 E2 E3 E9 E10 E11 E12 E15 E16 E17 E18 E24 E25 E26 E27 E28
        go_wp2_with (first | fail)
        go_ret3
        exact WantsPost.no HW.out (HTc.out.alloc _).below
      | false =>
        have HKg : Hid (∀ wx, Below w.heap.size w wx → _) := fun wx hb => refKind_any l (.slice pl l.length cap) gives wx (HLv.out.mono hb) hgs
        by_cases hz : kindR (allC l) gives = 0
        · rw [hz] at HKg
          obtain ⟨h0, h1, h2, h3, h4, h5⟩ := T.cells
          have hlt := T.box.lt
          have HW : Hid (wantsF (allC l) from' gives ⟨27, a, b, type, cls, name⟩ = some ([gives], [])) := by unfold Hid; rw [E27, hv, hz]; rfl
          have HTc := Lib.hid T
          clear T hop hx E1 E14 E2 E3 E9 E10 E11 E12 E15 E16 E17 E18 E24 E25 E26 E27 E28
          clear hz
          go_wp2_with (first | (go_at_call 40; (with_reducible refine (HKg.out _ (HTc.out.alloc _).below).mono ?_); rintro e w5 ⟨rfl, hB5⟩))
          go_ret3
          exact WantsPost.yes HW.out (below_call (HTc.out.alloc _).below (Nat.le_refl _) hB5) ((strs_one _ _).mono hB5) (strs_none _)
        · have hzb : (((kindR (allC l) gives : Nat) : Int) == 0) = false := by simpa using hz
          obtain ⟨h0, h1, h2, h3, h4, h5⟩ := T.cells
          have hlt := T.box.lt
          have HW : Hid (wantsF (allC l) from' gives ⟨27, a, b, type, cls, name⟩ = none) := by unfold Hid; rw [E27, hv, if_neg (by decide), if_neg hz]
          have HTc := Lib.hid T
          clear T hop hx E1 E14 E2 E3 E9 E10 E11 E12 E15 E16 E17 E18 E24 E25 E26 E27 E28
          clear hz
          generalize kindR (allC l) gives = fk at *
          go_wp2_with (first | (go_at_call 40; (with_reducible refine (HKg.out _ (HTc.out.alloc _).below).mono ?_); rintro e w5 ⟨rfl, hB5⟩))
          go_ret3
          exact WantsPost.no HW.out (below_call (HTc.out.alloc _).below (Nat.le_refl _) hB5)
    by_cases c28 : op = 28
    · subst c28
      obtain ⟨h0, h1, h2, h3, h4, h5⟩ := T.cells
      have hlt := T.box.lt
      have HW : Hid (wantsF (allC l) from' gives ⟨28, a, b, type, cls, name⟩ = some ([thText kFault], [])) := E28
      have HTc := Lib.hid T
      clear T hop hx E1 E14 E2 E3 E9 E10 E11 E12 E15 E16 E17 E18 E24 E25 E26 E27 E28
      go_wp2_with (first | (go_at_call 82; (with_reducible refine (HThF.out _).mono ?_); rintro e w5 ⟨rfl, rfl⟩))
      go_ret3
      exact WantsPost.yes HW.out (HTc.out.alloc _).below (strs_one _ _) (strs_none _)
    exact absurd (ins_range hx) (by unfold OddOp at hop; omega)
end Go.Proofs.YtlmfmioljeppfaaGreatDoor
