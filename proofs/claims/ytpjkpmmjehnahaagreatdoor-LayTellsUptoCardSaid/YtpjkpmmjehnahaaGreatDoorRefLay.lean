/-
  WALKS over the reference's FieldTypes, FieldPlace. Conditions: a right world, a class that is there.
-/
import Derived.Test.YtpjkpmmjehnahaaGreatDoorLayOne
import Derived.Test.YtpjkpmmjehnahaaGreatDoorRefNames
namespace Go.Proofs.YtpjkpmmjehnahaaGreatDoor
open Go.RowKit Go.Shelf Go.Lib
set_option maxHeartbeats 4000000 in
set_option maxRecDepth 100000 in
theorem refTypes_fuel (l : List Class) (lv : Value) (hR : Right l) (hcf : ∀ c ∈ l, classFault c = 0) : ∀ (k : Nat) (n : Str) (w : World), ClassesAt w lv l → (findC (allC l) n).isSome = true → (everyC (allC l) n).length ≤ k →
    Calls Tryz.prog 33 #[lv, .string n] w (RowPost w (typesOf (layC (allC l) n))) := by
  intro k
  induction k with
  | zero =>
    intro n w _ hk hf
    have := List.length_pos_of_mem (every_facts hR.closed hk).2.1
    omega
  | succ k ih =>
    intro n w hlv hk hf
    have HCO := Lib.hid (refClassOf_any l lv n w hlv)
    unfold ClassGives at HCO
    have HLV : Hid (∀ wx, Below w.heap.size w wx → ClassesAt wx lv l) := fun wx hb => hlv.mono hb
    have hct := (class_counts hcf n).1
    obtain ⟨pl, cap, rfl, _⟩ := hlv.open
    rw [show (findC (allC l) n).getD noClass = classC (allC l) n from rfl] at HCO
    have ze : (classC (allC l) n).super.toList.isEmpty = decide ((classC (allC l) n).super.size = 0) := empty_iff _
    obtain ⟨P, hP, hPs, hcase⟩ : ∃ P : List Str, typesOf (layC (allC l) n) = P ++ (classC (allC l) n).fields.map (·.type) ∧ P.length ≤ 4194304 ∧
        ((decide ((classC (allC l) n).super.size = 0) = true ∧ P = []) ∨ (decide ((classC (allC l) n).super.size = 0) = false ∧ ∀ wx, Below w.heap.size w wx → Calls Tryz.prog 33 #[.slice pl l.length cap, .string (classC (allC l) n).super] wx (RowPost wx P))) := by
      by_cases h0 : (classC (allC l) n).super.size = 0
      · exact ⟨[], by rw [layC_top h0, typesOf_own]; rfl, Nat.zero_le _, Or.inl ⟨decide_eq_true h0, rfl⟩⟩
      · obtain ⟨hks, hlt⟩ := hR.up hk h0
        refine ⟨typesOf (layC (allC l) (classC (allC l) n).super), by rw [layC_up hR hk h0, typesOf_append, typesOf_own], by rw [typesOf_length]; exact lay_small hR hcf hks, Or.inr ⟨decide_eq_false h0, fun wx hb => ih _ wx (HLV.out wx hb) hks (by omega)⟩⟩
    unfold RowPost at *
    rw [hP]
    clear ih hlv hk hf HLV hR hcf hP
    generalize classC (allC l) n = d at *
    generalize (findC (allC l) n).isSome = is at *
    obtain ⟨n2, s2, f2, b2, d2, m2⟩ := d
    dsimp only at *
    rcases hcase with ⟨hz, hPe⟩ | ⟨hz, hrec⟩
    case' inl =>
      rw [hz] at ze
      clear hz
      go_enter Tryz.func33, Tryz.ntmps33
      go_upto_region 2 with (go_at_call 52; (with_reducible refine HCO.out.mono ?_); rintro e w4 ⟨pf2, kf2, pd2, kd2, pm2, km2, rfl, _, hfs, _, hB4, _⟩)
      have BX := boxed_new w4 #[.string n2, .string s2, .slice pf2 f2.length kf2, .bool b2, .slice pd2 d2.length kd2, .slice pm2 m2.length km2] 37
      have hB5 := below_call hB4 (Nat.le_refl _) BX.below
      have hfs5 := hfs.mono BX.below (by decide) (fun _ _ h => h)
      generalize w4.alloc (.cells #[.string n2, .string s2, .slice pf2 f2.length kf2, .bool b2, .slice pd2 d2.length kd2, .slice pm2 m2.length km2] 37) = w5 at *
      obtain ⟨q0, q1, q2, q3, q4, q5⟩ := boxed6 BX
      have HBX := Lib.hid BX
      have HB5 := Lib.hid hB5
      have HP0 : Hid (w5.ownsRow w5.heap.size 9 1 (.slice none 0 0) P.length (P.map Value.string)) := by rw [hPe]; exact ownsRow_nil _ _
      have HBs : Hid (Below w5.heap.size w5 w5) := Below.refl _ _
      clear BX hB5 hB4 hfs hPe
      go_wp2_with (first | fail)
    case' inr =>
      rw [hz] at ze
      have HRec := Lib.hid hrec
      clear hz hrec
      go_enter Tryz.func33, Tryz.ntmps33
      go_upto_region 2 with (go_at_call 52; (with_reducible refine HCO.out.mono ?_); rintro e w4 ⟨pf2, kf2, pd2, kd2, pm2, km2, rfl, _, hfs, _, hB4, _⟩)
      have BX := boxed_new w4 #[.string n2, .string s2, .slice pf2 f2.length kf2, .bool b2, .slice pd2 d2.length kd2, .slice pm2 m2.length km2] 37
      have hB5 := below_call hB4 (Nat.le_refl _) BX.below
      have hfs5 := hfs.mono BX.below (by decide) (fun _ _ h => h)
      generalize w4.alloc (.cells #[.string n2, .string s2, .slice pf2 f2.length kf2, .bool b2, .slice pd2 d2.length kd2, .slice pm2 m2.length km2] 37) = w5 at *
      obtain ⟨q0, q1, q2, q3, q4, q5⟩ := boxed6 BX
      have HBX := Lib.hid BX
      have HB5 := Lib.hid hB5
      clear BX hB5 hB4 hfs
      go_wp2_with (go_at_call 33; (with_reducible refine (HRec.out _ HB5.out).mono ?_); rintro e w6 ⟨⟨v6, rfl, hp0⟩, hbs⟩; (have HP0 := Lib.hid hp0); (have HBs := Lib.hid hbs); clear hp0 hbs)
    all_goals
      obtain ⟨pd', kd', he, g1, g2, hdd⟩ := hfs5.open
      injection he with he1 he2 he3
      subst he1 he3
      clear he2 hfs5
      have HD := Lib.hid hdd
      have hlen2 : d2.length ≤ 9223372036854775807 := Nat.le_trans g1 g2
      clear hdd q0 q1 q2 q3 q4 q5
      go_loopw [7, 8] (fun v x wr => ∃ j : Nat, j ≤ d2.length ∧ wr.ownsRow w5.heap.size 9 1 v (P.length + j) ((P ++ (d2.take j).map (·.type)).map Value.string) ∧ Below w5.heap.size w5 wr ∧ x = .int .i64 j) (fun _ x _ => d2.length - (intOf x).toNat)
      case atStart => exact ⟨0, by omega, by have h := HP0.out; simpa using h, HBs.out, rfl⟩
      case round =>
        clear HP0 HBs
        obtain ⟨j, hj, hown, hB, rfl⟩ := hrel
        obtain ⟨va, vc, rfl⟩ := ownsRow_shape hown
        obtain ⟨y0, y1, y2, y3, y4, y5⟩ := boxed6 (HBX.out.step hB)
        clear y0 y1 y2 y3 y5
        by_cases hjl : j < d2.length
        · obtain ⟨f, hf⟩ : ∃ a, d2[j]? = some a := ⟨d2[j], by simp [hjl]⟩
          obtain ⟨bb, oo, vs, rfl, hR, _, hcells⟩ := HD.out j f hf
          unfold FieldCells at hR; subst hR
          obtain ⟨u0, u1, _⟩ := hcells.mono hB hcells.lt
          have hnext : Hid ((P ++ (d2.take (j + 1)).map (·.type)).map Value.string = (P ++ (d2.take j).map (·.type)).map Value.string ++ [.string f.type]) := by
            unfold Hid; rw [map_take_one _ d2 j f hf, ← List.append_assoc, List.map_append]; rfl
          have hbd : P.length + j ≤ 8388608 := by omega
          have hbs := hB.size
          have HX := Lib.hid hf
          have HBa := Lib.hid hB
          have HO := Lib.hid hown
          have hown1 := hown
          clear u0 hf hcells hB hown
          go_wp2_with (at_builtin; (refine wpList_append_text1 rfl _ _ rfl w5.heap.size _ _ _ rfl hown1 f.type _ rfl rfl hbd hbs ?_); intro v3 w6 hown3 hg3)
          have hown4 : w6.ownsRow w5.heap.size 9 1 v3 (P.length + (j + 1)) ((P ++ (d2.take (j + 1)).map (·.type)).map Value.string) := by rw [hnext.out]; exact hown3
          have hB6 := (HBa.out.alloc HBa.out.size (.cells #[.string f.type] 9)).grown hg3 (Nat.le_trans HBa.out.size (by simp)) (fun g hg => (hown1.lt g hg).1)
          have HO4 := Lib.hid hown4
          have HB6 := Lib.hid hB6
          clear hown3 hg3 hown1 hown4 hB6 HBa
          go_roundw
          case rel => exact ⟨j + 1, by omega, HO4.out, HB6.out, by simp⟩
          case measure => simp [intOf]; omega
        · obtain rfl : j = d2.length := by omega
          rw [List.take_of_length_le (Nat.le_refl _)] at hown
          have HO4 := Lib.hid hown
          have HB6 := Lib.hid hB
          clear hown hB
          go_wp2_with (first | fail)
          go_ret
          exact ⟨⟨_, rfl, by rw [List.length_append, List.length_map]; exact ownsRow_base HO4.out HB5.out.size⟩, below_call HB5.out (Nat.le_refl _) HB6.out⟩
theorem refTypes_any (l : List Class) (lv : Value) (n : Str) (w : World) (hR : Right l) (hcf : ∀ c ∈ l, classFault c = 0) (hlv : ClassesAt w lv l) (hk : (findC (allC l) n).isSome = true) :
    Calls Tryz.prog 33 #[lv, .string n] w (RowPost w (typesOf (layC (allC l) n))) := refTypes_fuel l lv hR hcf _ n w hlv hk (Nat.le_refl _)
theorem fieldIdx_drop (n : Str) (l : List Field) (k : Nat) (f : Field) (h : l[k]? = some f) : fieldIdx n (l.drop k) = if f.name = n then some 0 else (fieldIdx n (l.drop (k + 1))).map (· + 1) := by
  obtain ⟨hk, rfl⟩ := List.getElem?_eq_some_iff.1 h
  rw [List.drop_eq_getElem_cons hk]; rfl
set_option maxHeartbeats 4000000 in
set_option maxRecDepth 100000 in
theorem refPlace_fuel (l : List Class) (lv : Value) (m : Str) (hR : Right l) (hcf : ∀ c ∈ l, classFault c = 0) : ∀ (k : Nat) (n : Str) (w : World), ClassesAt w lv l → (findC (allC l) n).isSome = true → (everyC (allC l) n).length ≤ k →
    Calls Tryz.prog 34 #[lv, .string n, .string m] w fun e w' => e = .returned (.int .i64 (idxV (placeC (allC l) n m))) ∧ Below w.heap.size w w' := by
  intro k
  induction k with
  | zero =>
    intro n w _ hk hf
    have := List.length_pos_of_mem (every_facts hR.closed hk).2.1
    omega
  | succ k ih =>
    intro n w hlv hk hf
    have HCO := Lib.hid (refClassOf_any l lv n w hlv)
    unfold ClassGives at HCO
    have HLV : Hid (∀ wx, Below w.heap.size w wx → ClassesAt wx lv l) := fun wx hb => hlv.mono hb
    have hct := (class_counts hcf n).1
    obtain ⟨pl, cap, rfl, _⟩ := hlv.open
    rw [show (findC (allC l) n).getD noClass = classC (allC l) n from rfl] at HCO
    have ze : (classC (allC l) n).super.toList.isEmpty = decide ((classC (allC l) n).super.size = 0) := empty_iff _
    obtain ⟨P, up, hP, hPs, hcase⟩ : ∃ (P : Nat) (up : Option Nat), placeC (allC l) n m = (match fieldIdx m (classC (allC l) n).fields with | some i => some (P + i) | none => up) ∧ P ≤ 4194304 ∧
        ((decide ((classC (allC l) n).super.size = 0) = true ∧ P = 0 ∧ up = none) ∨ (decide ((classC (allC l) n).super.size = 0) = false ∧ (∀ wx, Below w.heap.size w wx → Calls Tryz.prog 33 #[.slice pl l.length cap, .string (classC (allC l) n).super] wx (fun e w' => (∃ v, ∃ L : List Str, e = .returned v ∧ L.length = P ∧ w'.ownsRow wx.heap.size 9 1 v L.length (L.map Value.string)) ∧ Below wx.heap.size wx w')) ∧
          ∀ wx, Below w.heap.size w wx → Calls Tryz.prog 34 #[.slice pl l.length cap, .string (classC (allC l) n).super, .string m] wx (fun e w' => e = .returned (.int .i64 (idxV up)) ∧ Below wx.heap.size wx w'))) := by
      by_cases h0 : (classC (allC l) n).super.size = 0
      · refine ⟨0, none, ?_, Nat.zero_le _, Or.inl ⟨decide_eq_true h0, rfl, rfl⟩⟩
        rw [placeC_top h0]
        cases fieldIdx m (classC (allC l) n).fields with
        | none => rfl
        | some i => simp
      · obtain ⟨hks, hlt⟩ := hR.up hk h0
        refine ⟨(layC (allC l) (classC (allC l) n).super).length, _, placeC_up hR hk h0, lay_small hR hcf hks, Or.inr ⟨decide_eq_false h0, fun wx hb => (refTypes_any l _ _ wx hR hcf (HLV.out wx hb) hks).mono fun e w' ⟨⟨v, h1, h2⟩, h3⟩ => ⟨⟨v, _, h1, typesOf_length _, h2⟩, h3⟩, fun wx hb => ih _ wx (HLV.out wx hb) hks (by omega)⟩⟩
    generalize placeC (allC l) n m = res at *
    have HRES := Lib.hid hP
    clear ih hlv hk hf HLV hR hcf hP
    generalize classC (allC l) n = d at *
    generalize (findC (allC l) n).isSome = is at *
    obtain ⟨n2, s2, f2, b2, d2, m2⟩ := d
    dsimp only at *
    rcases hcase with ⟨hz, hPe, hUe⟩ | ⟨hz, hrec, hrec2⟩
    case' inl =>
      have HPe := Lib.hid hPe
      have HUe := Lib.hid hUe
      clear hPe hUe
      rw [hz] at ze
      clear hz
      go_enter Tryz.func34, Tryz.ntmps34
      go_upto_region 2 with (go_at_call 52; (with_reducible refine HCO.out.mono ?_); rintro e w4 ⟨pf2, kf2, pd2, kd2, pm2, km2, rfl, _, hfs, _, hB4, _⟩)
      have BX := boxed_new w4 #[.string n2, .string s2, .slice pf2 f2.length kf2, .bool b2, .slice pd2 d2.length kd2, .slice pm2 m2.length km2] 37
      have hB5 := below_call hB4 (Nat.le_refl _) BX.below
      have hfs5 := hfs.mono BX.below (by decide) (fun _ _ h => h)
      generalize w4.alloc (.cells #[.string n2, .string s2, .slice pf2 f2.length kf2, .bool b2, .slice pd2 d2.length kd2, .slice pm2 m2.length km2] 37) = w5 at *
      obtain ⟨q0, q1, q2, q3, q4, q5⟩ := boxed6 BX
      have HBX := Lib.hid BX
      have HB5 := Lib.hid hB5
      have HBs : Hid (Below w5.heap.size w5 w5) := Below.refl _ _
      clear BX hB5 hB4 hfs
      go_wp2_with (first | fail)
    case' inr =>
      rw [hz] at ze
      have HRec := Lib.hid hrec
      have HRec2 := Lib.hid hrec2
      clear hz hrec hrec2
      go_enter Tryz.func34, Tryz.ntmps34
      go_upto_region 2 with (go_at_call 52; (with_reducible refine HCO.out.mono ?_); rintro e w4 ⟨pf2, kf2, pd2, kd2, pm2, km2, rfl, _, hfs, _, hB4, _⟩)
      have BX := boxed_new w4 #[.string n2, .string s2, .slice pf2 f2.length kf2, .bool b2, .slice pd2 d2.length kd2, .slice pm2 m2.length km2] 37
      have hB5 := below_call hB4 (Nat.le_refl _) BX.below
      have hfs5 := hfs.mono BX.below (by decide) (fun _ _ h => h)
      generalize w4.alloc (.cells #[.string n2, .string s2, .slice pf2 f2.length kf2, .bool b2, .slice pd2 d2.length kd2, .slice pm2 m2.length km2] 37) = w5 at *
      obtain ⟨q0, q1, q2, q3, q4, q5⟩ := boxed6 BX
      have HBX := Lib.hid BX
      have HB5 := Lib.hid hB5
      clear BX hB5 hB4 hfs
      go_wp2_with (go_at_call 33; (with_reducible refine (HRec.out _ HB5.out).mono ?_); rintro e w6 ⟨⟨v6, L6, rfl, hL6, hp0⟩, hbs⟩; obtain ⟨p6, k6, rfl⟩ := ownsRow_shape hp0; (have HBs := Lib.hid hbs); rw [hL6]; clear hp0 hbs hL6)
    all_goals
      obtain ⟨pd', kd', he, g1, g2, hdd⟩ := hfs5.open
      injection he with he1 he2 he3
      subst he1 he3
      clear he2 hfs5
      have HD := Lib.hid hdd
      have hlen2 : d2.length ≤ 9223372036854775807 := Nat.le_trans g1 g2
      clear hdd q0 q1 q2 q3 q4 q5
      go_loopw [10] (fun x wr => ∃ j : Nat, j ≤ d2.length ∧ Hid ((fieldIdx m (d2.drop j)).map (j + ·) = fieldIdx m d2) ∧ Below w5.heap.size w5 wr ∧ x = .int .i64 j) (fun x _ => d2.length - (intOf x).toNat)
      case atStart => exact ⟨0, by omega, by unfold Hid; rw [List.drop_zero]; cases fieldIdx m d2 <;> simp, HBs.out, rfl⟩
      case round =>
        clear HBs
        obtain ⟨j, hj, hff, hB, rfl⟩ := hrel
        obtain ⟨y0, y1, y2, y3, y4, y5⟩ := boxed6 (HBX.out.step hB)
        clear y0 y2 y3 y5
        by_cases hjl : j < d2.length
        · obtain ⟨f, hf⟩ : ∃ a, d2[j]? = some a := ⟨d2[j], by simp [hjl]⟩
          obtain ⟨bb, oo, vs, rfl, hR, _, hcells⟩ := HD.out j f hf
          unfold FieldCells at hR; subst hR
          obtain ⟨u0, u1, _⟩ := hcells.mono hB hcells.lt
          have hstep := fieldIdx_drop m d2 j f hf
          have e1 := strEq f.name m
          have HX := Lib.hid hf
          have HBa := Lib.hid hB
          clear hf hcells hB u1
          by_cases hyes : f.name = m
          · rw [if_pos hyes] at hstep
            rw [decide_eq_true hyes] at e1
            have hfin : Hid (fieldIdx m d2 = some j) := by unfold Hid; rw [← hff.out, hstep]; simp
            clear hstep hyes hff
            go_wp2_with (first | fail)
            have hr : res = some (P + j) := by rw [HRES.out, hfin.out]
            subst hr
            go_ret
            exact ⟨by first | (simp [idxV]; done) | simp [idxV, HPe.out], below_call HB5.out (Nat.le_refl _) HBa.out⟩
          · rw [if_neg hyes] at hstep
            rw [decide_eq_false hyes] at e1
            have hst : Hid ((fieldIdx m (d2.drop (j + 1))).map (j + 1 + ·) = fieldIdx m d2) := by
              unfold Hid
              rw [← hff.out, hstep]
              cases fieldIdx m (d2.drop (j + 1)) with
              | none => rfl
              | some i => simp; omega
            clear hstep hyes hff
            go_wp2_with (first | fail)
            go_roundw
            case rel => exact ⟨j + 1, by omega, hst.out, HBa.out, by simp⟩
            case measure => simp [intOf]; omega
        · obtain rfl : j = d2.length := by omega
          have hno : Hid (fieldIdx m d2 = none) := by unfold Hid; rw [← hff.out, List.drop_eq_nil_of_le (Nat.le_refl _)]; rfl
          have HBa := Lib.hid (below_call HB5.out (Nat.le_refl _) hB)
          clear hff hB
          first
            | (have hr : res = none := by rw [HRES.out, hno.out]; exact HUe.out
               subst hr
               clear hno HRES
               go_wp2_with (first | fail)
               go_ret
               exact ⟨rfl, HBa.out⟩)
            | (have hr : res = up := by rw [HRES.out, hno.out]
               subst hr
               clear hno HRES
               go_wp2_with (go_at_call 34; (with_reducible refine (HRec2.out _ HBa.out).mono ?_); rintro e w7 ⟨rfl, hB7⟩)
               go_ret
               exact ⟨rfl, below_call HBa.out (Nat.le_refl _) hB7⟩)
theorem refPlace_any (l : List Class) (lv : Value) (n m : Str) (w : World) (hR : Right l) (hcf : ∀ c ∈ l, classFault c = 0) (hlv : ClassesAt w lv l) (hk : (findC (allC l) n).isSome = true) :
    Calls Tryz.prog 34 #[lv, .string n, .string m] w fun e w' => e = .returned (.int .i64 (idxV (placeC (allC l) n m))) ∧ Below w.heap.size w w' := refPlace_fuel l lv m hR hcf _ n w hlv hk (Nat.le_refl _)
end Go.Proofs.YtpjkpmmjehnahaaGreatDoor
