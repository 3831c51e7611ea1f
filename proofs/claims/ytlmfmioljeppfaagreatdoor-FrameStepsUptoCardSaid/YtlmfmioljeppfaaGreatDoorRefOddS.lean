/-
  WALK over the reference's oddStep at AStore. Conditions: as in XRead; a right frame and instruction.
-/
import Derived.Test.YtlmfmioljeppfaaGreatDoorRefOddB
namespace Go.Proofs.YtlmfmioljeppfaaGreatDoor
open Go.RowKit Go.Shelf Go.Lib
set_option maxHeartbeats 4000000 in
set_option maxRecDepth 100000 in
theorem oddStep_S (l : List Class) (lv : Value) (hR : Right l) (hcf : ∀ c ∈ l, classFault c = 0) (w : World) (hlv : ClassesAt w lv l) (from' gives : Str) (op a b : Int) (type cls name : Str) (L S : List Str) (f1 f2 : Value) (hf : FrameAt w f1 f2 ⟨L, S⟩) (hz : frameR (allC l) ⟨L, S⟩ = 0) (hty : type.size ≤ 1048576) (hx : insFault ⟨op, a, b, type, cls, name⟩ = 0) (hop : OddOp op) (hlo : op = 21 ∨ op = 29) :
    Calls Tryz.prog 47 #[lv, .agg #[.int .i64 op, .int .i64 a, .int .i64 b, .string type, .string cls, .string name], .agg #[f1, f2]] w (OddPost w (stepF (allC l) from' gives ⟨op, a, b, type, cls, name⟩ L S)) := by
  obtain ⟨hl8, hs8, hkl, hks⟩ := frame_zero hz
  dsimp only at hl8 hs8 hkl hks
  have hts : type.size ≤ maxLen := Nat.le_trans hty (by decide)
  have HKt : Hid (∀ wx, Below w.heap.size w wx → _) := fun wx hb => refKind_any l lv type wx (hlv.mono hb) hts
  have HIt : Hid (∀ wx, _) := fun wx => refIsType_any type wx hts
  obtain ⟨ty, hty'⟩ : ∃ b, typeB type.data.toList = b := ⟨_, rfl⟩
  obtain ⟨kt, hkt⟩ : ∃ n, kindR (allC l) type = n := ⟨_, rfl⟩
  rw [hty'] at HIt
  rw [hkt] at HKt
  have HTy := Lib.hid hty'
  have HKT := Lib.hid hkt
  obtain ⟨pl, cap, rfl, _⟩ := hlv.open
  obtain ⟨p1, c1, rfl, _⟩ := hf.1.open
  obtain ⟨p2, c2, rfl, _⟩ := hf.2.open
  have T0 := OX.new w op a b type cls name (.slice p1 L.length c1) (.slice p2 S.length c2)
  obtain ⟨w1, hw1⟩ : ∃ w1, w1 = ((w.alloc (.cells #[.int .i64 op, .int .i64 a, .int .i64 b, .string type, .string cls, .string name] 24)).alloc (.cells #[.slice p1 L.length c1, .slice p2 S.length c2] 27)).alloc (.cells #[.slice none 0 0, .slice none 0 0] 27) := ⟨_, rfl⟩
  rw [← hw1] at T0
  have HW := Lib.hid hw1.symm
  have HLv := Lib.hid hlv
  have HRi := Lib.hid hR
  have HCf := Lib.hid hcf
  have HF : Hid (∀ wx, Below w.heap.size w wx → FrameAt wx (.slice p1 L.length c1) (.slice p2 S.length c2) ⟨L, S⟩) := fun wx hb => hf.mono hb
  clear hlv hR hcf hty' hkt hts hw1 hf hz
  go_enter Tryz.func47, Tryz.ntmps47
  go_upto_region 1 with (first | fail)
  rw [HW.out]
  have hlow := T0.low
  have ho0 : (w1.alloc (.cells #[] 9)).ownsRow (w.heap.size + 3) 9 1 (.slice (some ⟨w1.heap.size, 0, none⟩) 0 0) 0 [] := ownsRow_none w1 (w.heap.size + 3) hlow
  have T1 := T0.alloc (.cells #[] 9)
  obtain ⟨⟨q0, q1, q2, q3, q4, q5⟩, g0, g1, _, _⟩ := T1.cells
  have hF1 := HF.out _ T1.below
  have n63 : 0 + L.length ≤ maxLen := by unfold maxLen; omega
  have n16 : (0 + L.length) * 16 ≤ 140737488355328 := by omega
  have m63 : 0 + S.length ≤ maxLen := by unfold maxLen; omega
  have m16 : (0 + S.length) * 16 ≤ 140737488355328 := by omega
  go_upto_region 2 with (first
    | (at_builtin; go_must (refine wpList_append_strs rfl _ _ rfl (w.heap.size + 3) _ 0 [] rfl ho0 _ L rfl hF1.1 n63 n16 T1.low ?_); intro v1 w2 ho1 hg1 _))
  have ho1' : w2.ownsRow (w.heap.size + 3) 9 1 v1 L.length (L.map Value.string) := by simpa using ho1
  obtain ⟨a1, k1, rfl⟩ := ownsRow_shape ho1'
  have T2 := T1.grown hg1 (fun g e => (ho0.lt g e).1)
  have T3 := T2.alloc (.cells #[] 9)
  have ho2 := ownsRow_none w2 w2.heap.size (Nat.le_refl _)
  have ho3 := ownsRow_below ho1' ((Below.refl _ _).alloc (Nat.le_refl _) (.cells #[] 9))
  have hF3 := HF.out _ T3.below
  have hL3 : w2.heap.size ≤ (w2.alloc (.cells #[] 9)).heap.size := by simp
  have hlow2 := T2.low
  have hlt1 : ∀ g, (Value.slice a1 L.length k1).ownBlock = some g → g < w2.heap.size := fun g e => (ho1'.lt g e).2
  clear q0 q1 q2 q3 q4 q5 g0 g1 ho0 ho1 hg1 hF1 ho1' n63 n16
  obtain ⟨⟨q0, q1, q2, q3, q4, q5⟩, g0, g1, _, _⟩ := T3.cells
  go_upto_region 3 with (first
    | (at_builtin; go_must (refine wpList_append_strs rfl _ _ rfl w2.heap.size _ 0 [] rfl ho2 _ S rfl hF3.2 m63 m16 hL3 ?_); intro v2 w4 ho4 hg4 _))
  have ho5 : w4.ownsRow w2.heap.size 9 1 v2 S.length (S.map Value.string) := by simpa using ho4
  obtain ⟨a2, k2, rfl⟩ := ownsRow_shape ho5
  have T4 := T3.grown hg4 (fun g e => Nat.le_trans hlow2 (ho2.lt g e).1)
  have R4 : Rows2 w w4 (.slice a1 L.length k1) (.slice a2 S.length k2) L S w2.heap.size := ⟨hlow2, ho3.kept hg4 (Or.inr (fun e => by
    cases hq : (Value.slice a1 L.length k1).ownBlock with
    | none => rw [hq] at e; cases e
    | some g => rw [hq] at e; have h1 := hlt1 g hq; have := (ho2.lt g e.symm).1; omega)), hlt1, ho5⟩
  have hw4 : w2.heap.size ≤ w4.heap.size := Nat.le_trans hL3 hg4.size
  clear q0 q1 q2 q3 q4 q5 g0 g1 T0 T1 T2 T3 ho2 ho3 ho4 hg4 ho5 hF3 hL3 hlt1 m63 m16
  obtain ⟨⟨q0, q1, q2, q3, q4, q5⟩, _, _, _, _⟩ := T4.cells
  go_upto_region 4 with (first | fail)
  have hw24 := hw4
  unfold OddOp at hop
  · have hty1 : ty = true := by rw [← HTy.out]; exact type_some hx hop (by omega)
    subst hty1
    obtain ⟨tk, htk⟩ : ∃ t : Bool, decide (kt = 0) = t := ⟨_, rfl⟩
    have hktB : ((kt : Int) == 0) = tk := by rw [← htk, Bool.eq_iff_iff, beq_iff_eq, decide_eq_true_iff]; omega
    have HTB : Hid (Below w.heap.size w w4) := T4.below
    go_upto_region 5 with (first
      | (go_at_call 15; (with_reducible refine (HIt.out _).mono ?_); rintro e w6 ⟨rfl, rfl⟩)
      | (go_at_call 40; (with_reducible refine (HKt.out _ HTB.out).mono ?_); rintro e w7 ⟨rfl, hB7⟩; (have T := T4.step hB7); (have R := R4.step hB7); (have hw47 := Nat.le_trans hw4 hB7.size); obtain ⟨⟨q0, q1, q2, q3, q4, q5⟩, _, _, _, _⟩ := T.cells))
    clear T4 R4 q0 q1 q2 q3 q4 q5 HIt HKt hw4 hw24
    have hw24 := hw47
    clear hktB
    have HKY : Hid (tk = true → ¬ ¬ kindR (allC l) type = 0) := fun e => not_not_intro (HKT.out.trans (of_decide_eq_true (htk.trans e)))
    have HKN : Hid (tk = false → ¬ kindR (allC l) type = 0) := fun e h0 => by have := of_decide_eq_false (htk.trans e); exact this (HKT.out.symm.trans h0)
    clear htk
    have HFit : Hid (∀ wx, Below w.heap.size w wx → ∀ k t, kindR (allC l) k = 0 → kindR (allC l) t = 0 → Calls Tryz.prog 49 #[.slice pl l.length cap, .string k, .string t] wx fun e w' => e = .returned (.bool (fitsKd (allC l) (kdOf k) (kdOf t))) ∧ Below wx.heap.size wx w') := fun wx hb k t h1 h2 => refFits_any l _ HRi.out HCf.out wx (HLv.out.mono hb) k t _ _ (known_kd h1) (known_kd h2) (known_deep h1) (known_deep h2) (Nat.le_trans (kind_small h1) (by decide)) (Nat.le_trans (kind_small h2) (by decide))
    rcases hop with rfl | rfl | rfl | rfl | rfl | rfl | rfl | rfl | rfl | rfl | rfl
    · omega
    · omega
    · omega
    · omega
    · omega
    · omega
    · omega
    · omega
    · have E := (stepF_at (allC l) from' gives a b type cls name L S).2.2.2.2.2.2.2.2.1
      by_cases hS2 : S.length < 3
      · have hS3 : (S.length : Int) < 3 := by omega
        have HR : Hid (stepF (allC l) from' gives _ L _ = none) := E.trans (knK_none (astore_short hS2))
        have Td := T.step (Below.refl _ _).drew
        have HTd := Lib.hid Td
        obtain ⟨⟨q0, q1, q2, q3, q4, q5⟩, g0, g1, r0, r1⟩ := T.cells
        obtain ⟨_, _, _, r0', r1'⟩ := Td.cells
        have z0 := Td.res.frozen 0
        have z1 := Td.res.frozen 1
        have hlow := T.low
        clear T Td R hx E
        go_upto_region 47 with (first | fail)
        refine wp_region_held_drew (S := fun w' => w'.cell? ⟨w.heap.size, 3, none⟩ = some (.string type)) (by kernel_rfl) q3 (fun hHeld => ?_)
        change wpAnyH _ _ _ _ _ 39 _ _ _
        iterate 39 ((first | (refine tkN rfl rfl (by kernel_rfl) (by kernel_rfl) (by kernel_rfl) (fun _ _ _ h => h) (by rfl) hHeld ?_) | (refine tkY (v := ?_) rfl rfl (by kernel_rfl) (by kernel_rfl) (by kernel_rfl) (fun _ _ _ h => h) (by rfl) hHeld ?_ ?_; rotate_left; focus (intro w hSw; (skip); go_simp; (try go_bits); (try go_simp); all_goals with_reducible rfl))); try simp only [Act.put, List.setIfInBounds_toArray, List.set_cons_zero, List.set_cons_succ])
        refine wpAnyH_done (by kernel_rfl) ?_ _
        clear q0 q1 q2 q3 q4 q5 g0 g1 r0 r1 hHeld
        generalize w7.drew = wD at *
        go_wp2_with (first | fail)
        exact bodyPost_ret (v := .tuple #[.agg #[.slice none 0 0, .slice none 0 0], .bool false]) (by simp [results, Tryz.results47, go_sem, *]) rfl (OddPost.no HR.out (HTd.out.put _ _))
      · obtain ⟨r, k, u, v, rfl⟩ := snoc_three hS2
        have hk : kindR (allC l) k = 0 := hks k (by simp)
        have hu : kindR (allC l) u = 0 := hks u (by simp)
        have hv : kindR (allC l) v = 0 := hks v (by simp)
        have hl2 : (r ++ [k] ++ [u] ++ [v]).length = r.length + 3 := by simp
        rw [show (((r ++ [k] ++ [u] ++ [v]).length : Nat) : Int) = (r.length : Int) + 3 by rw [hl2]; rfl]; rw [show (r ++ [k] ++ [u] ++ [v]).length = r.length + 3 by simp] at *
        clear hl2
        obtain ⟨g, cap2, hv', n1, n2, n3, n4, n6, R1⟩ := R.split3
        injection hv' with hv1 hv2 hv3; subst hv1 hv3; clear hv2 hS2
        have y1 : decide ((0 : Int) ≤ (r.length : Int)) = true := by simp
        have y3 : (r.length : Int) ≤ 8 := by omega
        have n5 : r.length ≤ k2 := by omega
        have ya0 : (0 : Int) ≤ (r.length : Int) ∧ (r.length : Int) < (r.length : Int) + 3 := by omega
        have yb0 : (r.length : Int) < (r.length : Int) + 3 := by omega
        have yd0 : (1 : Int) ≤ (r.length : Int) + 3 := by omega
        have ye0 : (r.length : Int) + 3 - 1 < (r.length : Int) + 3 := by omega
        have yf0 : (0 : Int) ≤ (r.length : Int) + 3 - 1 := by omega
        have ya1 : (0 : Int) ≤ (r.length : Int) + 1 ∧ (r.length : Int) + 1 < (r.length : Int) + 3 := by omega
        have yb1 : (r.length : Int) + 1 < (r.length : Int) + 3 := by omega
        have yc1 : (0 : Int) ≤ (r.length : Int) + 1 := by omega
        have yd1 : (2 : Int) ≤ (r.length : Int) + 3 := by omega
        have ye1 : (r.length : Int) + 3 - 2 < (r.length : Int) + 3 := by omega
        have yf1 : (0 : Int) ≤ (r.length : Int) + 3 - 2 := by omega
        have ya2 : (0 : Int) ≤ (r.length : Int) + 2 ∧ (r.length : Int) + 2 < (r.length : Int) + 3 := by omega
        have yb2 : (r.length : Int) + 2 < (r.length : Int) + 3 := by omega
        have yc2 : (0 : Int) ≤ (r.length : Int) + 2 := by omega
        have yd2 : (3 : Int) ≤ (r.length : Int) + 3 := by omega
        have ye2 : (r.length : Int) + 3 - 3 < (r.length : Int) + 3 := by omega
        have yf2 : (0 : Int) ≤ (r.length : Int) + 3 - 3 := by omega
        have hS3 : ¬ ((r.length : Int) + 3 < 3) := by omega
        have hT := type_typed hx (Or.inr (Or.inr rfl))
        have hTa := arr_typed hx (Or.inr rfl)
        have Td := T.step (Below.refl _ _).drew
        have HTd := Lib.hid Td
        have HRd := Lib.hid (R1.step (Below.refl _ _).drew)
        obtain ⟨⟨q0, q1, q2, q3, q4, q5⟩, g0, g1, r0, r1⟩ := T.cells
        obtain ⟨_, _, _, r0', r1'⟩ := Td.cells
        have z0 := Td.res.frozen 0
        have z1 := Td.res.frozen 1
        have hlow := T.low
        clear T Td R hx R1
        cases tk with
        | false =>
          have HR : Hid (stepF (allC l) from' gives _ L _ = none) := E.trans (knK_no (HKN.out rfl))
          clear E
          go_upto_region 47 with (first | fail)
          refine wp_region_held_drew (S := fun w' => w'.cell? ⟨w.heap.size, 3, none⟩ = some (.string type) ∧ w'.cell? ⟨g, r.length + 2, none⟩ = some (.string v) ∧ w'.cell? ⟨g, r.length + 1, none⟩ = some (.string u) ∧ w'.cell? ⟨g, r.length, none⟩ = some (.string k)) (by kernel_rfl) ⟨q3, n3, n4, n6⟩ (fun hHeld => ?_)
          change wpAnyH _ _ _ _ _ 39 _ _ _
          iterate 39 ((first | (refine tkN rfl rfl (by kernel_rfl) (by kernel_rfl) (by kernel_rfl) (fun _ _ _ h => h) (by rfl) hHeld ?_) | (refine tkY (v := ?_) rfl rfl (by kernel_rfl) (by kernel_rfl) (by kernel_rfl) (fun _ _ _ h => h) (by rfl) hHeld ?_ ?_; rotate_left; focus (intro w hSw; (obtain ⟨s0, s1, s2, s3⟩ := hSw); go_simp; (try go_bits); (try go_simp); all_goals with_reducible rfl))); try simp only [Act.put, List.setIfInBounds_toArray, List.set_cons_zero, List.set_cons_succ])
          refine wpAnyH_done (by kernel_rfl) ?_ _
          clear q0 q1 q2 q3 q4 q5 g0 g1 r0 r1 n3 n4 n6 hHeld
          generalize w7.drew = wD at *
          go_wp2_with (first | fail)
          exact bodyPost_ret (v := .tuple #[.agg #[.slice none 0 0, .slice none 0 0], .bool false]) (by simp [results, Tryz.results47, go_sem, *]) rfl (OddPost.no (by simpa using HR.out) (HTd.out.put _ _))
        | true =>
          have hkt := Decidable.not_not.1 (HKY.out rfl)
          have hka := ar_known HCf.out hkt hTa
          have hcat : ∀ wx, (Op.stringOp .add ⟨#[91]⟩ type).run Tryz.prog wx = .ok (.string (arText type)) wx := fun wx => run_string_add_sum wx ⟨#[91]⟩ type (by show 1 + type.size ≤ _; omega)
          have EE := (E.trans (knK_yes (HKY.out rfl))).trans (astore_eq (L := L) (r := r) (v := v) hkt hT hk hu)
          clear E
          generalize hta : arText type = ta at *
          have HF0 : Hid (∀ wx, Below w.heap.size w wx → _) := fun wx hb => HFit.out wx hb v type hv hkt
          have HF1 : Hid (∀ wx, Below w.heap.size w wx → _) := fun wx hb => HFit.out wx hb k ta hk hka
          generalize fitsKd (allC l) (kdOf v) (kdOf type) = fv at *
          generalize fitsKd (allC l) (kdOf k) (kdOf ta) = fk at *
          generalize hI : (u.toList == [73]) = iu at *
          cases fv with
          | false =>
            have HR : Hid (stepF (allC l) from' gives _ L _ = none) := EE.trans rfl
            clear EE hta hI
            go_upto_region 47 with (first | fail)
            refine wp_region_held_drew (S := fun w' => w'.cell? ⟨w.heap.size, 3, none⟩ = some (.string type) ∧ w'.cell? ⟨g, r.length + 2, none⟩ = some (.string v) ∧ w'.cell? ⟨g, r.length + 1, none⟩ = some (.string u) ∧ w'.cell? ⟨g, r.length, none⟩ = some (.string k)) (by kernel_rfl) ⟨q3, n3, n4, n6⟩ (fun hHeld => ?_)
            change wpAnyH _ _ _ _ _ 39 _ _ _
            iterate 15 ((first | (refine tkN rfl rfl (by kernel_rfl) (by kernel_rfl) (by kernel_rfl) (fun _ _ _ h => h) (by rfl) hHeld ?_) | (refine tkY (v := ?_) rfl rfl (by kernel_rfl) (by kernel_rfl) (by kernel_rfl) (fun _ _ _ h => h) (by rfl) hHeld ?_ ?_; rotate_left; focus (intro w hSw; (obtain ⟨s0, s1, s2, s3⟩ := hSw); go_simp; (try go_bits); (try go_simp); all_goals with_reducible rfl))); try simp only [Act.put, List.setIfInBounds_toArray, List.set_cons_zero, List.set_cons_succ])
            refine wpAnyH_ready (rs := [15]) (fuel := 23) (by kernel_rfl) (by simp) ?_
            refine AllReadyH.cons (i := 15) rfl (fun K hK => ?_) AllReadyH.nil
            go_simp
            refine (HF0.out _ HTd.out.below).mono ?_
            rintro e w8 ⟨rfl, hB8⟩
            have T8 := HTd.out.step hB8
            have R8 := HRd.out.step hB8
            have n3' := cell_keep hB8 hHeld.2.1
            have n4' := cell_keep hB8 hHeld.2.2.1
            have n6' := cell_keep hB8 hHeld.2.2.2
            clear hHeld
            refine hK.out _ _ ⟨T8.box.cell 3, n3', n4', n6'⟩ (fun hHeld => ?_)
            clear hK K
            (try simp only [Act.put]); (try simp only [List.setIfInBounds_toArray]); (try simp only [List.set_cons_succ]); (try simp only [List.set_cons_zero])
            have HT8 := Lib.hid T8; have HR8 := Lib.hid R8
            change wpAnyH _ _ _ _ _ 23 _ _ _
            iterate 23 ((first | (refine tkN rfl rfl (by kernel_rfl) (by kernel_rfl) (by kernel_rfl) (fun _ _ _ h => h) (by rfl) hHeld ?_) | (refine tkY (v := ?_) rfl rfl (by kernel_rfl) (by kernel_rfl) (by kernel_rfl) (fun _ _ _ h => h) (by rfl) hHeld ?_ ?_; rotate_left; focus (intro w hSw; (obtain ⟨s0, s1, s2, s3⟩ := hSw); go_simp; (try go_bits); (try go_simp); all_goals with_reducible rfl))); try simp only [Act.put, List.setIfInBounds_toArray, List.set_cons_zero, List.set_cons_succ])
            clear z0 z1 r0' r1'
            obtain ⟨⟨_, _, _, q3x, _, _⟩, _, _, r0', r1'⟩ := HT8.out.cells
            have z0 := HT8.out.res.frozen 0
            have z1 := HT8.out.res.frozen 1
            clear T8 R8 n3' n4' n6' hB8
            refine wpAnyH_done (by kernel_rfl) ?_ _
            clear q0 q1 q2 q3 q4 q5 g0 g1 r0 r1 n3 n4 n6 hHeld
            go_wp2_with (first | fail)
            exact bodyPost_ret (v := .tuple #[.agg #[.slice none 0 0, .slice none 0 0], .bool false]) (by simp [results, Tryz.results47, go_sem, *]) rfl (OddPost.no (by simpa using HR.out) (HT8.out.put _ _))
          | true =>
            cases iu with
            | false =>
              have HR : Hid (stepF (allC l) from' gives _ L _ = none) := EE.trans rfl
              clear EE hta
              go_upto_region 47 with (first | fail)
              refine wp_region_held_drew (S := fun w' => w'.cell? ⟨w.heap.size, 3, none⟩ = some (.string type) ∧ w'.cell? ⟨g, r.length + 2, none⟩ = some (.string v) ∧ w'.cell? ⟨g, r.length + 1, none⟩ = some (.string u) ∧ w'.cell? ⟨g, r.length, none⟩ = some (.string k)) (by kernel_rfl) ⟨q3, n3, n4, n6⟩ (fun hHeld => ?_)
              change wpAnyH _ _ _ _ _ 39 _ _ _
              iterate 15 ((first | (refine tkN rfl rfl (by kernel_rfl) (by kernel_rfl) (by kernel_rfl) (fun _ _ _ h => h) (by rfl) hHeld ?_) | (refine tkY (v := ?_) rfl rfl (by kernel_rfl) (by kernel_rfl) (by kernel_rfl) (fun _ _ _ h => h) (by rfl) hHeld ?_ ?_; rotate_left; focus (intro w hSw; (obtain ⟨s0, s1, s2, s3⟩ := hSw); go_simp; (try go_bits); (try go_simp); all_goals with_reducible rfl))); try simp only [Act.put, List.setIfInBounds_toArray, List.set_cons_zero, List.set_cons_succ])
              refine wpAnyH_ready (rs := [15]) (fuel := 23) (by kernel_rfl) (by simp) ?_
              refine AllReadyH.cons (i := 15) rfl (fun K hK => ?_) AllReadyH.nil
              go_simp
              refine (HF0.out _ HTd.out.below).mono ?_
              rintro e w8 ⟨rfl, hB8⟩
              have T8 := HTd.out.step hB8
              have R8 := HRd.out.step hB8
              have n3' := cell_keep hB8 hHeld.2.1
              have n4' := cell_keep hB8 hHeld.2.2.1
              have n6' := cell_keep hB8 hHeld.2.2.2
              clear hHeld
              refine hK.out _ _ ⟨T8.box.cell 3, n3', n4', n6'⟩ (fun hHeld => ?_)
              clear hK K
              (try simp only [Act.put]); (try simp only [List.setIfInBounds_toArray]); (try simp only [List.set_cons_succ]); (try simp only [List.set_cons_zero])
              have HT8 := Lib.hid T8; have HR8 := Lib.hid R8
              change wpAnyH _ _ _ _ _ 23 _ _ _
              iterate 23 ((first | (refine tkN rfl rfl (by kernel_rfl) (by kernel_rfl) (by kernel_rfl) (fun _ _ _ h => h) (by rfl) hHeld ?_) | (refine tkY (v := ?_) rfl rfl (by kernel_rfl) (by kernel_rfl) (by kernel_rfl) (fun _ _ _ h => h) (by rfl) hHeld ?_ ?_; rotate_left; focus (intro w hSw; (obtain ⟨s0, s1, s2, s3⟩ := hSw); go_simp; (try go_bits); (try go_simp); all_goals with_reducible rfl))); try simp only [Act.put, List.setIfInBounds_toArray, List.set_cons_zero, List.set_cons_succ])
              clear z0 z1 r0' r1'
              obtain ⟨⟨_, _, _, q3x, _, _⟩, _, _, r0', r1'⟩ := HT8.out.cells
              have z0 := HT8.out.res.frozen 0
              have z1 := HT8.out.res.frozen 1
              clear T8 R8 n3' n4' n6' hB8
              refine wpAnyH_done (by kernel_rfl) ?_ _
              clear q0 q1 q2 q3 q4 q5 g0 g1 r0 r1 n3 n4 n6 hHeld
              go_wp2_with (first | fail)
              exact bodyPost_ret (v := .tuple #[.agg #[.slice none 0 0, .slice none 0 0], .bool false]) (by simp [results, Tryz.results47, go_sem, *]) rfl (OddPost.no (by simpa using HR.out) (HT8.out.put _ _))
            | true =>
              cases fk with
              | false =>
                have HR : Hid (stepF (allC l) from' gives _ L _ = none) := EE.trans rfl
                clear EE hta
                go_upto_region 47 with (first | fail)
                refine wp_region_held_drew (S := fun w' => w'.cell? ⟨w.heap.size, 3, none⟩ = some (.string type) ∧ w'.cell? ⟨g, r.length + 2, none⟩ = some (.string v) ∧ w'.cell? ⟨g, r.length + 1, none⟩ = some (.string u) ∧ w'.cell? ⟨g, r.length, none⟩ = some (.string k)) (by kernel_rfl) ⟨q3, n3, n4, n6⟩ (fun hHeld => ?_)
                change wpAnyH _ _ _ _ _ 39 _ _ _
                iterate 15 ((first | (refine tkN rfl rfl (by kernel_rfl) (by kernel_rfl) (by kernel_rfl) (fun _ _ _ h => h) (by rfl) hHeld ?_) | (refine tkY (v := ?_) rfl rfl (by kernel_rfl) (by kernel_rfl) (by kernel_rfl) (fun _ _ _ h => h) (by rfl) hHeld ?_ ?_; rotate_left; focus (intro w hSw; (obtain ⟨s0, s1, s2, s3⟩ := hSw); go_simp; (try go_bits); (try go_simp); all_goals with_reducible rfl))); try simp only [Act.put, List.setIfInBounds_toArray, List.set_cons_zero, List.set_cons_succ])
                refine wpAnyH_ready (rs := [15]) (fuel := 23) (by kernel_rfl) (by simp) ?_
                refine AllReadyH.cons (i := 15) rfl (fun K hK => ?_) AllReadyH.nil
                go_simp
                refine (HF0.out _ HTd.out.below).mono ?_
                rintro e w8 ⟨rfl, hB8⟩
                have T8 := HTd.out.step hB8
                have R8 := HRd.out.step hB8
                have n3' := cell_keep hB8 hHeld.2.1
                have n4' := cell_keep hB8 hHeld.2.2.1
                have n6' := cell_keep hB8 hHeld.2.2.2
                clear hHeld
                refine hK.out _ _ ⟨T8.box.cell 3, n3', n4', n6'⟩ (fun hHeld => ?_)
                clear hK K
                (try simp only [Act.put]); (try simp only [List.setIfInBounds_toArray]); (try simp only [List.set_cons_succ]); (try simp only [List.set_cons_zero])
                have HT8 := Lib.hid T8; have HR8 := Lib.hid R8
                change wpAnyH _ _ _ _ _ 23 _ _ _
                iterate 20 ((first | (refine tkN rfl rfl (by kernel_rfl) (by kernel_rfl) (by kernel_rfl) (fun _ _ _ h => h) (by rfl) hHeld ?_) | (refine tkY (v := ?_) rfl rfl (by kernel_rfl) (by kernel_rfl) (by kernel_rfl) (fun _ _ _ h => h) (by rfl) hHeld ?_ ?_; rotate_left; focus (intro w hSw; (obtain ⟨s0, s1, s2, s3⟩ := hSw); go_simp; (try go_bits); (try go_simp); all_goals with_reducible rfl))); try simp only [Act.put, List.setIfInBounds_toArray, List.set_cons_zero, List.set_cons_succ])
                refine wpAnyH_ready (rs := [36]) (fuel := 2) (by kernel_rfl) (by simp) ?_
                refine AllReadyH.cons (i := 36) rfl (fun K hK => ?_) AllReadyH.nil
                go_simp
                refine (HF1.out _ HT8.out.below).mono ?_
                rintro e w9 ⟨rfl, hB9⟩
                have T9 := HT8.out.step hB9
                have R9 := HR8.out.step hB9
                refine hK.out _ _ ⟨T9.box.cell 3, cell_keep hB9 n3', cell_keep hB9 n4', cell_keep hB9 n6'⟩ (fun hHeld => ?_)
                clear hK K
                (try simp only [Act.put]); (try simp only [List.setIfInBounds_toArray]); (try simp only [List.set_cons_succ]); (try simp only [List.set_cons_zero])
                have HT9 := Lib.hid T9; have HR9 := Lib.hid R9
                change wpAnyH _ _ _ _ _ 2 _ _ _
                iterate 2 ((first | (refine tkN rfl rfl (by kernel_rfl) (by kernel_rfl) (by kernel_rfl) (fun _ _ _ h => h) (by rfl) hHeld ?_) | (refine tkY (v := ?_) rfl rfl (by kernel_rfl) (by kernel_rfl) (by kernel_rfl) (fun _ _ _ h => h) (by rfl) hHeld ?_ ?_; rotate_left; focus (intro w hSw; (obtain ⟨s0, s1, s2, s3⟩ := hSw); go_simp; (try go_bits); (try go_simp); all_goals with_reducible rfl))); (try simp only [Act.put]); (try simp only [List.setIfInBounds_toArray]); (try simp only [List.set_cons_succ]); (try simp only [List.set_cons_zero]))
                clear z0 z1 r0' r1'
                obtain ⟨⟨_, _, _, q3x, _, _⟩, _, _, r0', r1'⟩ := HT9.out.cells
                have z0 := HT9.out.res.frozen 0
                have z1 := HT9.out.res.frozen 1
                clear T8 R8 T9 R9 n3' n4' n6' hB8 hB9
                refine wpAnyH_done (by kernel_rfl) ?_ _
                clear q0 q1 q2 q3 q4 q5 g0 g1 r0 r1 n3 n4 n6 hHeld
                go_wp2_with (first | fail)
                exact bodyPost_ret (v := .tuple #[.agg #[.slice none 0 0, .slice none 0 0], .bool false]) (by simp [results, Tryz.results47, go_sem, *]) rfl (OddPost.no (by simpa using HR.out) (HT9.out.put _ _))
              | true =>
                have HR : Hid (stepF (allC l) from' gives _ L _ = some (L, r)) := EE.trans rfl
                clear EE hta
                go_upto_region 47 with (first | fail)
                refine wp_region_held_drew (S := fun w' => w'.cell? ⟨w.heap.size, 3, none⟩ = some (.string type) ∧ w'.cell? ⟨g, r.length + 2, none⟩ = some (.string v) ∧ w'.cell? ⟨g, r.length + 1, none⟩ = some (.string u) ∧ w'.cell? ⟨g, r.length, none⟩ = some (.string k)) (by kernel_rfl) ⟨q3, n3, n4, n6⟩ (fun hHeld => ?_)
                change wpAnyH _ _ _ _ _ 39 _ _ _
                iterate 15 ((first | (refine tkN rfl rfl (by kernel_rfl) (by kernel_rfl) (by kernel_rfl) (fun _ _ _ h => h) (by rfl) hHeld ?_) | (refine tkY (v := ?_) rfl rfl (by kernel_rfl) (by kernel_rfl) (by kernel_rfl) (fun _ _ _ h => h) (by rfl) hHeld ?_ ?_; rotate_left; focus (intro w hSw; (obtain ⟨s0, s1, s2, s3⟩ := hSw); go_simp; (try go_bits); (try go_simp); all_goals with_reducible rfl))); try simp only [Act.put, List.setIfInBounds_toArray, List.set_cons_zero, List.set_cons_succ])
                refine wpAnyH_ready (rs := [15]) (fuel := 23) (by kernel_rfl) (by simp) ?_
                refine AllReadyH.cons (i := 15) rfl (fun K hK => ?_) AllReadyH.nil
                go_simp
                refine (HF0.out _ HTd.out.below).mono ?_
                rintro e w8 ⟨rfl, hB8⟩
                have T8 := HTd.out.step hB8
                have R8 := HRd.out.step hB8
                have n3' := cell_keep hB8 hHeld.2.1
                have n4' := cell_keep hB8 hHeld.2.2.1
                have n6' := cell_keep hB8 hHeld.2.2.2
                clear hHeld
                refine hK.out _ _ ⟨T8.box.cell 3, n3', n4', n6'⟩ (fun hHeld => ?_)
                clear hK K
                (try simp only [Act.put]); (try simp only [List.setIfInBounds_toArray]); (try simp only [List.set_cons_succ]); (try simp only [List.set_cons_zero])
                have HT8 := Lib.hid T8; have HR8 := Lib.hid R8
                change wpAnyH _ _ _ _ _ 23 _ _ _
                iterate 20 ((first | (refine tkN rfl rfl (by kernel_rfl) (by kernel_rfl) (by kernel_rfl) (fun _ _ _ h => h) (by rfl) hHeld ?_) | (refine tkY (v := ?_) rfl rfl (by kernel_rfl) (by kernel_rfl) (by kernel_rfl) (fun _ _ _ h => h) (by rfl) hHeld ?_ ?_; rotate_left; focus (intro w hSw; (obtain ⟨s0, s1, s2, s3⟩ := hSw); go_simp; (try go_bits); (try go_simp); all_goals with_reducible rfl))); try simp only [Act.put, List.setIfInBounds_toArray, List.set_cons_zero, List.set_cons_succ])
                refine wpAnyH_ready (rs := [36]) (fuel := 2) (by kernel_rfl) (by simp) ?_
                refine AllReadyH.cons (i := 36) rfl (fun K hK => ?_) AllReadyH.nil
                go_simp
                refine (HF1.out _ HT8.out.below).mono ?_
                rintro e w9 ⟨rfl, hB9⟩
                have T9 := HT8.out.step hB9
                have R9 := HR8.out.step hB9
                refine hK.out _ _ ⟨T9.box.cell 3, cell_keep hB9 n3', cell_keep hB9 n4', cell_keep hB9 n6'⟩ (fun hHeld => ?_)
                clear hK K
                (try simp only [Act.put]); (try simp only [List.setIfInBounds_toArray]); (try simp only [List.set_cons_succ]); (try simp only [List.set_cons_zero])
                have HT9 := Lib.hid T9; have HR9 := Lib.hid R9
                change wpAnyH _ _ _ _ _ 2 _ _ _
                iterate 2 ((first | (refine tkN rfl rfl (by kernel_rfl) (by kernel_rfl) (by kernel_rfl) (fun _ _ _ h => h) (by rfl) hHeld ?_) | (refine tkY (v := ?_) rfl rfl (by kernel_rfl) (by kernel_rfl) (by kernel_rfl) (fun _ _ _ h => h) (by rfl) hHeld ?_ ?_; rotate_left; focus (intro w hSw; (obtain ⟨s0, s1, s2, s3⟩ := hSw); go_simp; (try go_bits); (try go_simp); all_goals with_reducible rfl))); (try simp only [Act.put]); (try simp only [List.setIfInBounds_toArray]); (try simp only [List.set_cons_succ]); (try simp only [List.set_cons_zero]))
                clear z0 z1 r0' r1'
                obtain ⟨⟨_, _, _, q3x, _, _⟩, _, _, r0', r1'⟩ := HT9.out.cells
                have z0 := HT9.out.res.frozen 0
                have z1 := HT9.out.res.frozen 1
                clear T8 R8 T9 R9 n3' n4' n6' hB8 hB9
                refine wpAnyH_done (by kernel_rfl) ?_ _
                clear q0 q1 q2 q3 q4 q5 g0 g1 r0 r1 n3 n4 n6 hHeld
                go_wp2_with (first | fail)
                exact bodyPost_ret (v := .tuple #[.agg #[.slice a1 L.length k1, .slice (some ⟨g, 0, none⟩) r.length k2], .bool true]) (by simp [results, Tryz.results47, go_sem, *]) rfl (OddPost.yes (by simpa using HR.out) (HT9.out.put _ _) (HR9.out.frame _ _))
    · omega
    · omega
end Go.Proofs.YtlmfmioljeppfaaGreatDoor
