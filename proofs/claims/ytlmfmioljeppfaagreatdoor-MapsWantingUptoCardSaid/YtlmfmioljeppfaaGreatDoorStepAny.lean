/-
  WALK over the stepper's array (printed by wip/tools/gen_array.py). Conditions: as in PlainOps.
  WALK over the stepper's array, whatever is there. Conditions: as in PlainOps.
  PLAIN LAW: what an instruction of things does to locals and a stack.
  WALKS: the stepper's field, array in the middle of a method.
  WALKS over the stepper's heaped, an operation each (printed by wip/tools/gen_heaped.py). Conditions: the stack's kinds are kinds; the instruction's texts are of at most 1048576 signs.
  WALKS over the stepper's heaped at New, Put, Length, Is, Call, CallS; heaped, whatever the instruction (printed by wip/tools/gen_heaped2.py). Conditions: as in HeapedOps.
  WALKS over heaped, frame.After, frame.Step, whatever the instruction. Conditions: as in XRead; texts of at most 1048576 signs.
-/
import Derived.Test.YtlmfmioljeppfaaGreatDoorCall
namespace Go.Proofs.YtlmfmioljeppfaaGreatDoor
open Go.RowKit Go.Shelf Go.Lib
def arrOk (cs : List Class) (k t : Str) : Bool := match kdOf k with
  | .n => true
  | .ty (.ar e) => fitsKd cs (.ty e) (kdOf t) && (isRef e == refK (kdOf t))
  | _ => false
def arrayF (cs : List Class) (t : Str) (S : List Str) : Option (List Str) :=
  if kindR cs t ≠ 0 then none else (takeS cs [kI] S).bind fun S1 => (popR S1).bind fun p => if arrOk cs p.1 t then some p.2 else none
set_option maxHeartbeats 4000000 in
set_option maxRecDepth 100000 in
theorem array_n (w0 w : World) (B : Nat) (l : List Class) (base : Nat) (ws : World) (sb : Nat) (from' gives : Str) (lv sv : Value) (L S : List Str) (hS : Known (allC l) S) (xb : Nat) (xv : List Value) (T0 : SA w0 w B l base ws lv sv sb from' gives xb xv ws lv sv L S) (t k : Str) (ht : t.size ≤ maxLen) (hk : kindR (allC l) t = 0) (S1 S2 : List Str) (hq1 : takeS (allC l) [kI] S = some S1) (hq2 : popR S1 = some (k, S2)) (hn : (k.toList == [78]) = true) :
    Calls Tryz.prog 146 #[.pointer (some ⟨sb, 0, none⟩), .string t] ws (StepRun base ws sb B from' gives lv sv (some (.tuple #[], L, S2))) := by
  unfold kI at *
  have HT : Hid (∀ wx, _) := fun wx => need_true wx
  go_enter Tryz.func146, Tryz.ntmps146
  go_upto_region 3 with (first
    | (go_at_call 143; (with_reducible refine (T0.knowsY t ht hk).mono ?_); rintro e w1 hP; obtain ⟨hB1, rfl, lv1, sv1, hS1, hk1⟩ := hP.ok'; (have T1 := T0.next hB1 hS1 hk1); (have T1a := T1.alloc (.cells #[.string ⟨#[73]⟩] 9)))
    | (go_at_call 139; (with_reducible refine (T1.takeOY hS ⟨#[73]⟩ (k1_le _) _ (by simp) hq1).mono ?_); rintro e w2 hP; obtain ⟨hB2, rfl, lv2, sv2, hS2, hk2⟩ := hP.ok'; (have T2 := T1a.next hB2 hS2 hk2); (have hN2 := takeS_known hq1 hS))
    | (go_at_call 141; (with_reducible refine (T2.refY hN2 hq2).mono ?_); rintro e w3 hP; obtain ⟨hB3, rfl, lv3, sv3, hS3, hk3⟩ := hP.ok'))
  have T3 := (T2.next hB3 hS3 hk3).over (Below.refl _ _).drew
  have HT3 := Lib.hid T3
  have q3 : w3.drew.cell? ⟨sb, 0, none⟩ = some (.map (some B)) := T3.step.blk.cell 0
  clear T0 T1 T1a T2 T3 hB1 hB2 hB3 hS1 hS2 hS3 hk1 hk2 hk3 hP hq1 hq2 hN2 hS
  refine wp_region_held_drew (S := fun w' => w'.cell? ⟨sb, 0, none⟩ = some (.map (some B))) (by kernel_rfl) q3 (fun hHeld => ?_)
  change wpAnyH _ _ _ _ _ 26 _ _ _
  iterate 25 ((first | (refine tkN rfl rfl (by kernel_rfl) (by kernel_rfl) (by kernel_rfl) (fun _ _ _ h => h) (by rfl) hHeld ?_) | (refine tkY (v := ?_) rfl rfl (by kernel_rfl) (by kernel_rfl) (by kernel_rfl) (fun _ _ _ h => h) (by rfl) hHeld ?_ ?_; rotate_left; focus (intro w hSw; ((try dsimp only at hSw)); go_simp; all_goals with_reducible rfl))); try simp only [Act.put, List.setIfInBounds_toArray, List.set_cons_zero, List.set_cons_succ])
  refine wpAnyH_ready (rs := [25]) (fuel := 0) (by kernel_rfl) (by simp) ?_
  refine AllReadyH.cons (i := 25) rfl (fun K hK => ?_) AllReadyH.nil
  go_simp
  refine (HT.out _).mono ?_
  rintro e wq ⟨rfl, rfl⟩
  refine hK.out _ _ q3 (fun hHeld => ?_)
  clear hK K
  try dsimp only [Act.put]
  refine wpAnyH_done (by kernel_rfl) ?_ _
  clear hHeld
  go_wp2_with (first | fail)
  go_end0
  exact HT3.out.done rfl
set_option maxHeartbeats 4000000 in
set_option maxRecDepth 100000 in
theorem array_c (w0 w : World) (B : Nat) (l : List Class) (base : Nat) (ws : World) (sb : Nat) (from' gives : Str) (lv sv : Value) (L S : List Str) (hS : Known (allC l) S) (xb : Nat) (xv : List Value) (T0 : SA w0 w B l base ws lv sv sb from' gives xb xv ws lv sv L S) (t k : Str) (ht : t.size ≤ maxLen) (hk : kindR (allC l) t = 0) (S1 S2 : List Str) (hq1 : takeS (allC l) [kI] S = some S1) (hq2 : popR S1 = some (k, S2)) (hn : (k.toList == [78]) = false) (hp : 0 < k.size) (hf : (((k[0]'hp).toNat : Int) == 91) = false) :
    Calls Tryz.prog 146 #[.pointer (some ⟨sb, 0, none⟩), .string t] ws (StepRun base ws sb B from' gives lv sv none) := by
  unfold kI at *
  have HF : Hid (∀ wx, _) := fun wx => need_false wx
  go_enter Tryz.func146, Tryz.ntmps146
  go_upto_region 3 with (first
    | (go_at_call 143; (with_reducible refine (T0.knowsY t ht hk).mono ?_); rintro e w1 hP; obtain ⟨hB1, rfl, lv1, sv1, hS1, hk1⟩ := hP.ok'; (have T1 := T0.next hB1 hS1 hk1); (have T1a := T1.alloc (.cells #[.string ⟨#[73]⟩] 9)))
    | (go_at_call 139; (with_reducible refine (T1.takeOY hS ⟨#[73]⟩ (k1_le _) _ (by simp) hq1).mono ?_); rintro e w2 hP; obtain ⟨hB2, rfl, lv2, sv2, hS2, hk2⟩ := hP.ok'; (have T2 := T1a.next hB2 hS2 hk2); (have hN2 := takeS_known hq1 hS))
    | (go_at_call 141; (with_reducible refine (T2.refY hN2 hq2).mono ?_); rintro e w3 hP; obtain ⟨hB3, rfl, lv3, sv3, hS3, hk3⟩ := hP.ok'))
  have T3 := (T2.next hB3 hS3 hk3).over (Below.refl _ _).drew
  have HT3 := Lib.hid T3
  have q3 : w3.drew.cell? ⟨sb, 0, none⟩ = some (.map (some B)) := T3.step.blk.cell 0
  clear T0 T1 T1a T2 T3 hB1 hB2 hB3 hS1 hS2 hS3 hk1 hk2 hk3 hP hq1 hq2 hN2 hS
  refine wp_region_held_drew (S := fun w' => w'.cell? ⟨sb, 0, none⟩ = some (.map (some B))) (by kernel_rfl) q3 (fun hHeld => ?_)
  change wpAnyH _ _ _ _ _ 26 _ _ _
  iterate 25 ((first | (refine tkN rfl rfl (by kernel_rfl) (by kernel_rfl) (by kernel_rfl) (fun _ _ _ h => h) (by rfl) hHeld ?_) | (refine tkY (v := ?_) rfl rfl (by kernel_rfl) (by kernel_rfl) (by kernel_rfl) (fun _ _ _ h => h) (by rfl) hHeld ?_ ?_; rotate_left; focus (intro w hSw; ((try dsimp only at hSw)); go_simp; all_goals with_reducible rfl))); try simp only [Act.put, List.setIfInBounds_toArray, List.set_cons_zero, List.set_cons_succ])
  refine wpAnyH_ready (rs := [25]) (fuel := 0) (by kernel_rfl) (by simp) ?_
  refine AllReadyH.cons (i := 25) rfl (fun K hK => ?_) AllReadyH.nil
  go_simp
  refine (HF.out _).mono ?_
  rintro e wq ⟨rfl, rfl⟩
  exact And.intro rfl (HT3.out.stop (Below.refl _ _) rfl)
set_option maxHeartbeats 4000000 in
set_option maxRecDepth 100000 in
theorem array_f (w0 w : World) (B : Nat) (l : List Class) (base : Nat) (ws : World) (sb : Nat) (from' gives : Str) (lv sv : Value) (L S : List Str) (hS : Known (allC l) S) (xb : Nat) (xv : List Value) (T0 : SA w0 w B l base ws lv sv sb from' gives xb xv ws lv sv L S) (t k : Str) (ht : t.size ≤ maxLen) (hk : kindR (allC l) t = 0) (S1 S2 : List Str) (hq1 : takeS (allC l) [kI] S = some S1) (hq2 : popR S1 = some (k, S2)) (hn : (k.toList == [78]) = false) (hp : 0 < k.size) (hf : (((k[0]'hp).toNat : Int) == 91) = true) (h1 : (1 : Int) ≤ (k.size : Int)) (hkk : kindR (allC l) (k.extract 1 k.size) = 0) (hd : fitsKd (allC l) (kdOf (k.extract 1 k.size)) (kdOf t) = false) :
    Calls Tryz.prog 146 #[.pointer (some ⟨sb, 0, none⟩), .string t] ws (StepRun base ws sb B from' gives lv sv none) := by
  unfold kI at *
  have HF : Hid (∀ wx, _) := fun wx => need_false wx
  go_enter Tryz.func146, Tryz.ntmps146
  go_upto_region 3 with (first
    | (go_at_call 143; (with_reducible refine (T0.knowsY t ht hk).mono ?_); rintro e w1 hP; obtain ⟨hB1, rfl, lv1, sv1, hS1, hk1⟩ := hP.ok'; (have T1 := T0.next hB1 hS1 hk1); (have T1a := T1.alloc (.cells #[.string ⟨#[73]⟩] 9)))
    | (go_at_call 139; (with_reducible refine (T1.takeOY hS ⟨#[73]⟩ (k1_le _) _ (by simp) hq1).mono ?_); rintro e w2 hP; obtain ⟨hB2, rfl, lv2, sv2, hS2, hk2⟩ := hP.ok'; (have T2 := T1a.next hB2 hS2 hk2); (have hN2 := takeS_known hq1 hS))
    | (go_at_call 141; (with_reducible refine (T2.refY hN2 hq2).mono ?_); rintro e w3 hP; obtain ⟨hB3, rfl, lv3, sv3, hS3, hk3⟩ := hP.ok'))
  have T3 := (T2.next hB3 hS3 hk3).over (Below.refl _ _).drew
  have HT3 := Lib.hid T3
  have q3 : w3.drew.cell? ⟨sb, 0, none⟩ = some (.map (some B)) := T3.step.blk.cell 0
  clear T0 T1 T1a T2 T3 hB1 hB2 hB3 hS1 hS2 hS3 hk1 hk2 hk3 hP hq1 hq2 hN2 hS
  have HD := Lib.hid (does_kinds w0 _ B l HT3.out.env.map (k.extract 1 k.size) t hkk hk)
  rw [hd] at HD
  refine wp_region_held_drew (S := fun w' => w'.cell? ⟨sb, 0, none⟩ = some (.map (some B))) (by kernel_rfl) q3 (fun hHeld => ?_)
  change wpAnyH _ _ _ _ _ 26 _ _ _
  iterate 14 ((first | (refine tkN rfl rfl (by kernel_rfl) (by kernel_rfl) (by kernel_rfl) (fun _ _ _ h => h) (by rfl) hHeld ?_) | (refine tkY (v := ?_) rfl rfl (by kernel_rfl) (by kernel_rfl) (by kernel_rfl) (fun _ _ _ h => h) (by rfl) hHeld ?_ ?_; rotate_left; focus (intro w hSw; ((try dsimp only at hSw)); go_simp; all_goals with_reducible rfl))); try simp only [Act.put, List.setIfInBounds_toArray, List.set_cons_zero, List.set_cons_succ])
  refine wpAnyH_ready (rs := [14]) (fuel := 11) (by kernel_rfl) (by simp) ?_
  refine AllReadyH.cons (i := 14) rfl (fun K hK => ?_) AllReadyH.nil
  go_simp
  refine HD.out.mono ?_
  rintro e w5 ⟨rfl, hB5⟩
  have HT5 := Lib.hid (HT3.out.over hB5)
  refine hK.out _ _ (HT5.out.step.blk.cell 0) (fun hHeld => ?_)
  clear hK K
  try dsimp only [Act.put]
  change wpAnyH _ _ _ _ _ 11 _ _ _
  iterate 10 ((first | (refine tkN rfl rfl (by kernel_rfl) (by kernel_rfl) (by kernel_rfl) (fun _ _ _ h => h) (by rfl) hHeld ?_) | (refine tkY (v := ?_) rfl rfl (by kernel_rfl) (by kernel_rfl) (by kernel_rfl) (fun _ _ _ h => h) (by rfl) hHeld ?_ ?_; rotate_left; focus (intro w hSw; ((try dsimp only at hSw)); go_simp; all_goals with_reducible rfl))); try simp only [Act.put, List.setIfInBounds_toArray, List.set_cons_zero, List.set_cons_succ])
  refine wpAnyH_ready (rs := [25]) (fuel := 0) (by kernel_rfl) (by simp) ?_
  refine AllReadyH.cons (i := 25) rfl (fun K hK => ?_) AllReadyH.nil
  go_simp
  refine (HF.out _).mono ?_
  rintro e wq ⟨rfl, rfl⟩
  exact And.intro rfl (HT5.out.stop (Below.refl _ _) rfl)
set_option maxHeartbeats 4000000 in
set_option maxRecDepth 100000 in
theorem array_tt (w0 w : World) (B : Nat) (l : List Class) (base : Nat) (ws : World) (sb : Nat) (from' gives : Str) (lv sv : Value) (L S : List Str) (hS : Known (allC l) S) (xb : Nat) (xv : List Value) (T0 : SA w0 w B l base ws lv sv sb from' gives xb xv ws lv sv L S) (t k : Str) (ht : t.size ≤ maxLen) (hk : kindR (allC l) t = 0) (S1 S2 : List Str) (hq1 : takeS (allC l) [kI] S = some S1) (hq2 : popR S1 = some (k, S2)) (hn : (k.toList == [78]) = false) (hp : 0 < k.size) (hf : (((k[0]'hp).toNat : Int) == 91) = true) (h1 : (1 : Int) ≤ (k.size : Int)) (hkk : kindR (allC l) (k.extract 1 k.size) = 0) (hd : fitsKd (allC l) (kdOf (k.extract 1 k.size)) (kdOf t) = true) (hru : ∀ wx, Calls Tryz.prog 151 #[.string (k.extract 1 k.size)] wx fun e w' => e = .returned (.bool true) ∧ wx = w') (hrv : ∀ wx, Calls Tryz.prog 151 #[.string t] wx fun e w' => e = .returned (.bool true) ∧ wx = w') :
    Calls Tryz.prog 146 #[.pointer (some ⟨sb, 0, none⟩), .string t] ws (StepRun base ws sb B from' gives lv sv (some (.tuple #[], L, S2))) := by
  unfold kI at *
  have HT : Hid (∀ wx, _) := fun wx => need_true wx
  have HU := Lib.hid hru
  have HV := Lib.hid hrv
  clear hru hrv
  go_enter Tryz.func146, Tryz.ntmps146
  go_upto_region 3 with (first
    | (go_at_call 143; (with_reducible refine (T0.knowsY t ht hk).mono ?_); rintro e w1 hP; obtain ⟨hB1, rfl, lv1, sv1, hS1, hk1⟩ := hP.ok'; (have T1 := T0.next hB1 hS1 hk1); (have T1a := T1.alloc (.cells #[.string ⟨#[73]⟩] 9)))
    | (go_at_call 139; (with_reducible refine (T1.takeOY hS ⟨#[73]⟩ (k1_le _) _ (by simp) hq1).mono ?_); rintro e w2 hP; obtain ⟨hB2, rfl, lv2, sv2, hS2, hk2⟩ := hP.ok'; (have T2 := T1a.next hB2 hS2 hk2); (have hN2 := takeS_known hq1 hS))
    | (go_at_call 141; (with_reducible refine (T2.refY hN2 hq2).mono ?_); rintro e w3 hP; obtain ⟨hB3, rfl, lv3, sv3, hS3, hk3⟩ := hP.ok'))
  have T3 := (T2.next hB3 hS3 hk3).over (Below.refl _ _).drew
  have HT3 := Lib.hid T3
  have q3 : w3.drew.cell? ⟨sb, 0, none⟩ = some (.map (some B)) := T3.step.blk.cell 0
  clear T0 T1 T1a T2 T3 hB1 hB2 hB3 hS1 hS2 hS3 hk1 hk2 hk3 hP hq1 hq2 hN2 hS
  have HD := Lib.hid (does_kinds w0 _ B l HT3.out.env.map (k.extract 1 k.size) t hkk hk)
  rw [hd] at HD
  refine wp_region_held_drew (S := fun w' => w'.cell? ⟨sb, 0, none⟩ = some (.map (some B))) (by kernel_rfl) q3 (fun hHeld => ?_)
  change wpAnyH _ _ _ _ _ 26 _ _ _
  iterate 14 ((first | (refine tkN rfl rfl (by kernel_rfl) (by kernel_rfl) (by kernel_rfl) (fun _ _ _ h => h) (by rfl) hHeld ?_) | (refine tkY (v := ?_) rfl rfl (by kernel_rfl) (by kernel_rfl) (by kernel_rfl) (fun _ _ _ h => h) (by rfl) hHeld ?_ ?_; rotate_left; focus (intro w hSw; ((try dsimp only at hSw)); go_simp; all_goals with_reducible rfl))); try simp only [Act.put, List.setIfInBounds_toArray, List.set_cons_zero, List.set_cons_succ])
  refine wpAnyH_ready (rs := [14]) (fuel := 11) (by kernel_rfl) (by simp) ?_
  refine AllReadyH.cons (i := 14) rfl (fun K hK => ?_) AllReadyH.nil
  go_simp
  refine HD.out.mono ?_
  rintro e w5 ⟨rfl, hB5⟩
  have HT5 := Lib.hid (HT3.out.over hB5)
  refine hK.out _ _ (HT5.out.step.blk.cell 0) (fun hHeld => ?_)
  clear hK K
  try dsimp only [Act.put]
  change wpAnyH _ _ _ _ _ 11 _ _ _
  iterate 4 ((first | (refine tkN rfl rfl (by kernel_rfl) (by kernel_rfl) (by kernel_rfl) (fun _ _ _ h => h) (by rfl) hHeld ?_) | (refine tkY (v := ?_) rfl rfl (by kernel_rfl) (by kernel_rfl) (by kernel_rfl) (fun _ _ _ h => h) (by rfl) hHeld ?_ ?_; rotate_left; focus (intro w hSw; ((try dsimp only at hSw)); go_simp; all_goals with_reducible rfl))); try simp only [Act.put, List.setIfInBounds_toArray, List.set_cons_zero, List.set_cons_succ])
  refine tkI (i := 20) (fuel := 6) (v := ?_) rfl (by kernel_rfl) (by kernel_rfl) (by kernel_rfl) (fun _ _ _ h => h) (by rfl) hHeld ?_ ?_; rotate_left; focus (intro w hSw; ((try dsimp only at hSw)); go_simp; all_goals with_reducible rfl)
  (try simp only [Act.put]); (try simp only [List.setIfInBounds_toArray]); (try simp only [List.set_cons_succ]); (try simp only [List.set_cons_zero])
  refine wpAnyH_ready (rs := [19]) (fuel := 5) (by kernel_rfl) (by simp) ?_
  refine AllReadyH.cons (i := 19) rfl (fun K hK => ?_) AllReadyH.nil
  go_simp
  refine (HU.out _).mono ?_
  rintro e wr ⟨rfl, rfl⟩
  refine hK.out _ _ (HT5.out.step.blk.cell 0) (fun hHeld => ?_)
  clear hK K
  try dsimp only [Act.put]
  refine wpAnyH_ready (rs := [21]) (fuel := 4) (by kernel_rfl) (by simp) ?_
  refine AllReadyH.cons (i := 21) rfl (fun K hK => ?_) AllReadyH.nil
  go_simp
  refine (HV.out _).mono ?_
  rintro e wr ⟨rfl, rfl⟩
  refine hK.out _ _ (HT5.out.step.blk.cell 0) (fun hHeld => ?_)
  clear hK K
  try dsimp only [Act.put]
  change wpAnyH _ _ _ _ _ 4 _ _ _
  iterate 3 ((first | (refine tkN rfl rfl (by kernel_rfl) (by kernel_rfl) (by kernel_rfl) (fun _ _ _ h => h) (by rfl) hHeld ?_) | (refine tkY (v := ?_) rfl rfl (by kernel_rfl) (by kernel_rfl) (by kernel_rfl) (fun _ _ _ h => h) (by rfl) hHeld ?_ ?_; rotate_left; focus (intro w hSw; ((try dsimp only at hSw)); go_simp; all_goals with_reducible rfl))); (try simp only [Act.put]); (try simp only [List.setIfInBounds_toArray]); (try simp only [List.set_cons_succ]); (try simp only [List.set_cons_zero]))
  refine wpAnyH_ready (rs := [25]) (fuel := 0) (by kernel_rfl) (by simp) ?_
  refine AllReadyH.cons (i := 25) rfl (fun K hK => ?_) AllReadyH.nil
  go_simp
  refine (HT.out _).mono ?_
  rintro e wq ⟨rfl, rfl⟩
  refine hK.out _ _ (HT5.out.step.blk.cell 0) (fun hHeld => ?_)
  clear hK K
  try dsimp only [Act.put]
  refine wpAnyH_done (by kernel_rfl) ?_ _
  clear hHeld
  go_wp2_with (first | fail)
  go_end0
  exact HT5.out.done rfl
set_option maxHeartbeats 4000000 in
set_option maxRecDepth 100000 in
theorem array_tf (w0 w : World) (B : Nat) (l : List Class) (base : Nat) (ws : World) (sb : Nat) (from' gives : Str) (lv sv : Value) (L S : List Str) (hS : Known (allC l) S) (xb : Nat) (xv : List Value) (T0 : SA w0 w B l base ws lv sv sb from' gives xb xv ws lv sv L S) (t k : Str) (ht : t.size ≤ maxLen) (hk : kindR (allC l) t = 0) (S1 S2 : List Str) (hq1 : takeS (allC l) [kI] S = some S1) (hq2 : popR S1 = some (k, S2)) (hn : (k.toList == [78]) = false) (hp : 0 < k.size) (hf : (((k[0]'hp).toNat : Int) == 91) = true) (h1 : (1 : Int) ≤ (k.size : Int)) (hkk : kindR (allC l) (k.extract 1 k.size) = 0) (hd : fitsKd (allC l) (kdOf (k.extract 1 k.size)) (kdOf t) = true) (hru : ∀ wx, Calls Tryz.prog 151 #[.string (k.extract 1 k.size)] wx fun e w' => e = .returned (.bool true) ∧ wx = w') (hrv : ∀ wx, Calls Tryz.prog 151 #[.string t] wx fun e w' => e = .returned (.bool false) ∧ wx = w') :
    Calls Tryz.prog 146 #[.pointer (some ⟨sb, 0, none⟩), .string t] ws (StepRun base ws sb B from' gives lv sv none) := by
  unfold kI at *
  have HF : Hid (∀ wx, _) := fun wx => need_false wx
  have HU := Lib.hid hru
  have HV := Lib.hid hrv
  clear hru hrv
  go_enter Tryz.func146, Tryz.ntmps146
  go_upto_region 3 with (first
    | (go_at_call 143; (with_reducible refine (T0.knowsY t ht hk).mono ?_); rintro e w1 hP; obtain ⟨hB1, rfl, lv1, sv1, hS1, hk1⟩ := hP.ok'; (have T1 := T0.next hB1 hS1 hk1); (have T1a := T1.alloc (.cells #[.string ⟨#[73]⟩] 9)))
    | (go_at_call 139; (with_reducible refine (T1.takeOY hS ⟨#[73]⟩ (k1_le _) _ (by simp) hq1).mono ?_); rintro e w2 hP; obtain ⟨hB2, rfl, lv2, sv2, hS2, hk2⟩ := hP.ok'; (have T2 := T1a.next hB2 hS2 hk2); (have hN2 := takeS_known hq1 hS))
    | (go_at_call 141; (with_reducible refine (T2.refY hN2 hq2).mono ?_); rintro e w3 hP; obtain ⟨hB3, rfl, lv3, sv3, hS3, hk3⟩ := hP.ok'))
  have T3 := (T2.next hB3 hS3 hk3).over (Below.refl _ _).drew
  have HT3 := Lib.hid T3
  have q3 : w3.drew.cell? ⟨sb, 0, none⟩ = some (.map (some B)) := T3.step.blk.cell 0
  clear T0 T1 T1a T2 T3 hB1 hB2 hB3 hS1 hS2 hS3 hk1 hk2 hk3 hP hq1 hq2 hN2 hS
  have HD := Lib.hid (does_kinds w0 _ B l HT3.out.env.map (k.extract 1 k.size) t hkk hk)
  rw [hd] at HD
  refine wp_region_held_drew (S := fun w' => w'.cell? ⟨sb, 0, none⟩ = some (.map (some B))) (by kernel_rfl) q3 (fun hHeld => ?_)
  change wpAnyH _ _ _ _ _ 26 _ _ _
  iterate 14 ((first | (refine tkN rfl rfl (by kernel_rfl) (by kernel_rfl) (by kernel_rfl) (fun _ _ _ h => h) (by rfl) hHeld ?_) | (refine tkY (v := ?_) rfl rfl (by kernel_rfl) (by kernel_rfl) (by kernel_rfl) (fun _ _ _ h => h) (by rfl) hHeld ?_ ?_; rotate_left; focus (intro w hSw; ((try dsimp only at hSw)); go_simp; all_goals with_reducible rfl))); try simp only [Act.put, List.setIfInBounds_toArray, List.set_cons_zero, List.set_cons_succ])
  refine wpAnyH_ready (rs := [14]) (fuel := 11) (by kernel_rfl) (by simp) ?_
  refine AllReadyH.cons (i := 14) rfl (fun K hK => ?_) AllReadyH.nil
  go_simp
  refine HD.out.mono ?_
  rintro e w5 ⟨rfl, hB5⟩
  have HT5 := Lib.hid (HT3.out.over hB5)
  refine hK.out _ _ (HT5.out.step.blk.cell 0) (fun hHeld => ?_)
  clear hK K
  try dsimp only [Act.put]
  change wpAnyH _ _ _ _ _ 11 _ _ _
  iterate 4 ((first | (refine tkN rfl rfl (by kernel_rfl) (by kernel_rfl) (by kernel_rfl) (fun _ _ _ h => h) (by rfl) hHeld ?_) | (refine tkY (v := ?_) rfl rfl (by kernel_rfl) (by kernel_rfl) (by kernel_rfl) (fun _ _ _ h => h) (by rfl) hHeld ?_ ?_; rotate_left; focus (intro w hSw; ((try dsimp only at hSw)); go_simp; all_goals with_reducible rfl))); try simp only [Act.put, List.setIfInBounds_toArray, List.set_cons_zero, List.set_cons_succ])
  refine tkI (i := 20) (fuel := 6) (v := ?_) rfl (by kernel_rfl) (by kernel_rfl) (by kernel_rfl) (fun _ _ _ h => h) (by rfl) hHeld ?_ ?_; rotate_left; focus (intro w hSw; ((try dsimp only at hSw)); go_simp; all_goals with_reducible rfl)
  (try simp only [Act.put]); (try simp only [List.setIfInBounds_toArray]); (try simp only [List.set_cons_succ]); (try simp only [List.set_cons_zero])
  refine wpAnyH_ready (rs := [19]) (fuel := 5) (by kernel_rfl) (by simp) ?_
  refine AllReadyH.cons (i := 19) rfl (fun K hK => ?_) AllReadyH.nil
  go_simp
  refine (HU.out _).mono ?_
  rintro e wr ⟨rfl, rfl⟩
  refine hK.out _ _ (HT5.out.step.blk.cell 0) (fun hHeld => ?_)
  clear hK K
  try dsimp only [Act.put]
  refine wpAnyH_ready (rs := [21]) (fuel := 4) (by kernel_rfl) (by simp) ?_
  refine AllReadyH.cons (i := 21) rfl (fun K hK => ?_) AllReadyH.nil
  go_simp
  refine (HV.out _).mono ?_
  rintro e wr ⟨rfl, rfl⟩
  refine hK.out _ _ (HT5.out.step.blk.cell 0) (fun hHeld => ?_)
  clear hK K
  try dsimp only [Act.put]
  change wpAnyH _ _ _ _ _ 4 _ _ _
  iterate 3 ((first | (refine tkN rfl rfl (by kernel_rfl) (by kernel_rfl) (by kernel_rfl) (fun _ _ _ h => h) (by rfl) hHeld ?_) | (refine tkY (v := ?_) rfl rfl (by kernel_rfl) (by kernel_rfl) (by kernel_rfl) (fun _ _ _ h => h) (by rfl) hHeld ?_ ?_; rotate_left; focus (intro w hSw; ((try dsimp only at hSw)); go_simp; all_goals with_reducible rfl))); (try simp only [Act.put]); (try simp only [List.setIfInBounds_toArray]); (try simp only [List.set_cons_succ]); (try simp only [List.set_cons_zero]))
  refine wpAnyH_ready (rs := [25]) (fuel := 0) (by kernel_rfl) (by simp) ?_
  refine AllReadyH.cons (i := 25) rfl (fun K hK => ?_) AllReadyH.nil
  go_simp
  refine (HF.out _).mono ?_
  rintro e wq ⟨rfl, rfl⟩
  exact And.intro rfl (HT5.out.stop (Below.refl _ _) rfl)
set_option maxHeartbeats 4000000 in
set_option maxRecDepth 100000 in
theorem array_ft (w0 w : World) (B : Nat) (l : List Class) (base : Nat) (ws : World) (sb : Nat) (from' gives : Str) (lv sv : Value) (L S : List Str) (hS : Known (allC l) S) (xb : Nat) (xv : List Value) (T0 : SA w0 w B l base ws lv sv sb from' gives xb xv ws lv sv L S) (t k : Str) (ht : t.size ≤ maxLen) (hk : kindR (allC l) t = 0) (S1 S2 : List Str) (hq1 : takeS (allC l) [kI] S = some S1) (hq2 : popR S1 = some (k, S2)) (hn : (k.toList == [78]) = false) (hp : 0 < k.size) (hf : (((k[0]'hp).toNat : Int) == 91) = true) (h1 : (1 : Int) ≤ (k.size : Int)) (hkk : kindR (allC l) (k.extract 1 k.size) = 0) (hd : fitsKd (allC l) (kdOf (k.extract 1 k.size)) (kdOf t) = true) (hru : ∀ wx, Calls Tryz.prog 151 #[.string (k.extract 1 k.size)] wx fun e w' => e = .returned (.bool false) ∧ wx = w') (hrv : ∀ wx, Calls Tryz.prog 151 #[.string t] wx fun e w' => e = .returned (.bool true) ∧ wx = w') :
    Calls Tryz.prog 146 #[.pointer (some ⟨sb, 0, none⟩), .string t] ws (StepRun base ws sb B from' gives lv sv none) := by
  unfold kI at *
  have HF : Hid (∀ wx, _) := fun wx => need_false wx
  have HU := Lib.hid hru
  have HV := Lib.hid hrv
  clear hru hrv
  go_enter Tryz.func146, Tryz.ntmps146
  go_upto_region 3 with (first
    | (go_at_call 143; (with_reducible refine (T0.knowsY t ht hk).mono ?_); rintro e w1 hP; obtain ⟨hB1, rfl, lv1, sv1, hS1, hk1⟩ := hP.ok'; (have T1 := T0.next hB1 hS1 hk1); (have T1a := T1.alloc (.cells #[.string ⟨#[73]⟩] 9)))
    | (go_at_call 139; (with_reducible refine (T1.takeOY hS ⟨#[73]⟩ (k1_le _) _ (by simp) hq1).mono ?_); rintro e w2 hP; obtain ⟨hB2, rfl, lv2, sv2, hS2, hk2⟩ := hP.ok'; (have T2 := T1a.next hB2 hS2 hk2); (have hN2 := takeS_known hq1 hS))
    | (go_at_call 141; (with_reducible refine (T2.refY hN2 hq2).mono ?_); rintro e w3 hP; obtain ⟨hB3, rfl, lv3, sv3, hS3, hk3⟩ := hP.ok'))
  have T3 := (T2.next hB3 hS3 hk3).over (Below.refl _ _).drew
  have HT3 := Lib.hid T3
  have q3 : w3.drew.cell? ⟨sb, 0, none⟩ = some (.map (some B)) := T3.step.blk.cell 0
  clear T0 T1 T1a T2 T3 hB1 hB2 hB3 hS1 hS2 hS3 hk1 hk2 hk3 hP hq1 hq2 hN2 hS
  have HD := Lib.hid (does_kinds w0 _ B l HT3.out.env.map (k.extract 1 k.size) t hkk hk)
  rw [hd] at HD
  refine wp_region_held_drew (S := fun w' => w'.cell? ⟨sb, 0, none⟩ = some (.map (some B))) (by kernel_rfl) q3 (fun hHeld => ?_)
  change wpAnyH _ _ _ _ _ 26 _ _ _
  iterate 14 ((first | (refine tkN rfl rfl (by kernel_rfl) (by kernel_rfl) (by kernel_rfl) (fun _ _ _ h => h) (by rfl) hHeld ?_) | (refine tkY (v := ?_) rfl rfl (by kernel_rfl) (by kernel_rfl) (by kernel_rfl) (fun _ _ _ h => h) (by rfl) hHeld ?_ ?_; rotate_left; focus (intro w hSw; ((try dsimp only at hSw)); go_simp; all_goals with_reducible rfl))); try simp only [Act.put, List.setIfInBounds_toArray, List.set_cons_zero, List.set_cons_succ])
  refine wpAnyH_ready (rs := [14]) (fuel := 11) (by kernel_rfl) (by simp) ?_
  refine AllReadyH.cons (i := 14) rfl (fun K hK => ?_) AllReadyH.nil
  go_simp
  refine HD.out.mono ?_
  rintro e w5 ⟨rfl, hB5⟩
  have HT5 := Lib.hid (HT3.out.over hB5)
  refine hK.out _ _ (HT5.out.step.blk.cell 0) (fun hHeld => ?_)
  clear hK K
  try dsimp only [Act.put]
  change wpAnyH _ _ _ _ _ 11 _ _ _
  iterate 4 ((first | (refine tkN rfl rfl (by kernel_rfl) (by kernel_rfl) (by kernel_rfl) (fun _ _ _ h => h) (by rfl) hHeld ?_) | (refine tkY (v := ?_) rfl rfl (by kernel_rfl) (by kernel_rfl) (by kernel_rfl) (fun _ _ _ h => h) (by rfl) hHeld ?_ ?_; rotate_left; focus (intro w hSw; ((try dsimp only at hSw)); go_simp; all_goals with_reducible rfl))); try simp only [Act.put, List.setIfInBounds_toArray, List.set_cons_zero, List.set_cons_succ])
  refine tkI (i := 20) (fuel := 6) (v := ?_) rfl (by kernel_rfl) (by kernel_rfl) (by kernel_rfl) (fun _ _ _ h => h) (by rfl) hHeld ?_ ?_; rotate_left; focus (intro w hSw; ((try dsimp only at hSw)); go_simp; all_goals with_reducible rfl)
  (try simp only [Act.put]); (try simp only [List.setIfInBounds_toArray]); (try simp only [List.set_cons_succ]); (try simp only [List.set_cons_zero])
  refine wpAnyH_ready (rs := [19]) (fuel := 5) (by kernel_rfl) (by simp) ?_
  refine AllReadyH.cons (i := 19) rfl (fun K hK => ?_) AllReadyH.nil
  go_simp
  refine (HU.out _).mono ?_
  rintro e wr ⟨rfl, rfl⟩
  refine hK.out _ _ (HT5.out.step.blk.cell 0) (fun hHeld => ?_)
  clear hK K
  try dsimp only [Act.put]
  refine wpAnyH_ready (rs := [21]) (fuel := 4) (by kernel_rfl) (by simp) ?_
  refine AllReadyH.cons (i := 21) rfl (fun K hK => ?_) AllReadyH.nil
  go_simp
  refine (HV.out _).mono ?_
  rintro e wr ⟨rfl, rfl⟩
  refine hK.out _ _ (HT5.out.step.blk.cell 0) (fun hHeld => ?_)
  clear hK K
  try dsimp only [Act.put]
  change wpAnyH _ _ _ _ _ 4 _ _ _
  iterate 3 ((first | (refine tkN rfl rfl (by kernel_rfl) (by kernel_rfl) (by kernel_rfl) (fun _ _ _ h => h) (by rfl) hHeld ?_) | (refine tkY (v := ?_) rfl rfl (by kernel_rfl) (by kernel_rfl) (by kernel_rfl) (fun _ _ _ h => h) (by rfl) hHeld ?_ ?_; rotate_left; focus (intro w hSw; ((try dsimp only at hSw)); go_simp; all_goals with_reducible rfl))); (try simp only [Act.put]); (try simp only [List.setIfInBounds_toArray]); (try simp only [List.set_cons_succ]); (try simp only [List.set_cons_zero]))
  refine wpAnyH_ready (rs := [25]) (fuel := 0) (by kernel_rfl) (by simp) ?_
  refine AllReadyH.cons (i := 25) rfl (fun K hK => ?_) AllReadyH.nil
  go_simp
  refine (HF.out _).mono ?_
  rintro e wq ⟨rfl, rfl⟩
  exact And.intro rfl (HT5.out.stop (Below.refl _ _) rfl)
set_option maxHeartbeats 4000000 in
set_option maxRecDepth 100000 in
theorem array_ff (w0 w : World) (B : Nat) (l : List Class) (base : Nat) (ws : World) (sb : Nat) (from' gives : Str) (lv sv : Value) (L S : List Str) (hS : Known (allC l) S) (xb : Nat) (xv : List Value) (T0 : SA w0 w B l base ws lv sv sb from' gives xb xv ws lv sv L S) (t k : Str) (ht : t.size ≤ maxLen) (hk : kindR (allC l) t = 0) (S1 S2 : List Str) (hq1 : takeS (allC l) [kI] S = some S1) (hq2 : popR S1 = some (k, S2)) (hn : (k.toList == [78]) = false) (hp : 0 < k.size) (hf : (((k[0]'hp).toNat : Int) == 91) = true) (h1 : (1 : Int) ≤ (k.size : Int)) (hkk : kindR (allC l) (k.extract 1 k.size) = 0) (hd : fitsKd (allC l) (kdOf (k.extract 1 k.size)) (kdOf t) = true) (hru : ∀ wx, Calls Tryz.prog 151 #[.string (k.extract 1 k.size)] wx fun e w' => e = .returned (.bool false) ∧ wx = w') (hrv : ∀ wx, Calls Tryz.prog 151 #[.string t] wx fun e w' => e = .returned (.bool false) ∧ wx = w') :
    Calls Tryz.prog 146 #[.pointer (some ⟨sb, 0, none⟩), .string t] ws (StepRun base ws sb B from' gives lv sv (some (.tuple #[], L, S2))) := by
  unfold kI at *
  have HT : Hid (∀ wx, _) := fun wx => need_true wx
  have HU := Lib.hid hru
  have HV := Lib.hid hrv
  clear hru hrv
  go_enter Tryz.func146, Tryz.ntmps146
  go_upto_region 3 with (first
    | (go_at_call 143; (with_reducible refine (T0.knowsY t ht hk).mono ?_); rintro e w1 hP; obtain ⟨hB1, rfl, lv1, sv1, hS1, hk1⟩ := hP.ok'; (have T1 := T0.next hB1 hS1 hk1); (have T1a := T1.alloc (.cells #[.string ⟨#[73]⟩] 9)))
    | (go_at_call 139; (with_reducible refine (T1.takeOY hS ⟨#[73]⟩ (k1_le _) _ (by simp) hq1).mono ?_); rintro e w2 hP; obtain ⟨hB2, rfl, lv2, sv2, hS2, hk2⟩ := hP.ok'; (have T2 := T1a.next hB2 hS2 hk2); (have hN2 := takeS_known hq1 hS))
    | (go_at_call 141; (with_reducible refine (T2.refY hN2 hq2).mono ?_); rintro e w3 hP; obtain ⟨hB3, rfl, lv3, sv3, hS3, hk3⟩ := hP.ok'))
  have T3 := (T2.next hB3 hS3 hk3).over (Below.refl _ _).drew
  have HT3 := Lib.hid T3
  have q3 : w3.drew.cell? ⟨sb, 0, none⟩ = some (.map (some B)) := T3.step.blk.cell 0
  clear T0 T1 T1a T2 T3 hB1 hB2 hB3 hS1 hS2 hS3 hk1 hk2 hk3 hP hq1 hq2 hN2 hS
  have HD := Lib.hid (does_kinds w0 _ B l HT3.out.env.map (k.extract 1 k.size) t hkk hk)
  rw [hd] at HD
  refine wp_region_held_drew (S := fun w' => w'.cell? ⟨sb, 0, none⟩ = some (.map (some B))) (by kernel_rfl) q3 (fun hHeld => ?_)
  change wpAnyH _ _ _ _ _ 26 _ _ _
  iterate 14 ((first | (refine tkN rfl rfl (by kernel_rfl) (by kernel_rfl) (by kernel_rfl) (fun _ _ _ h => h) (by rfl) hHeld ?_) | (refine tkY (v := ?_) rfl rfl (by kernel_rfl) (by kernel_rfl) (by kernel_rfl) (fun _ _ _ h => h) (by rfl) hHeld ?_ ?_; rotate_left; focus (intro w hSw; ((try dsimp only at hSw)); go_simp; all_goals with_reducible rfl))); try simp only [Act.put, List.setIfInBounds_toArray, List.set_cons_zero, List.set_cons_succ])
  refine wpAnyH_ready (rs := [14]) (fuel := 11) (by kernel_rfl) (by simp) ?_
  refine AllReadyH.cons (i := 14) rfl (fun K hK => ?_) AllReadyH.nil
  go_simp
  refine HD.out.mono ?_
  rintro e w5 ⟨rfl, hB5⟩
  have HT5 := Lib.hid (HT3.out.over hB5)
  refine hK.out _ _ (HT5.out.step.blk.cell 0) (fun hHeld => ?_)
  clear hK K
  try dsimp only [Act.put]
  change wpAnyH _ _ _ _ _ 11 _ _ _
  iterate 4 ((first | (refine tkN rfl rfl (by kernel_rfl) (by kernel_rfl) (by kernel_rfl) (fun _ _ _ h => h) (by rfl) hHeld ?_) | (refine tkY (v := ?_) rfl rfl (by kernel_rfl) (by kernel_rfl) (by kernel_rfl) (fun _ _ _ h => h) (by rfl) hHeld ?_ ?_; rotate_left; focus (intro w hSw; ((try dsimp only at hSw)); go_simp; all_goals with_reducible rfl))); try simp only [Act.put, List.setIfInBounds_toArray, List.set_cons_zero, List.set_cons_succ])
  refine tkI (i := 20) (fuel := 6) (v := ?_) rfl (by kernel_rfl) (by kernel_rfl) (by kernel_rfl) (fun _ _ _ h => h) (by rfl) hHeld ?_ ?_; rotate_left; focus (intro w hSw; ((try dsimp only at hSw)); go_simp; all_goals with_reducible rfl)
  (try simp only [Act.put]); (try simp only [List.setIfInBounds_toArray]); (try simp only [List.set_cons_succ]); (try simp only [List.set_cons_zero])
  refine wpAnyH_ready (rs := [19]) (fuel := 5) (by kernel_rfl) (by simp) ?_
  refine AllReadyH.cons (i := 19) rfl (fun K hK => ?_) AllReadyH.nil
  go_simp
  refine (HU.out _).mono ?_
  rintro e wr ⟨rfl, rfl⟩
  refine hK.out _ _ (HT5.out.step.blk.cell 0) (fun hHeld => ?_)
  clear hK K
  try dsimp only [Act.put]
  refine wpAnyH_ready (rs := [21]) (fuel := 4) (by kernel_rfl) (by simp) ?_
  refine AllReadyH.cons (i := 21) rfl (fun K hK => ?_) AllReadyH.nil
  go_simp
  refine (HV.out _).mono ?_
  rintro e wr ⟨rfl, rfl⟩
  refine hK.out _ _ (HT5.out.step.blk.cell 0) (fun hHeld => ?_)
  clear hK K
  try dsimp only [Act.put]
  change wpAnyH _ _ _ _ _ 4 _ _ _
  iterate 3 ((first | (refine tkN rfl rfl (by kernel_rfl) (by kernel_rfl) (by kernel_rfl) (fun _ _ _ h => h) (by rfl) hHeld ?_) | (refine tkY (v := ?_) rfl rfl (by kernel_rfl) (by kernel_rfl) (by kernel_rfl) (fun _ _ _ h => h) (by rfl) hHeld ?_ ?_; rotate_left; focus (intro w hSw; ((try dsimp only at hSw)); go_simp; all_goals with_reducible rfl))); (try simp only [Act.put]); (try simp only [List.setIfInBounds_toArray]); (try simp only [List.set_cons_succ]); (try simp only [List.set_cons_zero]))
  refine wpAnyH_ready (rs := [25]) (fuel := 0) (by kernel_rfl) (by simp) ?_
  refine AllReadyH.cons (i := 25) rfl (fun K hK => ?_) AllReadyH.nil
  go_simp
  refine (HT.out _).mono ?_
  rintro e wq ⟨rfl, rfl⟩
  refine hK.out _ _ (HT5.out.step.blk.cell 0) (fun hHeld => ?_)
  clear hK K
  try dsimp only [Act.put]
  refine wpAnyH_done (by kernel_rfl) ?_ _
  clear hHeld
  go_wp2_with (first | fail)
  go_end0
  exact HT5.out.done rfl
end Go.Proofs.YtlmfmioljeppfaaGreatDoor
namespace Go.Proofs.YtlmfmioljeppfaaGreatDoor
open Go.RowKit Go.Shelf Go.Lib
theorem tyText_word {x : Ty} : tyText x ≠ [78] ∧ tyText x ≠ [84] := by cases x <;> simp [tyText]
theorem kindR_ty {cs : List Class} {k : Str} {x : Ty} (hx : tyText x = lst k) (hn : nameOk x = true) (hd : deepTy x ≤ 3) (hg : goodTy cs x = true) : kindR cs k = 0 := by
  unfold kindR
  rw [← hx, if_neg (by rintro (h | h); exact tyText_word.1 h; exact tyText_word.2 h), typeB_text hn hd, if_neg (by decide), classIn_ty hn hd]
  rcases good_base x hg with h | h
  · rw [h]; rfl
  · rw [if_pos h]
    split <;> rfl
theorem kindR_type {cs : List Class} {k : Str} {x : Ty} (hx : tyText x = lst k) (h : kindR cs k = 0) : TyText k x ∧ goodTy cs x = true := by
  have hT : TyText k x := by
    unfold kindR at h
    rw [if_neg (by rw [← hx]; rintro (h | h); exact tyText_word.1 h; exact tyText_word.2 h)] at h
    split at h
    · cases h
    · rename_i ht
      obtain ⟨y, hy⟩ := ty_of_type (t := k) (by simpa using ht)
      have := tyText_inj (hy.text.trans hx.symm)
      subst this
      exact hy
  obtain ⟨X, hX, hg⟩ := kind_of h
  have : X = .ty x := kdText_inj (hX.trans hx.symm)
  subst this
  exact ⟨hT, hg⟩
theorem kindR_tail {cs : List Class} {k : Str} {e : Ty} (hx : tyText (.ar e) = lst k) (h : kindR cs k = 0) : kindR cs (k.extract 1 k.size) = 0 := by
  obtain ⟨hT, hg⟩ := kindR_type hx h
  have hd := hT.deep
  exact kindR_ty (tail_text hx).1 hT.name (by unfold deepTy at hd; omega) hg
theorem popR_spec {S S' : List Str} {k : Str} (h : popR S = some (k, S')) : popS S = some (k, S') ∧ refNB (kdOf k) = true := by
  unfold popR at h
  cases hp : popS S with
  | none => rw [hp] at h; cases h
  | some p =>
    obtain ⟨k1, S1⟩ := p
    rw [hp, Option.bind_some] at h
    dsimp only at h
    split at h
    · rename_i hr
      injection h with h
      injection h with h1 h2
      subst h1 h2
      exact ⟨rfl, hr⟩
    · cases h
theorem arrOk_n {cs : List Class} {k t : Str} (h : kdOf k = .n) : arrOk cs k t = true := by unfold arrOk; rw [h]
theorem arrOk_c {cs : List Class} {k t c : Str} (h : kdOf k = .ty (.cl c)) : arrOk cs k t = false := by unfold arrOk; rw [h]
theorem arrOk_a {cs : List Class} {k t m : Str} {e : Ty} (h : kdOf k = .ty (.ar e)) (g : kdOf m = .ty e) : arrOk cs k t = (fitsKd cs (kdOf m) (kdOf t) && (isRef e == refK (kdOf t))) := by unfold arrOk; rw [h, g]
set_option maxHeartbeats 1000000 in
set_option maxRecDepth 100000 in
theorem array_any (w0 w : World) (B : Nat) (l : List Class) (base : Nat) (ws : World) (hE : Env w0 w B l base ws) (sb : Nat) (from' gives : Str) (lv sv : Value) (L S : List Str) (h : StepAt base ws sb B from' gives lv sv L S) (hS : Known (allC l) S) (xb : Nat) (xv : List Value) (hb : Blk ws xb 24 xv) (hx : Apart sb lv sv xb) (t : Str) (ht : t.size ≤ maxLen) :
    Calls Tryz.prog 146 #[.pointer (some ⟨sb, 0, none⟩), .string t] ws (StepRun base ws sb B from' gives lv sv ((arrayF (allC l) t S).map fun S' => (.tuple #[], L, S'))) := by
  have T0 : SA w0 w B l base ws lv sv sb from' gives xb xv ws lv sv L S := ⟨hE, h, hb, hx, Below.refl _ _, Kp.below (Below.refl _ _)⟩
  unfold arrayF
  by_cases hk : kindR (allC l) t = 0
  · rw [if_neg (by rw [hk]; decide)]
    cases hq1 : takeS (allC l) [kI] S with
    | none =>
      rw [Option.bind_none, Option.map_none]
      unfold kI at hq1
      go_enter Tryz.func146, Tryz.ntmps146
      go_wp2_with (first
        | (go_at_call 143; (with_reducible refine (T0.knowsY t ht hk).mono ?_); rintro e w1 hP; obtain ⟨hB1, rfl, lv1, sv1, hS1, hk1⟩ := hP.ok'; (have T1 := T0.next hB1 hS1 hk1); (have T1a := T1.alloc (.cells #[.string ⟨#[73]⟩] 9)))
        | (go_at_call 139; (with_reducible refine (T1.takeON hS ⟨#[73]⟩ (k1_le _) _ (by simp) hq1).mono ?_); rintro e w2 hP; obtain ⟨hB2, rfl⟩ := hP.no'))
      exact And.intro rfl (T1a.stop hB2 rfl)
    | some S1 =>
      rw [Option.bind_some]
      have hN1 := takeS_known hq1 hS
      cases hq2 : popR S1 with
      | none =>
        rw [Option.bind_none, Option.map_none]
        unfold kI at hq1
        go_enter Tryz.func146, Tryz.ntmps146
        go_wp2_with (first
          | (go_at_call 143; (with_reducible refine (T0.knowsY t ht hk).mono ?_); rintro e w1 hP; obtain ⟨hB1, rfl, lv1, sv1, hS1, hk1⟩ := hP.ok'; (have T1 := T0.next hB1 hS1 hk1); (have T1a := T1.alloc (.cells #[.string ⟨#[73]⟩] 9)))
          | (go_at_call 139; (with_reducible refine (T1.takeOY hS ⟨#[73]⟩ (k1_le _) _ (by simp) hq1).mono ?_); rintro e w2 hP; obtain ⟨hB2, rfl, lv2, sv2, hS2, hk2⟩ := hP.ok'; (have T2 := T1a.next hB2 hS2 hk2))
          | (go_at_call 141; (with_reducible refine (T2.refN hN1 hq2).mono ?_); rintro e w3 hP; obtain ⟨hB3, rfl⟩ := hP.no'))
        exact And.intro rfl (T2.stop hB3 rfl)
      | some p =>
        obtain ⟨k, S2⟩ := p
        rw [Option.bind_some]
        dsimp only
        obtain ⟨hp, hr⟩ := popR_spec hq2
        obtain ⟨hkk, _⟩ := popS_known hp hN1
        obtain ⟨X, hX, _⟩ := kind_of hkk
        have hn := kd_is hX .n
        rw [show kdText Kd.n = [78] from rfl] at hn
        have hXe := kdOf_text hX
        rw [hXe] at hr
        cases X with
        | n =>
          rw [decide_eq_true rfl] at hn
          rw [arrOk_n hXe]
          exact array_n w0 w B l base ws sb from' gives lv sv L S hS xb xv T0 t k ht hk S1 S2 hq1 hq2 hn
        | t => cases hr
        | ty x =>
          rw [decide_eq_false (by intro h; cases h)] at hn
          have hpos : 0 < k.size := by
            have h1 : (lst k).length = k.size := rfl
            have h2 : lst k = tyText x := hX.symm
            rw [← h1, h2]
            cases x <;> simp [tyText]
          have hf := kd_arr (k := k) (x := x) hX hpos
          cases x with
          | i => cases hr
          | j => cases hr
          | cl c =>
            rw [arrOk_c hXe]
            exact array_c w0 w B l base ws sb from' gives lv sv L S hS xb xv T0 t k ht hk S1 S2 hq1 hq2 hn hpos hf
          | ar e =>
            obtain ⟨ht1, _, hs1⟩ := tail_text hX
            have hk1 := kindR_tail hX hkk
            have hd1 : kdOf (k.extract 1 k.size) = .ty e := kdOf_text (x := .ty e) ht1
            rw [arrOk_a hXe hd1]
            cases hd : fitsKd (allC l) (kdOf (k.extract 1 k.size)) (kdOf t) with
            | false =>
              rw [Bool.false_and, if_neg (by decide)]
              exact array_f w0 w B l base ws sb from' gives lv sv L S hS xb xv T0 t k ht hk S1 S2 hq1 hq2 hn hpos hf (by omega) hk1 hd
            | true =>
              rw [Bool.true_and]
              obtain ⟨Y, hY, _⟩ := kind_of hk
              have hU : ∀ wx, _ := fun wx => refs_any (k.extract 1 k.size) (.ty e) wx ht1
              have hV : ∀ wx, _ := fun wx => refs_any t Y wx hY
              rw [show refK (.ty e) = isRef e from rfl] at hU
              rw [kdOf_text hY]
              cases hu : isRef e <;> cases hv : refK Y <;> rw [hu] at hU <;> rw [hv] at hV
              · exact array_ff w0 w B l base ws sb from' gives lv sv L S hS xb xv T0 t k ht hk S1 S2 hq1 hq2 hn hpos hf (by omega) hk1 hd hU hV
              · exact array_ft w0 w B l base ws sb from' gives lv sv L S hS xb xv T0 t k ht hk S1 S2 hq1 hq2 hn hpos hf (by omega) hk1 hd hU hV
              · exact array_tf w0 w B l base ws sb from' gives lv sv L S hS xb xv T0 t k ht hk S1 S2 hq1 hq2 hn hpos hf (by omega) hk1 hd hU hV
              · exact array_tt w0 w B l base ws sb from' gives lv sv L S hS xb xv T0 t k ht hk S1 S2 hq1 hq2 hn hpos hf (by omega) hk1 hd hU hV
  · rw [if_pos hk, Option.map_none]
    go_enter Tryz.func146, Tryz.ntmps146
    go_wp2_with (first
      | (go_at_call 143; (with_reducible refine (T0.knowsN t ht hk).mono ?_); rintro e w1 hP; obtain ⟨hB1, rfl⟩ := hP.no'))
    exact And.intro rfl (T0.stop hB1 rfl)
end Go.Proofs.YtlmfmioljeppfaaGreatDoor
namespace Go.Proofs.YtlmfmioljeppfaaGreatDoor
open Go.RowKit Go.Shelf Go.Lib
def knK {α : Type} (cs : List Class) (t : Str) (o : Option α) : Option α := if kindR cs t ≠ 0 then none else o
theorem knK_no {α : Type} {cs : List Class} {t : Str} {o : Option α} (h : ¬ kindR cs t = 0) : knK cs t o = none := by unfold knK; rw [if_pos h]
theorem knK_yes {α : Type} {cs : List Class} {t : Str} {o : Option α} (h : ¬ ¬ kindR cs t = 0) : knK cs t o = o := by unfold knK; rw [if_neg h]
def lenOk (k : Str) : Bool := (k.toList == [78]) || Lib.hasPrefix k.toList [91]
def newF (cs : List Class) (cls : Str) (L S : List Str) : Option (List Str × List Str) := if (classC cs cls).face = true then none else putL L S (thText cls)
def heapedF (cs : List Class) (from' : Str) (x : Ins) (L S : List Str) : Option (List Str × List Str) :=
  if x.op = 15 then knK cs (thText x.cls) (newF cs x.cls L S)
  else if x.op = 16 then (fieldF cs x.cls x.name).bind fun t => (takeS cs [thText x.cls] S).bind fun S1 => putL L S1 t
  else if x.op = 17 then (fieldF cs x.cls x.name).bind fun t => (takeS cs [t, thText x.cls] S).map fun S1 => (L, S1)
  else if x.op = 18 then knK cs x.type ((takeS cs [kI] S).bind fun S1 => putL L S1 (arText x.type))
  else if x.op = 19 then (popR S).bind fun p => if lenOk p.1 = true then putL L p.2 kI else none
  else if x.op = 20 then (arrayF cs x.type S).bind fun S1 => putL L S1 x.type
  else if x.op = 21 then knK cs x.type ((takeS cs [x.type] S).bind fun S1 => (arrayF cs x.type S1).map fun S2 => (L, S2))
  else if x.op = 22 then knK cs x.type ((popR S).bind fun p => putL L p.2 x.type)
  else if x.op = 23 then knK cs x.type ((popR S).bind fun p => putL L p.2 kI)
  else if x.op = 24 then callF cs from' x.cls x.name x.type false L S
  else if x.op = 25 then callF cs from' x.cls x.name x.type true L S
  else some (L, S)
theorem arrayF_known {cs : List Class} {t : Str} {S S' : List Str} (h : arrayF cs t S = some S') (hk : Known cs S) : Known cs S' := by
  unfold arrayF at h
  split at h
  · cases h
  · cases hq : takeS cs [kI] S with
    | none => rw [hq] at h; cases h
    | some S1 =>
      rw [hq, Option.bind_some] at h
      cases hp : popR S1 with
      | none => rw [hp] at h; cases h
      | some p =>
        obtain ⟨k, S2⟩ := p
        rw [hp, Option.bind_some] at h
        dsimp only at h
        split at h
        · injection h with h
          subst h
          exact (popS_known (popR_spec hp).1 (takeS_known hq hk)).2
        · cases h
variable {w0 w : World} {B : Nat} {l : List Class} {base : Nat} {ws : World} {lv0 sv0 : Value} {sb : Nat} {from' gives : Str} {xb : Nat} {xv : List Value} {wx : World} {lv sv : Value} {L S : List Str}
theorem SA.arrayN (T : SA w0 w B l base ws lv0 sv0 sb from' gives xb xv wx lv sv L S) (hS : Known (allC l) S) (t : Str) (ht : t.size ≤ maxLen) (hq : arrayF (allC l) t S = none) : Calls Tryz.prog 146 #[.pointer (some ⟨sb, 0, none⟩), .string t] wx (StepRun base wx sb B from' gives lv sv none) := by
  have h := array_any w0 w B l base wx T.env sb from' gives lv sv L S T.step hS xb xv T.box T.apart t ht
  rw [hq] at h
  exact h
theorem SA.arrayY (T : SA w0 w B l base ws lv0 sv0 sb from' gives xb xv wx lv sv L S) (hS : Known (allC l) S) (t : Str) (ht : t.size ≤ maxLen) {S' : List Str} (hq : arrayF (allC l) t S = some S') : Calls Tryz.prog 146 #[.pointer (some ⟨sb, 0, none⟩), .string t] wx (StepRun base wx sb B from' gives lv sv (some (.tuple #[], L, S'))) := by
  have h := array_any w0 w B l base wx T.env sb from' gives lv sv L S T.step hS xb xv T.box T.apart t ht
  rw [hq] at h
  exact h
theorem SA.fieldN (T : SA w0 w B l base ws lv0 sv0 sb from' gives xb xv wx lv sv L S) (op a b : Int) (type cls name : Str) (hc : cls.size ≤ 1048576) (hq : fieldF (allC l) cls name = none) : Calls Tryz.prog 144 #[.pointer (some ⟨sb, 0, none⟩), .agg #[.int .i64 op, .int .i64 a, .int .i64 b, .string type, .string cls, .string name]] wx (StepRun base wx sb B from' gives lv sv none) := by
  have h := field_any w0 w B l base wx T.env sb from' gives lv sv L S T.step op a b type cls name hc
  rw [hq] at h
  exact h
theorem SA.fieldY (T : SA w0 w B l base ws lv0 sv0 sb from' gives xb xv wx lv sv L S) (op a b : Int) (type cls name : Str) (hc : cls.size ≤ 1048576) {t : Str} (hq : fieldF (allC l) cls name = some t) : Calls Tryz.prog 144 #[.pointer (some ⟨sb, 0, none⟩), .agg #[.int .i64 op, .int .i64 a, .int .i64 b, .string type, .string cls, .string name]] wx (StepRun base wx sb B from' gives lv sv (some (.string t, L, S))) := by
  have h := field_any w0 w B l base wx T.env sb from' gives lv sv L S T.step op a b type cls name hc
  rw [hq] at h
  exact h
theorem fieldF_known {cs : List Class} {c n t : Str} (h : fieldF cs c n = some t) : kindR cs (thText c) = 0 ∧ kindR cs t = 0 := by
  unfold fieldF at h
  split at h
  · cases h
  · rename_i h0
    refine ⟨Decidable.not_not.1 h0, ?_⟩
    cases hf : fieldC cs c n with
    | none => rw [hf] at h; cases h
    | some p =>
      obtain ⟨d, f⟩ := p
      rw [hf] at h
      dsimp only at h
      split at h
      · rename_i hk
        injection h with h
        subst h
        exact hk
      · cases h
end Go.Proofs.YtlmfmioljeppfaaGreatDoor
namespace Go.Proofs.YtlmfmioljeppfaaGreatDoor
open Go.RowKit Go.Shelf Go.Lib
set_option maxHeartbeats 2000000 in
set_option maxRecDepth 100000 in
theorem heaped_16 (w0 w : World) (B : Nat) (l : List Class) (base : Nat) (ws : World) (hE : Env w0 w B l base ws) (sb : Nat) (from' gives : Str) (lv sv : Value) (L S : List Str) (h : StepAt base ws sb B from' gives lv sv L S) (hS : Known (allC l) S) (a b : Int) (type cls name : Str) (_hty : type.size ≤ 1048576) (hc : cls.size ≤ 1048576) (_hfr : from'.size ≤ maxLen) :
    Calls Tryz.prog 102 #[.pointer (some ⟨sb, 0, none⟩), .agg #[.int .i64 16, .int .i64 a, .int .i64 b, .string type, .string cls, .string name]] ws (StepRun base ws sb B from' gives lv sv (unitS ((fieldF (allC l) cls name).bind fun t => (takeS (allC l) [thText cls] S).bind fun S1 => putL L S1 t))) := by
  have T0 : SA w0 w B l base ws lv sv sb from' gives ws.heap.size [.int .i64 16, .int .i64 a, .int .i64 b, .string type, .string cls, .string name] (ws.alloc (.cells #[.int .i64 16, .int .i64 a, .int .i64 b, .string type, .string cls, .string name] 24)) lv sv L S := SA.new hE h _
  obtain ⟨i0, i1, i2, i3, i4, i5⟩ := T0.cells
  obtain ⟨res, hres⟩ : ∃ r, unitS ((fieldF (allC l) cls name).bind fun t => (takeS (allC l) [thText cls] S).bind fun S1 => putL L S1 t) = r := ⟨_, rfl⟩
  have HR := Lib.hid hres
  rw [hres]
  have HTh : Hid (∀ wx, _) := fun wx => thing_any cls wx (Nat.le_trans hc (by decide))
  have hth : (thText cls).size ≤ maxLen := by rw [th_size]; exact Nat.le_trans (Nat.add_le_add_right hc 2) (by decide)
  clear hres hE h
  go_enter Tryz.func102, Tryz.ntmps102
  go_wp2_with (first
    | (go_at_call 144; rcases hq0 : fieldF (allC l) cls name with _ | tf; (with_reducible refine (T0.fieldN 16 a b type cls name hc hq0).mono ?_); (rintro e w1 hP; obtain ⟨hB, rfl⟩ := hP.no'; exact And.intro rfl (T0.stop hB (HR.out.symm.trans (unitS_none (ob_none hq0))))); (with_reducible refine (T0.fieldY 16 a b type cls name hc hq0).mono ?_); rintro e w1 hP; obtain ⟨hB1, rfl, lv1, sv1, hS1, hk1⟩ := hP.ok'; (have T1 := T0.next hB1 hS1 hk1); obtain ⟨i0, i1, i2, i3, i4, i5⟩ := T1.cells)
    | (go_at_call 139; (have T1a := T1.alloc (.cells #[.string (thText cls)] 9)); rcases hq1 : takeS (allC l) [(thText cls)] S with _ | S2; (with_reducible refine (T1.takeON hS (thText cls) hth _ (by simp) hq1).mono ?_); (rintro e w2 hP; obtain ⟨hB, rfl⟩ := hP.no'; exact And.intro rfl (T1a.stop hB (HR.out.symm.trans (unitS_none ((ob_some hq0).trans (ob_none hq1)))))); (with_reducible refine (T1.takeOY hS (thText cls) hth _ (by simp) hq1).mono ?_); rintro e w2 hP; obtain ⟨hB2, rfl, lv2, sv2, hS2, hk2⟩ := hP.ok'; (have T2 := T1a.next hB2 hS2 hk2); (have hN2 := takeS_known hq1 hS); obtain ⟨i0, i1, i2, i3, i4, i5⟩ := T2.cells)
    | (go_at_call 136; rcases hq2 : putS S2 tf with _ | S3; (with_reducible refine (T2.putN tf hq2).mono ?_); (rintro e w3 hP; obtain ⟨hB, rfl⟩ := hP.no'; exact And.intro rfl (T2.stop hB (HR.out.symm.trans (unitS_none ((ob_some hq0).trans ((ob_some hq1).trans (putL_none hq2))))))); (with_reducible refine (T2.putY tf hq2).mono ?_); rintro e w3 hP; obtain ⟨hB3, rfl, lv3, sv3, hS3, hk3⟩ := hP.ok'; (have T3 := T2.next hB3 hS3 hk3); obtain ⟨i0, i1, i2, i3, i4, i5⟩ := T3.cells)
    | (go_at_call 142; (with_reducible refine (HTh.out _).mono ?_); rintro e wq ⟨rfl, rfl⟩))
  go_end0
  exact T3.done (HR.out.symm.trans (unitS_some ((ob_some hq0).trans ((ob_some hq1).trans (putL_some hq2)))))
set_option maxHeartbeats 2000000 in
set_option maxRecDepth 100000 in
theorem heaped_18 (w0 w : World) (B : Nat) (l : List Class) (base : Nat) (ws : World) (hE : Env w0 w B l base ws) (sb : Nat) (from' gives : Str) (lv sv : Value) (L S : List Str) (h : StepAt base ws sb B from' gives lv sv L S) (hS : Known (allC l) S) (a b : Int) (type cls name : Str) (hty : type.size ≤ 1048576) (_hc : cls.size ≤ 1048576) (_hfr : from'.size ≤ maxLen) :
    Calls Tryz.prog 102 #[.pointer (some ⟨sb, 0, none⟩), .agg #[.int .i64 18, .int .i64 a, .int .i64 b, .string type, .string cls, .string name]] ws (StepRun base ws sb B from' gives lv sv (unitS (knK (allC l) type ((takeS (allC l) [kI] S).bind fun S1 => putL L S1 (arText type))))) := by
  have T0 : SA w0 w B l base ws lv sv sb from' gives ws.heap.size [.int .i64 18, .int .i64 a, .int .i64 b, .string type, .string cls, .string name] (ws.alloc (.cells #[.int .i64 18, .int .i64 a, .int .i64 b, .string type, .string cls, .string name] 24)) lv sv L S := SA.new hE h _
  obtain ⟨i0, i1, i2, i3, i4, i5⟩ := T0.cells
  obtain ⟨res, hres⟩ : ∃ r, unitS (knK (allC l) type ((takeS (allC l) [kI] S).bind fun S1 => putL L S1 (arText type))) = r := ⟨_, rfl⟩
  have HR := Lib.hid hres
  rw [hres]
  have hml : type.size ≤ maxLen := Nat.le_trans hty (by decide)
  unfold kI at *
  have hcat : (⟨#[91]⟩ : Str) ++ type = arText type := rfl
  clear hres hE h
  go_enter Tryz.func102, Tryz.ntmps102
  go_wp2_with (first
    | (go_at_call 143; by_cases hq0 : ¬ kindR (allC l) type = 0; (with_reducible refine (T0.knowsN type hml hq0).mono ?_); (rintro e w1 hP; obtain ⟨hB, rfl⟩ := hP.no'; exact And.intro rfl (T0.stop hB (HR.out.symm.trans (unitS_none (knK_no hq0))))); (with_reducible refine (T0.knowsY type hml (Decidable.not_not.1 hq0)).mono ?_); rintro e w1 hP; obtain ⟨hB1, rfl, lv1, sv1, hS1, hk1⟩ := hP.ok'; (have T1 := T0.next hB1 hS1 hk1); obtain ⟨i0, i1, i2, i3, i4, i5⟩ := T1.cells)
    | (go_at_call 139; (have T1a := T1.alloc (.cells #[.string ⟨#[73]⟩] 9)); rcases hq1 : takeS (allC l) [⟨#[73]⟩] S with _ | S2; (with_reducible refine (T1.takeON hS ⟨#[73]⟩ (k1_le _) _ (by simp) hq1).mono ?_); (rintro e w2 hP; obtain ⟨hB, rfl⟩ := hP.no'; exact And.intro rfl (T1a.stop hB (HR.out.symm.trans (unitS_none ((knK_yes hq0).trans (ob_none hq1)))))); (with_reducible refine (T1.takeOY hS ⟨#[73]⟩ (k1_le _) _ (by simp) hq1).mono ?_); rintro e w2 hP; obtain ⟨hB2, rfl, lv2, sv2, hS2, hk2⟩ := hP.ok'; (have T2 := T1a.next hB2 hS2 hk2); (have hN2 := takeS_known hq1 hS); obtain ⟨i0, i1, i2, i3, i4, i5⟩ := T2.cells)
    | (go_at_call 136; rcases hq2 : putS S2 (arText type) with _ | S3; (with_reducible refine (T2.putN (arText type) hq2).mono ?_); (rintro e w3 hP; obtain ⟨hB, rfl⟩ := hP.no'; exact And.intro rfl (T2.stop hB (HR.out.symm.trans (unitS_none ((knK_yes hq0).trans ((ob_some hq1).trans (putL_none hq2))))))); (with_reducible refine (T2.putY (arText type) hq2).mono ?_); rintro e w3 hP; obtain ⟨hB3, rfl, lv3, sv3, hS3, hk3⟩ := hP.ok'; (have T3 := T2.next hB3 hS3 hk3); obtain ⟨i0, i1, i2, i3, i4, i5⟩ := T3.cells))
  go_end0
  exact T3.done (HR.out.symm.trans (unitS_some ((knK_yes hq0).trans ((ob_some hq1).trans (putL_some hq2)))))
set_option maxHeartbeats 2000000 in
set_option maxRecDepth 100000 in
theorem heaped_20 (w0 w : World) (B : Nat) (l : List Class) (base : Nat) (ws : World) (hE : Env w0 w B l base ws) (sb : Nat) (from' gives : Str) (lv sv : Value) (L S : List Str) (h : StepAt base ws sb B from' gives lv sv L S) (hS : Known (allC l) S) (a b : Int) (type cls name : Str) (hty : type.size ≤ 1048576) (_hc : cls.size ≤ 1048576) (_hfr : from'.size ≤ maxLen) :
    Calls Tryz.prog 102 #[.pointer (some ⟨sb, 0, none⟩), .agg #[.int .i64 20, .int .i64 a, .int .i64 b, .string type, .string cls, .string name]] ws (StepRun base ws sb B from' gives lv sv (unitS ((arrayF (allC l) type S).bind fun S1 => putL L S1 type))) := by
  have T0 : SA w0 w B l base ws lv sv sb from' gives ws.heap.size [.int .i64 20, .int .i64 a, .int .i64 b, .string type, .string cls, .string name] (ws.alloc (.cells #[.int .i64 20, .int .i64 a, .int .i64 b, .string type, .string cls, .string name] 24)) lv sv L S := SA.new hE h _
  obtain ⟨i0, i1, i2, i3, i4, i5⟩ := T0.cells
  obtain ⟨res, hres⟩ : ∃ r, unitS ((arrayF (allC l) type S).bind fun S1 => putL L S1 type) = r := ⟨_, rfl⟩
  have HR := Lib.hid hres
  rw [hres]
  have hml : type.size ≤ maxLen := Nat.le_trans hty (by decide)
  clear hres hE h
  go_enter Tryz.func102, Tryz.ntmps102
  go_wp2_with (first
    | (go_at_call 146; rcases hq0 : arrayF (allC l) type S with _ | S1; (with_reducible refine (T0.arrayN hS type hml hq0).mono ?_); (rintro e w1 hP; obtain ⟨hB, rfl⟩ := hP.no'; exact And.intro rfl (T0.stop hB (HR.out.symm.trans (unitS_none (ob_none hq0))))); (with_reducible refine (T0.arrayY hS type hml hq0).mono ?_); rintro e w1 hP; obtain ⟨hB1, rfl, lv1, sv1, hS1, hk1⟩ := hP.ok'; (have T1 := T0.next hB1 hS1 hk1); (have hN1 := arrayF_known hq0 hS); obtain ⟨i0, i1, i2, i3, i4, i5⟩ := T1.cells)
    | (go_at_call 136; rcases hq1 : putS S1 type with _ | S2; (with_reducible refine (T1.putN type hq1).mono ?_); (rintro e w2 hP; obtain ⟨hB, rfl⟩ := hP.no'; exact And.intro rfl (T1.stop hB (HR.out.symm.trans (unitS_none ((ob_some hq0).trans (putL_none hq1)))))); (with_reducible refine (T1.putY type hq1).mono ?_); rintro e w2 hP; obtain ⟨hB2, rfl, lv2, sv2, hS2, hk2⟩ := hP.ok'; (have T2 := T1.next hB2 hS2 hk2); obtain ⟨i0, i1, i2, i3, i4, i5⟩ := T2.cells))
  go_end0
  exact T2.done (HR.out.symm.trans (unitS_some ((ob_some hq0).trans (putL_some hq1))))
set_option maxHeartbeats 2000000 in
set_option maxRecDepth 100000 in
theorem heaped_21 (w0 w : World) (B : Nat) (l : List Class) (base : Nat) (ws : World) (hE : Env w0 w B l base ws) (sb : Nat) (from' gives : Str) (lv sv : Value) (L S : List Str) (h : StepAt base ws sb B from' gives lv sv L S) (hS : Known (allC l) S) (a b : Int) (type cls name : Str) (hty : type.size ≤ 1048576) (_hc : cls.size ≤ 1048576) (_hfr : from'.size ≤ maxLen) :
    Calls Tryz.prog 102 #[.pointer (some ⟨sb, 0, none⟩), .agg #[.int .i64 21, .int .i64 a, .int .i64 b, .string type, .string cls, .string name]] ws (StepRun base ws sb B from' gives lv sv (unitS (knK (allC l) type ((takeS (allC l) [type] S).bind fun S1 => (arrayF (allC l) type S1).map fun S2 => (L, S2))))) := by
  have T0 : SA w0 w B l base ws lv sv sb from' gives ws.heap.size [.int .i64 21, .int .i64 a, .int .i64 b, .string type, .string cls, .string name] (ws.alloc (.cells #[.int .i64 21, .int .i64 a, .int .i64 b, .string type, .string cls, .string name] 24)) lv sv L S := SA.new hE h _
  obtain ⟨i0, i1, i2, i3, i4, i5⟩ := T0.cells
  obtain ⟨res, hres⟩ : ∃ r, unitS (knK (allC l) type ((takeS (allC l) [type] S).bind fun S1 => (arrayF (allC l) type S1).map fun S2 => (L, S2))) = r := ⟨_, rfl⟩
  have HR := Lib.hid hres
  rw [hres]
  have hml : type.size ≤ maxLen := Nat.le_trans hty (by decide)
  clear hres hE h
  go_enter Tryz.func102, Tryz.ntmps102
  go_wp2_with (first
    | (go_at_call 143; by_cases hq0 : ¬ kindR (allC l) type = 0; (with_reducible refine (T0.knowsN type hml hq0).mono ?_); (rintro e w1 hP; obtain ⟨hB, rfl⟩ := hP.no'; exact And.intro rfl (T0.stop hB (HR.out.symm.trans (unitS_none (knK_no hq0))))); (with_reducible refine (T0.knowsY type hml (Decidable.not_not.1 hq0)).mono ?_); rintro e w1 hP; obtain ⟨hB1, rfl, lv1, sv1, hS1, hk1⟩ := hP.ok'; (have T1 := T0.next hB1 hS1 hk1); obtain ⟨i0, i1, i2, i3, i4, i5⟩ := T1.cells)
    | (go_at_call 139; (have T1a := T1.alloc (.cells #[.string type] 9)); rcases hq1 : takeS (allC l) [type] S with _ | S2; (with_reducible refine (T1.takeON hS type hml _ (by simp) hq1).mono ?_); (rintro e w2 hP; obtain ⟨hB, rfl⟩ := hP.no'; exact And.intro rfl (T1a.stop hB (HR.out.symm.trans (unitS_none ((knK_yes hq0).trans (ob_none hq1)))))); (with_reducible refine (T1.takeOY hS type hml _ (by simp) hq1).mono ?_); rintro e w2 hP; obtain ⟨hB2, rfl, lv2, sv2, hS2, hk2⟩ := hP.ok'; (have T2 := T1a.next hB2 hS2 hk2); (have hN2 := takeS_known hq1 hS); obtain ⟨i0, i1, i2, i3, i4, i5⟩ := T2.cells)
    | (go_at_call 146; rcases hq2 : arrayF (allC l) type S2 with _ | S3; (with_reducible refine (T2.arrayN hN2 type hml hq2).mono ?_); (rintro e w3 hP; obtain ⟨hB, rfl⟩ := hP.no'; exact And.intro rfl (T2.stop hB (HR.out.symm.trans (unitS_none ((knK_yes hq0).trans ((ob_some hq1).trans (om_none hq2))))))); (with_reducible refine (T2.arrayY hN2 type hml hq2).mono ?_); rintro e w3 hP; obtain ⟨hB3, rfl, lv3, sv3, hS3, hk3⟩ := hP.ok'; (have T3 := T2.next hB3 hS3 hk3); (have hN3 := arrayF_known hq2 hN2); obtain ⟨i0, i1, i2, i3, i4, i5⟩ := T3.cells))
  go_end0
  exact T3.done (HR.out.symm.trans (unitS_some ((knK_yes hq0).trans ((ob_some hq1).trans (om_some hq2)))))
set_option maxHeartbeats 2000000 in
set_option maxRecDepth 100000 in
theorem heaped_22 (w0 w : World) (B : Nat) (l : List Class) (base : Nat) (ws : World) (hE : Env w0 w B l base ws) (sb : Nat) (from' gives : Str) (lv sv : Value) (L S : List Str) (h : StepAt base ws sb B from' gives lv sv L S) (hS : Known (allC l) S) (a b : Int) (type cls name : Str) (hty : type.size ≤ 1048576) (_hc : cls.size ≤ 1048576) (_hfr : from'.size ≤ maxLen) :
    Calls Tryz.prog 102 #[.pointer (some ⟨sb, 0, none⟩), .agg #[.int .i64 22, .int .i64 a, .int .i64 b, .string type, .string cls, .string name]] ws (StepRun base ws sb B from' gives lv sv (unitS (knK (allC l) type ((popR S).bind fun p => putL L p.2 type)))) := by
  have T0 : SA w0 w B l base ws lv sv sb from' gives ws.heap.size [.int .i64 22, .int .i64 a, .int .i64 b, .string type, .string cls, .string name] (ws.alloc (.cells #[.int .i64 22, .int .i64 a, .int .i64 b, .string type, .string cls, .string name] 24)) lv sv L S := SA.new hE h _
  obtain ⟨i0, i1, i2, i3, i4, i5⟩ := T0.cells
  obtain ⟨res, hres⟩ : ∃ r, unitS (knK (allC l) type ((popR S).bind fun p => putL L p.2 type)) = r := ⟨_, rfl⟩
  have HR := Lib.hid hres
  rw [hres]
  have hml : type.size ≤ maxLen := Nat.le_trans hty (by decide)
  clear hres hE h
  go_enter Tryz.func102, Tryz.ntmps102
  go_wp2_with (first
    | (go_at_call 143; by_cases hq0 : ¬ kindR (allC l) type = 0; (with_reducible refine (T0.knowsN type hml hq0).mono ?_); (rintro e w1 hP; obtain ⟨hB, rfl⟩ := hP.no'; exact And.intro rfl (T0.stop hB (HR.out.symm.trans (unitS_none (knK_no hq0))))); (with_reducible refine (T0.knowsY type hml (Decidable.not_not.1 hq0)).mono ?_); rintro e w1 hP; obtain ⟨hB1, rfl, lv1, sv1, hS1, hk1⟩ := hP.ok'; (have T1 := T0.next hB1 hS1 hk1); obtain ⟨i0, i1, i2, i3, i4, i5⟩ := T1.cells)
    | (go_at_call 141; rcases hq1 : popR S with _ | ⟨k1, S2⟩; (with_reducible refine (T1.refN hS hq1).mono ?_); (rintro e w2 hP; obtain ⟨hB, rfl⟩ := hP.no'; exact And.intro rfl (T1.stop hB (HR.out.symm.trans (unitS_none ((knK_yes hq0).trans (ob_none hq1)))))); (with_reducible refine (T1.refY hS hq1).mono ?_); rintro e w2 hP; obtain ⟨hB2, rfl, lv2, sv2, hS2, hk2⟩ := hP.ok'; (have T2 := T1.next hB2 hS2 hk2); (have hN2 := (popS_known (popR_spec hq1).1 hS).2); obtain ⟨i0, i1, i2, i3, i4, i5⟩ := T2.cells)
    | (go_at_call 136; rcases hq2 : putS S2 type with _ | S3; (with_reducible refine (T2.putN type hq2).mono ?_); (rintro e w3 hP; obtain ⟨hB, rfl⟩ := hP.no'; exact And.intro rfl (T2.stop hB (HR.out.symm.trans (unitS_none ((knK_yes hq0).trans ((ob_some hq1).trans (putL_none hq2))))))); (with_reducible refine (T2.putY type hq2).mono ?_); rintro e w3 hP; obtain ⟨hB3, rfl, lv3, sv3, hS3, hk3⟩ := hP.ok'; (have T3 := T2.next hB3 hS3 hk3); obtain ⟨i0, i1, i2, i3, i4, i5⟩ := T3.cells))
  go_end0
  exact T3.done (HR.out.symm.trans (unitS_some ((knK_yes hq0).trans ((ob_some hq1).trans (putL_some hq2)))))
end Go.Proofs.YtlmfmioljeppfaaGreatDoor
namespace Go.Proofs.YtlmfmioljeppfaaGreatDoor
open Go.RowKit Go.Shelf Go.Lib
theorem SA.boxed {w0 w : World} {B : Nat} {l : List Class} {base : Nat} {ws : World} {lv0 sv0 : Value} {sb : Nat} {from' gives : Str} {xb : Nat} {xv : List Value} {wx : World} {lv sv : Value} {L S : List Str} (T : SA w0 w B l base ws lv0 sv0 sb from' gives xb xv wx lv sv L S) (hb : ws.heap.size ≤ xb) (hbb : base ≤ xb) (j : Nat) (u : Value) : SA w0 w B l base ws lv0 sv0 sb from' gives xb (xv.set j u) (wx.setCell ⟨xb, j, none⟩ u) lv sv L S :=
  ⟨⟨T.env.map0, T.env.le, T.env.below.setCell (p := ⟨xb, j, none⟩) (Nat.le_trans T.env.le hbb) u⟩, T.step.aside T.apart j u, T.box.put j u, T.apart, T.below.setCell (p := ⟨xb, j, none⟩) hbb u, ⟨T.kp.1, fun g hg hga => ⟨(heap_setCell_other wx ⟨xb, j, none⟩ g u (by show g ≠ xb; omega)).trans (T.kp.2 g hg hga).1, (T.kp.2 g hg hga).2⟩⟩⟩
theorem call_any (w0 w : World) (B : Nat) (l : List Class) (base : Nat) (ws : World) (hE : Env w0 w B l base ws) (sb : Nat) (from' gives : Str) (lv sv : Value) (L S : List Str) (h : StepAt base ws sb B from' gives lv sv L S) (hS : Known (allC l) S) (op a b : Int) (type cls name : Str) (static : Bool) (hc : cls.size ≤ 1048576) (hfr : from'.size ≤ maxLen) (hty : type.size ≤ 1048576) :
    Calls Tryz.prog 147 #[.pointer (some ⟨sb, 0, none⟩), .agg #[.int .i64 op, .int .i64 a, .int .i64 b, .string type, .string cls, .string name], .bool static] ws (StepRun base ws sb B from' gives lv sv (unitS (callF (allC l) from' cls name type static L S))) := by
  unfold callF
  by_cases hf : callFault (allC l) from' cls name type static = 0
  · rw [if_neg (by rw [hf]; decide)]
    cases static with
    | true => exact call_s w0 w B l base ws hE sb from' gives lv sv L S h hS op a b type cls name hc hfr hty hf
    | false => exact call_v w0 w B l base ws hE sb from' gives lv sv L S h hS op a b type cls name hc hfr hty hf
  · rw [if_pos hf]
    exact call_no w0 w B l base ws hE sb from' gives lv sv L S h op a b type cls name static hc hfr hf
theorem SA.callN {w0 w : World} {B : Nat} {l : List Class} {base : Nat} {ws : World} {lv0 sv0 : Value} {sb : Nat} {from' gives : Str} {xb : Nat} {xv : List Value} {wx : World} {lv sv : Value} {L S : List Str} (T : SA w0 w B l base ws lv0 sv0 sb from' gives xb xv wx lv sv L S) (hS : Known (allC l) S) (op a b : Int) (type cls name : Str) (static : Bool) (hc : cls.size ≤ 1048576) (hfr : from'.size ≤ maxLen) (hty : type.size ≤ 1048576) (hq : callF (allC l) from' cls name type static L S = none) :
    Calls Tryz.prog 147 #[.pointer (some ⟨sb, 0, none⟩), .agg #[.int .i64 op, .int .i64 a, .int .i64 b, .string type, .string cls, .string name], .bool static] wx (StepRun base wx sb B from' gives lv sv none) := by
  have h := call_any w0 w B l base wx T.env sb from' gives lv sv L S T.step hS op a b type cls name static hc hfr hty
  rw [hq] at h
  exact h
theorem SA.callY {w0 w : World} {B : Nat} {l : List Class} {base : Nat} {ws : World} {lv0 sv0 : Value} {sb : Nat} {from' gives : Str} {xb : Nat} {xv : List Value} {wx : World} {lv sv : Value} {L S : List Str} (T : SA w0 w B l base ws lv0 sv0 sb from' gives xb xv wx lv sv L S) (hS : Known (allC l) S) (op a b : Int) (type cls name : Str) (static : Bool) (hc : cls.size ≤ 1048576) (hfr : from'.size ≤ maxLen) (hty : type.size ≤ 1048576) {L' S' : List Str} (hq : callF (allC l) from' cls name type static L S = some (L', S')) :
    Calls Tryz.prog 147 #[.pointer (some ⟨sb, 0, none⟩), .agg #[.int .i64 op, .int .i64 a, .int .i64 b, .string type, .string cls, .string name], .bool static] wx (StepRun base wx sb B from' gives lv sv (some (.tuple #[], L', S'))) := by
  have h := call_any w0 w B l base wx T.env sb from' gives lv sv L S T.step hS op a b type cls name static hc hfr hty
  rw [hq] at h
  exact h
set_option maxHeartbeats 2000000 in
set_option maxRecDepth 100000 in
theorem heaped_15n (w0 w : World) (B : Nat) (l : List Class) (base : Nat) (ws : World) (hE : Env w0 w B l base ws) (sb : Nat) (from' gives : Str) (lv sv : Value) (L S : List Str) (h : StepAt base ws sb B from' gives lv sv L S) (_hS : Known (allC l) S) (a b : Int) (type cls name : Str) (_hty : type.size ≤ 1048576) (hc : cls.size ≤ 1048576) (_hfr : from'.size ≤ maxLen) (hk : ¬ kindR (allC l) (thText cls) = 0) :
    Calls Tryz.prog 102 #[.pointer (some ⟨sb, 0, none⟩), .agg #[.int .i64 15, .int .i64 a, .int .i64 b, .string type, .string cls, .string name]] ws (StepRun base ws sb B from' gives lv sv (unitS (knK (allC l) (thText cls) (newF (allC l) cls L S)))) := by
  have T0 : SA w0 w B l base ws lv sv sb from' gives ws.heap.size [.int .i64 15, .int .i64 a, .int .i64 b, .string type, .string cls, .string name] (ws.alloc (.cells #[.int .i64 15, .int .i64 a, .int .i64 b, .string type, .string cls, .string name] 24)) lv sv L S := SA.new hE h _
  obtain ⟨i0, i1, i2, i3, i4, i5⟩ := T0.cells
  obtain ⟨res, hres⟩ : ∃ r, unitS (knK (allC l) (thText cls) (newF (allC l) cls L S)) = r := ⟨_, rfl⟩
  have HR := Lib.hid hres
  rw [hres]
  have HTh : Hid (∀ wx, _) := fun wx => thing_any cls wx (Nat.le_trans hc (by decide))
  have hth : (thText cls).size ≤ maxLen := by rw [th_size]; exact Nat.le_trans (Nat.add_le_add_right hc 2) (by decide)
  clear hres hE h
  go_enter Tryz.func102, Tryz.ntmps102
  go_wp2_with (first
    | (go_at_call 143; (with_reducible refine (T0.knowsN (thText cls) hth hk).mono ?_); rintro e w1 hP; obtain ⟨hB1, rfl⟩ := hP.no')
    | (go_at_call 142; (with_reducible refine (HTh.out _).mono ?_); rintro e wq ⟨rfl, rfl⟩))
  exact And.intro rfl (T0.stop hB1 (HR.out.symm.trans (unitS_none (knK_no hk))))
set_option maxHeartbeats 2000000 in
set_option maxRecDepth 100000 in
theorem heaped_15f (w0 w : World) (B : Nat) (l : List Class) (base : Nat) (ws : World) (hE : Env w0 w B l base ws) (sb : Nat) (from' gives : Str) (lv sv : Value) (L S : List Str) (h : StepAt base ws sb B from' gives lv sv L S) (_hS : Known (allC l) S) (a b : Int) (type cls name : Str) (_hty : type.size ≤ 1048576) (hc : cls.size ≤ 1048576) (_hfr : from'.size ≤ maxLen) (hk : kindR (allC l) (thText cls) = 0) (hface : (classC (allC l) cls).face = true) :
    Calls Tryz.prog 102 #[.pointer (some ⟨sb, 0, none⟩), .agg #[.int .i64 15, .int .i64 a, .int .i64 b, .string type, .string cls, .string name]] ws (StepRun base ws sb B from' gives lv sv (unitS (knK (allC l) (thText cls) (newF (allC l) cls L S)))) := by
  have T0 : SA w0 w B l base ws lv sv sb from' gives ws.heap.size [.int .i64 15, .int .i64 a, .int .i64 b, .string type, .string cls, .string name] (ws.alloc (.cells #[.int .i64 15, .int .i64 a, .int .i64 b, .string type, .string cls, .string name] 24)) lv sv L S := SA.new hE h _
  obtain ⟨i0, i1, i2, i3, i4, i5⟩ := T0.cells
  obtain ⟨res, hres⟩ : ∃ r, unitS (knK (allC l) (thText cls) (newF (allC l) cls L S)) = r := ⟨_, rfl⟩
  have HR := Lib.hid hres
  rw [hres]
  have HTh : Hid (∀ wx, _) := fun wx => thing_any cls wx (Nat.le_trans hc (by decide))
  have hth : (thText cls).size ≤ maxLen := by rw [th_size]; exact Nat.le_trans (Nat.add_le_add_right hc 2) (by decide)
  obtain ⟨pf, kf, pd, kd, pm, km, _, _, _, hlk⟩ := hE.map0.map.look3 hE.map0.right.nodup cls (Nat.le_trans hc (by decide))
  have HX : Hid (∀ L S, newF (allC l) cls L S = none) := Lib.hid (fun L S => by unfold newF; rw [hface]; rfl)
  unfold classC at hface
  unfold classV at hlk
  generalize (findC (allC l) cls).getD noClass = cc at *
  have hfd : ∀ wz : World, (Instr.field 36 (.agg #[.string cc.name, .string cc.super, .slice pf cc.faces.length kf, .bool true, .slice pd cc.fields.length kd, .slice pm cc.methods.length km]) 3).run Tryz.prog wz = .ok (.bool true) wz := fun _ => by kernel_rfl
  have HT : Hid (∀ wx, _) := fun wx => need_false wx
  clear hres hE h
  go_enter Tryz.func102, Tryz.ntmps102
  go_upto_region 4 with (first
    | (go_at_call 143; (with_reducible refine (T0.knowsY (thText cls) hth hk).mono ?_); rintro e w1 hP; obtain ⟨hB1, rfl, lv1, sv1, hS1, hk1⟩ := hP.ok'; (have T1 := T0.next hB1 hS1 hk1); obtain ⟨i0, i1, i2, i3, i4, i5⟩ := T1.cells)
    | (go_at_call 142; (with_reducible refine (HTh.out _).mono ?_); rintro e wq ⟨rfl, rfl⟩))
  have HT1 := Lib.hid (T1.over (Below.refl _ _).drew)
  have hS0 := And.intro HT1.out.env.below (And.intro (HT1.out.step.blk.cell 0) HT1.out.cells.2.2.2.2.1)
  clear T0 T1 hB1 hS1 hk1 hP
  refine wp_region_held_drew (S := fun w' => Below w.heap.size w w' ∧ w'.cell? ⟨sb, 0, none⟩ = some (.map (some B)) ∧ w'.cell? ⟨ws.heap.size, 4, none⟩ = some (.string cls)) (by kernel_rfl) hS0 (fun hHeld => ?_)
  change wpAnyH _ _ _ _ _ 10 _ _ _
  iterate 6 ((first | (refine tkN rfl rfl (by kernel_rfl) (by kernel_rfl) (by kernel_rfl) (fun _ _ _ h => h) (by rfl) hHeld ?_) | (refine tkY (v := ?_) rfl rfl (by kernel_rfl) (by kernel_rfl) (by kernel_rfl) (fun _ _ _ h => h) (by rfl) hHeld ?_ ?_; rotate_left; focus (intro w hSw; (obtain ⟨s0, s1, s2⟩ := hSw); go_simp; all_goals with_reducible rfl))); try simp only [Act.put, List.setIfInBounds_toArray, List.set_cons_zero, List.set_cons_succ])
  change wpAnyH _ _ _ _ _ 4 _ _ _
  iterate 1 ((first | (refine tkN rfl rfl (by kernel_rfl) (by kernel_rfl) (by kernel_rfl) (fun _ _ _ h => h) (by rfl) hHeld ?_) | (refine tkY (v := ?_) rfl rfl (by kernel_rfl) (by kernel_rfl) (by kernel_rfl) (fun _ _ _ h => h) (by rfl) hHeld ?_ ?_; rotate_left; focus (intro w hSw; (obtain ⟨s0, s1, s2⟩ := hSw; have hl := (hlk _ s0).2); go_simp; all_goals with_reducible rfl))); (try simp only [Act.put]); (try simp only [List.setIfInBounds_toArray]); (try simp only [List.set_cons_succ]); (try simp only [List.set_cons_zero]))
  change wpAnyH _ _ _ _ _ 3 _ _ _
  iterate 2 ((first | (refine tkN rfl rfl (by kernel_rfl) (by kernel_rfl) (by kernel_rfl) (fun _ _ _ h => h) (by rfl) hHeld ?_) | (refine tkY (v := ?_) rfl rfl (by kernel_rfl) (by kernel_rfl) (by kernel_rfl) (fun _ _ _ h => h) (by rfl) hHeld ?_ ?_; rotate_left; focus (intro w hSw; (obtain ⟨s0, s1, s2⟩ := hSw); go_simp; all_goals with_reducible rfl))); (try simp only [Act.put]); (try simp only [List.setIfInBounds_toArray]); (try simp only [List.set_cons_succ]); (try simp only [List.set_cons_zero]))
  refine wpAnyH_ready (rs := [9]) (fuel := 0) (by kernel_rfl) (by simp) ?_
  refine AllReadyH.cons (i := 9) rfl (fun K hK => ?_) AllReadyH.nil
  go_simp
  refine (HT.out _).mono ?_
  rintro e wq ⟨rfl, rfl⟩
  exact And.intro rfl (HT1.out.stop (Below.refl _ _) (HR.out.symm.trans (unitS_none ((knK_yes (Decidable.not_not.2 hk)).trans (HX.out _ _)))))
set_option maxHeartbeats 2000000 in
set_option maxRecDepth 100000 in
theorem heaped_15y (w0 w : World) (B : Nat) (l : List Class) (base : Nat) (ws : World) (hE : Env w0 w B l base ws) (sb : Nat) (from' gives : Str) (lv sv : Value) (L S : List Str) (h : StepAt base ws sb B from' gives lv sv L S) (_hS : Known (allC l) S) (a b : Int) (type cls name : Str) (_hty : type.size ≤ 1048576) (hc : cls.size ≤ 1048576) (_hfr : from'.size ≤ maxLen) (hk : kindR (allC l) (thText cls) = 0) (hface : (classC (allC l) cls).face = false) :
    Calls Tryz.prog 102 #[.pointer (some ⟨sb, 0, none⟩), .agg #[.int .i64 15, .int .i64 a, .int .i64 b, .string type, .string cls, .string name]] ws (StepRun base ws sb B from' gives lv sv (unitS (knK (allC l) (thText cls) (newF (allC l) cls L S)))) := by
  have T0 : SA w0 w B l base ws lv sv sb from' gives ws.heap.size [.int .i64 15, .int .i64 a, .int .i64 b, .string type, .string cls, .string name] (ws.alloc (.cells #[.int .i64 15, .int .i64 a, .int .i64 b, .string type, .string cls, .string name] 24)) lv sv L S := SA.new hE h _
  obtain ⟨i0, i1, i2, i3, i4, i5⟩ := T0.cells
  obtain ⟨res, hres⟩ : ∃ r, unitS (knK (allC l) (thText cls) (newF (allC l) cls L S)) = r := ⟨_, rfl⟩
  have HR := Lib.hid hres
  rw [hres]
  have HTh : Hid (∀ wx, _) := fun wx => thing_any cls wx (Nat.le_trans hc (by decide))
  have hth : (thText cls).size ≤ maxLen := by rw [th_size]; exact Nat.le_trans (Nat.add_le_add_right hc 2) (by decide)
  obtain ⟨pf, kf, pd, kd, pm, km, _, _, _, hlk⟩ := hE.map0.map.look3 hE.map0.right.nodup cls (Nat.le_trans hc (by decide))
  have HX : Hid (∀ L S, newF (allC l) cls L S = putL L S (thText cls)) := Lib.hid (fun L S => by unfold newF; rw [hface]; rfl)
  unfold classC at hface
  unfold classV at hlk
  generalize (findC (allC l) cls).getD noClass = cc at *
  have hfd : ∀ wz : World, (Instr.field 36 (.agg #[.string cc.name, .string cc.super, .slice pf cc.faces.length kf, .bool false, .slice pd cc.fields.length kd, .slice pm cc.methods.length km]) 3).run Tryz.prog wz = .ok (.bool false) wz := fun _ => by kernel_rfl
  have HT : Hid (∀ wx, _) := fun wx => need_true wx
  clear hres hE h
  go_enter Tryz.func102, Tryz.ntmps102
  go_upto_region 4 with (first
    | (go_at_call 143; (with_reducible refine (T0.knowsY (thText cls) hth hk).mono ?_); rintro e w1 hP; obtain ⟨hB1, rfl, lv1, sv1, hS1, hk1⟩ := hP.ok'; (have T1 := T0.next hB1 hS1 hk1); obtain ⟨i0, i1, i2, i3, i4, i5⟩ := T1.cells)
    | (go_at_call 142; (with_reducible refine (HTh.out _).mono ?_); rintro e wq ⟨rfl, rfl⟩))
  have HT1 := Lib.hid (T1.over (Below.refl _ _).drew)
  have hS0 := And.intro HT1.out.env.below (And.intro (HT1.out.step.blk.cell 0) HT1.out.cells.2.2.2.2.1)
  clear T0 T1 hB1 hS1 hk1 hP
  refine wp_region_held_drew (S := fun w' => Below w.heap.size w w' ∧ w'.cell? ⟨sb, 0, none⟩ = some (.map (some B)) ∧ w'.cell? ⟨ws.heap.size, 4, none⟩ = some (.string cls)) (by kernel_rfl) hS0 (fun hHeld => ?_)
  change wpAnyH _ _ _ _ _ 10 _ _ _
  iterate 6 ((first | (refine tkN rfl rfl (by kernel_rfl) (by kernel_rfl) (by kernel_rfl) (fun _ _ _ h => h) (by rfl) hHeld ?_) | (refine tkY (v := ?_) rfl rfl (by kernel_rfl) (by kernel_rfl) (by kernel_rfl) (fun _ _ _ h => h) (by rfl) hHeld ?_ ?_; rotate_left; focus (intro w hSw; (obtain ⟨s0, s1, s2⟩ := hSw); go_simp; all_goals with_reducible rfl))); try simp only [Act.put, List.setIfInBounds_toArray, List.set_cons_zero, List.set_cons_succ])
  change wpAnyH _ _ _ _ _ 4 _ _ _
  iterate 1 ((first | (refine tkN rfl rfl (by kernel_rfl) (by kernel_rfl) (by kernel_rfl) (fun _ _ _ h => h) (by rfl) hHeld ?_) | (refine tkY (v := ?_) rfl rfl (by kernel_rfl) (by kernel_rfl) (by kernel_rfl) (fun _ _ _ h => h) (by rfl) hHeld ?_ ?_; rotate_left; focus (intro w hSw; (obtain ⟨s0, s1, s2⟩ := hSw; have hl := (hlk _ s0).2); go_simp; all_goals with_reducible rfl))); (try simp only [Act.put]); (try simp only [List.setIfInBounds_toArray]); (try simp only [List.set_cons_succ]); (try simp only [List.set_cons_zero]))
  change wpAnyH _ _ _ _ _ 3 _ _ _
  iterate 2 ((first | (refine tkN rfl rfl (by kernel_rfl) (by kernel_rfl) (by kernel_rfl) (fun _ _ _ h => h) (by rfl) hHeld ?_) | (refine tkY (v := ?_) rfl rfl (by kernel_rfl) (by kernel_rfl) (by kernel_rfl) (fun _ _ _ h => h) (by rfl) hHeld ?_ ?_; rotate_left; focus (intro w hSw; (obtain ⟨s0, s1, s2⟩ := hSw); go_simp; all_goals with_reducible rfl))); (try simp only [Act.put]); (try simp only [List.setIfInBounds_toArray]); (try simp only [List.set_cons_succ]); (try simp only [List.set_cons_zero]))
  refine wpAnyH_ready (rs := [9]) (fuel := 0) (by kernel_rfl) (by simp) ?_
  refine AllReadyH.cons (i := 9) rfl (fun K hK => ?_) AllReadyH.nil
  go_simp
  refine (HT.out _).mono ?_
  rintro e wq ⟨rfl, rfl⟩
  refine hK.out _ _ hS0 (fun _ => ?_)
  clear hK K
  try dsimp only [Act.put]
  refine wpAnyH_done (by kernel_rfl) ?_ _
  obtain ⟨i0, i1, i2, i3, i4, i5⟩ := HT1.out.cells
  clear hHeld hS0
  go_wp2_with (first
    | (go_at_call 142; (with_reducible refine (HTh.out _).mono ?_); rintro e wq ⟨rfl, rfl⟩)
    | (go_at_call 136; rcases hq1 : putS S (thText cls) with _ | S2; (with_reducible refine (HT1.out.putN (thText cls) hq1).mono ?_); (rintro e w2 hP; obtain ⟨hB, rfl⟩ := hP.no'; exact And.intro rfl (HT1.out.stop hB (HR.out.symm.trans (unitS_none ((knK_yes (Decidable.not_not.2 hk)).trans ((HX.out _ _).trans (putL_none hq1))))))); (with_reducible refine (HT1.out.putY (thText cls) hq1).mono ?_); rintro e w2 hP; obtain ⟨hB2, rfl, lv2, sv2, hS2, hk2⟩ := hP.ok'; (have T2 := HT1.out.next hB2 hS2 hk2)))
  go_end0
  exact T2.done (HR.out.symm.trans (unitS_some ((knK_yes (Decidable.not_not.2 hk)).trans ((HX.out _ _).trans (putL_some hq1)))))
set_option maxHeartbeats 2000000 in
set_option maxRecDepth 100000 in
theorem heaped_17 (w0 w : World) (B : Nat) (l : List Class) (base : Nat) (ws : World) (hE : Env w0 w B l base ws) (sb : Nat) (from' gives : Str) (lv sv : Value) (L S : List Str) (h : StepAt base ws sb B from' gives lv sv L S) (hS : Known (allC l) S) (a b : Int) (type cls name : Str) (_hty : type.size ≤ 1048576) (hc : cls.size ≤ 1048576) (_hfr : from'.size ≤ maxLen) :
    Calls Tryz.prog 102 #[.pointer (some ⟨sb, 0, none⟩), .agg #[.int .i64 17, .int .i64 a, .int .i64 b, .string type, .string cls, .string name]] ws (StepRun base ws sb B from' gives lv sv (unitS ((fieldF (allC l) cls name).bind fun t => (takeS (allC l) [t, thText cls] S).map fun S1 => (L, S1)))) := by
  have T0 : SA w0 w B l base ws lv sv sb from' gives ws.heap.size [.int .i64 17, .int .i64 a, .int .i64 b, .string type, .string cls, .string name] (ws.alloc (.cells #[.int .i64 17, .int .i64 a, .int .i64 b, .string type, .string cls, .string name] 24)) lv sv L S := SA.new hE h _
  obtain ⟨i0, i1, i2, i3, i4, i5⟩ := T0.cells
  obtain ⟨res, hres⟩ : ∃ r, unitS ((fieldF (allC l) cls name).bind fun t => (takeS (allC l) [t, thText cls] S).map fun S1 => (L, S1)) = r := ⟨_, rfl⟩
  have HR := Lib.hid hres
  rw [hres]
  have HTh : Hid (∀ wx, _) := fun wx => thing_any cls wx (Nat.le_trans hc (by decide))
  have hth : (thText cls).size ≤ maxLen := by rw [th_size]; exact Nat.le_trans (Nat.add_le_add_right hc 2) (by decide)
  clear hres hE h
  go_enter Tryz.func102, Tryz.ntmps102
  go_upto_region 11 with (first | fail)
  have HT1 := Lib.hid (T0.over (Below.refl _ _).drew)
  clear T0 i0 i1 i2 i3 i4 i5
  refine wp_region_held_drew (S := fun w' => w'.cell? ⟨ws.heap.size, 0, none⟩ = some (.int .i64 17) ∧ w'.cell? ⟨ws.heap.size, 1, none⟩ = some (.int .i64 a) ∧ w'.cell? ⟨ws.heap.size, 2, none⟩ = some (.int .i64 b) ∧ w'.cell? ⟨ws.heap.size, 3, none⟩ = some (.string type) ∧ w'.cell? ⟨ws.heap.size, 4, none⟩ = some (.string cls) ∧ w'.cell? ⟨ws.heap.size, 5, none⟩ = some (.string name)) (by kernel_rfl) HT1.out.cells (fun hHeld => ?_)
  change wpAnyH _ _ _ _ _ 9 _ _ _
  iterate 3 ((first | (refine tkN rfl rfl (by kernel_rfl) (by kernel_rfl) (by kernel_rfl) (fun _ _ _ h => h) (by rfl) hHeld ?_) | (refine tkY (v := ?_) rfl rfl (by kernel_rfl) (by kernel_rfl) (by kernel_rfl) (fun _ _ _ h => h) (by rfl) hHeld ?_ ?_; rotate_left; focus (intro w hSw; (obtain ⟨s0, s1, s2, s3, s4, s5⟩ := hSw); go_simp; all_goals with_reducible rfl))); (try simp only [Act.put]); (try simp only [List.setIfInBounds_toArray]); (try simp only [List.set_cons_succ]); (try simp only [List.set_cons_zero]))
  refine tkI (i := 4) (fuel := 5) (v := ?_) rfl (by kernel_rfl) (by kernel_rfl) (by kernel_rfl) (fun _ _ _ h => h) (by rfl) hHeld ?_ ?_; rotate_left; focus (intro w hSw; (obtain ⟨s0, s1, s2, s3, s4, s5⟩ := hSw); go_simp; all_goals with_reducible rfl)
  (try simp only [Act.put]); (try simp only [List.setIfInBounds_toArray]); (try simp only [List.set_cons_succ]); (try simp only [List.set_cons_zero])
  refine tkI (i := 5) (fuel := 4) (v := ?_) rfl (by kernel_rfl) (by kernel_rfl) (by kernel_rfl) (fun _ _ _ h => h) (by rfl) hHeld ?_ ?_; rotate_left; focus (intro w hSw; (obtain ⟨s0, s1, s2, s3, s4, s5⟩ := hSw); go_simp; all_goals with_reducible rfl)
  (try simp only [Act.put]); (try simp only [List.setIfInBounds_toArray]); (try simp only [List.set_cons_succ]); (try simp only [List.set_cons_zero])
  refine wpAnyH_ready (rs := [3]) (fuel := 3) (by kernel_rfl) (by simp) ?_
  refine AllReadyH.cons (i := 3) rfl (fun K hK => ?_) AllReadyH.nil
  go_simp
  rcases hq0 : fieldF (allC l) cls name with _ | tf
  · refine (HT1.out.fieldN 17 a b type cls name hc hq0).mono ?_
    rintro e w2 hP
    obtain ⟨hB, rfl⟩ := hP.no'
    exact And.intro rfl (HT1.out.stop hB (HR.out.symm.trans (unitS_none (ob_none hq0))))
  · have htf : tf.size ≤ maxLen := Nat.le_trans (kind_small (fieldF_known hq0).2) (by decide)
    refine (HT1.out.fieldY 17 a b type cls name hc hq0).mono ?_
    rintro e w2 hP
    obtain ⟨hB2, rfl, lv2, sv2, hS2, hk2⟩ := hP.ok'
    have HT2 := Lib.hid (HT1.out.next hB2 hS2 hk2)
    clear hB2 hS2 hk2 hP
    refine hK.out _ _ HT2.out.cells (fun _ => ?_)
    clear hK K
    try dsimp only [Act.put]
    refine wpAnyH_ready (rs := [6]) (fuel := 2) (by kernel_rfl) (by simp) ?_
    refine AllReadyH.cons (i := 6) rfl (fun K hK => ?_) AllReadyH.nil
    go_simp
    refine (HTh.out _).mono ?_
    rintro e wq ⟨rfl, rfl⟩
    refine hK.out _ _ HT2.out.cells (fun _ => ?_)
    clear hK K
    try dsimp only [Act.put]
    refine wpAnyH_ready (rs := [7]) (fuel := 1) (by kernel_rfl) (by simp) ?_
    refine AllReadyH.cons (i := 7) rfl (fun K hK => ?_) AllReadyH.nil
    go_simp
    have HT3 := Lib.hid (HT2.out.alloc (.cells #[.string tf, .string (thText cls)] 9))
    refine hK.out _ _ HT3.out.cells (fun _ => ?_)
    clear hK K
    try dsimp only [Act.put]
    refine wpAnyH_ready (rs := [8]) (fuel := 0) (by kernel_rfl) (by simp) ?_
    refine AllReadyH.cons (i := 8) rfl (fun K hK => ?_) AllReadyH.nil
    go_simp
    rcases hq1 : takeS (allC l) [tf, thText cls] S with _ | S2
    · refine (HT2.out.takeTN hS tf (thText cls) htf hth _ rfl hq1).mono ?_
      rintro e w3 hP
      obtain ⟨hB, rfl⟩ := hP.no'
      exact And.intro rfl (HT3.out.stop hB (HR.out.symm.trans (unitS_none ((ob_some hq0).trans (om_none hq1)))))
    · refine (HT2.out.takeTY hS tf (thText cls) htf hth _ rfl hq1).mono ?_
      rintro e w3 hP
      obtain ⟨hB3, rfl, lv3, sv3, hS3, hk3⟩ := hP.ok'
      have HT4 := Lib.hid (HT3.out.next hB3 hS3 hk3)
      clear hB3 hS3 hk3 hP
      refine hK.out _ _ HT4.out.cells (fun _ => ?_)
      clear hK K
      refine wpAnyH_done (by kernel_rfl) ?_ _
      clear hHeld
      go_wp2_with (first | fail)
      go_end0
      exact HT4.out.done (HR.out.symm.trans (unitS_some ((ob_some hq0).trans (om_some hq1))))
set_option maxHeartbeats 2000000 in
set_option maxRecDepth 100000 in
theorem heaped_19p (w0 w : World) (B : Nat) (l : List Class) (base : Nat) (ws : World) (hE : Env w0 w B l base ws) (sb : Nat) (from' gives : Str) (lv sv : Value) (L S : List Str) (h : StepAt base ws sb B from' gives lv sv L S) (hS : Known (allC l) S) (a b : Int) (type cls name : Str) (_hty : type.size ≤ 1048576) (_hc : cls.size ≤ 1048576) (_hfr : from'.size ≤ maxLen) (hq0 : popR S = none) :
    Calls Tryz.prog 102 #[.pointer (some ⟨sb, 0, none⟩), .agg #[.int .i64 19, .int .i64 a, .int .i64 b, .string type, .string cls, .string name]] ws (StepRun base ws sb B from' gives lv sv (unitS ((popR S).bind fun p => if lenOk p.1 = true then putL L p.2 kI else none))) := by
  have T0 : SA w0 w B l base ws lv sv sb from' gives ws.heap.size [.int .i64 19, .int .i64 a, .int .i64 b, .string type, .string cls, .string name] (ws.alloc (.cells #[.int .i64 19, .int .i64 a, .int .i64 b, .string type, .string cls, .string name] 24)) lv sv L S := SA.new hE h _
  obtain ⟨i0, i1, i2, i3, i4, i5⟩ := T0.cells
  obtain ⟨res, hres⟩ : ∃ r, unitS ((popR S).bind fun p => if lenOk p.1 = true then putL L p.2 kI else none) = r := ⟨_, rfl⟩
  have HR := Lib.hid hres
  rw [hres]
  clear hres hE h
  go_enter Tryz.func102, Tryz.ntmps102
  go_wp2_with (first
    | (go_at_call 141; (with_reducible refine (T0.refN hS hq0).mono ?_); rintro e w1 hP; obtain ⟨hB1, rfl⟩ := hP.no'))
  exact And.intro rfl (T0.stop hB1 (HR.out.symm.trans (unitS_none (ob_none hq0))))
set_option maxHeartbeats 2000000 in
set_option maxRecDepth 100000 in
theorem heaped_19n (w0 w : World) (B : Nat) (l : List Class) (base : Nat) (ws : World) (hE : Env w0 w B l base ws) (sb : Nat) (from' gives : Str) (lv sv : Value) (L S : List Str) (h : StepAt base ws sb B from' gives lv sv L S) (hS : Known (allC l) S) (a b : Int) (type cls name : Str) (_hty : type.size ≤ 1048576) (_hc : cls.size ≤ 1048576) (_hfr : from'.size ≤ maxLen) (k : Str) (S1 : List Str) (hq0 : popR S = some (k, S1)) (hn : (k.toList == [78]) = true) :
    Calls Tryz.prog 102 #[.pointer (some ⟨sb, 0, none⟩), .agg #[.int .i64 19, .int .i64 a, .int .i64 b, .string type, .string cls, .string name]] ws (StepRun base ws sb B from' gives lv sv (unitS ((popR S).bind fun p => if lenOk p.1 = true then putL L p.2 kI else none))) := by
  have T0 : SA w0 w B l base ws lv sv sb from' gives ws.heap.size [.int .i64 19, .int .i64 a, .int .i64 b, .string type, .string cls, .string name] (ws.alloc (.cells #[.int .i64 19, .int .i64 a, .int .i64 b, .string type, .string cls, .string name] 24)) lv sv L S := SA.new hE h _
  obtain ⟨i0, i1, i2, i3, i4, i5⟩ := T0.cells
  obtain ⟨res, hres⟩ : ∃ r, unitS ((popR S).bind fun p => if lenOk p.1 = true then putL L p.2 kI else none) = r := ⟨_, rfl⟩
  have HR := Lib.hid hres
  rw [hres]
  have HT : Hid (∀ wx, _) := fun wx => need_true wx
  have hlo : lenOk k = true := by unfold lenOk; rw [hn]; rfl
  unfold kI at *
  clear hres hE h
  go_enter Tryz.func102, Tryz.ntmps102
  go_wp2_with (first
    | (go_at_call 141; (with_reducible refine (T0.refY hS hq0).mono ?_); rintro e w1 hP; obtain ⟨hB1, rfl, lv1, sv1, hS1, hk1⟩ := hP.ok'; (have T1 := T0.next hB1 hS1 hk1); obtain ⟨i0, i1, i2, i3, i4, i5⟩ := T1.cells)
    | (go_at_call 137; (with_reducible refine (HT.out _).mono ?_); rintro e wq ⟨rfl, rfl⟩)
    | (go_at_call 136; rcases hq1 : putS S1 ⟨#[73]⟩ with _ | S2; (with_reducible refine (T1.putN ⟨#[73]⟩ hq1).mono ?_); (rintro e w2 hP; obtain ⟨hB, rfl⟩ := hP.no'; exact And.intro rfl (T1.stop hB (HR.out.symm.trans (unitS_none ((ob_some hq0).trans ((if_pos hlo).trans (putL_none hq1))))))); (with_reducible refine (T1.putY ⟨#[73]⟩ hq1).mono ?_); rintro e w2 hP; obtain ⟨hB2, rfl, lv2, sv2, hS2, hk2⟩ := hP.ok'; (have T2 := T1.next hB2 hS2 hk2)))
  go_end0
  exact T2.done (HR.out.symm.trans (unitS_some ((ob_some hq0).trans ((if_pos hlo).trans (putL_some hq1)))))
set_option maxHeartbeats 2000000 in
set_option maxRecDepth 100000 in
theorem heaped_19a (w0 w : World) (B : Nat) (l : List Class) (base : Nat) (ws : World) (hE : Env w0 w B l base ws) (sb : Nat) (from' gives : Str) (lv sv : Value) (L S : List Str) (h : StepAt base ws sb B from' gives lv sv L S) (hS : Known (allC l) S) (a b : Int) (type cls name : Str) (_hty : type.size ≤ 1048576) (_hc : cls.size ≤ 1048576) (_hfr : from'.size ≤ maxLen) (k : Str) (S1 : List Str) (hq0 : popR S = some (k, S1)) (hn : (k.toList == [78]) = false) (ha : Lib.hasPrefix k.toList [91] = true) :
    Calls Tryz.prog 102 #[.pointer (some ⟨sb, 0, none⟩), .agg #[.int .i64 19, .int .i64 a, .int .i64 b, .string type, .string cls, .string name]] ws (StepRun base ws sb B from' gives lv sv (unitS ((popR S).bind fun p => if lenOk p.1 = true then putL L p.2 kI else none))) := by
  have T0 : SA w0 w B l base ws lv sv sb from' gives ws.heap.size [.int .i64 19, .int .i64 a, .int .i64 b, .string type, .string cls, .string name] (ws.alloc (.cells #[.int .i64 19, .int .i64 a, .int .i64 b, .string type, .string cls, .string name] 24)) lv sv L S := SA.new hE h _
  obtain ⟨i0, i1, i2, i3, i4, i5⟩ := T0.cells
  obtain ⟨res, hres⟩ : ∃ r, unitS ((popR S).bind fun p => if lenOk p.1 = true then putL L p.2 kI else none) = r := ⟨_, rfl⟩
  have HR := Lib.hid hres
  rw [hres]
  have HT : Hid (∀ wx, _) := fun wx => need_true wx
  have HP : Hid (∀ wx, _) := fun wx => hasPrefix_any k ⟨#[91]⟩ wx
  rw [← ByteArray.toList_eq, show (⟨#[91]⟩ : Str).data.toList = [91] from rfl, ha] at HP
  have hlo : lenOk k = true := by unfold lenOk; rw [hn, ha]; rfl
  unfold kI at *
  clear hres hE h
  go_enter Tryz.func102, Tryz.ntmps102
  go_wp2_with (first
    | (go_at_call 141; (with_reducible refine (T0.refY hS hq0).mono ?_); rintro e w1 hP; obtain ⟨hB1, rfl, lv1, sv1, hS1, hk1⟩ := hP.ok'; (have T1 := T0.next hB1 hS1 hk1); obtain ⟨i0, i1, i2, i3, i4, i5⟩ := T1.cells)
    | (go_at_call 145; (with_reducible refine (HP.out _).mono ?_); rintro e wq ⟨rfl, rfl⟩)
    | (go_at_call 137; (with_reducible refine (HT.out _).mono ?_); rintro e wq ⟨rfl, rfl⟩)
    | (go_at_call 136; rcases hq1 : putS S1 ⟨#[73]⟩ with _ | S2; (with_reducible refine (T1.putN ⟨#[73]⟩ hq1).mono ?_); (rintro e w2 hP; obtain ⟨hB, rfl⟩ := hP.no'; exact And.intro rfl (T1.stop hB (HR.out.symm.trans (unitS_none ((ob_some hq0).trans ((if_pos hlo).trans (putL_none hq1))))))); (with_reducible refine (T1.putY ⟨#[73]⟩ hq1).mono ?_); rintro e w2 hP; obtain ⟨hB2, rfl, lv2, sv2, hS2, hk2⟩ := hP.ok'; (have T2 := T1.next hB2 hS2 hk2)))
  go_end0
  exact T2.done (HR.out.symm.trans (unitS_some ((ob_some hq0).trans ((if_pos hlo).trans (putL_some hq1)))))
set_option maxHeartbeats 2000000 in
set_option maxRecDepth 100000 in
theorem heaped_19c (w0 w : World) (B : Nat) (l : List Class) (base : Nat) (ws : World) (hE : Env w0 w B l base ws) (sb : Nat) (from' gives : Str) (lv sv : Value) (L S : List Str) (h : StepAt base ws sb B from' gives lv sv L S) (hS : Known (allC l) S) (a b : Int) (type cls name : Str) (_hty : type.size ≤ 1048576) (_hc : cls.size ≤ 1048576) (_hfr : from'.size ≤ maxLen) (k : Str) (S1 : List Str) (hq0 : popR S = some (k, S1)) (hn : (k.toList == [78]) = false) (ha : Lib.hasPrefix k.toList [91] = false) :
    Calls Tryz.prog 102 #[.pointer (some ⟨sb, 0, none⟩), .agg #[.int .i64 19, .int .i64 a, .int .i64 b, .string type, .string cls, .string name]] ws (StepRun base ws sb B from' gives lv sv (unitS ((popR S).bind fun p => if lenOk p.1 = true then putL L p.2 kI else none))) := by
  have T0 : SA w0 w B l base ws lv sv sb from' gives ws.heap.size [.int .i64 19, .int .i64 a, .int .i64 b, .string type, .string cls, .string name] (ws.alloc (.cells #[.int .i64 19, .int .i64 a, .int .i64 b, .string type, .string cls, .string name] 24)) lv sv L S := SA.new hE h _
  obtain ⟨i0, i1, i2, i3, i4, i5⟩ := T0.cells
  obtain ⟨res, hres⟩ : ∃ r, unitS ((popR S).bind fun p => if lenOk p.1 = true then putL L p.2 kI else none) = r := ⟨_, rfl⟩
  have HR := Lib.hid hres
  rw [hres]
  have HT : Hid (∀ wx, _) := fun wx => need_false wx
  have HP : Hid (∀ wx, _) := fun wx => hasPrefix_any k ⟨#[91]⟩ wx
  rw [← ByteArray.toList_eq, show (⟨#[91]⟩ : Str).data.toList = [91] from rfl, ha] at HP
  have hlo : lenOk k = false := by unfold lenOk; rw [hn, ha]; rfl
  unfold kI at *
  clear hres hE h
  go_enter Tryz.func102, Tryz.ntmps102
  go_wp2_with (first
    | (go_at_call 141; (with_reducible refine (T0.refY hS hq0).mono ?_); rintro e w1 hP; obtain ⟨hB1, rfl, lv1, sv1, hS1, hk1⟩ := hP.ok'; (have T1 := T0.next hB1 hS1 hk1); obtain ⟨i0, i1, i2, i3, i4, i5⟩ := T1.cells)
    | (go_at_call 145; (with_reducible refine (HP.out _).mono ?_); rintro e wq ⟨rfl, rfl⟩)
    | (go_at_call 137; (with_reducible refine (HT.out _).mono ?_); rintro e wq ⟨rfl, rfl⟩))
  exact And.intro rfl (T1.stop (Below.refl _ _) (HR.out.symm.trans (unitS_none ((ob_some hq0).trans (if_neg (by rw [hlo]; decide))))))
set_option maxHeartbeats 2000000 in
set_option maxRecDepth 100000 in
theorem heaped_23n (w0 w : World) (B : Nat) (l : List Class) (base : Nat) (ws : World) (hE : Env w0 w B l base ws) (sb : Nat) (from' gives : Str) (lv sv : Value) (L S : List Str) (h : StepAt base ws sb B from' gives lv sv L S) (_hS : Known (allC l) S) (a b : Int) (type cls name : Str) (hty : type.size ≤ 1048576) (_hc : cls.size ≤ 1048576) (_hfr : from'.size ≤ maxLen) (hk : ¬ kindR (allC l) type = 0) :
    Calls Tryz.prog 102 #[.pointer (some ⟨sb, 0, none⟩), .agg #[.int .i64 23, .int .i64 a, .int .i64 b, .string type, .string cls, .string name]] ws (StepRun base ws sb B from' gives lv sv (unitS (knK (allC l) type ((popR S).bind fun p => putL L p.2 kI)))) := by
  have T0 : SA w0 w B l base ws lv sv sb from' gives ws.heap.size [.int .i64 23, .int .i64 a, .int .i64 b, .string type, .string cls, .string name] (ws.alloc (.cells #[.int .i64 23, .int .i64 a, .int .i64 b, .string type, .string cls, .string name] 24)) lv sv L S := SA.new hE h _
  obtain ⟨i0, i1, i2, i3, i4, i5⟩ := T0.cells
  obtain ⟨res, hres⟩ : ∃ r, unitS (knK (allC l) type ((popR S).bind fun p => putL L p.2 kI)) = r := ⟨_, rfl⟩
  have HR := Lib.hid hres
  rw [hres]
  have hml : type.size ≤ maxLen := Nat.le_trans hty (by decide)
  clear hres hE h
  go_enter Tryz.func102, Tryz.ntmps102
  go_wp2_with (first
    | (go_at_call 143; (with_reducible refine (T0.knowsN type hml hk).mono ?_); rintro e w1 hP; obtain ⟨hB1, rfl⟩ := hP.no'))
  exact And.intro rfl (T0.stop hB1 (HR.out.symm.trans (unitS_none (knK_no hk))))
set_option maxHeartbeats 2000000 in
set_option maxRecDepth 100000 in
theorem heaped_23p (w0 w : World) (B : Nat) (l : List Class) (base : Nat) (ws : World) (hE : Env w0 w B l base ws) (sb : Nat) (from' gives : Str) (lv sv : Value) (L S : List Str) (h : StepAt base ws sb B from' gives lv sv L S) (hS : Known (allC l) S) (a b : Int) (type cls name : Str) (hty : type.size ≤ 1048576) (_hc : cls.size ≤ 1048576) (_hfr : from'.size ≤ maxLen) (hk : kindR (allC l) type = 0) (hq1 : popR S = none) :
    Calls Tryz.prog 102 #[.pointer (some ⟨sb, 0, none⟩), .agg #[.int .i64 23, .int .i64 a, .int .i64 b, .string type, .string cls, .string name]] ws (StepRun base ws sb B from' gives lv sv (unitS (knK (allC l) type ((popR S).bind fun p => putL L p.2 kI)))) := by
  have T0 : SA w0 w B l base ws lv sv sb from' gives ws.heap.size [.int .i64 23, .int .i64 a, .int .i64 b, .string type, .string cls, .string name] (ws.alloc (.cells #[.int .i64 23, .int .i64 a, .int .i64 b, .string type, .string cls, .string name] 24)) lv sv L S := SA.new hE h _
  obtain ⟨i0, i1, i2, i3, i4, i5⟩ := T0.cells
  obtain ⟨res, hres⟩ : ∃ r, unitS (knK (allC l) type ((popR S).bind fun p => putL L p.2 kI)) = r := ⟨_, rfl⟩
  have HR := Lib.hid hres
  rw [hres]
  have hml : type.size ≤ maxLen := Nat.le_trans hty (by decide)
  clear hres hE h
  go_enter Tryz.func102, Tryz.ntmps102
  go_wp2_with (first
    | (go_at_call 143; (with_reducible refine (T0.knowsY type hml hk).mono ?_); rintro e w1 hP; obtain ⟨hB1, rfl, lv1, sv1, hS1, hk1⟩ := hP.ok'; (have T1 := T0.next hB1 hS1 hk1); obtain ⟨i0, i1, i2, i3, i4, i5⟩ := T1.cells)
    | (go_at_call 141; (with_reducible refine (T1.refN hS hq1).mono ?_); rintro e w2 hP; obtain ⟨hB2, rfl⟩ := hP.no'))
  exact And.intro rfl (T1.stop hB2 (HR.out.symm.trans (unitS_none ((knK_yes (Decidable.not_not.2 hk)).trans (ob_none hq1)))))
set_option maxHeartbeats 2000000 in
set_option maxRecDepth 100000 in
theorem heaped_23y (w0 w : World) (B : Nat) (l : List Class) (base : Nat) (ws : World) (hE : Env w0 w B l base ws) (sb : Nat) (from' gives : Str) (lv sv : Value) (L S : List Str) (h : StepAt base ws sb B from' gives lv sv L S) (hS : Known (allC l) S) (a b : Int) (type cls name : Str) (hty : type.size ≤ 1048576) (_hc : cls.size ≤ 1048576) (_hfr : from'.size ≤ maxLen) (hk : kindR (allC l) type = 0) (k : Str) (S1 : List Str) (hq1 : popR S = some (k, S1)) :
    Calls Tryz.prog 102 #[.pointer (some ⟨sb, 0, none⟩), .agg #[.int .i64 23, .int .i64 a, .int .i64 b, .string type, .string cls, .string name]] ws (StepRun base ws sb B from' gives lv sv (unitS (knK (allC l) type ((popR S).bind fun p => putL L p.2 kI)))) := by
  have T0 : SA w0 w B l base ws lv sv sb from' gives ws.heap.size [.int .i64 23, .int .i64 a, .int .i64 b, .string type, .string cls, .string name] (ws.alloc (.cells #[.int .i64 23, .int .i64 a, .int .i64 b, .string type, .string cls, .string name] 24)) lv sv L S := SA.new hE h _
  obtain ⟨i0, i1, i2, i3, i4, i5⟩ := T0.cells
  obtain ⟨res, hres⟩ : ∃ r, unitS (knK (allC l) type ((popR S).bind fun p => putL L p.2 kI)) = r := ⟨_, rfl⟩
  have HR := Lib.hid hres
  rw [hres]
  have hml : type.size ≤ maxLen := Nat.le_trans hty (by decide)
  have hlow := h.low
  have hlt := h.blk.lt
  unfold kI at *
  clear hres hE h
  go_enter Tryz.func102, Tryz.ntmps102
  go_upto_region 32 with (first
    | (go_at_call 143; (with_reducible refine (T0.knowsY type hml hk).mono ?_); rintro e w1 hP; obtain ⟨hB1, rfl, lv1, sv1, hS1, hk1⟩ := hP.ok'; (have T1 := T0.next hB1 hS1 hk1); obtain ⟨i0, i1, i2, i3, i4, i5⟩ := T1.cells)
    | (go_at_call 141; (with_reducible refine (T1.refY hS hq1).mono ?_); rintro e w2 hP; obtain ⟨hB2, rfl, lv2, sv2, hS2, hk2⟩ := hP.ok'; (have T2 := T1.next hB2 hS2 hk2); obtain ⟨i0, i1, i2, i3, i4, i5⟩ := T2.cells))
  have T3 := T2.boxed (Nat.le_refl _) (Nat.le_trans hlow (Nat.le_of_lt hlt)) 3 (.string ⟨#[73]⟩)
  have f3 := T2.box.frozen 3
  have j3 : (w2.setCell ⟨ws.heap.size, 3, none⟩ (.string ⟨#[73]⟩)).cell? ⟨ws.heap.size, 3, none⟩ = some (.string ⟨#[73]⟩) := T3.box.cell 3
  go_wp2_with (first
    | (go_at_call 136; rcases hq2 : putS S1 ⟨#[73]⟩ with _ | S2; (with_reducible refine (T3.putN ⟨#[73]⟩ hq2).mono ?_); (rintro e w4 hP; obtain ⟨hB, rfl⟩ := hP.no'; exact And.intro rfl (T3.stop hB (HR.out.symm.trans (unitS_none ((knK_yes (Decidable.not_not.2 hk)).trans ((ob_some hq1).trans (putL_none hq2))))))); (with_reducible refine (T3.putY ⟨#[73]⟩ hq2).mono ?_); rintro e w4 hP; obtain ⟨hB4, rfl, lv4, sv4, hS4, hk4⟩ := hP.ok'; (have T4 := T3.next hB4 hS4 hk4)))
  go_end0
  exact T4.done (HR.out.symm.trans (unitS_some ((knK_yes (Decidable.not_not.2 hk)).trans ((ob_some hq1).trans (putL_some hq2)))))
set_option maxHeartbeats 2000000 in
set_option maxRecDepth 100000 in
theorem heaped_24 (w0 w : World) (B : Nat) (l : List Class) (base : Nat) (ws : World) (hE : Env w0 w B l base ws) (sb : Nat) (from' gives : Str) (lv sv : Value) (L S : List Str) (h : StepAt base ws sb B from' gives lv sv L S) (hS : Known (allC l) S) (a b : Int) (type cls name : Str) (hty : type.size ≤ 1048576) (hc : cls.size ≤ 1048576) (hfr : from'.size ≤ maxLen) :
    Calls Tryz.prog 102 #[.pointer (some ⟨sb, 0, none⟩), .agg #[.int .i64 24, .int .i64 a, .int .i64 b, .string type, .string cls, .string name]] ws (StepRun base ws sb B from' gives lv sv (unitS (callF (allC l) from' cls name type false L S))) := by
  have T0 : SA w0 w B l base ws lv sv sb from' gives ws.heap.size [.int .i64 24, .int .i64 a, .int .i64 b, .string type, .string cls, .string name] (ws.alloc (.cells #[.int .i64 24, .int .i64 a, .int .i64 b, .string type, .string cls, .string name] 24)) lv sv L S := SA.new hE h _
  obtain ⟨i0, i1, i2, i3, i4, i5⟩ := T0.cells
  obtain ⟨res, hres⟩ : ∃ r, unitS (callF (allC l) from' cls name type false L S) = r := ⟨_, rfl⟩
  have HR := Lib.hid hres
  rw [hres]
  clear hres hE h
  go_enter Tryz.func102, Tryz.ntmps102
  go_wp2_with (first
    | (go_at_call 147; rcases hq0 : callF (allC l) from' cls name type false L S with _ | ⟨L1, S1⟩; (with_reducible refine (T0.callN hS 24 a b type cls name false hc hfr hty hq0).mono ?_); (rintro e w1 hP; obtain ⟨hB, rfl⟩ := hP.no'; exact And.intro rfl (T0.stop hB (HR.out.symm.trans (unitS_none hq0)))); (with_reducible refine (T0.callY hS 24 a b type cls name false hc hfr hty hq0).mono ?_); rintro e w1 hP; obtain ⟨hB1, rfl, lv1, sv1, hS1, hk1⟩ := hP.ok'; (have T1 := T0.next hB1 hS1 hk1)))
  go_end0
  exact T1.done (HR.out.symm.trans (unitS_some hq0))
set_option maxHeartbeats 2000000 in
set_option maxRecDepth 100000 in
theorem heaped_25 (w0 w : World) (B : Nat) (l : List Class) (base : Nat) (ws : World) (hE : Env w0 w B l base ws) (sb : Nat) (from' gives : Str) (lv sv : Value) (L S : List Str) (h : StepAt base ws sb B from' gives lv sv L S) (hS : Known (allC l) S) (a b : Int) (type cls name : Str) (hty : type.size ≤ 1048576) (hc : cls.size ≤ 1048576) (hfr : from'.size ≤ maxLen) :
    Calls Tryz.prog 102 #[.pointer (some ⟨sb, 0, none⟩), .agg #[.int .i64 25, .int .i64 a, .int .i64 b, .string type, .string cls, .string name]] ws (StepRun base ws sb B from' gives lv sv (unitS (callF (allC l) from' cls name type true L S))) := by
  have T0 : SA w0 w B l base ws lv sv sb from' gives ws.heap.size [.int .i64 25, .int .i64 a, .int .i64 b, .string type, .string cls, .string name] (ws.alloc (.cells #[.int .i64 25, .int .i64 a, .int .i64 b, .string type, .string cls, .string name] 24)) lv sv L S := SA.new hE h _
  obtain ⟨i0, i1, i2, i3, i4, i5⟩ := T0.cells
  obtain ⟨res, hres⟩ : ∃ r, unitS (callF (allC l) from' cls name type true L S) = r := ⟨_, rfl⟩
  have HR := Lib.hid hres
  rw [hres]
  clear hres hE h
  go_enter Tryz.func102, Tryz.ntmps102
  go_wp2_with (first
    | (go_at_call 147; rcases hq0 : callF (allC l) from' cls name type true L S with _ | ⟨L1, S1⟩; (with_reducible refine (T0.callN hS 25 a b type cls name true hc hfr hty hq0).mono ?_); (rintro e w1 hP; obtain ⟨hB, rfl⟩ := hP.no'; exact And.intro rfl (T0.stop hB (HR.out.symm.trans (unitS_none hq0)))); (with_reducible refine (T0.callY hS 25 a b type cls name true hc hfr hty hq0).mono ?_); rintro e w1 hP; obtain ⟨hB1, rfl, lv1, sv1, hS1, hk1⟩ := hP.ok'; (have T1 := T0.next hB1 hS1 hk1)))
  go_end0
  exact T1.done (HR.out.symm.trans (unitS_some hq0))
set_option maxHeartbeats 2000000 in
set_option maxRecDepth 100000 in
theorem heaped_other (w0 w : World) (B : Nat) (l : List Class) (base : Nat) (ws : World) (hE : Env w0 w B l base ws) (sb : Nat) (from' gives : Str) (lv sv : Value) (L S : List Str) (h : StepAt base ws sb B from' gives lv sv L S) (op a b : Int) (type cls name : Str) (_hty : type.size ≤ 1048576) (_hc : cls.size ≤ 1048576) (_hfr : from'.size ≤ maxLen) (h15 : (op == 15) = false) (h16 : (op == 16) = false) (h17 : (op == 17) = false) (h18 : (op == 18) = false) (h19 : (op == 19) = false) (h20 : (op == 20) = false) (h21 : (op == 21) = false) (h22 : (op == 22) = false) (h23 : (op == 23) = false) (h24 : (op == 24) = false) (h25 : (op == 25) = false) :
    Calls Tryz.prog 102 #[.pointer (some ⟨sb, 0, none⟩), .agg #[.int .i64 op, .int .i64 a, .int .i64 b, .string type, .string cls, .string name]] ws (StepRun base ws sb B from' gives lv sv (unitS (some (L, S)))) := by
  have T0 : SA w0 w B l base ws lv sv sb from' gives ws.heap.size [.int .i64 op, .int .i64 a, .int .i64 b, .string type, .string cls, .string name] (ws.alloc (.cells #[.int .i64 op, .int .i64 a, .int .i64 b, .string type, .string cls, .string name] 24)) lv sv L S := SA.new hE h _
  obtain ⟨i0, i1, i2, i3, i4, i5⟩ := T0.cells
  obtain ⟨res, hres⟩ : ∃ r, unitS (some (L, S)) = r := ⟨_, rfl⟩
  have HR := Lib.hid hres
  rw [hres]
  clear hres hE h
  go_enter Tryz.func102, Tryz.ntmps102
  go_wp2_with (first | fail)
  go_end0
  exact T0.done (HR.out.symm.trans (unitS_some rfl))
end Go.Proofs.YtlmfmioljeppfaaGreatDoor
namespace Go.Proofs.YtlmfmioljeppfaaGreatDoor
open Go.RowKit Go.Shelf Go.Lib
theorem heapedF_at (cs : List Class) (from' : Str) (a b : Int) (type cls name : Str) (L S : List Str) :
    heapedF cs from' ⟨15, a, b, type, cls, name⟩ L S = knK cs (thText cls) (newF cs cls L S)
    ∧ heapedF cs from' ⟨16, a, b, type, cls, name⟩ L S = ((fieldF cs cls name).bind fun t => (takeS cs [thText cls] S).bind fun S1 => putL L S1 t)
    ∧ heapedF cs from' ⟨17, a, b, type, cls, name⟩ L S = ((fieldF cs cls name).bind fun t => (takeS cs [t, thText cls] S).map fun S1 => (L, S1))
    ∧ heapedF cs from' ⟨18, a, b, type, cls, name⟩ L S = knK cs type ((takeS cs [kI] S).bind fun S1 => putL L S1 (arText type))
    ∧ heapedF cs from' ⟨19, a, b, type, cls, name⟩ L S = ((popR S).bind fun p => if lenOk p.1 = true then putL L p.2 kI else none)
    ∧ heapedF cs from' ⟨20, a, b, type, cls, name⟩ L S = ((arrayF cs type S).bind fun S1 => putL L S1 type)
    ∧ heapedF cs from' ⟨21, a, b, type, cls, name⟩ L S = knK cs type ((takeS cs [type] S).bind fun S1 => (arrayF cs type S1).map fun S2 => (L, S2))
    ∧ heapedF cs from' ⟨22, a, b, type, cls, name⟩ L S = knK cs type ((popR S).bind fun p => putL L p.2 type)
    ∧ heapedF cs from' ⟨23, a, b, type, cls, name⟩ L S = knK cs type ((popR S).bind fun p => putL L p.2 kI)
    ∧ heapedF cs from' ⟨24, a, b, type, cls, name⟩ L S = callF cs from' cls name type false L S
    ∧ heapedF cs from' ⟨25, a, b, type, cls, name⟩ L S = callF cs from' cls name type true L S :=
  ⟨rfl, rfl, rfl, rfl, rfl, rfl, rfl, rfl, rfl, rfl, rfl⟩
theorem heapedF_other {cs : List Class} {from' : Str} {x : Ins} {L S : List Str} (h : x.op ≠ 15 ∧ x.op ≠ 16 ∧ x.op ≠ 17 ∧ x.op ≠ 18 ∧ x.op ≠ 19 ∧ x.op ≠ 20 ∧ x.op ≠ 21 ∧ x.op ≠ 22 ∧ x.op ≠ 23 ∧ x.op ≠ 24 ∧ x.op ≠ 25) : heapedF cs from' x L S = some (L, S) := by
  obtain ⟨h1, h2, h3, h4, h5, h6, h7, h8, h9, h10, h11⟩ := h
  unfold heapedF
  rw [if_neg h1, if_neg h2, if_neg h3, if_neg h4, if_neg h5, if_neg h6, if_neg h7, if_neg h8, if_neg h9, if_neg h10, if_neg h11]
theorem heaped_any (w0 w : World) (B : Nat) (l : List Class) (base : Nat) (ws : World) (hE : Env w0 w B l base ws) (sb : Nat) (from' gives : Str) (lv sv : Value) (L S : List Str) (h : StepAt base ws sb B from' gives lv sv L S) (x : Ins) (hS : 15 ≤ x.op ∧ x.op ≤ 25 → Known (allC l) S) (hty : x.type.size ≤ 1048576) (hc : x.cls.size ≤ 1048576) (hfr : from'.size ≤ maxLen) :
    Calls Tryz.prog 102 #[.pointer (some ⟨sb, 0, none⟩), insV x] ws (StepRun base ws sb B from' gives lv sv (unitS (heapedF (allC l) from' x L S))) := by
  obtain ⟨op, a, b, type, cls, name⟩ := x
  replace hty : type.size ≤ 1048576 := hty
  replace hc : cls.size ≤ 1048576 := hc
  unfold insV
  dsimp only at hS ⊢
  obtain ⟨e15, e16, e17, e18, e19, e20, e21, e22, e23, e24, e25⟩ := heapedF_at (allC l) from' a b type cls name L S
  by_cases h15 : op = 15
  · subst h15
    rw [e15]
    by_cases hk : kindR (allC l) (thText cls) = 0
    · cases hface : (classC (allC l) cls).face with
      | true => exact heaped_15f w0 w B l base ws hE sb from' gives lv sv L S h (hS (by omega)) a b type cls name hty hc hfr hk hface
      | false => exact heaped_15y w0 w B l base ws hE sb from' gives lv sv L S h (hS (by omega)) a b type cls name hty hc hfr hk hface
    · exact heaped_15n w0 w B l base ws hE sb from' gives lv sv L S h (hS (by omega)) a b type cls name hty hc hfr hk
  by_cases h16 : op = 16
  · subst h16
    rw [e16]
    exact heaped_16 w0 w B l base ws hE sb from' gives lv sv L S h (hS (by omega)) a b type cls name hty hc hfr
  by_cases h17 : op = 17
  · subst h17
    rw [e17]
    exact heaped_17 w0 w B l base ws hE sb from' gives lv sv L S h (hS (by omega)) a b type cls name hty hc hfr
  by_cases h18 : op = 18
  · subst h18
    rw [e18]
    exact heaped_18 w0 w B l base ws hE sb from' gives lv sv L S h (hS (by omega)) a b type cls name hty hc hfr
  by_cases h19 : op = 19
  · subst h19
    rw [e19]
    cases hq : popR S with
    | none =>
      have := heaped_19p w0 w B l base ws hE sb from' gives lv sv L S h (hS (by omega)) a b type cls name hty hc hfr hq
      rw [hq] at this
      exact this
    | some p =>
      obtain ⟨k, S1⟩ := p
      rw [← hq]
      cases hn : (k.toList == [78]) with
      | true => exact heaped_19n w0 w B l base ws hE sb from' gives lv sv L S h (hS (by omega)) a b type cls name hty hc hfr k S1 hq hn
      | false =>
        cases ha : Lib.hasPrefix k.toList [91] with
        | true => exact heaped_19a w0 w B l base ws hE sb from' gives lv sv L S h (hS (by omega)) a b type cls name hty hc hfr k S1 hq hn ha
        | false => exact heaped_19c w0 w B l base ws hE sb from' gives lv sv L S h (hS (by omega)) a b type cls name hty hc hfr k S1 hq hn ha
  by_cases h20 : op = 20
  · subst h20
    rw [e20]
    exact heaped_20 w0 w B l base ws hE sb from' gives lv sv L S h (hS (by omega)) a b type cls name hty hc hfr
  by_cases h21 : op = 21
  · subst h21
    rw [e21]
    exact heaped_21 w0 w B l base ws hE sb from' gives lv sv L S h (hS (by omega)) a b type cls name hty hc hfr
  by_cases h22 : op = 22
  · subst h22
    rw [e22]
    exact heaped_22 w0 w B l base ws hE sb from' gives lv sv L S h (hS (by omega)) a b type cls name hty hc hfr
  by_cases h23 : op = 23
  · subst h23
    rw [e23]
    by_cases hk : kindR (allC l) type = 0
    · cases hq : popR S with
      | none =>
        have := heaped_23p w0 w B l base ws hE sb from' gives lv sv L S h (hS (by omega)) a b type cls name hty hc hfr hk hq
        rw [hq] at this
        exact this
      | some p =>
        obtain ⟨k, S1⟩ := p
        rw [← hq]
        exact heaped_23y w0 w B l base ws hE sb from' gives lv sv L S h (hS (by omega)) a b type cls name hty hc hfr hk k S1 hq
    · exact heaped_23n w0 w B l base ws hE sb from' gives lv sv L S h (hS (by omega)) a b type cls name hty hc hfr hk
  by_cases h24 : op = 24
  · subst h24
    rw [e24]
    exact heaped_24 w0 w B l base ws hE sb from' gives lv sv L S h (hS (by omega)) a b type cls name hty hc hfr
  by_cases h25 : op = 25
  · subst h25
    rw [e25]
    exact heaped_25 w0 w B l base ws hE sb from' gives lv sv L S h (hS (by omega)) a b type cls name hty hc hfr
  rw [heapedF_other ⟨h15, h16, h17, h18, h19, h20, h21, h22, h23, h24, h25⟩]
  exact heaped_other w0 w B l base ws hE sb from' gives lv sv L S h op a b type cls name hty hc hfr (by simpa using h15) (by simpa using h16) (by simpa using h17) (by simpa using h18) (by simpa using h19) (by simpa using h20) (by simpa using h21) (by simpa using h22) (by simpa using h23) (by simpa using h24) (by simpa using h25)
def stepF (cs : List Class) (from' gives : Str) (x : Ins) (L S : List Str) : Option (List Str × List Str) := (plainF cs gives x L S).bind fun p => heapedF cs from' x p.1 p.2
theorem stepF_bind (cs : List Class) (from' gives : Str) (x : Ins) (L S : List Str) : ((plainF cs gives x L S).bind fun _ => stepF cs from' gives x L S) = stepF cs from' gives x L S := by
  cases h : plainF cs gives x L S with
  | none => unfold stepF; rw [h]; rfl
  | some p => rfl
theorem frame_known {cs : List Class} {f : Frm} (h : frameR cs f = 0) : Known cs f.stack := (frame_zero h).2.2.2
theorem after_any (w0 w : World) (B : Nat) (l : List Class) (hm : WorldMap w0 w B l) (from' gives : Str) (x : Ins) (f : Frm) (f1 f2 : Value) (hf : FrameAt w f1 f2 f) (hz : frameR (allC l) f = 0) (hx : InsOk x) (ha : x.op = 4 ∨ x.op = 5 → 0 ≤ x.a) (hfr : from'.size ≤ maxLen) (hg : gives.size ≤ maxLen) :
    Calls Tryz.prog 54 #[.map (some B), .string from', .string gives, insV x, .agg #[f1, f2]] w (AfterPost w (stepF (allC l) from' gives x f.locals f.stack)) := by
  have hS := frame_known hz
  obtain ⟨h1, h2, _, _⟩ := frame_zero hz
  rw [← stepF_bind]
  have hty : x.type.size ≤ maxLen := Nat.le_trans hx.type (by decide)
  obtain ⟨op, a, b, type, cls, name⟩ := x
  refine after_core w B from' gives op a b type cls name f f1 f2 hf (by omega) (by omega) _ _ (fun base wx sb lv sv hb hw hst => ?_) (fun L S hq base wx sb lv sv hb hw hst => ?_)
  · exact (plain_any w0 w B l base wx ⟨hm, hb, hw⟩ sb from' gives lv sv f.locals f.stack hst hS ⟨op, a, b, type, cls, name⟩ hty hg ha).mono fun _ _ h => h.post
  · have hr : stepF (allC l) from' gives ⟨op, a, b, type, cls, name⟩ f.locals f.stack = heapedF (allC l) from' ⟨op, a, b, type, cls, name⟩ L S := by unfold stepF; rw [hq]; rfl
    rw [hr]
    refine (heaped_any w0 w B l base wx ⟨hm, hb, hw⟩ sb from' gives lv sv L S hst ⟨op, a, b, type, cls, name⟩ (fun hop => ?_) hx.type hx.cls hfr).mono fun _ _ h => h.post
    have hp : plainF (allC l) gives ⟨op, a, b, type, cls, name⟩ f.locals f.stack = some (f.locals, f.stack) := plainF_other (by dsimp only at hop ⊢; omega)
    rw [hp] at hq
    injection hq with hq
    injection hq with _ h2
    exact h2 ▸ hS
theorem insFault_place {x : Ins} (h : insFault x = 0) (ho : x.op = 4 ∨ x.op = 5) : 0 ≤ x.a := by
  unfold insFault at h
  split at h
  · cases h
  · split at h
    · cases h
    · split at h
      · cases h
      · rename_i hr
        unfold rangedB at hr
        rw [if_neg (by omega), if_pos ho] at hr
        simp at hr
        omega
end Go.Proofs.YtlmfmioljeppfaaGreatDoor
