/-
  WALK over the law WorldUp. Conditions: as in XRead.
-/
import Derived.Test.YtinccnehfalfnaaGreatDoorLineLaw
import Derived.Deep.QuietTactic
import Derived.BigQuiet
namespace Go.Proofs.YtinccnehfalfnaaGreatDoor
open Go.RowKit Go.Shelf Go.Lib
/-- a slice's elements but for the first -/
theorem StrsAt.tail {w : World} {b o n cap : Nat} {x : Str} {l : List Str} (h : StrsAt w (.slice (some ⟨b, o, none⟩) n cap) (x :: l)) : StrsAt w (.slice (if cap = 1 then some ⟨b, o, none⟩ else some ⟨b, o + 1, none⟩) l.length (cap - 1)) l := by
  rcases h with ⟨h, _⟩ | ⟨a, cap', h1, h2, h3, h4⟩
  · simp at h
  · injection h1 with e1 e2 e3
    injection e1 with e1
    subst e1 e3
    simp only [List.length_cons] at h2
    by_cases hc : cap = 1
    · obtain rfl : l = [] := List.length_eq_zero_iff.1 (by omega)
      rw [if_pos hc]
      exact Or.inr ⟨_, cap - 1, rfl, by simp, by omega, fun i y hi => by simp at hi⟩
    · rw [if_neg hc]
      refine Or.inr ⟨_, cap - 1, rfl, by omega, by omega, fun i y hi => ?_⟩
      obtain ⟨vs, r1, r2, r3, r4⟩ := h4 (i + 1) y (by simpa using hi)
      refine ⟨vs, r1, r2, rfl, ?_⟩
      have : o + 1 + i * 1 = o + (i + 1) * 1 := by omega
      show Cells w b (o + 1 + i * 1) vs
      rw [this]; exact r4
set_option maxHeartbeats 4000000 in
set_option maxRecDepth 100000 in
theorem worldUp_any (l : List Class) (lv : Value) (i : Int) (w : World) (hl : Laid w) (ho : ∀ c ∈ l, ClassOk c) (hlv : ClassesAt w lv l) :
    Calls Tryz.prog 5 #[lv, .int .i64 i] w fun e w' => e = .returned (.bool true) ∧ Below w.heap.size w w' := by
  have HLi : Hid (∀ wx, Below w.heap.size w wx → _) := fun wx hb => lived_any wx (hl.mono hb hl.1)
  have HCk : Hid (∀ wx, Below w.heap.size w wx → _) := fun wx hb => worldCheck_any l lv wx (hl.mono hb hl.1) ho (hlv.mono hb)
  have HSu : Hid (∀ wx (n : Str), Below w.heap.size w wx → n.size ≤ maxLen → _) := fun wx n hb hn => supers_any l lv n wx (hl.mono hb hl.1) ho (hlv.mono hb) hn
  have HAl : Hid (∀ wx (n : Str), Below w.heap.size w wx → n.size ≤ maxLen → _) := fun wx n hb hn => all_any l lv n wx (hl.mono hb hl.1) ho (hlv.mono hb) hn
  obtain ⟨pl, cap, rfl, hc1, hc2, hcc⟩ := hlv.open
  have HC := Lib.hid hcc
  have HO := Lib.hid ho
  clear hcc hlv ho hl
  rcases errV_cases (readFault l) with ⟨hv, hz⟩ | ⟨hv, hz⟩
  · rw [hv] at HCk
    have HZ := Lib.hid hz
    clear hv hz
    by_cases h0 : l.length = 0
    · obtain rfl := List.length_eq_zero_iff.1 h0
      simp only [List.length_nil] at HCk
      clear h0
      go_enter Tryz.func5, Tryz.ntmps5
      go_wp2_with (first
        | (go_at_call 14; (with_reducible refine (HLi.out _ (Below.refl _ _)).mono ?_); rintro e w2 ⟨rfl, hB2⟩)
        | (go_at_call 15; (with_reducible refine (HCk.out _ hB2).mono ?_); rintro e w3 ⟨rfl, hB3⟩))
      all_goals first | (exfalso; omega) | skip
      go_ret
      exact ⟨rfl, below_call hB2 (Nat.le_refl _) hB3⟩
    · have hz0 : ((l.length : Int) == 0) = false := by simpa using fun h => h0 (by rw [h]; rfl)
      go_enter Tryz.func5, Tryz.ntmps5
      go_upto_region 6 with (first
        | (go_at_call 14; (with_reducible refine (HLi.out _ (Below.refl _ _)).mono ?_); rintro e w2 ⟨rfl, hB2⟩)
        | (go_at_call 15; (with_reducible refine (HCk.out _ hB2).mono ?_); rintro e w3 ⟨rfl, hB3⟩))
      have hB := below_call hB2 (Nat.le_refl _) hB3
      clear hB2 hB3
      have hlen : l.length ≤ 9223372036854775807 := Nat.le_trans hc1 hc2
      have hwl : IntKind.u64.wrap (l.length : Int) = (l.length : Int) := by
        have h1 : (0 : Int) ≤ l.length := by omega
        have h2 : (l.length : Int) < 18446744073709551616 := by omega
        show (l.length : Int) % 18446744073709551616 = _
        omega
      obtain ⟨j, hj, hjl⟩ : ∃ j : Nat, (IntKind.u64.wrap i).tmod (l.length : Int) = (j : Int) ∧ j < l.length := by
        have h1 : 0 ≤ IntKind.u64.wrap i := by
          show 0 ≤ i % 18446744073709551616
          omega
        have h2 : (0 : Int) < l.length := by omega
        rw [Int.tmod_eq_emod_of_nonneg h1]
        have h3 := Int.emod_nonneg (IntKind.u64.wrap i) (show (l.length : Int) ≠ 0 by omega)
        have h4 := Int.emod_lt_of_pos (IntKind.u64.wrap i) h2
        exact ⟨((IntKind.u64.wrap i) % (l.length : Int)).toNat, by omega, by omega⟩
      obtain ⟨c, hx⟩ : ∃ c, l[j]? = some c := ⟨l[j], by simp [hjl]⟩
      obtain ⟨b, o, vs, rfl, ⟨fv, dv, mv, rfl, k1, k2, k3⟩, _, hcells⟩ := HC.out j c hx
      obtain ⟨pf, kf, rfl, _⟩ := k1.open
      obtain ⟨pd, kd, rfl, _⟩ := k2.open
      obtain ⟨pm, km, rfl, _⟩ := k3.open
      have hcells := hcells.mono hB hcells.lt
      have hR := right_of HZ.out
      have hcm := List.mem_of_getElem? hx
      have hco := HO.out c hcm
      have hlne : l ≠ [] := fun h => h0 (by rw [h]; rfl)
      obtain ⟨c0, c1, c2, c3, c4, c5, _⟩ := hcells
      have HX := Lib.hid hx
      clear hx
      go_upto_region 7 with (first | fail)
      have hcall : c ∈ allC l := by simp [allC, hcm]
      have hkn : (findC (allC l) c.name).isSome = true := by rw [hR.find hcall]; rfl
      have hcls : classC (allC l) c.name = c := by unfold classC; rw [hR.find hcall]; rfl
      have hs0 : (classC (allC l) c.name).super.size ≠ 0 := by
        rw [hcls]; intro h; have hjn := hR.joined c hcm; unfold joinedC at hjn; rw [if_pos h] at hjn; cases hjn
      have hln := hR.line_up hkn hs0
      obtain ⟨hks, _⟩ := hR.up hkn hs0
      obtain ⟨hmem, tl, htl⟩ := hR.line_facts _ c.name hkn (Nat.le_refl _)
      rw [hcls] at hln hks
      have hz1 : namedFault l c.name = 0 := by unfold namedFault; rw [if_neg (by rw [HZ.out]; decide), hkn]; rfl
      have hz2 : namedFault l c.super = 0 := by unfold namedFault; rw [if_neg (by rw [HZ.out]; decide), hks]; rfl
      have HM := Lib.hid hmem
      have HLn := Lib.hid hln
      have HTl := Lib.hid htl
      have BY : Boxed w3 (w3.alloc (.cells #[.string c.name, .string c.super, .slice pf c.faces.length kf, .bool c.face, .slice pd c.fields.length kd, .slice pm c.methods.length km] 30)) [.string c.name, .string c.super, .slice pf c.faces.length kf, .bool c.face, .slice pd c.fields.length kd, .slice pm c.methods.length km] := ⟨(Below.refl _ _).alloc (Nat.le_refl _) _, by simp, by simp [Cells]⟩
      have hB4 := hB.alloc hB.size (.cells #[.string c.name, .string c.super, .slice pf c.faces.length kf, .bool c.face, .slice pd c.fields.length kd, .slice pm c.methods.length km] 30)
      have hS1 := HSu.out _ c.name hB4 (Nat.le_trans hco.name (by decide))
      rw [hz1] at hS1
      have HS1 := Lib.hid hS1
      have HS2 : Hid (∀ wx, Below w.heap.size w wx → _) := fun wx hb => HSu.out wx c.super hb (Nat.le_trans hco.super (by decide))
      have HA1 : Hid (∀ wx, Below w.heap.size w wx → _) := fun wx hb => HAl.out wx c.name hb (Nat.le_trans hco.name (by decide))
      rw [hz2] at HS2
      rw [hz1] at HA1
      clear hz1 hz2 hln htl hmem hs0 hcls hkn hks hcall hS1 HSu HAl HCk HLi hco hcm hR c0 c1 c2 c3 c4 c5
      generalize w3.alloc (.cells #[.string c.name, .string c.super, .slice pf c.faces.length kf, .bool c.face, .slice pd c.fields.length kd, .slice pm c.methods.length km] 30) = w4 at *
      obtain ⟨y0, y1, y2, y3, y4, y5⟩ := boxed6 BY
      go_upto_region 10 with (first
        | (go_at_call 17; (with_reducible refine HS1.out.mono ?_); rintro e w5 ⟨hB5, ⟨_, v1, rfl, hv1⟩ | ⟨hz, _⟩⟩; rotate_left; (exact absurd rfl hz); obtain ⟨p1, q1, rfl, _⟩ := hv1.open; (have BY5 := BY.step hB5); (have hB05 := below_call hB4 (Nat.le_refl _) hB5); obtain ⟨x0, x1, _⟩ := boxed6 BY5)
        | (go_at_call 17; (with_reducible refine (HS2.out _ hB05).mono ?_); rintro e w6 ⟨hB6, ⟨_, v2, rfl, hv2⟩ | ⟨hz, _⟩⟩; rotate_left; (exact absurd rfl hz); obtain ⟨p2, q2, rfl, _⟩ := hv2.open; (have BY6 := BY5.step hB6); (have hB06 := below_call hB05 (Nat.le_refl _) hB6); obtain ⟨x20, x21, _⟩ := boxed6 BY6)
        | (go_at_call 18; (with_reducible refine (HA1.out _ hB06).mono ?_); rintro e w7 ⟨hB7, ⟨_, v3, rfl, hv3⟩ | ⟨hz, _⟩⟩; rotate_left; (exact absurd rfl hz); obtain ⟨p3, q3, rfl, _⟩ := hv3.open))
      have hB7w := below_call hB06 (Nat.le_refl _) hB7
      have BY7 := BY6.step hB7
      replace hv1 := (hv1.mono hB6).mono hB7
      replace hv2 := hv2.mono hB7
      have hIn : Hid (∀ y ∈ lineC (allC l) c.name, memB (sortS (everyC (allC l) c.name)) y = true) := fun y hy => by rw [memB_sort]; exact memB_iff.2 (HM.out y hy)
      have hpos := congrArg List.length HLn.out
      clear HS1 HS2 HA1 HM BY BY5 BY6 hB4 hB05 hB06 hB5 hB6 hB7 x0 x1 x20 x21 y0 y1 y2 y3 y4 y5
      generalize lineC (allC l) c.name = L1 at *
      generalize lineC (allC l) c.super = L2 at *
      generalize sortS (everyC (allC l) c.name) = A at *
      simp only [List.length_cons] at hpos
      have hp0 : ((L1.length : Int) == 0) = false := by simpa using fun h => by rw [h] at hpos; simp at hpos
      obtain ⟨p1', q1', hpe, hq1, hq2, hcc1⟩ := hv1.open
      obtain ⟨b1, o1, _, hpb, _⟩ := hcc1 0 c.name (by rw [HLn.out]; rfl)
      injection hpe with hpe _ hqe
      subst hqe
      rw [hpb] at hpe hcc1
      subst hpe
      have HC1 := Lib.hid hcc1
      have hL1 : L1.length ≤ 9223372036854775807 := Nat.le_trans hq1 hq2
      clear hcc1
      go_upto_region 13 with (first | fail)
      go_loopw [13] (fun x wr => ∃ k : Nat, k ≤ L1.length ∧ w7 = wr ∧ x = .int .i64 k) (fun x _ => L1.length - (intOf x).toNat)
      case atStart => exact ⟨0, by omega, rfl, rfl⟩
      case round =>
        obtain ⟨k, hk, rfl, rfl⟩ := hrel
        by_cases hkl : k < L1.length
        · obtain ⟨x, hx⟩ : ∃ x, L1[k]? = some x := ⟨L1[k], by simp [hkl]⟩
          obtain ⟨b2, o2, vs, hpb2, hR2, _, hcells⟩ := HC1.out k x hx
          injection hpb2 with hpb2
          injection hpb2 with g1 g2
          subst g1 g2
          unfold StrCells at hR2; subst hR2
          have u0 := hcells.1
          rw [Nat.mul_one] at u0
          have hin := in_any A _ x w7 hv3
          rw [hIn.out x (List.mem_of_getElem? hx)] at hin
          have HIn := Lib.hid hin
          clear hin hcells hx
          go_wp2_with (go_at_call 21; (with_reducible refine HIn.out.mono ?_); rintro e w8 ⟨rfl, rfl⟩)
          go_roundw
          case rel => exact ⟨k + 1, by omega, by simp, by simp⟩
          case measure => simp [intOf]; omega
        · obtain rfl : k = L1.length := by omega
          have hlast : Hid (∃ t, L1 = t ++ [sObject]) := ⟨tl, HTl.out⟩
          obtain rfl := HLn.out
          have ht1 := hv1.tail
          have ht := texts_any L2 L2 _ _ w7 ht1 hv2
          simp only [decide_true] at ht
          have HT := Lib.hid ht
          simp only [List.length_cons] at *
          clear ht ht1
          go_upto_region 18 with (go_at_call 13; (with_reducible refine HT.out.mono ?_); rintro e w8 ⟨rfl, hB8⟩)
          have hlo : (c.name :: L2)[L2.length]? = some sObject := by
            obtain ⟨t, ht⟩ := hlast.out
            have hlen2 : t.length = L2.length := by have := congrArg List.length ht; simp at this; omega
            rw [ht, List.getElem?_append_right (by omega), hlen2]; simp
          obtain ⟨_, _, _, e1, hR1, _, hce1⟩ := HC1.out 0 c.name rfl
          obtain ⟨_, _, _, e2, hR2, _, hce2⟩ := HC1.out L2.length sObject hlo
          injection e1 with e1
          injection e1 with g1 g2
          subst g1 g2
          injection e2 with e2
          injection e2 with g3 g4
          subst g3 g4
          unfold StrCells at hR1 hR2
          subst hR1 hR2
          have u1 := (hce1.mono hB8 hce1.lt).1
          have u2 := (hce2.mono hB8 hce2.lt).1
          rw [Nat.mul_one] at u1 u2
          rw [Nat.add_zero] at u1
          obtain ⟨z0, _⟩ := boxed6 (BY7.step hB8)
          have hso : (ByteArray.toList sObject == [79, 98, 106, 101, 99, 116]) = true := by rw [ByteArray.toList_eq]; rfl
          have HBw := Lib.hid (below_call hB7w (Nat.le_refl _) hB8)
          clear hB8 hce1 hce2 hlo hB7w BY7
          go_quiet (fail)
          go_wp2
          all_goals
            go_ret
            exact ⟨rfl, HBw.out.os, HBw.out.tape, HBw.out.output, HBw.out.size, HBw.out.block⟩
  · rw [hv] at HCk
    have HZ := Lib.hid hz
    clear hv hz
    go_enter Tryz.func5, Tryz.ntmps5
    go_wp2_with (first
      | (go_at_call 14; (with_reducible refine (HLi.out _ (Below.refl _ _)).mono ?_); rintro e w2 ⟨rfl, hB2⟩)
      | (go_at_call 15; (with_reducible refine (HCk.out _ hB2).mono ?_); rintro e w3 ⟨rfl, hB3⟩))
    go_ret
    exact ⟨rfl, below_call hB2 (Nat.le_refl _) hB3⟩
end Go.Proofs.YtinccnehfalfnaaGreatDoor
