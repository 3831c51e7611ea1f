/-
  WALKS over join.classes. Conditions: a right world, classes that are there.
-/
import Derived.Test.YtpjkpmmjehnahaaGreatDoorSubFits
import Derived.Test.YtpjkpmmjehnahaaGreatDoorJoinLaw
namespace Go.Proofs.YtpjkpmmjehnahaaGreatDoor
open Go.RowKit Go.Shelf Go.Lib
set_option maxHeartbeats 1000000 in
set_option maxRecDepth 100000 in
theorem classes_any (w0 w : World) (B : Nat) (l : List Class) (hm : WorldMap w0 w B l) (c d : Str) (hc : (findC (allC l) c).isSome = true) (hd : (findC (allC l) d).isSome = true) :
    Calls Tryz.prog 100 #[.map (some B), .string c, .string d] w fun e w' => e = .returned (.string (if ((classC (allC l) c).face || (classC (allC l) d).face) = true then sObject else lcaC (allC l) c d)) ∧ Below w.heap.size w w' := by
  obtain ⟨p1, k1, p2, k2, p3, k3, _, _, _, _, hlc⟩ := hm.map.look2 hm.right.nodup c (hm.map.names hc)
  obtain ⟨p4, k4, p5, k5, p6, k6, _, _, _, _, hld⟩ := hm.map.look2 hm.right.nodup d (hm.map.names hd)
  have HLd := Lib.hid (line_any w0 w B l hm.right hm.map d hd)
  have HLc : Hid (∀ wx, Below w.heap.size w wx → _) := fun wx hb => line_any w0 wx B l hm.right (hm.map.step hb) c hc
  have hl13 : (lineC (allC l) c).length ≤ 13 := by
    have h1 := lineF_length (allC l) (everyC (allC l) c).length c
    have h2 := (every_facts hm.right.closed hc).1.length
    have h3 := hm.right.small
    unfold lineC; omega
  unfold lcaC
  have hcf := class_face
  show Calls _ _ _ _ fun e w' => e = .returned (.string (if (((findC (allC l) c).getD noClass).face || ((findC (allC l) d).getD noClass).face) = true then sObject else lcaGo (lineC (allC l) d) (lineC (allC l) c))) ∧ Below w.heap.size w w'
  clear hm hc hd
  generalize (findC (allC l) c).getD noClass = x at *
  generalize (findC (allC l) d).getD noClass = y at *
  generalize lineC (allC l) c = Lc at *
  generalize lineC (allC l) d = Ld at *
  obtain ⟨n1, s1, f1, b1, d1, m1⟩ := x
  obtain ⟨n2, s2, f2, b2, d2, m2⟩ := y
  unfold classV at hlc hld
  dsimp only at *
  cases b1 with
  | true =>
    clear HLd HLc hld
    go_enter Tryz.func100, Tryz.ntmps100
    go_wp2
    go_ret
    exact ⟨rfl, Below.refl _ _⟩
  | false =>
    cases b2 with
    | true =>
      clear HLd HLc
      go_enter Tryz.func100, Tryz.ntmps100
      go_wp2
      go_ret
      exact ⟨rfl, Below.refl _ _⟩
    | false =>
      show Calls _ _ _ _ fun e w' => e = .returned (.string (lcaGo Ld Lc)) ∧ Below w.heap.size w w'
      go_enter Tryz.func100, Tryz.ntmps100
      go_wp2_with (first
        | (go_at_call 59; (have hB3' := hB3); (with_reducible refine (HLc.out _ hB3).mono ?_); rintro e w4 ⟨⟨v4, rfl, hv4⟩, hB4⟩; obtain ⟨pa, ca, rfl⟩ := ownsRow_shape hv4)
        | (go_at_call 59; (with_reducible refine HLd.out.mono ?_); rintro e w3 ⟨⟨v3, rfl, hv3⟩, hB3⟩))
      have hs3 := (strsAt_of_owns hv3).mono hB4
      have hs4 := strsAt_of_owns hv4
      have hB := below_call hB3 (Nat.le_refl _) hB4
      obtain ⟨pa', ca', he, h1, h2, hcc⟩ := hs4.open
      injection he with he1 he2 he3
      subst he1 he3
      clear he2
      have HC := Lib.hid hcc
      have HCon : Hid (∀ x, _) := fun x => contains_any Ld v3 x w4 hs3
      have hlen : Lc.length ≤ 9223372036854775807 := Nat.le_trans h1 h2
      clear hs3 hs4 hcc hv3 hv4 hB3 hB4 HLc HLd hlc hld
      go_loopw [27] (fun x wr => ∃ k : Nat, k ≤ Lc.length ∧ Hid (lcaGo Ld (Lc.drop k) = lcaGo Ld Lc) ∧ w4 = wr ∧ x = .int .i64 k) (fun x _ => Lc.length - (intOf x).toNat)
      case atStart => exact ⟨0, by omega, rfl, rfl, rfl⟩
      case round =>
        obtain ⟨k, hk, hff, rfl, rfl⟩ := hrel
        by_cases hkl : k < Lc.length
        · obtain ⟨a, ha⟩ : ∃ a, Lc[k]? = some a := ⟨Lc[k], by simp [hkl]⟩
          obtain ⟨b, o, vs, rfl, hR, _, hcells⟩ := HC.out k a ha
          unfold StrCells at hR; subst hR
          have c0 := hcells.1
          rw [Nat.mul_one] at c0
          have hstep := lcaGo_drop Ld Lc k a ha
          rw [hff.out] at hstep
          have hcon := HCon.out a
          have HX := Lib.hid ha
          clear ha hcells hff
          cases hm : memB Ld a with
          | true =>
            rw [hm] at hcon hstep
            replace hstep : lcaGo Ld Lc = a := hstep
            have HS := Lib.hid hstep
            have HC1 := Lib.hid hcon
            clear hstep hcon hm
            go_wp2_with (go_at_call 74; (with_reducible refine HC1.out.mono ?_); rintro e w5 ⟨rfl, rfl⟩)
            go_ret
            exact ⟨by rw [HS.out]; rfl, hB⟩
          | false =>
            rw [hm] at hcon hstep
            have hst : Hid (lcaGo Ld (Lc.drop (k + 1)) = lcaGo Ld Lc) := hstep.symm
            have HC1 := Lib.hid hcon
            clear hstep hcon hm
            go_wp2_with (go_at_call 74; (with_reducible refine HC1.out.mono ?_); rintro e w5 ⟨rfl, rfl⟩)
            go_roundw
            case rel => exact ⟨k + 1, by omega, hst.out, by simp, by simp⟩
            case measure => simp [intOf]; omega
        · obtain rfl : k = Lc.length := by omega
          have hno : lcaGo Ld Lc = sObject := by rw [← hff.out, List.drop_eq_nil_of_le (Nat.le_refl _)]; rfl
          have HS := Lib.hid hno
          clear hno hff
          go_wp2_with (first | fail)
          go_ret
          exact ⟨by rw [HS.out]; rfl, hB⟩
end Go.Proofs.YtpjkpmmjehnahaaGreatDoor
