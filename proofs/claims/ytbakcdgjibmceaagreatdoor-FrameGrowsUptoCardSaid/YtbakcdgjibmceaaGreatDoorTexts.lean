/-
  WALKS over the reference's In and over same.Texts.
-/
import Derived.Test.YtbakcdgjibmceaaGreatDoorSupers
import Derived.Deep.QuietTactic
import Derived.BigQuiet
namespace Go.Proofs.YtbakcdgjibmceaaGreatDoor
open Go.RowKit Go.Shelf Go.Lib
theorem memB_cons (a : Str) (l : List Str) (x : Str) : memB (a :: l) x = (decide (a = x) || memB l x) := rfl
theorem memB_drop (l : List Str) (k : Nat) (a x : Str) (h : l[k]? = some a) : memB (l.drop k) x = (decide (a = x) || memB (l.drop (k + 1)) x) := by
  obtain ⟨hk, rfl⟩ := List.getElem?_eq_some_iff.1 h
  rw [List.drop_eq_getElem_cons hk, memB_cons]
set_option maxHeartbeats 1000000 in
theorem in_any (l : List Str) (v : Value) (x : Str) (w : World) (h : StrsAt w v l) : Calls Tryz.prog 43 #[v, .string x] w fun e w' => e = .returned (.bool (memB l x)) ∧ w = w' := by
  obtain ⟨p, cap, rfl, h1, h2, hcc⟩ := h.open
  have HC := Lib.hid hcc
  have hlen : l.length ≤ 9223372036854775807 := Nat.le_trans h1 h2
  clear h hcc
  go_enter Tryz.func43, Tryz.ntmps43
  go_wp2_with (first | fail)
  go_loopw [5] (fun i wr => ∃ k : Nat, k ≤ l.length ∧ Hid (memB (l.drop k) x = memB l x) ∧ w = wr ∧ i = .int .i64 k) (fun i _ => l.length - (intOf i).toNat)
  case atStart => exact ⟨0, by omega, rfl, rfl, rfl⟩
  case round =>
    obtain ⟨k, hk, hff, rfl, rfl⟩ := hrel
    by_cases hkl : k < l.length
    · obtain ⟨a, ha⟩ : ∃ a, l[k]? = some a := ⟨l[k], by simp [hkl]⟩
      obtain ⟨b, o, vs, rfl, hR, _, hcells⟩ := HC.out k a ha
      unfold StrCells at hR; subst hR
      have c0 := hcells.1
      rw [Nat.mul_one] at c0
      have hstep := memB_drop l k a x ha
      rw [hff.out, ← strEq] at hstep
      have HX := Lib.hid ha
      clear ha hcells
      cases he : a.toList == x.toList with
      | true =>
        rw [he, Bool.true_or] at hstep
        have HS := Lib.hid hstep
        clear hstep
        go_wp2_with (first | fail)
        go_ret
        exact ⟨by rw [HS.out]; rfl, rfl⟩
      | false =>
        rw [he, Bool.false_or] at hstep
        have hst := Lib.hid hstep.symm
        clear hstep
        go_wp2_with (first | fail)
        go_roundw
        case rel => exact ⟨k + 1, by omega, hst.out, by simp, by simp⟩
        case measure => simp [intOf]; omega
    · obtain rfl : k = l.length := by omega
      have hno : memB l x = false := by rw [← hff.out, List.drop_eq_nil_of_le (Nat.le_refl _)]; rfl
      have HS := Lib.hid hno
      clear hno
      go_wp2_with (first | fail)
      go_ret
      exact ⟨by rw [HS.out]; rfl, rfl⟩
theorem texts_drop (a b : List Str) (_hl : a.length = b.length) (k : Nat) (x y : Str) (ha : a[k]? = some x) (hb : b[k]? = some y) : decide (a.drop k = b.drop k) = (decide (x = y) && decide (a.drop (k + 1) = b.drop (k + 1))) := by
  obtain ⟨hk, rfl⟩ := List.getElem?_eq_some_iff.1 ha
  obtain ⟨hk2, rfl⟩ := List.getElem?_eq_some_iff.1 hb
  rw [List.drop_eq_getElem_cons hk, List.drop_eq_getElem_cons hk2, Bool.eq_iff_iff]
  simp only [decide_eq_true_eq, Bool.and_eq_true, List.cons.injEq]
set_option maxHeartbeats 1000000 in
theorem texts_any (a b : List Str) (va vb : Value) (w : World) (ha : StrsAt w va a) (hb : StrsAt w vb b) : Calls Tryz.prog 70 #[va, vb] w fun e w' => e = .returned (.bool (decide (a = b))) ∧ Below w.heap.size w w' := by
  obtain ⟨p, cap, rfl, h1, h2, hcc⟩ := ha.open
  obtain ⟨q, cbp, rfl, k1, k2, hdd⟩ := hb.open
  have HC := Lib.hid hcc
  have HD := Lib.hid hdd
  have hlen : a.length ≤ 9223372036854775807 := Nat.le_trans h1 h2
  clear ha hb hcc hdd
  by_cases hl : a.length = b.length
  · have hl' : ((a.length : Int) != (b.length : Int)) = false := by simp [hl]
    go_enter Tryz.func70, Tryz.ntmps70
    go_wp2_with (first | fail)
    all_goals first | (exfalso; omega) | skip
    go_loopw [5] (fun i wr => ∃ k : Nat, k ≤ a.length ∧ Hid (decide (a.drop k = b.drop k) = decide (a = b)) ∧ Below w.heap.size w wr ∧ i = .int .i64 k) (fun i _ => a.length - (intOf i).toNat)
    case atStart => exact ⟨0, by omega, rfl, Below.refl _ _, rfl⟩
    case round =>
      obtain ⟨k, hk, hff, hB, rfl⟩ := hrel
      by_cases hkl : k < a.length
      · obtain ⟨x, hx⟩ : ∃ x, a[k]? = some x := ⟨a[k], by simp [hkl]⟩
        obtain ⟨y, hy⟩ : ∃ y, b[k]? = some y := ⟨b[k]'(by omega), by simp [← hl, hkl]⟩
        obtain ⟨b1, o1, vs, rfl, hR, _, hcells⟩ := HC.out k x hx
        unfold StrCells at hR; subst hR
        obtain ⟨b2, o2, vs, rfl, hR, _, hcellt⟩ := HD.out k y hy
        unfold StrCells at hR; subst hR
        have c0 := (hcells.mono hB hcells.lt).1
        have d0 := (hcellt.mono hB hcellt.lt).1
        rw [Nat.mul_one] at c0 d0
        have hstep := texts_drop a b hl k x y hx hy
        rw [hff.out, ← strEq] at hstep
        have HX := Lib.hid hx
        have hkb : k < b.length := by omega
        clear hx hy hcells hcellt
        cases he : x.toList == y.toList with
        | true =>
          rw [he, Bool.true_and] at hstep
          have hst := Lib.hid hstep.symm
          clear hstep
          go_upto_region 6 with (first | fail)
          go_quiet (fail)
          go_wp2
          go_roundw
          case rel => exact ⟨k + 1, by omega, hst.out, ⟨hB.os, hB.tape, hB.output, hB.size, hB.block⟩, by simp⟩
          case measure => simp [intOf]; omega
        | false =>
          rw [he, Bool.false_and] at hstep
          have HS := Lib.hid hstep
          clear hstep
          go_upto_region 6 with (first | fail)
          go_quiet (fail)
          go_wp2
          go_ret
          exact ⟨by rw [HS.out]; rfl, ⟨hB.os, hB.tape, hB.output, hB.size, hB.block⟩⟩
      · obtain rfl : k = a.length := by omega
        have hyes : decide (a = b) = true := by rw [← hff.out, List.drop_eq_nil_of_le (Nat.le_refl _), List.drop_eq_nil_of_le (by omega)]; rfl
        have HS := Lib.hid hyes
        clear hyes
        go_wp2_with (first | fail)
        go_ret
        exact ⟨by rw [HS.out]; rfl, hB⟩
  · have hne : decide (a = b) = false := by simpa using fun h => hl (by rw [h])
    have hl' : ((a.length : Int) != (b.length : Int)) = true := by simp; omega
    rw [hne]
    go_enter Tryz.func70, Tryz.ntmps70
    go_wp2_with (first | fail)
    all_goals first | (exfalso; omega) | skip
    go_ret
    exact ⟨rfl, Below.refl _ _⟩
end Go.Proofs.YtbakcdgjibmceaaGreatDoor
