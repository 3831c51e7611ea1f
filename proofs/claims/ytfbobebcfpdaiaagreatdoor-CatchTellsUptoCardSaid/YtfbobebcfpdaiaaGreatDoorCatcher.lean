/-
  WALK over catch.First. Conditions: as in XRead, for the handlers too.
-/
import Derived.Test.YtfbobebcfpdaiaaGreatDoorRead
namespace Go.Proofs.YtfbobebcfpdaiaaGreatDoor
open Go.RowKit Go.Shelf Go.Lib
/-- the first handler that catches: where it goes on, and whether its class is there -/
def firstGo (cs : List Class) (every : List Str) (pos : Int) : List Handler → Int × Bool
  | [] => (-1, true)
  | h :: r =>
    if pos < h.lo ∨ h.hi ≤ pos then firstGo cs every pos r
    else if !(findC cs h.cls).isSome then (-1, false)
    else if memB every h.cls then (h.dest, true)
    else firstGo cs every pos r
theorem firstGo_drop (cs : List Class) (every : List Str) (pos : Int) (l : List Handler) (k : Nat) (h : Handler) (hk : l[k]? = some h) :
    firstGo cs every pos (l.drop k) = if pos < h.lo ∨ h.hi ≤ pos then firstGo cs every pos (l.drop (k + 1))
    else if !(findC cs h.cls).isSome then (-1, false) else if memB every h.cls then (h.dest, true) else firstGo cs every pos (l.drop (k + 1)) := by
  obtain ⟨hk2, rfl⟩ := List.getElem?_eq_some_iff.1 hk
  rw [List.drop_eq_getElem_cons hk2]; rfl
set_option maxHeartbeats 4000000 in
set_option maxRecDepth 100000 in
theorem first2_any (w0 w : World) (B : Nat) (cs : List Class) (hm : ClassMap w0 w B cs) (hn : (cs.map (·.name)).Nodup) (h8 : ∀ c ∈ cs, c.faces.length ≤ 8) (h12 : cs.length ≤ 12) (hcl : Closed cs) (m : Method) (cv hv : Value) (pos : Int) (n : Str) (hk : (findC cs n).isSome = true)
    (hho : ∀ h ∈ m.handlers, HandlerOk h) (hhv : SliceOf w 4 HandlerCells hv m.handlers) (r : Int) (b : Bool) (hr : firstGo cs (everyC cs n) pos m.handlers = (r, b)) :
    Calls Tryz.prog 61 #[.map (some B), methodV m cv hv, .int .i64 pos, .string n] w fun e w' => e = .returned (.tuple #[.int .i64 r, .bool b]) ∧ Below w.heap.size w w' := by
  have HE : Hid (∀ wx, Below w.heap.size w wx → _) := fun wx hb => every_any w0 wx B cs (hm.step hb) hn h8 h12 hcl n hk
  have HLk : Hid (∀ n : Str, n.size ≤ maxLen → _) := fun n hs => hm.look3 hn n hs
  have HC0 : Hid (∀ v wx x, StrsAt wx v (sortS (everyC cs n)) → _) := fun v wx x h => contains_any (sortS (everyC cs n)) v x wx h
  obtain ⟨ph, caph, rfl, hc1, hc2, hcc⟩ := hhv.open
  have HC := Lib.hid hcc
  have HO := Lib.hid hho
  have HR : Hid ((r, b) = firstGo cs (everyC cs n) pos m.handlers) := hr.symm
  clear hcc hhv hho hr hm hn h8 hcl hk
  unfold methodV
  obtain ⟨name, type, static, abs, priv, locals, code, handlers⟩ := m
  dsimp only at *
  have hlen : handlers.length ≤ 9223372036854775807 := Nat.le_trans hc1 hc2
  go_enter Tryz.func61, Tryz.ntmps61
  go_wp2_with (go_at_call 82; (with_reducible refine (HE.out _ ((Below.refl _ _).alloc (Nat.le_refl _) _)).mono ?_); rintro e w2 ⟨⟨ve, rfl, hve⟩, hB2⟩; obtain ⟨pe, ke, rfl, _⟩ := hve.open; obtain ⟨hcl2, _⟩ := bcell hB2; (have r7 := hcl2 w.heap.size 7 (by simp)))
  have BX : Boxed w w2 [.string name, .string type, .bool static, .bool abs, .bool priv, .int .i64 locals, cv, .slice ph handlers.length caph] := ⟨below_call ((Below.refl _ _).alloc (Nat.le_refl _) _) (Nat.le_refl _) hB2, Nat.lt_of_lt_of_le (by simp) hB2.size, Cells.mono hB2 (by simp) (by simp [Cells])⟩
  clear hcl2 hB2 r7 HE
  go_loopw [21] (fun x wr => ∃ k, k ≤ handlers.length ∧ Hid (firstGo cs (everyC cs n) pos (handlers.drop k) = firstGo cs (everyC cs n) pos handlers) ∧ Below w2.heap.size w2 wr ∧ x = .int .i64 k) (fun x _ => handlers.length - (intOf x).toNat)
  case atStart => exact ⟨0, by omega, rfl, Below.refl _ _, rfl⟩
  case round =>
    obtain ⟨k, hkk, hff, hB, rfl⟩ := hrel
    have hve2 := hve.mono hB
    have BX2 := BX.step hB
    by_cases hkl : k < handlers.length
    · obtain ⟨h, hx⟩ : ∃ x, handlers[k]? = some x := ⟨handlers[k], by simp [hkl]⟩
      have hho := HO.out h (List.mem_of_getElem? hx)
      obtain ⟨b0, o, vs, rfl, rfl, _, hcells⟩ := HC.out k h hx
      have hcells := hcells.mono BX2.below hcells.lt
      have hstep := firstGo_drop cs (everyC cs n) pos handlers k h hx
      rw [hff.out] at hstep
      obtain ⟨p1, k1, p2, k2, p3, k3, _, _, _, hl3⟩ := HLk.out h.cls (Nat.le_trans hho.cls (by decide))
      have hl4 := (hl3 _ (BX2.alloc (.cells #[.int .i64 h.lo, .int .i64 h.hi, .int .i64 h.dest, .string h.cls] 88)).below).1
      have HX := Lib.hid hx
      clear hx hho hl3
      obtain ⟨c0, c1, c2, c3, _⟩ := hcells
      have hcon := fun wx hs => HC0.out (.slice pe (sortS (everyC cs n)).length ke) wx h.cls hs
      rw [memB_sort] at hcon
      by_cases hin : pos < h.lo ∨ h.hi ≤ pos
      · rw [if_pos hin] at hstep
        have hst := Lib.hid hstep.symm
        have HI := Lib.hid hin
        clear hin hstep HR hl4 hcon
        go_wp2_with (first | fail)
        all_goals first | (exfalso; have := HI.out; omega) | skip
        all_goals
          go_roundw
          case rel => exact ⟨k + 1, by omega, hst.out, hB.alloc (Nat.le_trans (Nat.le_refl _) hB.size) _, by simp⟩
          case measure => simp [intOf]; omega
      · rw [if_neg hin] at hstep
        simp only [not_or, Int.not_lt, Int.not_le] at hin
        obtain ⟨i1, i2⟩ := hin
        have hBa := hB.alloc hB.size (.cells #[.int .i64 h.lo, .int .i64 h.hi, .int .i64 h.dest, .string h.cls] 88)
        cases hfc : (findC cs h.cls).isSome with
        | false =>
          rw [hfc] at hstep hl4
          have hfin : Hid ((r, b) = (-1, false)) := by rw [HR.out, hstep]; rfl
          clear hstep hfc HR hff hcon
          generalize (findC cs h.cls).getD noClass = d at *
          obtain ⟨n2, s2, f2, b2, d2, m2⟩ := d
          unfold classV at hl4
          dsimp only at hl4
          have HBX := Lib.hid (BX2.step (below_alloc2 wr (.cells #[.int .i64 h.lo, .int .i64 h.hi, .int .i64 h.dest, .string h.cls] 88) (.cells #[.string n2, .string s2, .slice p1 f2.length k1, .bool b2, .slice p2 d2.length k2, .slice p3 m2.length k3] 34)))
          clear hBa BX BX2
          go_wp2_with (first | fail)
          all_goals first | (exfalso; omega) | skip
          cases hfin.out
          go_ret2
          exact ⟨rfl, HBX.out.below⟩
        | true =>
          rw [hfc] at hstep hl4
          replace hstep : firstGo cs (everyC cs n) pos handlers = if memB (everyC cs n) h.cls then (h.dest, true) else firstGo cs (everyC cs n) pos (handlers.drop (k + 1)) := hstep
          generalize (findC cs h.cls).getD noClass = d at *
          obtain ⟨n2, s2, f2, b2, d2, m2⟩ := d
          unfold classV at hl4
          dsimp only at hl4
          have hB3 := below_alloc2 wr (.cells #[.int .i64 h.lo, .int .i64 h.hi, .int .i64 h.dest, .string h.cls] 88) (.cells #[.string n2, .string s2, .slice p1 f2.length k1, .bool b2, .slice p2 d2.length k2, .slice p3 m2.length k3] 34)
          have HBX := Lib.hid (BX2.step hB3)
          have HB4 := Lib.hid (below_call hB (Nat.le_refl _) hB3)
          have hct := hcon _ (hve2.mono hB3)
          clear hcon hB3
          cases hmm : memB (everyC cs n) h.cls with
          | true =>
            rw [hmm] at hct
            rw [hmm, if_pos rfl] at hstep
            have hfin : Hid ((r, b) = (h.dest, true)) := by rw [HR.out, hstep]; rfl
            have HCt := Lib.hid hct
            clear hct hstep hfc HR hff hmm hBa BX BX2
            go_wp2_with (go_at_call 81; (with_reducible refine HCt.out.mono ?_); rintro e w3 ⟨rfl, rfl⟩)
            all_goals first | (exfalso; omega) | skip
            cases hfin.out
            go_ret2
            exact ⟨rfl, HBX.out.below⟩
          | false =>
            rw [hmm] at hct
            rw [hmm, if_neg (by decide)] at hstep
            have hst := Lib.hid hstep.symm
            have HCt := Lib.hid hct
            clear hct hstep hfc HR hff hmm hBa BX BX2
            go_wp2_with (go_at_call 81; (with_reducible refine HCt.out.mono ?_); rintro e w3 ⟨rfl, rfl⟩)
            all_goals first | (exfalso; omega) | skip
            go_roundw
            case rel => exact ⟨k + 1, by omega, hst.out, HB4.out, by simp⟩
            case measure => simp [intOf]; omega
    · have hfin : Hid ((r, b) = (-1, true)) := by
        rw [HR.out, ← hff.out, List.drop_eq_nil_of_le (by omega)]; rfl
      obtain rfl : k = handlers.length := by omega
      clear hff HR
      go_wp2_with (first | fail)
      cases hfin.out
      go_ret2
      exact ⟨rfl, BX2.below⟩
end Go.Proofs.YtfbobebcfpdaiaaGreatDoor
