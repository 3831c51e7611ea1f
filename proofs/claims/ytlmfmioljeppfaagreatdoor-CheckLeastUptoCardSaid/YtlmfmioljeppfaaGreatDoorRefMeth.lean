/-
  WALKS over the reference's InsFault at every instruction, CodeFault, HandlersFault. Conditions: as in XIns, XClassBody.
  WALK over the reference's HandlersFault. Conditions: as in XClassBody.
  WALK over the reference's methodFault. Conditions: as in XClassBody.
-/
import Derived.Test.YtlmfmioljeppfaaGreatDoorRefFault
import Derived.Test.YtlmfmioljeppfaaGreatDoorClassBody
import Derived.Test.YtlmfmioljeppfaaGreatDoorClassMethod
import Derived.Deep.QuietTactic
import Derived.BigQuiet
namespace Go.Proofs.YtlmfmioljeppfaaGreatDoor
open Go.RowKit Go.Shelf Go.Lib
theorem refIns_any (x : Ins) (w : World) (hs : InsOk x) : Calls Tryz.prog 13 #[insV x] w fun e w' => e = .returned (.int .i64 (insFault x)) ∧ Below w.heap.size w w' := by
  by_cases h : x.op < 1 ∨ 28 < x.op
  · exact refIns_bad x w h
  · obtain ⟨op, a, b, type, cls, name⟩ := x
    simp at h
    exact refIns_good op a b type cls name w (by omega) (by omega) hs
theorem zero_cases (n : Nat) : ((n : Int) != 0) = decide (n ≠ 0) := by
  by_cases h : n = 0
  · subst h; rfl
  · rw [decide_eq_true h]; simpa using h
set_option maxHeartbeats 1000000 in
set_option maxRecDepth 100000 in
theorem refCode_any (l : List Ins) (cv : Value) (w : World) (hs : ∀ x ∈ l, InsOk x) (h : SliceOf w 6 InsCells cv l) :
    Calls Tryz.prog 116 #[cv] w fun e w' => e = .returned (.int .i64 (codeFault l)) ∧ Below w.heap.size w w' := by
  obtain ⟨p, cap, rfl, hc1, hc2, hcc⟩ := h.open
  have hlen : l.length ≤ 9223372036854775807 := Nat.le_trans hc1 hc2
  by_cases h40 : 40 < l.length
  · have hf : Hid (codeFault l = 4) := by unfold Hid codeFault; rw [if_pos h40]
    clear h hcc hs
    go_enter Tryz.func116, Tryz.ntmps116
    go_wp2_with (first | fail)
    all_goals first | (exfalso; omega) | skip
    go_ret
    exact ⟨by rw [hf.out]; rfl, Below.refl _ _⟩
  have HI : Hid (∀ w2 x, x ∈ l → _) := fun w2 x hx => refIns_any x w2 (hs x hx)
  have HC := Lib.hid hcc
  have hcf : Hid (codeFault l = if firstFault insFault l ≠ 0 then firstFault insFault l
     else if l.any fun x => jumpsB x.op && decide ((l.length : Int) ≤ x.a) then 2
     else match l.getLast? with
      | some x => if endsB x.op then 0 else 8
      | none => 8) := by
    unfold Hid codeFault; rw [if_neg h40]; rfl
  have HJ : Hid (∀ op w, _) := fun op w => refJumps_any op w
  have HE : Hid (∀ op w, _) := fun op w => refEnds_any op w
  clear h hcc hs
  unfold insV at HI
  go_enter Tryz.func116, Tryz.ntmps116
  go_wp2_with (first | fail)
  all_goals first | (exfalso; omega) | skip
  go_loopw [3] (fun x wr => ∃ k : Nat, k ≤ l.length ∧ Hid (firstFault insFault (l.drop k) = firstFault insFault l) ∧ Below w.heap.size w wr ∧ x = .int .i64 k) (fun x _ => l.length - (intOf x).toNat)
  case atStart => exact ⟨0, by omega, rfl, Below.refl _ _, rfl⟩
  case round =>
    obtain ⟨k, hk, hff, hB, rfl⟩ := hrel
    by_cases hkl : k < l.length
    · obtain ⟨x, hx⟩ : ∃ x, l[k]? = some x := ⟨l[k], by simp [hkl]⟩
      obtain ⟨b, o, vs, rfl, hR, _, hcells⟩ := HC.out k x hx
      unfold InsCells at hR; subst hR
      have hcells := hcells.mono hB hcells.lt
      have hxm : Hid (x ∈ l) := List.mem_of_getElem? hx
      have hstep := firstFault_drop insFault l k x hx
      have HX := Lib.hid hx; clear hx
      obtain ⟨c0, c1, c2, c3, c4, c5, _⟩ := hcells
      have hI := HI.out wr x hxm.out
      have hnz := zero_cases (insFault x)
      rw [hff.out] at hstep
      by_cases hz : insFault x = 0
      · rw [if_pos hz] at hstep
        rw [hz] at hI
        have H := Lib.hid hI
        have hst := Lib.hid hstep.symm
        clear hstep hI HI HC hcf hnz hz HJ HE
        go_wp2_with (go_at_call 13; (with_reducible refine H.out.mono ?_); rintro e w2 ⟨rfl, hB2⟩)
        go_roundw
        case rel => exact ⟨k + 1, by omega, hst.out, below_call hB (Nat.le_refl _) hB2, by simp⟩
        case measure => simp [intOf]; omega
      · rw [if_neg hz] at hstep
        rw [decide_eq_true hz] at hnz
        have hfin : Hid (codeFault l = insFault x) := by unfold Hid; rw [hcf.out, hstep, if_pos hz]
        have H := Lib.hid hI
        clear hstep hI HI HC hcf HJ HE hff
        generalize insFault x = fx at *
        clear hz
        go_wp2_with (go_at_call 13; (with_reducible refine H.out.mono ?_); rintro e w2 ⟨rfl, hB2⟩)
        go_ret
        exact ⟨by rw [hfin.out]; rfl, below_call hB (Nat.le_refl _) hB2⟩
    · have hff0 : Hid (firstFault insFault l = 0) := by
        rw [← hff.out, List.drop_eq_nil_of_le (by omega)]; rfl
      clear hff HI
      obtain rfl : k = l.length := by omega
      go_wp2_with (first | fail)
      go_loopw [5] (fun x wr => ∃ k : Nat, k ≤ l.length ∧ Hid (((l.drop k).any fun x => jumpsB x.op && decide ((l.length : Int) ≤ x.a)) = (l.any fun x => jumpsB x.op && decide ((l.length : Int) ≤ x.a))) ∧ Below w.heap.size w wr ∧ x = .int .i64 k) (fun x _ => l.length - (intOf x).toNat)
      case atStart => exact ⟨0, by omega, rfl, hB, rfl⟩
      case round =>
        clear hB
        obtain ⟨k, hk, hff, hB, rfl⟩ := hrel
        by_cases hkl : k < l.length
        · obtain ⟨x, hx⟩ : ∃ x, l[k]? = some x := ⟨l[k], by simp [hkl]⟩
          obtain ⟨b, o, vs, rfl, hR, _, hcells⟩ := HC.out k x hx
          unfold InsCells at hR; subst hR
          have hcells := hcells.mono hB hcells.lt
          have hstep := any_drop (fun x => jumpsB x.op && decide ((l.length : Int) ≤ x.a)) l k x hx
          rw [hff.out] at hstep
          have hj := HJ.out x.op
          cases hjb : jumpsB x.op with
          | false =>
            rw [hjb] at hstep hj
            have hst := Lib.hid hstep
            have HX := Lib.hid hx; clear hx hstep hcf HE HJ
            have HJ := Lib.hid hj; clear hj
            obtain ⟨c0, c1, c2, c3, c4, c5, _⟩ := hcells
            go_wp2_with (go_at_call 43; (with_reducible refine (HJ.out _).mono ?_); rintro e w2 ⟨rfl, rfl⟩)
            go_roundw
            case rel => exact ⟨k + 1, by omega, by simpa [Hid] using hst.out.symm, hB, by simp⟩
            case measure => simp [intOf]; omega
          | true =>
            rw [hjb] at hstep hj
            have hst := Lib.hid hstep
            have HX := Lib.hid hx; clear hx hstep
            have HJ2 := Lib.hid hj; clear hj
            obtain ⟨c0, c1, c2, c3, c4, c5, _⟩ := hcells
            by_cases hge : (l.length : Int) ≤ x.a
            · have hfin : Hid (codeFault l = 2) := by
                unfold Hid; rw [hcf.out, if_neg (by rw [hff0.out]; simp), if_pos (by rw [hst.out]; simp; left; omega)]
              clear hcf HJ HE
              go_wp2_with (go_at_call 43; (with_reducible refine (HJ2.out _).mono ?_); rintro e w2 ⟨rfl, rfl⟩)
              all_goals first | (exfalso; omega) | skip
              go_ret
              exact ⟨by rw [hfin.out]; rfl, hB⟩
            · have hst2 : Hid (((l.drop (k + 1)).any fun x => jumpsB x.op && decide ((l.length : Int) ≤ x.a)) = (l.any fun x => jumpsB x.op && decide ((l.length : Int) ≤ x.a))) := by
                unfold Hid; rw [hst.out, decide_eq_false hge]; simp
              clear hcf HJ HE hst
              go_wp2_with (go_at_call 43; (with_reducible refine (HJ2.out _).mono ?_); rintro e w2 ⟨rfl, rfl⟩)
              all_goals first | (exfalso; omega) | skip
              go_roundw
              case rel => exact ⟨k + 1, by omega, hst2.out, hB, by simp⟩
              case measure => simp [intOf]; omega
        · obtain rfl : k = l.length := by omega
          have hno : Hid ((l.any fun x => jumpsB x.op && decide ((l.length : Int) ≤ x.a)) = false) := by
            rw [← hff.out, List.drop_eq_nil_of_le (by omega)]; rfl
          clear hff HJ
          by_cases h0 : l.length = 0
          · have hz0 : ((l.length : Int) == 0) = true := by rw [beq_iff_eq]; omega
            have hfin : Hid (codeFault l = 8) := by
              obtain rfl := List.length_eq_zero_iff.1 h0
              rfl
            clear hcf HC HE
            go_wp2_with (first | fail)
            all_goals first | (exfalso; omega) | skip
            go_ret
            exact ⟨by rw [hfin.out]; rfl, hB⟩
          · have hz0 : ((l.length : Int) == 0) = false := by rw [beq_eq_false_iff_ne]; omega
            obtain ⟨z, hz⟩ : ∃ z, l[l.length - 1]? = some z := ⟨l[l.length - 1], List.getElem?_eq_getElem (by omega)⟩
            obtain ⟨b, o, vs, rfl, hR, _, hcells⟩ := HC.out _ z hz
            unfold InsCells at hR; subst hR
            have hcells := hcells.mono hB hcells.lt
            obtain ⟨c0, _⟩ := hcells
            have hfin : Hid (codeFault l = if endsB z.op then 0 else 8) := by
              unfold Hid; rw [hcf.out, if_neg (by rw [hff0.out]; simp), if_neg (by rw [hno.out]; simp), List.getLast?_eq_getElem?, hz]
            have he := HE.out z.op
            clear hcf HC hz HE
            cases hee : endsB z.op with
            | true =>
              rw [hee] at he hfin
              have H := Lib.hid he
              clear he hee
              go_wp2_with (go_at_call 65; (with_reducible refine (H.out _).mono ?_); rintro e w2 ⟨rfl, rfl⟩)
              all_goals first | (exfalso; omega) | skip
              go_ret
              exact ⟨by rw [hfin.out]; rfl, hB⟩
            | false =>
              rw [hee] at he hfin
              have H := Lib.hid he
              clear he hee
              go_wp2_with (go_at_call 65; (with_reducible refine (H.out _).mono ?_); rintro e w2 ⟨rfl, rfl⟩)
              all_goals first | (exfalso; omega) | skip
              go_ret
              exact ⟨by rw [hfin.out]; rfl, hB⟩
end Go.Proofs.YtlmfmioljeppfaaGreatDoor
namespace Go.Proofs.YtlmfmioljeppfaaGreatDoor
open Go.RowKit Go.Shelf Go.Lib
theorem refIsName_of {s : ByteArray} (hs : s.size ≤ 1048576) {k : Bool} (hk : nameB (lst s) = k) (w : World) : Calls Tryz.prog 45 #[.string s] w fun e w' => e = .returned (.bool k) ∧ w = w' := by
  subst hk; exact isName_any s w (maxLen_of (Nat.le_trans hs (by decide)))
set_option maxHeartbeats 1000000 in
set_option maxRecDepth 100000 in
theorem refHandlers_any (l : List Handler) (hv : Value) (many : Nat) (w : World) (_hm : many ≤ 9223372036854775807) (hs : ∀ x ∈ l, HandlerOk x) (h : SliceOf w 4 HandlerCells hv l) :
    Calls Tryz.prog 117 #[hv, .int .i64 many] w fun e w' => e = .returned (.int .i64 (handlersFault l many)) ∧ Below w.heap.size w w' := by
  obtain ⟨p, cap, rfl, hc1, hc2, hcc⟩ := h.open
  have hlen : l.length ≤ 9223372036854775807 := Nat.le_trans hc1 hc2
  have HI : Hid (∀ x k, x ∈ l → nameB (lst x.cls) = k → ∀ w, _) := fun x k hx hk w => refIsName_of (hs x hx).cls hk w
  have HC := Lib.hid hcc
  have hcf : Hid (handlersFault l many = if firstFault (handlerFault many) l ≠ 0 then firstFault (handlerFault many) l else if 8 < l.length then 4 else 0) := rfl
  clear h hcc hs
  go_enter Tryz.func117, Tryz.ntmps117
  go_wp2_with (first | fail)
  go_loopw [5] (fun x wr => ∃ k : Nat, k ≤ l.length ∧ Hid (firstFault (handlerFault many) (l.drop k) = firstFault (handlerFault many) l) ∧ Below w.heap.size w wr ∧ x = .int .i64 k) (fun x _ => l.length - (intOf x).toNat)
  case atStart => exact ⟨0, by omega, rfl, Below.refl _ _, rfl⟩
  case round =>
    obtain ⟨k, hk, hff, hB, rfl⟩ := hrel
    by_cases hkl : k < l.length
    · obtain ⟨x, hx⟩ : ∃ x, l[k]? = some x := ⟨l[k], by simp [hkl]⟩
      obtain ⟨b, o, vs, rfl, hR, _, hcells⟩ := HC.out k x hx
      unfold HandlerCells at hR; subst hR
      have hcells := hcells.mono hB hcells.lt
      have hxm : Hid (x ∈ l) := List.mem_of_getElem? hx
      have hstep := firstFault_drop (handlerFault many) l k x hx
      have HX := Lib.hid hx; clear hx
      obtain ⟨c0, c1, c2, c3, _⟩ := hcells
      rw [hff.out] at hstep
      by_cases hbad : x.lo < 0 ∨ x.hi ≤ x.lo ∨ (many : Int) < x.hi ∨ x.dest < 0 ∨ (many : Int) ≤ x.dest
      · have h2 : handlerFault many x = 2 := by unfold handlerFault; rw [if_pos hbad]
        rw [h2, if_neg (by decide)] at hstep
        have hfin : Hid (handlersFault l many = 2) := by unfold Hid; rw [hcf.out, hstep, if_pos (by decide)]
        have HB := Lib.hid hbad
        clear hstep HC HI hcf hff h2 hbad
        go_wp2_with (first | fail)
        all_goals first | (exfalso; have := HB.out; omega) | skip
        all_goals
          go_ret
          exact ⟨by rw [hfin.out]; rfl, by first | exact hB | exact hB.alloc hB.size _⟩
      · have h0 : handlerFault many x = if nameB (lst x.cls) then 0 else 1 := by unfold handlerFault; rw [if_neg hbad]
        simp only [not_or, Int.not_lt, Int.not_le] at hbad
        obtain ⟨b1, b2, b3, b4, b5⟩ := hbad
        cases hnb : nameB (lst x.cls) with
        | true =>
          rw [hnb, if_pos rfl] at h0
          rw [h0, if_pos rfl] at hstep
          have hst := Lib.hid hstep.symm
          have H := Lib.hid (HI.out x _ hxm.out hnb)
          clear hstep HC HI hcf h0 hnb
          go_wp2_with (go_at_call 45; (with_reducible refine (H.out _).mono ?_); rintro e w2 ⟨rfl, rfl⟩)
          all_goals first | (exfalso; omega) | skip
          go_roundw
          case rel => exact ⟨k + 1, by omega, hst.out, by first | exact hB | exact hB.alloc hB.size _, by simp⟩
          case measure => simp [intOf]; omega
        | false =>
          rw [hnb, if_neg (by decide)] at h0
          rw [h0, if_neg (by decide)] at hstep
          have hfin : Hid (handlersFault l many = 1) := by unfold Hid; rw [hcf.out, hstep, if_pos (by decide)]
          have H := Lib.hid (HI.out x _ hxm.out hnb)
          clear hstep HC HI hcf h0 hnb hff
          go_wp2_with (go_at_call 45; (with_reducible refine (H.out _).mono ?_); rintro e w2 ⟨rfl, rfl⟩)
          all_goals first | (exfalso; omega) | skip
          go_ret
          exact ⟨by rw [hfin.out]; rfl, by first | exact hB | exact hB.alloc hB.size _⟩
    · have hff0 : Hid (firstFault (handlerFault many) l = 0) := by
        rw [← hff.out, List.drop_eq_nil_of_le (by omega)]; rfl
      obtain rfl : k = l.length := by omega
      by_cases h8 : 8 < l.length
      · have hfin : Hid (handlersFault l many = 4) := by unfold Hid; rw [hcf.out, hff0.out, if_neg (by decide), if_pos h8]
        clear HC HI hcf hff
        go_wp2_with (first | fail)
        all_goals first | (exfalso; omega) | skip
        go_ret
        exact ⟨by rw [hfin.out]; rfl, hB⟩
      · have hfin : Hid (handlersFault l many = 0) := by unfold Hid; rw [hcf.out, hff0.out, if_neg (by decide), if_neg h8]
        clear HC HI hcf hff
        go_wp2_with (first | fail)
        all_goals first | (exfalso; omega) | skip
        go_ret
        exact ⟨by rw [hfin.out]; rfl, hB⟩
end Go.Proofs.YtlmfmioljeppfaaGreatDoor
namespace Go.Proofs.YtlmfmioljeppfaaGreatDoor
open Go.RowKit Go.Shelf Go.Lib
theorem boxed_method (w : World) (m : Method) (cv hv : Value) (t : TypeId) : Boxed w (w.alloc (.cells #[.string m.name, .string m.type, .bool m.static, .bool m.abs, .bool m.priv, .int .i64 m.locals, cv, hv] t)) [.string m.name, .string m.type, .bool m.static, .bool m.abs, .bool m.priv, .int .i64 m.locals, cv, hv] := boxed_new w _ _
theorem Boxed.drewN {w wx : World} {vals : List Value} (h : Boxed w wx vals) (n : Nat) : Boxed w (wx.drewN n) vals := h.step (below_drewN (Below.refl _ _) n)
theorem methodFault_bad {m : Method} {ahead : List Method} (h : nameB (lst m.name) = false ∨ methodR m.type = none) : methodFault m ahead = 1 := by
  unfold methodFault
  by_cases hn : nameB (lst m.name) = false
  · rw [if_pos (by rw [hn]; rfl)]
  · rw [if_neg (by simpa using hn)]
    rcases h with h | h
    · exact absurd h hn
    · rw [if_pos (by rw [h]; rfl)]
set_option maxHeartbeats 1000000 in
set_option maxRecDepth 100000 in
theorem refMeth_bad (m : Method) (cv hv av : Value) (ahead : List Method) (w : World) (ho : MethodOk m) (hav : SliceOf w 8 (MethodCells w) av ahead) (h : nameB (lst m.name) = false ∨ methodR m.type = none) :
    Calls Tryz.prog 73 #[methodV m cv hv, av] w fun e w' => e = .returned (.int .i64 (methodFault m ahead)) ∧ Below w.heap.size w w' := by
  have hf := Lib.hid (methodFault_bad (ahead := ahead) h)
  obtain ⟨kn, hkn⟩ : ∃ k, nameB (lst m.name) = k := ⟨_, rfl⟩
  have HN := Lib.hid (refIsName_of (s := m.name) ho.name hkn)
  obtain ⟨pa, ca, rfl, _⟩ := hav.open
  unfold methodV
  cases hm : methodR m.type with
  | none =>
    have HM := Lib.hid (refMethod_no_call ho.type hm)
    have HB : Hid (∀ w2, _ → _) := fun w2 => (boxed_method w m cv hv 53).step (wy := w2)
    clear ho hav h hkn hm
    obtain ⟨name, type, static, abs, priv, locals, code, handlers⟩ := m
    dsimp only at *
    cases kn
    all_goals
      go_enter Tryz.func73, Tryz.ntmps73
      go_wp2_with (first | (go_at_call 27; (with_reducible refine (HM.out _).mono ?_); rintro e w2 ⟨rfl, hB⟩; (have BX := HB.out w2 hB); obtain ⟨q0, q1, q2, q3, q4, q5, q6, q7⟩ := boxed8 BX) | (go_at_call 45; (with_reducible refine (HN.out _).mono ?_); rintro e w3 ⟨rfl, rfl⟩))
      go_ret
      exact ⟨by rw [hf.out]; rfl, BX.below⟩
  | some ag =>
    obtain ⟨args, g⟩ := ag
    have HM := Lib.hid (refMethod_yes_call ho.type hm)
    have HB : Hid (∀ w2, _ → _) := fun w2 => (boxed_method w m cv hv 53).step (wy := w2)
    obtain rfl : kn = false := by rw [← hkn]; rcases h with h | h; exact h; rw [hm] at h; cases h
    clear ho hav h hkn hm
    obtain ⟨name, type, static, abs, priv, locals, code, handlers⟩ := m
    dsimp only at *
    go_enter Tryz.func73, Tryz.ntmps73
    go_wp2_with (first | (go_at_call 27; (with_reducible refine (HM.out _).mono ?_); rintro e w2 ⟨va, vc, rfl, hV, hB⟩; (have BX := HB.out w2 hB); obtain ⟨q0, q1, q2, q3, q4, q5, q6, q7⟩ := boxed8 BX) | (go_at_call 45; (with_reducible refine (HN.out _).mono ?_); rintro e w3 ⟨rfl, rfl⟩))
    go_ret
    exact ⟨by rw [hf.out]; rfl, BX.below⟩
theorem argCount_of {m : Method} {args : List ByteArray} {g : ByteArray} (h : methodR m.type = some (args, g)) : ((if m.static then (args.length : Int) else args.length + 1) : Int) = argCount m := by
  rw [argCount_some h]; split <;> simp
set_option maxHeartbeats 2000000 in
set_option maxRecDepth 100000 in
theorem refMeth_good (m : Method) (cv hv av : Value) (ahead : List Method) (w : World) (ho : MethodOk m) (hcv : SliceOf w 6 InsCells cv m.code) (hhv : SliceOf w 4 HandlerCells hv m.handlers) (hav : SliceOf w 8 (MethodCells w) av ahead) (args : List ByteArray) (g : ByteArray) (hkn : nameB (lst m.name) = true) (hm : methodR m.type = some (args, g)) :
    Calls Tryz.prog 73 #[methodV m cv hv, av] w fun e w' => e = .returned (.int .i64 (methodFault m ahead)) ∧ Below w.heap.size w w' := by
  have hf : Hid (methodFault m ahead = if ahead.any fun x => decide (x.name = m.name) && decide (x.type = m.type) then 5 else if m.locals < 0 ∨ 8 < m.locals then 2 else bodyFault m) := by
    unfold Hid methodFault; rw [if_neg (by rw [hkn]; decide), if_neg (by rw [hm]; simp)]
  have HN := Lib.hid (refIsName_of (s := m.name) ho.name hkn)
  have HM := Lib.hid (refMethod_yes_call ho.type hm)
  have HB : Hid (∀ w2, _ → _) := fun w2 => (boxed_method w m cv hv 53).step (wy := w2)
  have HCo : Hid (∀ wx, Below w.heap.size w wx → _) := fun wx hb => refCode_any m.code cv wx ho.code (hcv.mono hb (by decide) (fun _ _ h => h))
  obtain ⟨p, cap, rfl, hc1, hc2, hcc⟩ := hcv.open
  have HHa : Hid (∀ wx, Below w.heap.size w wx → _) := fun wx hb => refHandlers_any m.handlers hv m.code.length wx (Nat.le_trans hc1 hc2) ho.handlers (hhv.mono hb (by decide) (fun _ _ h => h))
  obtain ⟨ph, cah, rfl, hd1, hd2, _⟩ := hhv.open
  obtain ⟨pa, caa, rfl, ha1, ha2, haa⟩ := hav.open
  have HA := Lib.hid haa
  have HC := Lib.hid hcc
  have h5 := methodR_len hm
  have hac := Lib.hid (argCount_of hm)
  have hbf : Hid (bodyFault m = if m.abs then (if m.static || m.priv || !m.code.isEmpty || !m.handlers.isEmpty then 8 else 0)
    else if codeFault m.code ≠ 0 then codeFault m.code
    else if m.locals < argCount m then 2
    else if m.code.any fun x => (x.op == 4 || x.op == 5) && decide (m.locals ≤ x.a) then 2
    else handlersFault m.handlers m.code.length) := rfl
  have hal : ahead.length ≤ 9223372036854775807 := Nat.le_trans ha1 ha2
  have hcl : m.code.length ≤ 9223372036854775807 := Nat.le_trans hc1 hc2
  clear haa hcc ho hcv hhv hav hkn hm
  generalize methodFault m ahead = res at *
  generalize bodyFault m = bf at *
  generalize argCount m = ac at *
  unfold methodV
  obtain ⟨name, type, static, abs, priv, locals, code, handlers⟩ := m
  dsimp only at *
  go_enter Tryz.func73, Tryz.ntmps73
  go_wp2_with (first | (go_at_call 27; (with_reducible refine (HM.out _).mono ?_); rintro e w2 ⟨va, vc, rfl, hV, hB⟩; (have BX := HB.out w2 hB); obtain ⟨q0, q1, q2, q3, q4, q5, q6, q7⟩ := boxed8 BX) | (go_at_call 45; (with_reducible refine (HN.out _).mono ?_); rintro e w3 ⟨rfl, rfl⟩))
  clear hV hB HM HN HB q0 q1 q2 q3 q4 q5 q6 q7
  go_loopw [8] (fun x wr => ∃ k : Nat, k ≤ ahead.length ∧ Hid (((ahead.drop k).any fun x => decide (x.name = name) && decide (x.type = type)) = (ahead.any fun x => decide (x.name = name) && decide (x.type = type))) ∧ Boxed w wr [.string name, .string type, .bool static, .bool abs, .bool priv, .int .i64 locals, .slice p code.length cap, .slice ph handlers.length cah] ∧ x = .int .i64 k) (fun x _ => ahead.length - (intOf x).toNat)
  case atStart => exact ⟨0, by omega, rfl, BX, rfl⟩
  case round =>
    clear BX
    obtain ⟨k, hk, hff, BX, rfl⟩ := hrel
    obtain ⟨q0, q1, q2, q3, q4, q5, q6, q7⟩ := boxed8 BX
    by_cases hkl : k < ahead.length
    · obtain ⟨x, hx⟩ : ∃ x, ahead[k]? = some x := ⟨ahead[k], by simp [hkl]⟩
      obtain ⟨b, o, vs, rfl, hR, _, hcells⟩ := HA.out k x hx
      obtain ⟨xcv, xhv, rfl, _, _⟩ := hR
      have hcells := hcells.mono BX.below hcells.lt
      obtain ⟨c0, c1, _⟩ := hcells
      have hstep := any_drop (fun x => decide (x.name = name) && decide (x.type = type)) ahead k x hx
      rw [hff.out] at hstep
      rw [← strEq, ← strEq] at hstep
      have HX := Lib.hid hx; clear hx
      cases h1 : x.name.toList == name.toList <;> cases h2 : x.type.toList == type.toList
      case true.true =>
        rw [h1, h2] at hstep
        have hfin : Hid (res = 5) := by unfold Hid; rw [hf.out, if_pos (by rw [hstep]; rfl)]
        clear hstep hf hbf hff HCo HHa HC HA
        go_upto_region 7 with (first | fail)
        go_quiet (fail)
        go_wp2
        go_ret
        exact ⟨by rw [hfin.out]; rfl, (BX.drewN _).below⟩
      all_goals
        rw [h1, h2] at hstep
        have hst : Hid (((ahead.drop (k + 1)).any fun x => decide (x.name = name) && decide (x.type = type)) = (ahead.any fun x => decide (x.name = name) && decide (x.type = type))) := by
          unfold Hid; rw [hstep]; simp
        clear hstep hf hbf hff HCo HHa HC HA
        go_upto_region 7 with (first | fail)
        go_quiet (fail)
        go_wp2
        go_roundw
        case rel => exact ⟨k + 1, by omega, hst.out, BX.drewN _, by simp⟩
        case measure => simp [intOf]; omega
    · obtain rfl : k = ahead.length := by omega
      have hno : Hid ((ahead.any fun x => decide (x.name = name) && decide (x.type = type)) = false) := by
        unfold Hid; rw [← hff.out, List.drop_eq_nil_of_le (Nat.le_refl _)]; rfl
      have hf2 : Hid (res = if locals < 0 ∨ 8 < locals then 2 else bf) := by unfold Hid; rw [hf.out, if_neg (by rw [hno.out]; decide)]
      clear hf hno hff HA
      by_cases hlo : locals < 0 ∨ 8 < locals
      · have hfin : Hid (res = 2) := by unfold Hid; rw [hf2.out, if_pos hlo]
        clear hf2 hbf HCo HHa HC
        go_wp2_with (first | fail)
        all_goals first | (exfalso; omega) | skip
        all_goals
          go_ret
          exact ⟨by rw [hfin.out]; rfl, BX.below⟩
      · have hf3 : Hid (res = bf) := by unfold Hid; rw [hf2.out, if_neg hlo]
        clear hf2
        simp only [not_or, Int.not_lt] at hlo
        obtain ⟨hlo1, hlo2⟩ := hlo
        cases abs with
        | true =>
          have hfin : Hid (res = if (static || priv || !code.isEmpty || !handlers.isEmpty) = true then 8 else 0) := by unfold Hid; rw [hf3.out, hbf.out, if_pos rfl]
          clear hf3 hbf HCo HHa HC
          cases static with
          | true =>
            have hfin2 : Hid (res = 8) := by unfold Hid; rw [hfin.out]; rfl
            go_wp2_with (first | fail)
            all_goals first | (exfalso; omega) | skip
            go_ret
            exact ⟨by rw [hfin2.out]; rfl, BX.below⟩
          | false =>
            cases priv with
            | true =>
              have hfin2 : Hid (res = 8) := by unfold Hid; rw [hfin.out]; rfl
              go_wp2_with (first | fail)
              all_goals first | (exfalso; omega) | skip
              go_ret
              exact ⟨by rw [hfin2.out]; rfl, BX.below⟩
            | false =>
              cases code with
              | cons y r =>
                have hfin2 : Hid (res = 8) := by unfold Hid; rw [hfin.out]; rfl
                have hl : 0 < (y :: r).length := by simp
                generalize (y :: r).length = n at *
                go_wp2_with (first | fail)
                all_goals first | (exfalso; omega) | skip
                go_ret
                exact ⟨by rw [hfin2.out]; rfl, BX.below⟩
              | nil =>
                cases handlers with
                | cons y r =>
                  have hfin2 : Hid (res = 8) := by unfold Hid; rw [hfin.out]; rfl
                  have hl : 0 < (y :: r).length := by simp
                  generalize (y :: r).length = n at *
                  go_wp2_with (first | fail)
                  all_goals first | (exfalso; omega) | skip
                  go_ret
                  exact ⟨by rw [hfin2.out]; rfl, BX.below⟩
                | nil =>
                  have hfin2 : Hid (res = 0) := by unfold Hid; rw [hfin.out]; rfl
                  go_wp2_with (first | fail)
                  all_goals first | (exfalso; omega) | skip
                  go_ret
                  exact ⟨by rw [hfin2.out]; rfl, BX.below⟩
        | false =>
          have hf4 : Hid (res = if codeFault code ≠ 0 then codeFault code
            else if locals < ac then 2
            else if code.any fun x => (x.op == 4 || x.op == 5) && decide (locals ≤ x.a) then 2
            else handlersFault handlers code.length) := by unfold Hid; rw [hf3.out, hbf.out, if_neg (by decide)]
          clear hf3 hbf
          have hCo := HCo.out _ BX.below
          have hnz := zero_cases (codeFault code)
          by_cases hz : codeFault code = 0
          · rw [hz] at hCo hf4
            rw [if_neg (by decide)] at hf4
            have HC2 := Lib.hid hCo
            clear hCo HCo hz hnz
            by_cases hla : locals < ac
            · rw [if_pos hla] at hf4
              clear HHa HC
              cases static
              all_goals
                have hac2 := hac.out
                simp at hac2
                have ha1 := Int.le_of_eq hac2
                have ha2 := Int.le_of_eq hac2.symm
                clear hac2 hac
                go_wp2_with (go_at_call 116; (with_reducible refine HC2.out.mono ?_); rintro e w4 ⟨rfl, hB4⟩; (have BX4 := BX.step hB4); obtain ⟨r0, r1, r2, r3, r4, r5, r6, r7⟩ := boxed8 BX4)
                all_goals first | (exfalso; omega) | skip
                go_ret
                exact ⟨by rw [hf4.out]; rfl, BX4.below⟩
            · rw [if_neg hla] at hf4
              have hfin : Hid (∀ b, (code.any fun x => (x.op == 4 || x.op == 5) && decide (locals ≤ x.a)) = b → res = if b then 2 else handlersFault handlers code.length) := fun b hb => by rw [hf4.out, hb]
              clear hf4
              cases static
              all_goals
                have hac2 := hac.out
                simp at hac2
                have ha1 := Int.le_of_eq hac2
                have ha2 := Int.le_of_eq hac2.symm
                clear hac2 hac
                go_wp2_with (go_at_call 116; (with_reducible refine HC2.out.mono ?_); rintro e w4 ⟨rfl, hB4⟩; (have BX4 := BX.step hB4); obtain ⟨r0, r1, r2, r3, r4, r5, r6, r7⟩ := boxed8 BX4)
                all_goals first | (exfalso; omega) | skip
                clear HC2 hB4 BX q0 q1 q2 q3 q4 q5 q6 q7 r0 r1 r2 r3 r4 r5 r6 r7
                go_loopw [11] (fun x wr => ∃ k : Nat, k ≤ code.length ∧ Hid (((code.drop k).any fun x => (x.op == 4 || x.op == 5) && decide (locals ≤ x.a)) = (code.any fun x => (x.op == 4 || x.op == 5) && decide (locals ≤ x.a))) ∧ Boxed w wr [.string name, .string type, .bool _, .bool false, .bool priv, .int .i64 locals, .slice p code.length cap, .slice ph handlers.length cah] ∧ x = .int .i64 k) (fun x _ => code.length - (intOf x).toNat)
                case atStart => exact ⟨0, by omega, rfl, BX4, rfl⟩
                case round =>
                  clear BX4
                  obtain ⟨k, hk, hff, BX, rfl⟩ := hrel
                  obtain ⟨q0, q1, q2, q3, q4, q5, q6, q7⟩ := boxed8 BX
                  by_cases hkl : k < code.length
                  · obtain ⟨x, hx⟩ : ∃ x, code[k]? = some x := ⟨code[k], by simp [hkl]⟩
                    obtain ⟨b, o, vs, rfl, hR, _, hcells⟩ := HC.out k x hx
                    unfold InsCells at hR; subst hR
                    have hcells := hcells.mono BX.below hcells.lt
                    have hstep := any_drop (fun x => (x.op == 4 || x.op == 5) && decide (locals ≤ x.a)) code k x hx
                    rw [hff.out] at hstep
                    have HX := Lib.hid hx; clear hx
                    obtain ⟨c0, c1, c2, c3, c4, c5, _⟩ := hcells
                    obtain ⟨k4, h4⟩ : ∃ k, (x.op == 4) = k := ⟨_, rfl⟩
                    obtain ⟨k5, h5⟩ : ∃ k, (x.op == 5) = k := ⟨_, rfl⟩
                    obtain ⟨ka, ha⟩ : ∃ k, decide (locals ≤ x.a) = k := ⟨_, rfl⟩
                    rw [h4, h5, ha] at hstep
                    cases hls : (k4 || k5) && ka with
                    | true =>
                      rw [hls, Bool.true_or] at hstep
                      have hfin2 : Hid (res = 2) := hfin.out _ hstep
                      have HL := Lib.hid hls
                      clear hls hstep hfin HHa hff
                      cases k4 <;> cases k5 <;> cases ka <;> try (exact absurd HL.out (by decide))
                      all_goals
                        clear HL
                        go_upto_region 26 with (first | fail)
                        go_quiet (fail)
                        go_wp2
                        go_ret
                        exact ⟨by rw [hfin2.out]; rfl, (BX.drewN _).below⟩
                    | false =>
                      rw [hls, Bool.false_or] at hstep
                      have HL := Lib.hid hls
                      have hst := Lib.hid hstep.symm
                      clear hls hstep hfin HHa
                      cases k4 <;> cases k5 <;> cases ka <;> try (exact absurd HL.out (by decide))
                      all_goals
                        clear HL
                        go_upto_region 26 with (first | fail)
                        go_quiet (fail)
                        go_wp2
                        go_roundw
                        case rel => exact ⟨k + 1, by omega, hst.out, BX.drewN _, by simp⟩
                        case measure => simp [intOf]; omega
                  · obtain rfl : k = code.length := by omega
                    have hno : (code.any fun x => (x.op == 4 || x.op == 5) && decide (locals ≤ x.a)) = false := by
                      rw [← hff.out, List.drop_eq_nil_of_le (Nat.le_refl _)]; rfl
                    have hfin2 : Hid (res = handlersFault handlers code.length) := hfin.out _ hno
                    have H := Lib.hid (HHa.out _ BX.below)
                    clear hno hfin hff HHa HC
                    go_wp2_with (go_at_call 117; (with_reducible refine H.out.mono ?_); rintro e w5 ⟨rfl, hB5⟩)
                    go_ret
                    exact ⟨by rw [hfin2.out]; rfl, (BX.step hB5).below⟩
          · rw [if_pos hz] at hf4
            rw [decide_eq_true hz] at hnz
            have HC2 := Lib.hid hCo
            clear hCo HCo
            generalize codeFault code = cf at *
            clear hz
            go_wp2_with (go_at_call 116; (with_reducible refine HC2.out.mono ?_); rintro e w4 ⟨rfl, hB4⟩; (have BX4 := BX.step hB4); obtain ⟨r0, r1, r2, r3, r4, r5, r6, r7⟩ := boxed8 BX4)
            all_goals first | (exfalso; omega) | skip
            go_ret
            exact ⟨by rw [hf4.out]; rfl, BX4.below⟩
theorem refMeth_any (m : Method) (cv hv av : Value) (ahead : List Method) (w : World) (ho : MethodOk m) (hcv : SliceOf w 6 InsCells cv m.code) (hhv : SliceOf w 4 HandlerCells hv m.handlers) (hav : SliceOf w 8 (MethodCells w) av ahead) :
    Calls Tryz.prog 73 #[methodV m cv hv, av] w fun e w' => e = .returned (.int .i64 (methodFault m ahead)) ∧ Below w.heap.size w w' := by
  by_cases h : nameB (lst m.name) = false ∨ methodR m.type = none
  · exact refMeth_bad m cv hv av ahead w ho hav h
  · simp only [not_or] at h
    obtain ⟨h1, h2⟩ := h
    cases hm : methodR m.type with
    | none => exact absurd hm h2
    | some ag => exact refMeth_good m cv hv av ahead w ho hcv hhv hav ag.1 ag.2 (by simpa using h1) hm
end Go.Proofs.YtlmfmioljeppfaaGreatDoor
