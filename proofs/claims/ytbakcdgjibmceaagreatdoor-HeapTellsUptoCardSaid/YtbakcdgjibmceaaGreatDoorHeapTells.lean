/-
  WALK over the law HeapTells. Conditions: as in XRead; texts of at most maxLen signs.
-/
import Derived.Test.YtbakcdgjibmceaaGreatDoorHeaped
import Derived.Test.YtbakcdgjibmceaaGreatDoorFaults
namespace Go.Proofs.YtbakcdgjibmceaaGreatDoor
open Go.RowKit Go.Shelf Go.Lib
theorem err_is (k : Nat) (hk : k ≠ 0) (w : World) : Calls Tryz.prog 14 #[.iface 35 (.int .i64 k), .int .i64 k] w fun e w' => e = .returned (.bool true) ∧ w = w' := by
  have := error_any k k w
  rcases errV_cases k with ⟨_, h⟩ | ⟨h, _⟩
  · exact absurd h hk
  · rw [h, decide_eq_true rfl] at this; exact this
theorem err_nil (w : World) : Calls Tryz.prog 14 #[.nilIface, .int .i64 0] w fun e w' => e = .returned (.bool true) ∧ w = w' := error_any 0 0 w
theorem err_one (w : World) : Calls Tryz.prog 14 #[.iface 35 (.int .i64 1), .int .i64 1] w fun e w' => e = .returned (.bool true) ∧ w = w' := err_is 1 (by decide) w
set_option maxHeartbeats 4000000 in
set_option maxRecDepth 100000 in
theorem heapTells_any (l : List Class) (lv : Value) (h : List Thing) (hv : Value) (v : Val) (k : Str) (w : World) (hl : Laid w) (ho : ∀ c ∈ l, ClassOk c) (hlv : ClassesAt w lv l) (hh : ThingsAt w hv h) (hS : Short h) (hk : k.size ≤ maxLen) :
    Calls Tryz.prog 4 #[lv, .agg #[hv], valV v, .string k] w fun e w' => e = .returned (.bool true) ∧ Below w.heap.size w w' := by
  have HHd : Hid (∀ wx, Below w.heap.size w wx → _) := fun wx hb => heaped_any wx (hl.mono hb hl.1)
  have HRf : Hid (∀ wx, Below w.heap.size w wx → _) := fun wx hb => refHeap_any l lv wx ho (hlv.mono hb) h hv (hh.mono hb) hS
  have HCh : Hid (∀ wx, Below w.heap.size w wx → _) := fun wx hb => heapCheck_any l lv h hv wx (hl.mono hb hl.1) ho (hlv.mono hb) (hh.mono hb) hS
  have HHo : Hid (∀ wx, Below w.heap.size w wx → _) := fun wx hb => heapHolds_any l lv h hv v k wx (hl.mono hb hl.1) ho (hlv.mono hb) (hh.mono hb) hS hk
  have HTy : Hid (∀ wx, _) := fun wx => refIsType_any k wx hk
  have HKi : Hid (∀ wx, Below w.heap.size w wx → _) := fun wx hb => refKind_any l lv k wx (hlv.mono hb) hk
  have HLv : Hid (∀ wx, Below w.heap.size w wx → ClassesAt wx lv l) := fun wx hb => hlv.mono hb
  have HTh : Hid (∀ wx, Below w.heap.size w wx → ThingsAt wx hv h) := fun wx hb => hh.mono hb
  have HE0 := Lib.hid err_nil
  obtain ⟨pl, cap, rfl, _⟩ := hlv.open
  obtain ⟨ph, kh, rfl, _⟩ := hh.open
  rw [show k.data.toList = lst k from rfl] at HTy
  have HS := Lib.hid hS
  clear hl ho hlv hh hS
  by_cases hf : heapFault l h = 0
  · rw [hf] at HRf HCh
    rw [show errV 0 = .nilIface from rfl] at HCh
    cases hty : typeB (lst k) with
    | false =>
      have hF := holdsF_form (h := h) hf hty
      have hV : holdsV l h v k = false := by unfold holdsV; rw [hF]; rfl
      rw [hV, hF, show errV 1 = .iface 35 (.int .i64 1) from rfl] at HHo
      rw [hty] at HTy
      have HE1 := Lib.hid err_one
      obtain ⟨v1, v2⟩ := v
      unfold valV at HHo ⊢
      dsimp only at HHo ⊢
      have T0 := HV.new w (.slice ph h.length kh) (.int .i64 v1) (.int .i64 v2) 25 27
      clear hF hV hf hty HKi HTh HLv
      go_enter Tryz.func4, Tryz.ntmps4
      go_wp2_with (first
        | (go_at_call 10; (with_reducible refine (HHd.out _ T0.below).mono ?_); rintro e w2 ⟨rfl, hB2⟩; (have T2 := T0.step hB2); obtain ⟨q0, q1, q2⟩ := T2.get)
        | (go_at_call 13; (with_reducible refine (HRf.out _ T2.below).mono ?_); rintro e w3 ⟨rfl, hB3⟩; (have T3 := T2.step hB3); obtain ⟨r0, r1, r2⟩ := T3.get)
        | (go_at_call 15; (with_reducible refine (HCh.out _ T3.below).mono ?_); rintro e w4 ⟨rfl, hB4⟩; (have T4 := T3.step hB4); obtain ⟨s0, s1, s2⟩ := T4.get)
        | (go_at_call 11; (with_reducible refine (HHo.out _ T4.below).mono ?_); rintro e w5 ⟨rfl, hB5⟩; (have T5 := T4.step hB5); obtain ⟨u0, u1, u2⟩ := T5.get)
        | (go_at_call 14; (with_reducible refine (HE0.out _).mono ?_); rintro e w6 ⟨rfl, rfl⟩)
        | (go_at_call 14; (with_reducible refine (HE1.out _).mono ?_); rintro e w6 ⟨rfl, rfl⟩)
        | (go_at_call 16; (with_reducible refine (HTy.out _).mono ?_); rintro e w6 ⟨rfl, rfl⟩))
      go_ret
      exact ⟨rfl, T5.below⟩
    | true =>
      have hF := holdsF_kind (h := h) hf hty
      rw [hty] at HTy
      by_cases hr : kindR (allC l) k = 0
      · obtain ⟨y, hy⟩ := ty_of_type hty
        obtain ⟨h0, hz⟩ := heapFault_zero hf
        have hfo := formed_typed (heap_zero hz).2.1
        have hV : holdsV l h v k = holdsTy (allC l) h v y := by unfold holdsV; rw [hF, hr, if_pos rfl, hy.of]
        rw [hV, hF, hr, show errV 0 = .nilIface from rfl] at HHo
        rw [hr] at HKi
        have HDo : Hid (∀ wx, Below w.heap.size w wx → _) := fun wx hb => refHolds_any l _ (right_of h0) (read_faults h0) wx (HLv.out wx hb) h _ (HTh.out wx hb) hfo HS.out v k y hy
        generalize holdsTy (allC l) h v y = r at *
        obtain ⟨v1, v2⟩ := v
        unfold valV at HHo HDo ⊢
        dsimp only at HHo HDo ⊢
        have T0 := HV.new w (.slice ph h.length kh) (.int .i64 v1) (.int .i64 v2) 25 27
        clear hF hV hf hty HTh HLv hy hz h0 hfo hr
        go_enter Tryz.func4, Tryz.ntmps4
        go_wp2_with (first
          | (go_at_call 10; (with_reducible refine (HHd.out _ T0.below).mono ?_); rintro e w2 ⟨rfl, hB2⟩; (have T2 := T0.step hB2); obtain ⟨q0, q1, q2⟩ := T2.get)
          | (go_at_call 13; (with_reducible refine (HRf.out _ T2.below).mono ?_); rintro e w3 ⟨rfl, hB3⟩; (have T3 := T2.step hB3); obtain ⟨r0, r1, r2⟩ := T3.get)
          | (go_at_call 15; (with_reducible refine (HCh.out _ T3.below).mono ?_); rintro e w4 ⟨rfl, hB4⟩; (have T4 := T3.step hB4); obtain ⟨s0, s1, s2⟩ := T4.get)
          | (go_at_call 11; (with_reducible refine (HHo.out _ T4.below).mono ?_); rintro e w5 ⟨rfl, hB5⟩; (have T5 := T4.step hB5); obtain ⟨u0, u1, u2⟩ := T5.get)
          | (go_at_call 14; (with_reducible refine (HE0.out _).mono ?_); rintro e w6 ⟨rfl, rfl⟩)
          | (go_at_call 16; (with_reducible refine (HTy.out _).mono ?_); rintro e w6 ⟨rfl, rfl⟩)
          | (go_at_call 17; (with_reducible refine (HKi.out _ T5.below).mono ?_); rintro e w7 ⟨rfl, hB7⟩; (have T7 := T5.step hB7); obtain ⟨x0, x1, x2⟩ := T7.get)
          | (go_at_call 18; (with_reducible refine (HDo.out _ T7.below).mono ?_); rintro e w8 ⟨rfl, hB8⟩; (have T8 := T7.step hB8)))
        go_ret
        exact ⟨by simp, T8.below⟩
      · have hV : holdsV l h v k = false := by unfold holdsV; rw [hF, if_neg hr]
        rcases errV_cases (kindR (allC l) k) with ⟨_, hz⟩ | ⟨he, _⟩
        · exact absurd hz hr
        rw [hV, hF, he] at HHo
        have HE1 : Hid (∀ wx, _) := fun wx => err_is (kindR (allC l) k) hr wx
        have hk0 : (((kindR (allC l) k : Nat) : Int) == 0) = false := by simpa using hr
        obtain ⟨v1, v2⟩ := v
        unfold valV at HHo ⊢
        dsimp only at HHo ⊢
        have T0 := HV.new w (.slice ph h.length kh) (.int .i64 v1) (.int .i64 v2) 25 27
        clear hF hV hf hty HTh HLv hr he
        generalize kindR (allC l) k = f at *
        go_enter Tryz.func4, Tryz.ntmps4
        go_wp2_with (first
          | (go_at_call 10; (with_reducible refine (HHd.out _ T0.below).mono ?_); rintro e w2 ⟨rfl, hB2⟩; (have T2 := T0.step hB2); obtain ⟨q0, q1, q2⟩ := T2.get)
          | (go_at_call 13; (with_reducible refine (HRf.out _ T2.below).mono ?_); rintro e w3 ⟨rfl, hB3⟩; (have T3 := T2.step hB3); obtain ⟨r0, r1, r2⟩ := T3.get)
          | (go_at_call 15; (with_reducible refine (HCh.out _ T3.below).mono ?_); rintro e w4 ⟨rfl, hB4⟩; (have T4 := T3.step hB4); obtain ⟨s0, s1, s2⟩ := T4.get)
          | (go_at_call 11; (with_reducible refine (HHo.out _ T4.below).mono ?_); rintro e w5 ⟨rfl, hB5⟩; (have T5 := T4.step hB5); obtain ⟨u0, u1, u2⟩ := T5.get)
          | (go_at_call 14; (with_reducible refine (HE0.out _).mono ?_); rintro e w6 ⟨rfl, rfl⟩)
          | (go_at_call 14; (with_reducible refine (HE1.out _).mono ?_); rintro e w6 ⟨rfl, rfl⟩)
          | (go_at_call 16; (with_reducible refine (HTy.out _).mono ?_); rintro e w6 ⟨rfl, rfl⟩)
          | (go_at_call 17; (with_reducible refine (HKi.out _ T5.below).mono ?_); rintro e w7 ⟨rfl, hB7⟩; (have T7 := T5.step hB7); obtain ⟨x0, x1, x2⟩ := T7.get))
        go_ret
        exact ⟨rfl, T7.below⟩
  · have hF := holdsF_fault (k := k) hf
    have hV : holdsV l h v k = false := by unfold holdsV; rw [hF, if_neg hf]
    rcases errV_cases (heapFault l h) with ⟨_, hz⟩ | ⟨he, _⟩
    · exact absurd hz hf
    rw [hV, hF, he] at HHo
    rw [he] at HCh
    have HE1 : Hid (∀ wx, _) := fun wx => err_is (heapFault l h) hf wx
    have hk0 : (((heapFault l h : Nat) : Int) == 0) = false := by simpa using hf
    obtain ⟨v1, v2⟩ := v
    unfold valV at HHo ⊢
    dsimp only at HHo ⊢
    have T0 := HV.new w (.slice ph h.length kh) (.int .i64 v1) (.int .i64 v2) 25 27
    clear hF hV hf HTh HLv he HKi HTy HE0
    generalize heapFault l h = f at *
    go_enter Tryz.func4, Tryz.ntmps4
    go_wp2_with (first
          | (go_at_call 10; (with_reducible refine (HHd.out _ T0.below).mono ?_); rintro e w2 ⟨rfl, hB2⟩; (have T2 := T0.step hB2); obtain ⟨q0, q1, q2⟩ := T2.get)
          | (go_at_call 13; (with_reducible refine (HRf.out _ T2.below).mono ?_); rintro e w3 ⟨rfl, hB3⟩; (have T3 := T2.step hB3); obtain ⟨r0, r1, r2⟩ := T3.get)
          | (go_at_call 15; (with_reducible refine (HCh.out _ T3.below).mono ?_); rintro e w4 ⟨rfl, hB4⟩; (have T4 := T3.step hB4); obtain ⟨s0, s1, s2⟩ := T4.get)
          | (go_at_call 11; (with_reducible refine (HHo.out _ T4.below).mono ?_); rintro e w5 ⟨rfl, hB5⟩; (have T5 := T4.step hB5); obtain ⟨u0, u1, u2⟩ := T5.get)
          | (go_at_call 14; (with_reducible refine (HE1.out _).mono ?_); rintro e w6 ⟨rfl, rfl⟩))
    go_ret
    exact ⟨rfl, T5.below⟩
end Go.Proofs.YtbakcdgjibmceaaGreatDoor
