/-
  WALKS over package ins: typed. Conditions: texts of at most 1048576 signs.
-/
import Derived.Test.YtinccnehfalfnaaGreatDoorIns
namespace Go.Proofs.YtinccnehfalfnaaGreatDoor
open Go.RowKit Go.Shelf Go.Lib
theorem descMethod_no {s : ByteArray} (hs : s.size ≤ 1048576) (h : methodR s = none) (w : World) : Calls Tryz.prog 66 #[.string s] w fun e w' => e = .returned (.tuple #[.slice none 0 0, .string .empty, .iface 25 (.int .i64 1)]) ∧ Below w.heap.size w w' := by
  have := descMethod_any s w hs
  rw [h] at this
  exact this.mono fun e w' ⟨h1, h2⟩ => ⟨h2, h1⟩
def MethodYes (w : World) (args : List ByteArray) (g : ByteArray) (e : Ending) (w' : World) : Prop := ∃ a c, e = .returned (.tuple #[.slice a args.length c, .string g, .nilIface]) ∧ StrsAt w' (.slice a args.length c) args ∧ Below w.heap.size w w'
theorem strsAt_shape {w : World} {v : Value} {l : List ByteArray} (h : StrsAt w v l) : ∃ a c, v = .slice a l.length c := by
  rcases h with ⟨h1, h2⟩ | ⟨a, c, h1, _⟩
  · exact ⟨none, 0, by rw [h1, h2]; rfl⟩
  · exact ⟨_, _, h1⟩
theorem descMethod_yes {s : ByteArray} {args : List ByteArray} {g : ByteArray} (hs : s.size ≤ 1048576) (h : methodR s = some (args, g)) (w : World) : Calls Tryz.prog 66 #[.string s] w (MethodYes w args g) := by
  have := descMethod_any s w hs
  rw [h] at this
  refine this.mono fun e w' ⟨h1, v, h2, h3⟩ => ?_
  obtain ⟨a, c, rfl⟩ := strsAt_shape h3
  exact ⟨a, c, h2, h3, h1⟩
theorem bcell {w w1 : World} (hb : Below w.heap.size w w1) : (∀ b o, b < w.heap.size → w1.cell? ⟨b, o, none⟩ = w.cell? ⟨b, o, none⟩) ∧ (∀ b o, b < w.heap.size → w1.frozen? ⟨b, o, none⟩ = w.frozen? ⟨b, o, none⟩) :=
  ⟨fun b o h => hb.cell (p := ⟨b, o, none⟩) h, fun b o h => hb.frozen (p := ⟨b, o, none⟩) h⟩
theorem below2 {w w1 w2 : World} (h : Below w.heap.size w w1) (h2 : Below w1.heap.size w1 w2) : Below w.heap.size w w2 := h.trans (h2.mono h.size)
theorem number_yes {s : ByteArray} {b : Bool} (h : wordB s.data.toList = b) (w : World) : Calls Tryz.prog 134 #[.string s] w fun e w' => e = .returned (.bool b) ∧ w = w' := by
  subst h; exact number_any s w
set_option maxHeartbeats 1000000 in
theorem typed_num (x : Ins) (w : World) (h : x.op = 2 ∨ x.op = 9 ∨ x.op = 10) : Calls Tryz.prog 129 #[insV x] w fun e w' => e = .returned (.bool (typedB x)) ∧ Below w.heap.size w w' := by
  obtain ⟨op, a, b, type, cls, name⟩ := x
  have hfin : Hid (typedB ⟨op, a, b, type, cls, name⟩ = wordB type.data.toList) := by unfold Hid typedB; rw [if_pos h]
  unfold insV
  rcases h with rfl | rfl | rfl
  all_goals
    go_enter Tryz.func129, Tryz.ntmps129
    go_wp2_with (go_at_call 134; (with_reducible refine (number_any _ _).mono ?_); rintro e w' ⟨rfl, rfl⟩)
    go_ret
    exact ⟨ret_bool (by rw [hfin.out]), (Below.refl _ _).alloc (Nat.le_refl _) _⟩
set_option maxHeartbeats 1000000 in
theorem typed_ref (x : Ins) (w : World) (hs : x.type.size ≤ 1048576) (h : x.op = 22 ∨ x.op = 23) : Calls Tryz.prog 129 #[insV x] w fun e w' => e = .returned (.bool (typedB x)) ∧ Below w.heap.size w w' := by
  obtain ⟨op, a, b, type, cls, name⟩ := x
  have hm : type.size ≤ maxLen := maxLen_of (Nat.le_trans hs (by decide))
  replace h : op = 22 ∨ op = 23 := h
  have hfin : Hid (typedB ⟨op, a, b, type, cls, name⟩ = (typeB type.data.toList && !wordB type.data.toList)) := by
    unfold Hid typedB; rw [if_neg (by simp; omega), if_neg (by simp; omega), if_pos h]
  unfold insV
  cases hT : typeB type.data.toList with
  | false =>
    have hC := Lib.hid (descCheck_bad hm hT)
    have HT := Lib.hid hT
    clear hT
    rcases h with rfl | rfl
    all_goals
      go_enter Tryz.func129, Tryz.ntmps129
      go_wp2_with (go_at_call 50; (with_reducible refine (hC.out _).mono ?_); rintro e w2 ⟨rfl, hB⟩)
      go_ret
      exact ⟨ret_bool (by rw [hfin.out, HT.out]; rfl), below2 ((Below.refl _ _).alloc (Nat.le_refl _) _) hB⟩
  | true =>
    have hC := Lib.hid (descCheck_good hm hT)
    have HT := Lib.hid hT
    clear hT
    rcases h with rfl | rfl
    all_goals
      go_enter Tryz.func129, Tryz.ntmps129
      go_wp2_with (first | (go_at_call 50; (with_reducible refine (hC.out _).mono ?_); rintro e w2 ⟨rfl, hB⟩; obtain ⟨hcl, hfr⟩ := bcell hB) | (go_at_call 134; (with_reducible refine (number_any _ _).mono ?_); rintro e w' ⟨rfl, rfl⟩))
      go_ret
      exact ⟨ret_bool (by rw [hfin.out, HT.out]; rfl), below2 ((Below.refl _ _).alloc (Nat.le_refl _) _) hB⟩
set_option maxHeartbeats 1000000 in
theorem typed_call (x : Ins) (w : World) (hs : x.type.size ≤ 1048576) (h : x.op = 24 ∨ x.op = 25) : Calls Tryz.prog 129 #[insV x] w fun e w' => e = .returned (.bool (typedB x)) ∧ Below w.heap.size w w' := by
  obtain ⟨op, a, b, type, cls, name⟩ := x
  replace h : op = 24 ∨ op = 25 := h
  replace hs : type.size ≤ 1048576 := hs
  have hfin : Hid (typedB ⟨op, a, b, type, cls, name⟩ = (methodR type).isSome) := by
    unfold Hid typedB; rw [if_neg (by simp; omega), if_neg (by simp; omega), if_neg (by simp; omega), if_pos h]
  unfold insV
  cases hm : methodR type with
  | none =>
    have hC := Lib.hid (descMethod_no hs hm)
    have HT := Lib.hid hm
    clear hm
    rcases h with rfl | rfl
    all_goals
      go_enter Tryz.func129, Tryz.ntmps129
      go_wp2_with (go_at_call 66; (with_reducible refine (hC.out _).mono ?_); rintro e w2 ⟨rfl, hB⟩)
      go_ret
      exact ⟨ret_bool (by rw [hfin.out, HT.out]; rfl), below2 ((Below.refl _ _).alloc (Nat.le_refl _) _) hB⟩
  | some m =>
    obtain ⟨args, g⟩ := m
    have hC := Lib.hid (descMethod_yes hs hm)
    have HT := Lib.hid hm
    clear hm
    rcases h with rfl | rfl
    all_goals
      go_enter Tryz.func129, Tryz.ntmps129
      go_wp2_with (go_at_call 66; (with_reducible refine (hC.out _).mono ?_); rintro e w2 ⟨va, vc, rfl, hV, hB⟩)
      go_ret
      exact ⟨ret_bool (by rw [hfin.out, HT.out]; rfl), below2 ((Below.refl _ _).alloc (Nat.le_refl _) _) hB⟩
set_option maxHeartbeats 1000000 in
theorem typed_else (x : Ins) (w : World) (h : ¬ (x.op = 2 ∨ x.op = 9 ∨ x.op = 10)) (h2 : ¬ (x.op = 18 ∨ x.op = 20 ∨ x.op = 21)) (h3 : ¬ (x.op = 22 ∨ x.op = 23)) (h4 : ¬ (x.op = 24 ∨ x.op = 25)) : Calls Tryz.prog 129 #[insV x] w fun e w' => e = .returned (.bool (typedB x)) ∧ Below w.heap.size w w' := by
  obtain ⟨op, a, b, type, cls, name⟩ := x
  have hfin : Hid (typedB ⟨op, a, b, type, cls, name⟩ = true) := by
    unfold Hid typedB; rw [if_neg h, if_neg h2, if_neg h3, if_neg h4]
  simp only [not_or] at h h2 h3 h4
  have n2 : (op == 2) = false := by simp [h.1]
  have n9 : (op == 9) = false := by simp [h.2.1]
  have n10 : (op == 10) = false := by simp [h.2.2]
  have n18 : (op == 18) = false := by simp [h2.1]
  have n20 : (op == 20) = false := by simp [h2.2.1]
  have n21 : (op == 21) = false := by simp [h2.2.2]
  have n22 : (op == 22) = false := by simp [h3.1]
  have n23 : (op == 23) = false := by simp [h3.2]
  have n24 : (op == 24) = false := by simp [h4.1]
  have n25 : (op == 25) = false := by simp [h4.2]
  unfold insV
  clear h h2 h3 h4
  go_enter Tryz.func129, Tryz.ntmps129
  go_wp2_with fail
  go_ret
  exact ⟨ret_bool (by rw [hfin.out]), (Below.refl _ _).alloc (Nat.le_refl _) _⟩
theorem brack_list (t : ByteArray) : ((⟨#[91]⟩ : ByteArray) ++ t).data.toList = 91 :: t.data.toList := by
  simp [ByteArray.data_append]
theorem brack_size (t : ByteArray) : ((⟨#[91]⟩ : ByteArray) ++ t).size = t.size + 1 := by
  rw [← length_eq, brack_list, List.length_cons, length_eq]
set_option maxHeartbeats 1000000 in
theorem typed_arr (x : Ins) (w : World) (hs : x.type.size ≤ 1048576) (h : x.op = 18 ∨ x.op = 20 ∨ x.op = 21) : Calls Tryz.prog 129 #[insV x] w fun e w' => e = .returned (.bool (typedB x)) ∧ Below w.heap.size w w' := by
  obtain ⟨op, a, b, type, cls, name⟩ := x
  have hm : type.size ≤ maxLen := maxLen_of (Nat.le_trans hs (by decide))
  replace h : op = 18 ∨ op = 20 ∨ op = 21 := h
  replace hs : type.size ≤ 1048576 := hs
  have hfin : Hid (typedB ⟨op, a, b, type, cls, name⟩ = (typeB type.data.toList && typeB (91 :: type.data.toList))) := by
    unfold Hid typedB; rw [if_neg (by simp; omega), if_pos h]
  unfold insV
  cases hT : typeB type.data.toList with
  | false =>
    have hC := Lib.hid (descCheck_bad hm hT)
    have HT := Lib.hid hT
    clear hT
    rcases h with rfl | rfl | rfl
    all_goals
      go_enter Tryz.func129, Tryz.ntmps129
      go_wp2_with (go_at_call 50; (with_reducible refine (hC.out _).mono ?_); rintro e w2 ⟨rfl, hB⟩)
      go_ret
      exact ⟨ret_bool (by rw [hfin.out, HT.out]; rfl), below2 ((Below.refl _ _).alloc (Nat.le_refl _) _) hB⟩
  | true =>
    have hC := Lib.hid (descCheck_good hm hT)
    have HT := Lib.hid hT
    have hm2 : ((⟨#[91]⟩ : ByteArray) ++ type).size ≤ maxLen := maxLen_of (by rw [brack_size]; omega)
    clear hT
    cases hT2 : typeB ((⟨#[91]⟩ : ByteArray) ++ type).data.toList with
    | false =>
      have hC2 := Lib.hid (descCheck_bad hm2 hT2)
      have HT2 := Lib.hid hT2
      clear hT2
      rcases h with rfl | rfl | rfl
      all_goals
        go_enter Tryz.func129, Tryz.ntmps129
        go_wp2_with (first | (go_at_call 50; (with_reducible refine (hC.out _).mono ?_); rintro e w2 ⟨rfl, hB⟩; obtain ⟨hcl, hfr⟩ := bcell hB) | (go_at_call 50; (with_reducible refine (hC2.out _).mono ?_); rintro e w3 ⟨rfl, hB2⟩))
        go_ret
        exact ⟨ret_bool (by rw [hfin.out, HT.out, ← brack_list, HT2.out]; rfl), below2 (below2 ((Below.refl _ _).alloc (Nat.le_refl _) _) hB) hB2⟩
    | true =>
      have hC2 := Lib.hid (descCheck_good hm2 hT2)
      have HT2 := Lib.hid hT2
      clear hT2
      rcases h with rfl | rfl | rfl
      all_goals
        go_enter Tryz.func129, Tryz.ntmps129
        go_wp2_with (first | (go_at_call 50; (with_reducible refine (hC.out _).mono ?_); rintro e w2 ⟨rfl, hB⟩; obtain ⟨hcl, hfr⟩ := bcell hB) | (go_at_call 50; (with_reducible refine (hC2.out _).mono ?_); rintro e w3 ⟨rfl, hB2⟩))
        go_ret
        exact ⟨ret_bool (by rw [hfin.out, HT.out, ← brack_list, HT2.out]; rfl), below2 (below2 ((Below.refl _ _).alloc (Nat.le_refl _) _) hB) hB2⟩
theorem typed_any (x : Ins) (w : World) (hs : x.type.size ≤ 1048576) : Calls Tryz.prog 129 #[insV x] w fun e w' => e = .returned (.bool (typedB x)) ∧ Below w.heap.size w w' := by
  by_cases h1 : x.op = 2 ∨ x.op = 9 ∨ x.op = 10
  · exact typed_num x w h1
  by_cases h2 : x.op = 18 ∨ x.op = 20 ∨ x.op = 21
  · exact typed_arr x w hs h2
  by_cases h3 : x.op = 22 ∨ x.op = 23
  · exact typed_ref x w hs h3
  by_cases h4 : x.op = 24 ∨ x.op = 25
  · exact typed_call x w hs h4
  exact typed_else x w h1 h2 h3 h4
end Go.Proofs.YtinccnehfalfnaaGreatDoor
