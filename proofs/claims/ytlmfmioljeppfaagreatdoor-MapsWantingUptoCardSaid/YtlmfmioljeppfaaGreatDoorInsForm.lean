/-
  WALKS over package ins: Jumps, ranged, typed. Conditions: numbers of 64 bits, texts of at most 1048576 signs.
  WALKS over package ins: typed. Conditions: texts of at most 1048576 signs.
  WALKS over package ins: of (the table of forms) and the question that Check asks of a form. Conditions: the table lies as the program's text lays it.
-/
import Derived.Test.YtlmfmioljeppfaaGreatDoorMethodText
namespace Go.Proofs.YtlmfmioljeppfaaGreatDoor
open Go.RowKit Go.Shelf Go.Lib
def insV (x : Ins) : Value := .agg #[.int .i64 x.op, .int .i64 x.a, .int .i64 x.b, .string x.type, .string x.cls, .string x.name]
def bd64 (n : Int) : Prop := -9223372036854775808 ≤ n ∧ n ≤ 9223372036854775807
structure InsOk (x : Ins) : Prop where
  op : bd64 x.op
  a : bd64 x.a
  b : bd64 x.b
  type : x.type.size ≤ 1048576
  cls : x.cls.size ≤ 1048576
  name : x.name.size ≤ 1048576
theorem jumps_any (op : Int) (w : World) : Calls Tryz.prog 70 #[.int .i64 op] w fun e w' => e = .returned (.bool (jumpsB op)) ∧ w = w' := by
  go_enter Tryz.func70, Tryz.ntmps70
  go_wp2
  all_goals
    go_ret
    exact ⟨ret_bool (by simp [jumpsB, *]), rfl⟩
theorem word32_eq (a : Int) : (a == wrap64 (wrap32 a)) = (decide (-2147483648 ≤ a) && decide (a ≤ 2147483647)) := by
  rw [Bool.eq_iff_iff]; simp; unfold wrap64 wrap32; omega
set_option maxHeartbeats 1000000 in
theorem ranged_any (x : Ins) (w : World) : Calls Tryz.prog 95 #[insV x] w fun e w' => e = .returned (.bool (rangedB x)) ∧ Below w.heap.size w w' := by
  obtain ⟨op, a, b, type, cls, name⟩ := x
  unfold insV
  by_cases h2 : op = 2
  · subst h2
    have hw := word32_eq a
    cases hI : (type.toList == [73]) with
    | true =>
      have hfin : Hid (rangedB ⟨2, a, b, type, cls, name⟩ = (decide (-2147483648 ≤ a) && decide (a ≤ 2147483647))) := by
        unfold Hid rangedB; rw [if_pos rfl, lst, ← ByteArray.toList_eq, hI]; rfl
      go_enter Tryz.func95, Tryz.ntmps95
      go_wp2
      go_ret
      exact ⟨ret_bool (by rw [hfin.out]), (Below.refl _ _).alloc (Nat.le_refl _) _⟩
    | false =>
      have hfin : Hid (rangedB ⟨2, a, b, type, cls, name⟩ = true) := by
        unfold Hid rangedB; rw [if_pos rfl, lst, ← ByteArray.toList_eq, hI]; rfl
      go_enter Tryz.func95, Tryz.ntmps95
      go_wp2
      go_ret
      exact ⟨ret_bool (by rw [hfin.out]), (Below.refl _ _).alloc (Nat.le_refl _) _⟩
  have n2 : (op == 2) = false := by simpa using h2
  by_cases h4 : op = 4 ∨ op = 5
  · have hfin : Hid (rangedB ⟨op, a, b, type, cls, name⟩ = (decide (0 ≤ a) && decide (a < 8))) := by
      unfold Hid rangedB; rw [if_neg h2, if_pos h4]
    rcases h4 with rfl | rfl
    all_goals
      clear h2 n2
      go_enter Tryz.func95, Tryz.ntmps95
      go_wp2
      all_goals
        go_ret
        exact ⟨ret_bool (by rw [hfin.out, Bool.eq_iff_iff]; simp; omega), (Below.refl _ _).alloc (Nat.le_refl _) _⟩
  have n4 : (op == 4) = false := by simp; omega
  have n5 : (op == 5) = false := by simp; omega
  by_cases h9 : op = 9
  · have hfin : Hid (rangedB ⟨op, a, b, type, cls, name⟩ = (decide (1 ≤ a) && decide (a ≤ 12))) := by
      unfold Hid rangedB; rw [if_neg h2, if_neg h4, if_pos h9]
    subst h9
    clear h2 n2 h4 n4 n5
    go_enter Tryz.func95, Tryz.ntmps95
    go_wp2
    all_goals
      go_ret
      exact ⟨ret_bool (by rw [hfin.out, Bool.eq_iff_iff]; simp; omega), (Below.refl _ _).alloc (Nat.le_refl _) _⟩
  have n9 : (op == 9) = false := by simpa using h9
  have hfin : Hid (rangedB ⟨op, a, b, type, cls, name⟩ = (!jumpsB op || (decide (0 ≤ a) && decide (a ≤ 40) && decide (0 ≤ b) && decide (b ≤ 5)))) := by
    unfold Hid rangedB; rw [if_neg h2, if_neg h4, if_neg h9]
  clear h2 h4 h9
  cases hj : jumpsB op with
  | false =>
    go_enter Tryz.func95, Tryz.ntmps95
    go_wp2_with (go_at_call 70; (with_reducible refine (jumps_any _ _).mono ?_); rintro e w' ⟨rfl, rfl⟩)
    all_goals
      go_ret
      exact ⟨ret_bool (by rw [hfin.out, hj]; rfl), (Below.refl _ _).alloc (Nat.le_refl _) _⟩
  | true =>
    go_enter Tryz.func95, Tryz.ntmps95
    go_wp2_with (go_at_call 70; (with_reducible refine (jumps_any _ _).mono ?_); rintro e w' ⟨rfl, rfl⟩)
    all_goals
      go_ret
      exact ⟨ret_bool (by rw [hfin.out, hj, Bool.eq_iff_iff]; simp; omega), (Below.refl _ _).alloc (Nat.le_refl _) _⟩
end Go.Proofs.YtlmfmioljeppfaaGreatDoor
namespace Go.Proofs.YtlmfmioljeppfaaGreatDoor
open Go.RowKit Go.Shelf Go.Lib
theorem descMethod_no {s : ByteArray} (hs : s.size ≤ 1048576) (h : methodR s = none) (w : World) : Calls Tryz.prog 132 #[.string s] w fun e w' => e = .returned (.tuple #[.slice none 0 0, .string .empty, .iface 29 (.int .i64 1)]) ∧ Below w.heap.size w w' := by
  have := descMethod_any s w hs
  rw [h] at this
  exact this.mono fun e w' ⟨h1, h2⟩ => ⟨h2, h1⟩
def MethodYes (w : World) (args : List ByteArray) (g : ByteArray) (e : Ending) (w' : World) : Prop := ∃ a c, e = .returned (.tuple #[.slice a args.length c, .string g, .nilIface]) ∧ StrsAt w' (.slice a args.length c) args ∧ Below w.heap.size w w'
theorem strsAt_shape {w : World} {v : Value} {l : List ByteArray} (h : StrsAt w v l) : ∃ a c, v = .slice a l.length c := by
  rcases h with ⟨h1, h2⟩ | ⟨a, c, h1, _⟩
  · exact ⟨none, 0, by rw [h1, h2]; rfl⟩
  · exact ⟨_, _, h1⟩
theorem descMethod_yes {s : ByteArray} {args : List ByteArray} {g : ByteArray} (hs : s.size ≤ 1048576) (h : methodR s = some (args, g)) (w : World) : Calls Tryz.prog 132 #[.string s] w (MethodYes w args g) := by
  have := descMethod_any s w hs
  rw [h] at this
  refine this.mono fun e w' ⟨h1, v, h2, h3⟩ => ?_
  obtain ⟨a, c, rfl⟩ := strsAt_shape h3
  exact ⟨a, c, h2, h3, h1⟩
theorem bcell {w w1 : World} (hb : Below w.heap.size w w1) : (∀ b o, b < w.heap.size → w1.cell? ⟨b, o, none⟩ = w.cell? ⟨b, o, none⟩) ∧ (∀ b o, b < w.heap.size → w1.frozen? ⟨b, o, none⟩ = w.frozen? ⟨b, o, none⟩) :=
  ⟨fun b o h => hb.cell (p := ⟨b, o, none⟩) h, fun b o h => hb.frozen (p := ⟨b, o, none⟩) h⟩
theorem below2 {w w1 w2 : World} (h : Below w.heap.size w w1) (h2 : Below w1.heap.size w1 w2) : Below w.heap.size w w2 := h.trans (h2.mono h.size)
set_option maxHeartbeats 1000000 in
theorem typed_num (x : Ins) (w : World) (h : x.op = 2 ∨ x.op = 9 ∨ x.op = 10) : Calls Tryz.prog 96 #[insV x] w fun e w' => e = .returned (.bool (typedB x)) ∧ Below w.heap.size w w' := by
  obtain ⟨op, a, b, type, cls, name⟩ := x
  have hfin : Hid (typedB ⟨op, a, b, type, cls, name⟩ = wordB type.data.toList) := by unfold Hid typedB; rw [if_pos h]
  unfold insV
  rcases h with rfl | rfl | rfl
  all_goals
    go_enter Tryz.func96, Tryz.ntmps96
    go_wp2_with (go_at_call 131; (with_reducible refine (number_any _ _).mono ?_); rintro e w' ⟨rfl, rfl⟩)
    go_ret
    exact ⟨ret_bool (by rw [hfin.out]), (Below.refl _ _).alloc (Nat.le_refl _) _⟩
set_option maxHeartbeats 1000000 in
theorem typed_ref (x : Ins) (w : World) (hs : x.type.size ≤ 1048576) (h : x.op = 22 ∨ x.op = 23) : Calls Tryz.prog 96 #[insV x] w fun e w' => e = .returned (.bool (typedB x)) ∧ Below w.heap.size w w' := by
  obtain ⟨op, a, b, type, cls, name⟩ := x
  have hm : type.size ≤ maxLen := maxLen_of (Nat.le_trans hs (by decide))
  replace h : op = 22 ∨ op = 23 := h
  have hfin : Hid (typedB ⟨op, a, b, type, cls, name⟩ = (typeB type.data.toList && !wordB type.data.toList)) := by
    unfold Hid typedB; rw [if_neg (by simp; omega), if_neg (by simp; omega), if_pos h]
  unfold insV
  cases hT : typeB type.data.toList with
  | false =>
    have hC := Lib.hid (descCheck_bad hm hT)
    have HT := Lib.hid hT
    clear hT
    rcases h with rfl | rfl
    all_goals
      go_enter Tryz.func96, Tryz.ntmps96
      go_wp2_with (go_at_call 53; (with_reducible refine (hC.out _).mono ?_); rintro e w2 ⟨rfl, hB⟩)
      go_ret
      exact ⟨ret_bool (by rw [hfin.out, HT.out]; rfl), below2 ((Below.refl _ _).alloc (Nat.le_refl _) _) hB⟩
  | true =>
    have hC := Lib.hid (descCheck_good hm hT)
    have HT := Lib.hid hT
    clear hT
    rcases h with rfl | rfl
    all_goals
      go_enter Tryz.func96, Tryz.ntmps96
      go_wp2_with (first | (go_at_call 53; (with_reducible refine (hC.out _).mono ?_); rintro e w2 ⟨rfl, hB⟩; obtain ⟨hcl, hfr⟩ := bcell hB) | (go_at_call 131; (with_reducible refine (number_any _ _).mono ?_); rintro e w' ⟨rfl, rfl⟩))
      go_ret
      exact ⟨ret_bool (by rw [hfin.out, HT.out]; rfl), below2 ((Below.refl _ _).alloc (Nat.le_refl _) _) hB⟩
set_option maxHeartbeats 1000000 in
theorem typed_call (x : Ins) (w : World) (hs : x.type.size ≤ 1048576) (h : x.op = 24 ∨ x.op = 25) : Calls Tryz.prog 96 #[insV x] w fun e w' => e = .returned (.bool (typedB x)) ∧ Below w.heap.size w w' := by
  obtain ⟨op, a, b, type, cls, name⟩ := x
  replace h : op = 24 ∨ op = 25 := h
  replace hs : type.size ≤ 1048576 := hs
  have hfin : Hid (typedB ⟨op, a, b, type, cls, name⟩ = (methodR type).isSome) := by
    unfold Hid typedB; rw [if_neg (by simp; omega), if_neg (by simp; omega), if_neg (by simp; omega), if_pos h]
  unfold insV
  cases hm : methodR type with
  | none =>
    have hC := Lib.hid (descMethod_no hs hm)
    have HT := Lib.hid hm
    clear hm
    rcases h with rfl | rfl
    all_goals
      go_enter Tryz.func96, Tryz.ntmps96
      go_wp2_with (go_at_call 132; (with_reducible refine (hC.out _).mono ?_); rintro e w2 ⟨rfl, hB⟩)
      go_ret
      exact ⟨ret_bool (by rw [hfin.out, HT.out]; rfl), below2 ((Below.refl _ _).alloc (Nat.le_refl _) _) hB⟩
  | some m =>
    obtain ⟨args, g⟩ := m
    have hC := Lib.hid (descMethod_yes hs hm)
    have HT := Lib.hid hm
    clear hm
    rcases h with rfl | rfl
    all_goals
      go_enter Tryz.func96, Tryz.ntmps96
      go_wp2_with (go_at_call 132; (with_reducible refine (hC.out _).mono ?_); rintro e w2 ⟨va, vc, rfl, hV, hB⟩)
      go_ret
      exact ⟨ret_bool (by rw [hfin.out, HT.out]; rfl), below2 ((Below.refl _ _).alloc (Nat.le_refl _) _) hB⟩
set_option maxHeartbeats 1000000 in
theorem typed_else (x : Ins) (w : World) (h : ¬ (x.op = 2 ∨ x.op = 9 ∨ x.op = 10)) (h2 : ¬ (x.op = 18 ∨ x.op = 20 ∨ x.op = 21)) (h3 : ¬ (x.op = 22 ∨ x.op = 23)) (h4 : ¬ (x.op = 24 ∨ x.op = 25)) : Calls Tryz.prog 96 #[insV x] w fun e w' => e = .returned (.bool (typedB x)) ∧ Below w.heap.size w w' := by
  obtain ⟨op, a, b, type, cls, name⟩ := x
  have hfin : Hid (typedB ⟨op, a, b, type, cls, name⟩ = true) := by
    unfold Hid typedB; rw [if_neg h, if_neg h2, if_neg h3, if_neg h4]
  simp only [not_or] at h h2 h3 h4
  have n2 : (op == 2) = false := by simp [h.1]
  have n9 : (op == 9) = false := by simp [h.2.1]
  have n10 : (op == 10) = false := by simp [h.2.2]
  have n18 : (op == 18) = false := by simp [h2.1]
  have n20 : (op == 20) = false := by simp [h2.2.1]
  have n21 : (op == 21) = false := by simp [h2.2.2]
  have n22 : (op == 22) = false := by simp [h3.1]
  have n23 : (op == 23) = false := by simp [h3.2]
  have n24 : (op == 24) = false := by simp [h4.1]
  have n25 : (op == 25) = false := by simp [h4.2]
  unfold insV
  clear h h2 h3 h4
  go_enter Tryz.func96, Tryz.ntmps96
  go_wp2_with fail
  go_ret
  exact ⟨ret_bool (by rw [hfin.out]), (Below.refl _ _).alloc (Nat.le_refl _) _⟩
theorem brack_list (t : ByteArray) : ((⟨#[91]⟩ : ByteArray) ++ t).data.toList = 91 :: t.data.toList := by
  simp [ByteArray.data_append]
theorem brack_size (t : ByteArray) : ((⟨#[91]⟩ : ByteArray) ++ t).size = t.size + 1 := by
  rw [← length_eq, brack_list, List.length_cons, length_eq]
set_option maxHeartbeats 1000000 in
theorem typed_arr (x : Ins) (w : World) (hs : x.type.size ≤ 1048576) (h : x.op = 18 ∨ x.op = 20 ∨ x.op = 21) : Calls Tryz.prog 96 #[insV x] w fun e w' => e = .returned (.bool (typedB x)) ∧ Below w.heap.size w w' := by
  obtain ⟨op, a, b, type, cls, name⟩ := x
  have hm : type.size ≤ maxLen := maxLen_of (Nat.le_trans hs (by decide))
  replace h : op = 18 ∨ op = 20 ∨ op = 21 := h
  replace hs : type.size ≤ 1048576 := hs
  have hfin : Hid (typedB ⟨op, a, b, type, cls, name⟩ = (typeB type.data.toList && typeB (91 :: type.data.toList))) := by
    unfold Hid typedB; rw [if_neg (by simp; omega), if_pos h]
  unfold insV
  cases hT : typeB type.data.toList with
  | false =>
    have hC := Lib.hid (descCheck_bad hm hT)
    have HT := Lib.hid hT
    clear hT
    rcases h with rfl | rfl | rfl
    all_goals
      go_enter Tryz.func96, Tryz.ntmps96
      go_wp2_with (go_at_call 53; (with_reducible refine (hC.out _).mono ?_); rintro e w2 ⟨rfl, hB⟩)
      go_ret
      exact ⟨ret_bool (by rw [hfin.out, HT.out]; rfl), below2 ((Below.refl _ _).alloc (Nat.le_refl _) _) hB⟩
  | true =>
    have hC := Lib.hid (descCheck_good hm hT)
    have HT := Lib.hid hT
    have hm2 : ((⟨#[91]⟩ : ByteArray) ++ type).size ≤ maxLen := maxLen_of (by rw [brack_size]; omega)
    clear hT
    cases hT2 : typeB ((⟨#[91]⟩ : ByteArray) ++ type).data.toList with
    | false =>
      have hC2 := Lib.hid (descCheck_bad hm2 hT2)
      have HT2 := Lib.hid hT2
      clear hT2
      rcases h with rfl | rfl | rfl
      all_goals
        go_enter Tryz.func96, Tryz.ntmps96
        go_wp2_with (first | (go_at_call 53; (with_reducible refine (hC.out _).mono ?_); rintro e w2 ⟨rfl, hB⟩; obtain ⟨hcl, hfr⟩ := bcell hB) | (go_at_call 53; (with_reducible refine (hC2.out _).mono ?_); rintro e w3 ⟨rfl, hB2⟩))
        go_ret
        exact ⟨ret_bool (by rw [hfin.out, HT.out, ← brack_list, HT2.out]; rfl), below2 (below2 ((Below.refl _ _).alloc (Nat.le_refl _) _) hB) hB2⟩
    | true =>
      have hC2 := Lib.hid (descCheck_good hm2 hT2)
      have HT2 := Lib.hid hT2
      clear hT2
      rcases h with rfl | rfl | rfl
      all_goals
        go_enter Tryz.func96, Tryz.ntmps96
        go_wp2_with (first | (go_at_call 53; (with_reducible refine (hC.out _).mono ?_); rintro e w2 ⟨rfl, hB⟩; obtain ⟨hcl, hfr⟩ := bcell hB) | (go_at_call 53; (with_reducible refine (hC2.out _).mono ?_); rintro e w3 ⟨rfl, hB2⟩))
        go_ret
        exact ⟨ret_bool (by rw [hfin.out, HT.out, ← brack_list, HT2.out]; rfl), below2 (below2 ((Below.refl _ _).alloc (Nat.le_refl _) _) hB) hB2⟩
theorem typed_any (x : Ins) (w : World) (hs : x.type.size ≤ 1048576) : Calls Tryz.prog 96 #[insV x] w fun e w' => e = .returned (.bool (typedB x)) ∧ Below w.heap.size w w' := by
  by_cases h1 : x.op = 2 ∨ x.op = 9 ∨ x.op = 10
  · exact typed_num x w h1
  by_cases h2 : x.op = 18 ∨ x.op = 20 ∨ x.op = 21
  · exact typed_arr x w hs h2
  by_cases h3 : x.op = 22 ∨ x.op = 23
  · exact typed_ref x w hs h3
  by_cases h4 : x.op = 24 ∨ x.op = 25
  · exact typed_call x w hs h4
  exact typed_else x w h1 h2 h3 h4
end Go.Proofs.YtlmfmioljeppfaaGreatDoor
namespace Go.Proofs.YtlmfmioljeppfaaGreatDoor
open Go.RowKit Go.Shelf Go.Lib
def formWords : List (List UInt8) := [[], [110,111,112], [112,117,115,104], [110,117,108,108], [108,111,97,100], [115,116,111,114,101], [112,111,112], [100,117,112], [115,119,97,112], [109,97,116,104], [99,111,110,118], [111,114,100,101,114], [105,102], [105,102,110,117,108,108], [103,111,116,111], [110,101,119], [103,101,116], [112,117,116], [110,101,119,97,114,114,97,121], [108,101,110,103,116,104], [97,108,111,97,100], [97,115,116,111,114,101], [99,97,115,116], [105,115], [99,97,108,108], [99,97,108,108,115], [114,101,116,117,114,110], [103,105,118,101], [116,104,114,111,119]]
def formNeeds : List (List UInt8) := [[], [], [65,84], [], [65], [65], [], [], [], [65,84], [84], [], [65,66], [65], [65], [67], [67,78], [67,78], [84], [], [84], [84], [84], [84], [84,67,78], [84,67,78], [], [], []]
def wordOf (op : Nat) : ByteArray := ⟨(formWords.getD op []).toArray⟩
def needsOf (op : Nat) : ByteArray := ⟨(formNeeds.getD op []).toArray⟩
def Laid (w : World) : Prop := 0 < w.heap.size ∧ ∀ i, i < 29 → w.cell? ⟨0, i * 2, none⟩ = some (.string (wordOf i)) ∧ w.cell? ⟨0, i * 2 + 1, none⟩ = some (.string (needsOf i))
theorem Laid.mono {B : Nat} {w w' : World} (h : Laid w) (hb : Below B w w') (hB : 0 < B) : Laid w' :=
  ⟨Nat.lt_of_lt_of_le h.1 hb.size, fun i hi => ⟨(hb.cell (p := ⟨_, _, none⟩) hB).trans (h.2 i hi).1, (hb.cell (p := ⟨_, _, none⟩) hB).trans (h.2 i hi).2⟩⟩
set_option maxHeartbeats 400000 in
theorem of_bad (op : Int) (w : World) (h : op < 1 ∨ 28 < op) : Calls Tryz.prog 92 #[.int .i64 op] w fun e w' => e = .returned (.tuple #[.agg #[.string .empty, .string .empty], .bool false]) ∧ Below w.heap.size w w' := by
  rcases h with h | h
  all_goals
    go_enter Tryz.func92, Tryz.ntmps92
    go_wp2
    exact bodyPost_ret (v := .tuple #[.agg #[.string .empty, .string .empty], .bool false]) (by simp [results, Tryz.results92, go_sem]; rfl) rfl ⟨rfl, (Below.refl _ _).alloc (Nat.le_refl _) _⟩
set_option maxHeartbeats 400000 in
theorem of_good (op : Nat) (w : World) (h1 : 1 ≤ op) (h2 : op ≤ 28) (hl : Laid w) : Calls Tryz.prog 92 #[.int .i64 op] w fun e w' => e = .returned (.tuple #[.agg #[.string (wordOf op), .string (needsOf op)], .bool true]) ∧ Below w.heap.size w w' := by
  obtain ⟨c1, c2⟩ := hl.2 op (by omega)
  have hg := hl.1
  generalize wordOf op = wd at *
  generalize needsOf op = nd at *
  clear hl
  go_enter Tryz.func92, Tryz.ntmps92
  go_wp2
  exact bodyPost_ret (v := .tuple #[.agg #[.string wd, .string nd], .bool true]) (by simp [results, Tryz.results92, go_sem]) rfl ⟨rfl, (Below.refl _ _).alloc (Nat.le_refl _) _⟩
def needB' (nd : ByteArray) (c : UInt8) : Bool := decide (0 ≤ Lib.indexByte nd.data.toList c)
set_option maxHeartbeats 400000 in
theorem needs_any (wd nd : ByteArray) (c : UInt8) (B : Nat) (w : World) (_h0 : w.cell? ⟨B, 0, none⟩ = some (.string wd)) (h1 : w.cell? ⟨B, 1, none⟩ = some (.string nd)) :
    Calls Tryz.prog 93 #[.string ⟨#[c]⟩, .pointer (some ⟨B, 0, none⟩)] w fun e w' => e = .returned (.bool (needB' nd c)) ∧ w = w' := by
  have hC : Hid (∀ w, Calls Tryz.prog 94 #[.string nd, .string ⟨#[c]⟩] w fun e w' => e = .returned (.bool (needB' nd c)) ∧ w = w') := fun w => (Tryz.strings_Contains_one nd c w).mono fun _ _ h => ⟨h.1, h.2.symm⟩
  go_enter Tryz.func93, Tryz.ntmps93
  go_wp2_with (go_at_call 94; (with_reducible refine (hC.out _).mono ?_); rintro e w' ⟨rfl, rfl⟩)
  go_ret
  exact ⟨rfl, rfl⟩
end Go.Proofs.YtlmfmioljeppfaaGreatDoor
