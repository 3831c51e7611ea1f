/-
  WALK over flow.After. Conditions: a place of right code.
-/
import Derived.Test.YtlmfmioljeppfaaGreatDoorQueue
import Derived.Test.YtlmfmioljeppfaaGreatDoorCheckLaw
namespace Go.Proofs.YtlmfmioljeppfaaGreatDoor
open Go.RowKit Go.Shelf Go.Lib
theorem one_int (w : World) (x : Nat) (t : TypeId) : (w.alloc (.cells #[.int .i64 (x : Int)] t)).cell? ((⟨w.heap.size, 0, none⟩ : Addr).add 0) = some (intV x) := by
  rw [add_eq' rfl, cell_of_row _ _ _ #[.int .i64 (x : Int)] t (0, 0) (heap_alloc_new _ _)]; rfl
set_option maxHeartbeats 4000000 in
set_option maxRecDepth 100000 in
theorem flowAfter_any (code : List Ins) (cv : Value) (w : World) (h : SliceOf w 6 InsCells cv code) (i : Nat) (x : Ins) (hx : code[i]? = some x) (hi : i ≤ 64) (ha : jumpsB x.op = true → 0 ≤ x.a) :
    Calls Tryz.prog 150 #[cv, .int .i64 (i : Int)] w fun e w' => ∃ v, e = .returned v ∧ Below w.heap.size w w' ∧ Que w' w.heap.size v (nextL x i) := by
  obtain ⟨hlt, rfl⟩ := List.getElem?_eq_some_iff.1 hx
  obtain ⟨b, o, cap, vs, rfl, hR, _, hcells⟩ := h.at hlt
  unfold InsCells at hR
  have hr : nextL code[i] i = (if endsB code[i].op then [] else [i + 1]) ++ (if jumpsB code[i].op && (code[i].op == 14 || code[i].a != (i : Int) + 1) then [code[i].a.toNat] else []) := rfl
  rw [hr]
  have HE : Hid (∀ wx, _) := fun wx => ends_any code[i].op wx
  have HJ : Hid (∀ wx, _) := fun wx => jumps_any code[i].op wx
  have hil : (i : Int) < (code.length : Int) := by omega
  obtain ⟨c0, c1, c2, c3, c4, c5, _⟩ := (by rw [hR] at hcells; exact hcells : Cells w b (o + i * 6) [.int .i64 code[i].op, .int .i64 code[i].a, .int .i64 code[i].b, .string code[i].type, .string code[i].cls, .string code[i].name])
  clear hr hR hcells h hx
  generalize code[i] = y at *
  obtain ⟨op, a, bb, type, cls, name⟩ := y
  dsimp only at *
  have hi63 : (i : Int) + 1 ≤ 100 := by omega
  cases he : endsB op with
  | true =>
    rw [he] at HE
    go_enter Tryz.func150, Tryz.ntmps150
    cases hj : jumpsB op with
    | false =>
      rw [hj] at HJ
      have hBx : Below w.heap.size w (w.alloc (.cells #[.int .i64 op, .int .i64 a, .int .i64 bb, .string type, .string cls, .string name] 24)) := (Below.refl _ _).alloc (Nat.le_refl _) _
      have hQx := Que.empty (w.alloc (.cells #[.int .i64 op, .int .i64 a, .int .i64 bb, .string type, .string cls, .string name] 24)) w.heap.size
      go_wp2_with (first
        | (go_at_call 113; (with_reducible refine (HE.out _).mono ?_); rintro e w2 ⟨rfl, rfl⟩)
        | (go_at_call 70; (with_reducible refine (HJ.out _).mono ?_); rintro e w2 ⟨rfl, rfl⟩))
      go_ret
      exact ⟨_, rfl, hBx, hQx⟩
    | true =>
      rw [hj] at HJ
      obtain ⟨n, rfl⟩ := Int.eq_ofNat_of_zero_le (ha hj)
      cases h14 : (op == 14) with
      | true =>
        have hQ := Que.empty ((w.alloc (.cells #[.int .i64 op, .int .i64 (n : Int), .int .i64 bb, .string type, .string cls, .string name] 24)).alloc (.cells #[.int .i64 (n : Int)] 3)) w.heap.size
        have hB : Below w.heap.size w ((w.alloc (.cells #[.int .i64 op, .int .i64 (n : Int), .int .i64 bb, .string type, .string cls, .string name] 24)).alloc (.cells #[.int .i64 (n : Int)] 3)) := ((Below.refl _ _).alloc (Nat.le_refl _) _).alloc (by simp) _
        have hone := one_int (w.alloc (.cells #[.int .i64 op, .int .i64 (n : Int), .int .i64 bb, .string type, .string cls, .string name] 24)) n 3
        rw [World.size_alloc] at hone
        have hQb := hB.size
        go_wp2_with (first
          | (go_at_call 113; (with_reducible refine (HE.out _).mono ?_); rintro e w2 ⟨rfl, rfl⟩)
          | (go_at_call 70; (with_reducible refine (HJ.out _).mono ?_); rintro e w2 ⟨rfl, rfl⟩)
          | (at_builtin; go_must (refine wpList_append_que rfl _ _ rfl w.heap.size _ [] rfl hQ hQb n _ 1 rfl hone (by simp [maxLen]) (by simp) ?_); intro v5 w5 hq5 hg5 _))
        go_ret
        exact ⟨_, rfl, hB.grown hg5 hB.size (fun g e => (hQ.lt g e).1), hq5⟩
      | false =>
        cases hn : ((n : Int) != (i : Int) + 1) with
        | true =>
          have hQ := Que.empty ((w.alloc (.cells #[.int .i64 op, .int .i64 (n : Int), .int .i64 bb, .string type, .string cls, .string name] 24)).alloc (.cells #[.int .i64 (n : Int)] 3)) w.heap.size
          have hB : Below w.heap.size w ((w.alloc (.cells #[.int .i64 op, .int .i64 (n : Int), .int .i64 bb, .string type, .string cls, .string name] 24)).alloc (.cells #[.int .i64 (n : Int)] 3)) := ((Below.refl _ _).alloc (Nat.le_refl _) _).alloc (by simp) _
          have hone := one_int (w.alloc (.cells #[.int .i64 op, .int .i64 (n : Int), .int .i64 bb, .string type, .string cls, .string name] 24)) n 3
          rw [World.size_alloc] at hone
          have hQb := hB.size
          go_wp2_with (first
            | (go_at_call 113; (with_reducible refine (HE.out _).mono ?_); rintro e w2 ⟨rfl, rfl⟩)
            | (go_at_call 70; (with_reducible refine (HJ.out _).mono ?_); rintro e w2 ⟨rfl, rfl⟩)
            | (at_builtin; go_must (refine wpList_append_que rfl _ _ rfl w.heap.size _ [] rfl hQ hQb n _ 1 rfl hone (by simp [maxLen]) (by simp) ?_); intro v5 w5 hq5 hg5 _))
          go_ret
          exact ⟨_, rfl, hB.grown hg5 hB.size (fun g e => (hQ.lt g e).1), hq5⟩
        | false =>
          have hBx : Below w.heap.size w (w.alloc (.cells #[.int .i64 op, .int .i64 (n : Int), .int .i64 bb, .string type, .string cls, .string name] 24)) := (Below.refl _ _).alloc (Nat.le_refl _) _
          have hQx := Que.empty (w.alloc (.cells #[.int .i64 op, .int .i64 (n : Int), .int .i64 bb, .string type, .string cls, .string name] 24)) w.heap.size
          go_wp2_with (first
            | (go_at_call 113; (with_reducible refine (HE.out _).mono ?_); rintro e w2 ⟨rfl, rfl⟩)
            | (go_at_call 70; (with_reducible refine (HJ.out _).mono ?_); rintro e w2 ⟨rfl, rfl⟩))
          go_ret
          exact ⟨_, rfl, hBx, hQx⟩
  | false =>
    rw [he] at HE
    have hQ := Que.empty ((w.alloc (.cells #[.int .i64 op, .int .i64 a, .int .i64 bb, .string type, .string cls, .string name] 24)).alloc (.cells #[.int .i64 ((i : Int) + 1)] 3)) w.heap.size
    have hB : Below w.heap.size w ((w.alloc (.cells #[.int .i64 op, .int .i64 a, .int .i64 bb, .string type, .string cls, .string name] 24)).alloc (.cells #[.int .i64 ((i : Int) + 1)] 3)) := ((Below.refl _ _).alloc (Nat.le_refl _) _).alloc (by simp) _
    have hQb := hB.size
    have hone := one_int (w.alloc (.cells #[.int .i64 op, .int .i64 a, .int .i64 bb, .string type, .string cls, .string name] 24)) (i + 1) 3
    rw [World.size_alloc, show (((i + 1 : Nat)) : Int) = (i : Int) + 1 from rfl] at hone
    have K := (Blk.new w 24 [.int .i64 op, .int .i64 a, .int .i64 bb, .string type, .string cls, .string name]).step ((Below.refl _ _).alloc (Nat.le_refl _) (.cells #[.int .i64 ((i : Int) + 1)] 3))
    go_enter Tryz.func150, Tryz.ntmps150
    go_upto_region 5 with (first
      | (go_at_call 113; (with_reducible refine (HE.out _).mono ?_); rintro e w2 ⟨rfl, rfl⟩)
      | (at_builtin; go_must (refine wpList_append_que rfl _ _ rfl w.heap.size _ [] rfl hQ hQb (i + 1) _ 1 rfl hone (by decide) (by decide) ?_); intro v4 w4 hq4 hg4 _))
    have hB4 := hB.grown hg4 hB.size (fun g e => (hQ.lt g e).1)
    have K4 := K.grown hg4 (fun e => by cases e)
    obtain ⟨k0, k1, _, _, _, _⟩ := K4.cells6
    clear hQ hB hQb K K4 hg4 hone
    cases hj : jumpsB op with
    | false =>
      rw [hj] at HJ
      have hBx := hB4; have hQx := hq4
      go_wp2_with (first
        | (go_at_call 113; (with_reducible refine (HE.out _).mono ?_); rintro e w2 ⟨rfl, rfl⟩)
        | (go_at_call 70; (with_reducible refine (HJ.out _).mono ?_); rintro e w2 ⟨rfl, rfl⟩))
      go_ret
      exact ⟨_, rfl, hBx, hQx⟩
    | true =>
      rw [hj] at HJ
      obtain ⟨n, rfl⟩ := Int.eq_ofNat_of_zero_le (ha hj)
      cases h14 : (op == 14) with
      | true =>
        have hQ : Que (w4.alloc (.cells #[.int .i64 (n : Int)] 3)) w.heap.size v4 [i + 1] := hq4.keep (fun g hg => heap_alloc_old _ _ (hq4.lt g hg).2)
        have hB : Below w.heap.size w (w4.alloc (.cells #[.int .i64 (n : Int)] 3)) := hB4.alloc hB4.size _
        have hone := one_int w4 n 3
        have hQb := hB.size
        go_wp2_with (first
          | (go_at_call 113; (with_reducible refine (HE.out _).mono ?_); rintro e w2 ⟨rfl, rfl⟩)
          | (go_at_call 70; (with_reducible refine (HJ.out _).mono ?_); rintro e w2 ⟨rfl, rfl⟩)
          | (at_builtin; go_must (refine wpList_append_que rfl _ _ rfl w.heap.size _ [i + 1] rfl hQ hQb n _ 1 rfl hone (by simp [maxLen]) (by simp) ?_); intro v5 w5 hq5 hg5 _))
        go_ret
        exact ⟨_, rfl, hB.grown hg5 hB.size (fun g e => (hQ.lt g e).1), hq5⟩
      | false =>
        cases hn : ((n : Int) != (i : Int) + 1) with
        | true =>
          have hQ : Que (w4.alloc (.cells #[.int .i64 (n : Int)] 3)) w.heap.size v4 [i + 1] := hq4.keep (fun g hg => heap_alloc_old _ _ (hq4.lt g hg).2)
          have hB : Below w.heap.size w (w4.alloc (.cells #[.int .i64 (n : Int)] 3)) := hB4.alloc hB4.size _
          have hone := one_int w4 n 3
          have hQb := hB.size
          go_wp2_with (first
            | (go_at_call 113; (with_reducible refine (HE.out _).mono ?_); rintro e w2 ⟨rfl, rfl⟩)
            | (go_at_call 70; (with_reducible refine (HJ.out _).mono ?_); rintro e w2 ⟨rfl, rfl⟩)
            | (at_builtin; go_must (refine wpList_append_que rfl _ _ rfl w.heap.size _ [i + 1] rfl hQ hQb n _ 1 rfl hone (by simp [maxLen]) (by simp) ?_); intro v5 w5 hq5 hg5 _))
          go_ret
          exact ⟨_, rfl, hB.grown hg5 hB.size (fun g e => (hQ.lt g e).1), hq5⟩
        | false =>
          have hBx := hB4; have hQx := hq4
          go_wp2_with (first
            | (go_at_call 113; (with_reducible refine (HE.out _).mono ?_); rintro e w2 ⟨rfl, rfl⟩)
            | (go_at_call 70; (with_reducible refine (HJ.out _).mono ?_); rintro e w2 ⟨rfl, rfl⟩))
          go_ret
          exact ⟨_, rfl, hBx, hQx⟩
end Go.Proofs.YtlmfmioljeppfaaGreatDoor
