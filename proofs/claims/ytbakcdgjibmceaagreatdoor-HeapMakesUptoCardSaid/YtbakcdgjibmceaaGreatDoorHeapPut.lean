/-
  WALKS over the reference's ZeroOf, Thing, Fresh, FreshArray. Conditions: a right world, a class that is there; texts of at most 4194304 signs; at most ten elements.
  WALKS over same's Values, Heap of two heaps that hold the same. No condition.
  PLAIN: what New and Array make; a thing put behind a heap's things.
-/
import Derived.Test.YtbakcdgjibmceaaGreatDoorHeapNew
import Derived.Test.YtbakcdgjibmceaaGreatDoorHeaped
namespace Go.Proofs.YtbakcdgjibmceaaGreatDoor
open Go.RowKit Go.Shelf Go.Lib
theorem refZero_any (t : Str) (w : World) : Calls Tryz.prog 55 #[.string t] w fun e w' => e = .returned (valV (zeroOf t)) ∧ Below w.heap.size w w' := by
  have e1 : (ByteArray.toList t == [73]) = decide (lst t = [73]) := by
    rw [ByteArray.toList_eq, Bool.eq_iff_iff, beq_iff_eq, decide_eq_true_iff]
  have e2 : (ByteArray.toList t == [74]) = decide (lst t = [74]) := by
    rw [ByteArray.toList_eq, Bool.eq_iff_iff, beq_iff_eq, decide_eq_true_iff]
  have hB := (Below.refl w.heap.size w).alloc (Nat.le_refl _)
  unfold zeroOf
  by_cases h1 : lst t = [73]
  · rw [if_pos h1]
    rw [decide_eq_true h1] at e1
    have h2 : lst t ≠ [74] := by rw [h1]; decide
    rw [decide_eq_false h2] at e2
    clear h1 h2
    go_enter Tryz.func55, Tryz.ntmps55
    go_wp2_with (first | fail)
    exact bodyPost_ret (v := valV ⟨1, 0⟩) (by simp [results, Tryz.results55, go_sem, valV]) rfl ⟨rfl, hB _⟩
  · rw [if_neg h1]
    rw [decide_eq_false h1] at e1
    by_cases h2 : lst t = [74]
    all_goals
      first | rw [if_pos h2] | rw [if_neg h2]
      first | rw [decide_eq_true h2] at e2 | rw [decide_eq_false h2] at e2
      clear h1 h2
      go_enter Tryz.func55, Tryz.ntmps55
      go_wp2_with (first | fail)
      first
        | exact bodyPost_ret (v := valV ⟨2, 0⟩) (by simp [results, Tryz.results55, go_sem, valV]) rfl ⟨rfl, hB _⟩
        | exact bodyPost_ret (v := valV ⟨3, 0⟩) (by simp [results, Tryz.results55, go_sem, valV]) rfl ⟨rfl, hB _⟩
theorem refThingText_any (c : Str) (w : World) (hs : c.size ≤ 4194304) : Calls Tryz.prog 53 #[.string c] w fun e w' => e = .returned (.string (thText c)) ∧ w = w' := by
  have hs2 : (⟨#[76]⟩ ++ c : ByteArray).size ≤ 4194305 := by rw [ByteArray.size_append]; show 1 + c.size ≤ _; omega
  go_enter Tryz.func53, Tryz.ntmps53
  go_wp2
  go_ret
  exact ⟨rfl, rfl⟩
/-- what the reference's Fresh and FreshArray leave -/
def MadePost (w : World) (x : Thing) (e : Ending) (w' : World) : Prop :=
  (∃ p k, e = .returned (.agg #[.string x.type, .slice p x.has.length k]) ∧ SliceOf w' 2 ValCells (.slice p x.has.length k) x.has ∧ (∀ g, (Value.slice p x.has.length k).ownBlock = some g → w.heap.size ≤ g ∧ g < w'.heap.size)) ∧ Below w.heap.size w w'
theorem below_set1 {B b j : Nat} {a w : World} (h : Below B a w) (hp : B ≤ b) (v0 : Value) : Below B a (w.setCell ⟨b, j, none⟩ v0) := h.setCell (p := ⟨b, j, none⟩) hp v0
theorem Blk.store2 {w : World} {b : Nat} {t : TypeId} {u v : Value} (h : Blk w b t [u, v]) (x : Value) : Blk (w.setCell ⟨b, 1, none⟩ x) b t [u, x] := by
  unfold Blk at *
  rw [heap_setCell_same w b 1 _ _ x h]; rfl
theorem vals_snoc (l : List Val) (v : Val) : (l ++ [v]).flatMap valVs = l.flatMap valVs ++ [.int .i64 v.kind, .int .i64 v.n] := by rw [List.flatMap_append]; rfl
theorem val_one (v : Val) : ∀ u ∈ [Value.int .i64 v.kind, .int .i64 v.n], u.oneCell' = true := by
  intro u hu
  simp at hu
  rcases hu with rfl | rfl <;> rfl
set_option maxHeartbeats 4000000 in
set_option maxRecDepth 100000 in
theorem refFresh_any (l : List Class) (lv : Value) (hR : Right l) (hcf : ∀ c ∈ l, classFault c = 0) (w : World) (hlv : ClassesAt w lv l) (c : Str) (hk : (findC (allC l) c).isSome = true) :
    Calls Tryz.prog 23 #[lv, .string c] w (MadePost w (freshT (allC l) c)) := by
  have HLa : Hid (∀ wx, Below w.heap.size w wx → _) := fun wx hb => refTypes_any l lv c wx hR hcf (hlv.mono hb) hk
  have hs20 := class_name20 hcf hk
  have HTh : Hid (∀ wx, _) := fun wx => refThingText_any c wx (by omega)
  have hsmall : (typesOf (layC (allC l) c)).length ≤ 4194304 := by have := lay_small hR hcf hk; unfold typesOf; rw [List.length_map]; omega
  have HX : Hid (freshT (allC l) c = ⟨thText c, (typesOf (layC (allC l) c)).map zeroOf⟩) := by unfold Hid freshT; rw [thText_eq]
  obtain ⟨pl, cap, rfl, _⟩ := hlv.open
  obtain ⟨i0, hi, hz0, hz1, hz2⟩ := info_parts info_val
  unfold RowPost at HLa
  rw [HX.out]
  generalize typesOf (layC (allC l) c) = T at *
  generalize thText c = tx at *
  unfold MadePost
  dsimp only
  rw [List.length_map]
  clear hR hcf hlv hk hs20 HX
  obtain ⟨wq, hwq⟩ : ∃ wq, wq = (w.alloc (.cells #[.string ⟨#[]⟩, .slice none 0 0] 56)).alloc (.cells #[.string tx, .slice none 0 0] 56) := ⟨_, rfl⟩
  have hBq : Below w.heap.size w wq := by rw [hwq]; exact ((Below.refl _ _).alloc (Nat.le_refl _) _).alloc (by simp) _
  have k0 : Blk wq w.heap.size 56 [.string ⟨#[]⟩, .slice none 0 0] := by
    rw [hwq]
    exact (Blk.new w 56 [.string ⟨#[]⟩, .slice none 0 0]).step ((Below.refl _ _).alloc (Nat.le_refl _) _)
  have k1 : Blk wq (w.heap.size + 1) 56 [.string tx, .slice none 0 0] := by
    rw [hwq]
    have := Blk.new (w.alloc (.cells #[.string ⟨#[]⟩, .slice none 0 0] 56)) 56 [.string tx, .slice none 0 0]
    simpa using this
  have hsq : wq.heap.size = w.heap.size + 2 := by rw [hwq]; simp
  subst hwq
  have K0 := Lib.hid k0
  have K1 := Lib.hid k1
  have HBq := Lib.hid hBq
  clear k0 k1 hBq
  go_enter Tryz.func23, Tryz.ntmps23
  go_wp2_with (first
    | (go_at_call 53; (with_reducible refine (HTh.out _).mono ?_); rintro e w3 ⟨rfl, rfl⟩)
    | (go_at_call 54; (with_reducible refine (HLa.out _ HBq.out).mono ?_); rintro e w6 ⟨⟨v6, rfl, hv6⟩, hB6⟩; obtain ⟨p6, k6, rfl⟩ := ownsRow_shape hv6))
  rw [hsq] at hv6
  have K06 := Lib.hid (K0.out.step hB6)
  have K16 := Lib.hid (K1.out.step hB6)
  have HV6 := Lib.hid hv6
  have hlt6 := Lib.hid (hv6.lt)
  have HB6 := Lib.hid (below_call HBq.out (Nat.le_refl _) hB6)
  have hs6 : w.heap.size + 2 ≤ w6.heap.size := by rw [← hsq]; exact hB6.size
  clear K0 K1 HBq hv6 hB6 HLa HTh
  go_loopw [7] (fun i wr => ∃ (k : Nat) (v : Value), k ≤ T.length ∧ Hid (Blk wr w.heap.size 56 [.string ⟨#[]⟩, .slice none 0 0]) ∧ Hid (Blk wr (w.heap.size + 1) 56 [.string tx, v]) ∧ Hid (wr.ownsRow w6.heap.size 27 2 v k (((T.take k).map zeroOf).flatMap valVs)) ∧ Hid (wr.ownsRow (w.heap.size + 2) 9 1 (.slice p6 T.length k6) T.length (T.map Value.string)) ∧ Hid (Below w.heap.size w wr) ∧ Hid (w6.heap.size ≤ wr.heap.size) ∧ i = .int .i64 k) (fun i _ => T.length - (intOf i).toNat)
  case atStart => exact ⟨0, _, by omega, K06.out, K16.out, World.ownsRow_nil _ _ _ _, HV6.out, HB6.out, Nat.le_refl _, rfl⟩
  case round =>
    clear K06 K16 HV6 HB6
    obtain ⟨k, v, hkT, k0, k1, kv, kT, hB, hws, rfl⟩ := hrel
    obtain ⟨va, vc, rfl⟩ := ownsRow_shape kv.out
    by_cases hkl : k < T.length
    · obtain ⟨t, ht⟩ : ∃ a, T[k]? = some a := ⟨T[k], by simp [hkl]⟩
      obtain ⟨g6, c6, he6, _⟩ := World.ownsRow.form kT.out (by omega)
      simp only [Value.slice.injEq, true_and] at he6
      obtain ⟨rfl, rfl⟩ := he6
      have hg6 := hlt6.out g6 rfl
      have t0 : wr.cell? ⟨g6, k, none⟩ = some (.string t) := by
        rw [kT.out.cellAt k (by omega), List.getElem?_map, ht]; rfl
      have x1 : wr.cell? ⟨w.heap.size + 1, 1, none⟩ = some (.slice va k vc) := k1.out.cell 1
      have htk : (T.take (k + 1)).map zeroOf = (T.take k).map zeroOf ++ [zeroOf t] := by
        obtain ⟨h1, h2⟩ := List.getElem?_eq_some_iff.1 ht
        rw [List.take_succ_eq_append_getElem h1, h2, List.map_append]; rfl
      obtain ⟨zv, hzv⟩ : ∃ z, zeroOf t = z := ⟨_, rfl⟩
      have HZ : Hid (∀ wx, Calls Tryz.prog 55 #[.string t] wx fun e w' => e = .returned (.agg #[.int .i64 zv.kind, .int .i64 zv.n]) ∧ Below wx.heap.size wx w') := fun wx => (refZero_any t wx).mono fun e w' ⟨h1, h2⟩ => ⟨by rw [h1, hzv]; rfl, h2⟩
      rw [hzv] at htk
      have HTk := Lib.hid htk
      have hi1 : (0 : Int) ≤ (k : Int) := by omega
      have hi2 : (k : Int) < (T.length : Int) := by omega
      have hb63 : k + 1 ≤ maxLen := by unfold maxLen; omega
      have hb40 : (k + 1) * 16 ≤ 140737488355328 := by omega
      have hno1 : (Value.slice va k vc).ownBlock ≠ some (w.heap.size + 1) := fun e => by have := (kv.out.lt _ e).1; omega
      have hno0 : (Value.slice va k vc).ownBlock ≠ some w.heap.size := fun e => by have := (kv.out.lt _ e).1; omega
      have hnoT : (Value.slice (some ⟨g6, 0, none⟩) T.length k6).ownBlock ≠ (Value.slice va k vc).ownBlock := fun e => by
        have := (kv.out.lt g6 (by rw [← e]; rfl)).1
        omega
      have b0 := Lib.hid t0
      have b1 := Lib.hid x1
      have hne : w.heap.size + 1 < wr.heap.size := k1.out.lt
      clear htk hzv ht
      go_wp2_with (first | fail)
      go_region_law (first
        | (refine step_append_lies _ (by rfl) _ _ 54 (by rfl) w6.heap.size 27 i0 (.agg #[.int .i64 0, .int .i64 0]) 2 16 Tryz.underlying54 hi hz0 hz1 hz2 rfl (by decide) _ k _ (by rfl) hown7 ⟨w7.heap.size, 0, none⟩ 1 1 [.int .i64 zv.kind, .int .i64 zv.n] (by rfl) rfl (cell_duo_new w7 _ _ 27) (val_one zv) (by decide) hb63 hb40 hbase7 (w7.heap.size + 1) (by simp) ?_; intro g cap w8 hown8 hgrow hat hlt; (have k18 := k17.grown hgrow hno1); (have e8 : w8.cell? ⟨w.heap.size + 1, 1, none⟩ = some (.slice va k vc) := k18.cell 1); (have f8 := k18.frozen 1))
        | (go_simp; go_at_call 55; refine (HZ.out _).mono ?_; rintro e w7 ⟨rfl, hB7'⟩; (have hB7 : Below wr.heap.size wr w7 := below_call ((Below.refl _ _).drew) (Nat.le_refl _) hB7'); (have d0 := (hB7.cell (p := ⟨g6, k, none⟩) (hcells_lt b0.out)).trans b0.out); (have d1 := (hB7.cell (p := ⟨w.heap.size + 1, 1, none⟩) (hcells_lt b1.out)).trans b1.out); (have d3 := Lib.cell?_alloc_some (.cells #[.int .i64 zv.kind, .int .i64 zv.n] 27) d1); (have hBy := hB7.alloc hB7.size (.cells #[.int .i64 zv.kind, .int .i64 zv.n] 27)); (have hown7 := ownsRow_belowk kv.out hBy); (have k17 := k1.out.step hBy); (have hbase7 := Nat.le_trans hws.out hBy.size)))
      all_goals
        have k08 := Lib.hid (((k0.out.step hBy).grown hgrow hno0).other' (a := ⟨w.heap.size + 1, 1, none⟩) (by show w.heap.size + 1 ≠ w.heap.size; omega) (.slice (some ⟨g, 0, none⟩) (k + 1) cap))
        have k19 := Lib.hid (k18.store2 (.slice (some ⟨g, 0, none⟩) (k + 1) cap))
        have kv8 : Hid ((w8.setCell ⟨w.heap.size + 1, 1, none⟩ (.slice (some ⟨g, 0, none⟩) (k + 1) cap)).ownsRow w6.heap.size 27 2 (.slice (some ⟨g, 0, none⟩) (k + 1) cap) (k + 1) (((T.take (k + 1)).map zeroOf).flatMap valVs)) := by
          unfold Hid
          rw [HTk.out, vals_snoc]
          exact owns_other' hown8 (by omega) 1 _
        have kT8 := Lib.hid (owns_other' ((ownsRow_belowk kT.out hBy).kept hgrow (Or.inr hnoT)) (Nat.lt_succ_self (w.heap.size + 1)) 1 (.slice (some ⟨g, 0, none⟩) (k + 1) cap))
        have hB8 := Lib.hid (below_set1 (j := 1) ((below_call hB.out (Nat.le_refl _) hBy).grown hgrow (by have := hws.out; have := hBy.size; omega) (fun g' e' => by have := (kv.out.lt _ e').1; omega)) (show w.heap.size ≤ w.heap.size + 1 by omega) (.slice (some ⟨g, 0, none⟩) (k + 1) cap))
        have hs8 : Hid (w6.heap.size ≤ (w8.setCell ⟨w.heap.size + 1, 1, none⟩ (.slice (some ⟨g, 0, none⟩) (k + 1) cap)).heap.size) := copy_size (Nat.le_trans hbase7 hgrow.size) _ _
        clear d0 d1 d3 hB7 hB7' hBy hown7 k17 hbase7 hgrow hat hlt k18 hown8 b0 b1 t0 x1 HZ k0 k1 kv kT hB hws hno0 hno1 hnoT
        go_wp2_with (first | fail)
        go_roundw
        case rel => exact ⟨k + 1, _, by omega, k08, k19, kv8, kT8, hB8, hs8, by simp⟩
        case measure => simp [intOf]; omega
    · obtain rfl : k = T.length := by omega
      have a0 : wr.cell? ⟨w.heap.size, 0, none⟩ = some (.string ⟨#[]⟩) := k0.out.cell 0
      have a1 : wr.cell? ⟨w.heap.size, 1, none⟩ = some (.slice none 0 0) := k0.out.cell 1
      have f0 := k0.out.frozen 0
      have f1 := k0.out.frozen 1
      have x0 : wr.cell? ⟨w.heap.size + 1, 0, none⟩ = some (.string tx) := k1.out.cell 0
      have x1 : wr.cell? ⟨w.heap.size + 1, 1, none⟩ = some (.slice va T.length vc) := k1.out.cell 1
      have hno0 : w.heap.size < w6.heap.size := by omega
      have hv2 := owns_other' (owns_other' kv.out hno0 0 (.string tx)) hno0 1 (.slice va T.length vc)
      rw [List.take_length] at hv2
      have hlv : (T.map zeroOf).length = T.length := List.length_map ..
      have hvl := hv2.lt
      rw [← hlv] at hv2
      have HV := Lib.hid (vals_slice hv2)
      have HL := Lib.hid hvl
      have HB := Lib.hid (below_set2 hB.out (Nat.le_refl _) (.string tx) (.slice va T.length vc))
      rw [hlv] at HV
      clear hv2 hvl k0 k1 kv kT hB hws
      go_wp2_with (first | fail)
      refine bodyPost_ret (v := .agg #[.string tx, .slice va T.length vc]) (by simp [results, Tryz.results23, go_sem, *]) rfl ?_
      exact ⟨⟨_, _, rfl, HV.out, fun g e => ⟨Nat.le_trans (by omega) (HL.out g e).1, (HL.out g e).2⟩⟩, HB.out⟩
set_option maxHeartbeats 4000000 in
set_option maxRecDepth 100000 in
theorem refFreshA_any (k : Str) (m : Nat) (hm : m ≤ 10) (hk : k.size ≤ 4194304) (w : World) :
    Calls Tryz.prog 24 #[.string k, .int .i64 (m : Int)] w (MadePost w (freshA k m)) := by
  obtain ⟨tx, htx⟩ : ∃ a, (⟨#[91]⟩ ++ k : ByteArray) = a := ⟨_, rfl⟩
  have hla : lst tx = 91 :: lst k := by rw [← htx]; exact lst_arr k
  have hcat : ∀ wx, (Op.stringOp .add ⟨#[91]⟩ k).run Tryz.prog wx = .ok (.string tx) wx := fun wx => by
    rw [← htx]
    exact run_string_add_sum wx ⟨#[91]⟩ k (by show 1 + k.size ≤ _; omega)
  have HX : Hid (freshA k m = ⟨tx, List.replicate m (zeroOf k)⟩) := by unfold Hid freshA; rw [arr_text hla]
  obtain ⟨i0, hi, hz0, hz1, hz2⟩ := info_parts info_val
  rw [HX.out]
  unfold MadePost
  dsimp only
  rw [List.length_replicate]
  clear htx hla HX hk
  obtain ⟨wq, hwq⟩ : ∃ wq, wq = (w.alloc (.cells #[.string ⟨#[]⟩, .slice none 0 0] 56)).alloc (.cells #[.string tx, .slice none 0 0] 56) := ⟨_, rfl⟩
  have hBq : Below w.heap.size w wq := by rw [hwq]; exact ((Below.refl _ _).alloc (Nat.le_refl _) _).alloc (by simp) _
  have k0 : Blk wq w.heap.size 56 [.string ⟨#[]⟩, .slice none 0 0] := by
    rw [hwq]
    exact (Blk.new w 56 [.string ⟨#[]⟩, .slice none 0 0]).step ((Below.refl _ _).alloc (Nat.le_refl _) _)
  have k1 : Blk wq (w.heap.size + 1) 56 [.string tx, .slice none 0 0] := by
    rw [hwq]
    have := Blk.new (w.alloc (.cells #[.string ⟨#[]⟩, .slice none 0 0] 56)) 56 [.string tx, .slice none 0 0]
    simpa using this
  have hsq : wq.heap.size = w.heap.size + 2 := by rw [hwq]; simp
  have HW := Lib.hid hwq.symm
  go_enter Tryz.func24, Tryz.ntmps24
  go_wp2_with (first | fail)
  rw [HW.out]
  clear HW hwq
  have K0 := Lib.hid k0
  have K1 := Lib.hid k1
  have HBq := Lib.hid hBq
  have HSq := Lib.hid hsq
  clear k0 k1 hBq hsq
  go_loopw [6] (fun i wr => ∃ (j : Nat) (v : Value), j ≤ m ∧ Hid (Blk wr w.heap.size 56 [.string ⟨#[]⟩, .slice none 0 0]) ∧ Hid (Blk wr (w.heap.size + 1) 56 [.string tx, v]) ∧ Hid (wr.ownsRow (w.heap.size + 2) 27 2 v j ((List.replicate j (zeroOf k)).flatMap valVs)) ∧ Hid (Below w.heap.size w wr) ∧ Hid (w.heap.size + 2 ≤ wr.heap.size) ∧ i = .int .i64 j) (fun i _ => m - (intOf i).toNat)
  case atStart => exact ⟨0, _, by omega, K0.out, K1.out, World.ownsRow_nil _ _ _ _, HBq.out, by unfold Hid; rw [HSq.out]; exact Nat.le_refl _, rfl⟩
  case round =>
    clear K0 K1 HBq HSq
    obtain ⟨j, v, hjm, k0, k1, kv, hB, hws, rfl⟩ := hrel
    obtain ⟨va, vc, rfl⟩ := ownsRow_shape kv.out
    by_cases hjl : j < m
    · have x1 : wr.cell? ⟨w.heap.size + 1, 1, none⟩ = some (.slice va j vc) := k1.out.cell 1
      obtain ⟨zv, hzv⟩ : ∃ z, zeroOf k = z := ⟨_, rfl⟩
      have HZ : Hid (∀ wx, Calls Tryz.prog 55 #[.string k] wx fun e w' => e = .returned (.agg #[.int .i64 zv.kind, .int .i64 zv.n]) ∧ Below wx.heap.size wx w') := fun wx => (refZero_any k wx).mono fun e w' ⟨h1, h2⟩ => ⟨by rw [h1, hzv]; rfl, h2⟩
      have hlt : (j : Int) < (m : Int) := by omega
      have hb63 : j + 1 ≤ maxLen := by unfold maxLen; omega
      have hb40 : (j + 1) * 16 ≤ 140737488355328 := by omega
      have hno1 : (Value.slice va j vc).ownBlock ≠ some (w.heap.size + 1) := fun e => by have := (kv.out.lt _ e).1; omega
      have hno0 : (Value.slice va j vc).ownBlock ≠ some w.heap.size := fun e => by have := (kv.out.lt _ e).1; omega
      have b1 := Lib.hid x1
      have hne : w.heap.size + 1 < wr.heap.size := k1.out.lt
      have HZv := Lib.hid hzv
      clear hzv
      go_wp2_with (first | fail)
      go_region_law (first
        | (refine step_append_lies _ (by rfl) _ _ 54 (by rfl) (w.heap.size + 2) 27 i0 (.agg #[.int .i64 0, .int .i64 0]) 2 16 Tryz.underlying54 hi hz0 hz1 hz2 rfl (by decide) _ j _ (by rfl) hown7 ⟨w7.heap.size, 0, none⟩ 1 1 [.int .i64 zv.kind, .int .i64 zv.n] (by rfl) rfl (cell_duo_new w7 _ _ 27) (val_one zv) (by decide) hb63 hb40 hbase7 (w7.heap.size + 1) (by simp) ?_; intro g cap w8 hown8 hgrow hat hlt8; (have k18 := k17.grown hgrow hno1); (have e8 : w8.cell? ⟨w.heap.size + 1, 1, none⟩ = some (.slice va j vc) := k18.cell 1); (have f8 := k18.frozen 1))
        | (go_simp; go_at_call 55; refine (HZ.out _).mono ?_; rintro e w7 ⟨rfl, hB7'⟩; (have hB7 : Below wr.heap.size wr w7 := below_call ((Below.refl _ _).drew) (Nat.le_refl _) hB7'); (have d1 := (hB7.cell (p := ⟨w.heap.size + 1, 1, none⟩) (hcells_lt b1.out)).trans b1.out); (have d3 := Lib.cell?_alloc_some (.cells #[.int .i64 zv.kind, .int .i64 zv.n] 27) d1); (have hBy := hB7.alloc hB7.size (.cells #[.int .i64 zv.kind, .int .i64 zv.n] 27)); (have hown7 := ownsRow_belowk kv.out hBy); (have k17 := k1.out.step hBy); (have hbase7 := Nat.le_trans hws.out hBy.size)))
      all_goals
        have k08 := Lib.hid (((k0.out.step hBy).grown hgrow hno0).other' (a := ⟨w.heap.size + 1, 1, none⟩) (by show w.heap.size + 1 ≠ w.heap.size; omega) (.slice (some ⟨g, 0, none⟩) (j + 1) cap))
        have k19 := Lib.hid (k18.store2 (.slice (some ⟨g, 0, none⟩) (j + 1) cap))
        have kv8 : Hid ((w8.setCell ⟨w.heap.size + 1, 1, none⟩ (.slice (some ⟨g, 0, none⟩) (j + 1) cap)).ownsRow (w.heap.size + 2) 27 2 (.slice (some ⟨g, 0, none⟩) (j + 1) cap) (j + 1) ((List.replicate (j + 1) (zeroOf k)).flatMap valVs)) := by
          unfold Hid
          rw [List.replicate_succ', HZv.out, vals_snoc]
          rw [HZv.out] at hown8
          exact owns_other' hown8 (Nat.lt_succ_self _) 1 _
        have hB8 := Lib.hid (below_set1 (j := 1) ((below_call hB.out (Nat.le_refl _) hBy).grown hgrow (by have := hws.out; have := hBy.size; omega) (fun g' e' => by have := (kv.out.lt _ e').1; omega)) (show w.heap.size ≤ w.heap.size + 1 by omega) (.slice (some ⟨g, 0, none⟩) (j + 1) cap))
        have hs8 : Hid (w.heap.size + 2 ≤ (w8.setCell ⟨w.heap.size + 1, 1, none⟩ (.slice (some ⟨g, 0, none⟩) (j + 1) cap)).heap.size) := copy_size (Nat.le_trans hbase7 hgrow.size) _ _
        clear d1 d3 hB7 hB7' hBy hown7 k17 hbase7 hgrow hat hlt8 k18 hown8 b1 x1 HZ k0 k1 kv hB hws hno0 hno1
        go_wp2_with (first | fail)
        go_roundw
        case rel => exact ⟨j + 1, _, by omega, k08, k19, kv8, hB8, hs8, by simp⟩
        case measure => simp [intOf]; omega
    · obtain rfl : j = m := by omega
      have a0 : wr.cell? ⟨w.heap.size, 0, none⟩ = some (.string ⟨#[]⟩) := k0.out.cell 0
      have a1 : wr.cell? ⟨w.heap.size, 1, none⟩ = some (.slice none 0 0) := k0.out.cell 1
      have f0 := k0.out.frozen 0
      have f1 := k0.out.frozen 1
      have x0 : wr.cell? ⟨w.heap.size + 1, 0, none⟩ = some (.string tx) := k1.out.cell 0
      have x1 : wr.cell? ⟨w.heap.size + 1, 1, none⟩ = some (.slice va j vc) := k1.out.cell 1
      have hno0 : w.heap.size < w.heap.size + 2 := by omega
      have hv2 := owns_other' (owns_other' kv.out hno0 0 (.string tx)) hno0 1 (.slice va j vc)
      have hlv : (List.replicate j (zeroOf k)).length = j := List.length_replicate
      have hvl := hv2.lt
      have hv3 : ((wr.setCell ⟨w.heap.size, 0, none⟩ (.string tx)).setCell ⟨w.heap.size, 1, none⟩ (.slice va j vc)).ownsRow (w.heap.size + 2) 27 2 (.slice va j vc) (List.replicate j (zeroOf k)).length ((List.replicate j (zeroOf k)).flatMap valVs) := by rw [hlv]; exact hv2
      have HV := Lib.hid (vals_slice hv3)
      have HL := Lib.hid hvl
      have HB := Lib.hid (below_set2 hB.out (Nat.le_refl _) (.string tx) (.slice va j vc))
      clear hv2 hv3 hvl k0 k1 kv hB hws
      go_wp2_with (first | fail)
      refine bodyPost_ret (v := .agg #[.string tx, .slice va j vc]) (by simp [results, Tryz.results24, go_sem, *]) rfl ?_
      exact ⟨⟨_, _, rfl, HV.out, fun g e => ⟨Nat.le_trans (by omega) (HL.out g e).1, (HL.out g e).2⟩⟩, HB.out⟩
end Go.Proofs.YtbakcdgjibmceaaGreatDoor
namespace Go.Proofs.YtbakcdgjibmceaaGreatDoor
open Go.RowKit Go.Shelf Go.Lib
theorem uVal : Tryz.prog.underlying 27 = some (.struct (Tryz.prog.fieldsOf 27)) := by kernel_rfl
theorem sVal : Tryz.prog.stoodInHeld 27 = false := by kernel_rfl
theorem fVal : (Tryz.prog.fieldsOf 27).toList.map (fun f => (f.name, f.type, f.offset)) = [("Kind", 3, 0), ("N", 3, 1)] := by kernel_rfl
theorem val_neq (a b : Int) (w : World) : (binOp .neq 27 (.agg #[.int .i64 a, .int .i64 b]) (.agg #[.int .i64 a, .int .i64 b])).run Tryz.prog w = .ok (.bool false) w := by
  rw [run_neq_struct, run_equalIn_agg _ 9999 _ _ _ uVal sVal]
  obtain ⟨g1, g2, hg, ⟨n1, t1, o1⟩, n2, t2, o2⟩ := two_of fVal
  rw [hg]
  have p0 : ∀ (x y : Int) (w : World), (part 3 #[.int .i64 x, .int .i64 y] 0).run Tryz.prog w = .ok (.int .i64 x) w := fun x y w => by kernel_rfl
  have p1 : ∀ (x y : Int) (w : World), (part 3 #[.int .i64 x, .int .i64 y] 1).run Tryz.prog w = .ok (.int .i64 y) w := fun x y w => by kernel_rfl
  have hs := fun (x y : Int) (w : World) => run_equalIn_int (P := Tryz.prog) w 9998 3 .i64 .i64 x y Tryz.underlying3
  simp only [Op.eqFields, n1, t1, o1, n2, t2, o2, ne_eq, show ("Kind" = "_") = False from by simp, show ("N" = "_") = False from by simp, not_false_eq_true, if_true, Sem.run_bind, p0, p1, hs, Result.andThen_ok, Sem.run_ite]
  simp [Sem.run_pure]
set_option maxHeartbeats 2000000 in
set_option maxRecDepth 100000 in
theorem valuesSame_any (l : List Val) (va vb : Value) (w : World) (ha : SliceOf w 2 ValCells va l) (hb : SliceOf w 2 ValCells vb l) :
    Calls Tryz.prog 56 #[va, vb] w fun e w' => e = .returned (.bool true) ∧ Below w.heap.size w w' := by
  obtain ⟨p, c, rfl, hc1, hc2, hcc⟩ := ha.open
  obtain ⟨p2, c2, rfl, _, _, hdd⟩ := hb.open
  have hlen : l.length ≤ 9223372036854775807 := Nat.le_trans hc1 hc2
  have HC := Lib.hid hcc
  have HD := Lib.hid hdd
  clear ha hb hcc hdd
  go_enter Tryz.func56, Tryz.ntmps56
  go_wp2_with (first | fail)
  go_loopw [5] (fun x wr => ∃ k : Nat, k ≤ l.length ∧ Below w.heap.size w wr ∧ x = .int .i64 k) (fun x _ => l.length - (intOf x).toNat)
  case atStart => exact ⟨0, by omega, Below.refl _ _, rfl⟩
  case round =>
    obtain ⟨k, hk, hB, rfl⟩ := hrel
    by_cases hkl : k < l.length
    · obtain ⟨v, hv⟩ : ∃ a, l[k]? = some a := ⟨l[k], by simp [hkl]⟩
      obtain ⟨b, o, vs, rfl, hvs, _, hcells⟩ := HC.out k v hv
      obtain ⟨b2, o2, vs2, rfl, hvs2, _, hcells2⟩ := HD.out k v hv
      unfold ValCells at hvs hvs2
      subst hvs hvs2
      obtain ⟨c0, c1, _⟩ := hcells.mono hB hcells.lt
      obtain ⟨d0, d1, _⟩ := hcells2.mono hB hcells2.lt
      obtain ⟨v1, v2⟩ := v
      have hq := val_neq v1 v2
      have hi1 : (0 : Int) ≤ (k : Int) := by omega
      have hi2 : (k : Int) < (l.length : Int) := by omega
      have HV := Lib.hid hv
      have HB := Lib.hid hB
      clear hcells hcells2 hB hv
      go_wp2_with (first | fail)
      go_quiet (fail)
      go_wp2_with (first | fail)
      go_roundw
      case rel => exact ⟨k + 1, by omega, below_drewN HB.out _, by simp⟩
      case measure => simp [intOf]; omega
    · obtain rfl : k = l.length := by omega
      have HB := Lib.hid hB
      clear hB
      go_wp2_with (first | fail)
      go_ret
      exact ⟨rfl, HB.out⟩
set_option maxHeartbeats 4000000 in
set_option maxRecDepth 100000 in
theorem heapSame_any (h : List Thing) (va vb : Value) (w : World) (ha : ThingsAt w va h) (hb : ThingsAt w vb h) :
    Calls Tryz.prog 25 #[.agg #[va], .agg #[vb]] w fun e w' => e = .returned (.bool true) ∧ Below w.heap.size w w' := by
  have HVa : Hid (∀ l v u wx, SliceOf wx 2 ValCells v l → SliceOf wx 2 ValCells u l → _) := fun l v u wx h1 h2 => valuesSame_any l v u wx h1 h2
  obtain ⟨p, c, rfl, hc1, hc2, hcc⟩ := ha.open
  obtain ⟨p2, c2, rfl, _, _, hdd⟩ := hb.open
  have hlen : h.length ≤ 9223372036854775807 := Nat.le_trans hc1 hc2
  have HC := Lib.hid hcc
  have HD := Lib.hid hdd
  obtain ⟨w1, hw1⟩ : ∃ w1, w1 = (w.alloc (.cells #[.slice p h.length c] 25)).alloc (.cells #[.slice p2 h.length c2] 25) := ⟨_, rfl⟩
  have q0 : w1.cell? ⟨w.heap.size, 0, none⟩ = some (.slice p h.length c) := by rw [hw1]; simp
  have q1 : w1.cell? ⟨w.heap.size + 1, 0, none⟩ = some (.slice p2 h.length c2) := by rw [hw1]; simp
  have hB1 : Below w.heap.size w w1 := by rw [hw1]; exact ((Below.refl _ _).alloc (Nat.le_refl _) _).alloc (by simp) _
  have HW := Lib.hid hw1.symm
  clear ha hb hcc hdd
  go_enter Tryz.func25, Tryz.ntmps25
  go_wp2_with (first | fail)
  rw [HW.out]
  clear HW hw1
  go_loopw [5] (fun x wr => ∃ k : Nat, k ≤ h.length ∧ Below w1.heap.size w1 wr ∧ x = .int .i64 k) (fun x _ => h.length - (intOf x).toNat)
  case atStart => exact ⟨0, by omega, Below.refl _ _, rfl⟩
  case round =>
    obtain ⟨k, hk, hB, rfl⟩ := hrel
    have r0 := (hB.cell (p := ⟨w.heap.size, 0, none⟩) (hcells_lt q0)).trans q0
    have r1 := (hB.cell (p := ⟨w.heap.size + 1, 0, none⟩) (hcells_lt q1)).trans q1
    have hBw := below_call hB1 (Nat.le_refl _) hB
    by_cases hkl : k < h.length
    · obtain ⟨x, hx⟩ : ∃ a, h[k]? = some a := ⟨h[k], by simp [hkl]⟩
      obtain ⟨b, o, vs, rfl, ⟨xv, rfl, hxv⟩, _, hcells⟩ := HC.out k x hx
      obtain ⟨b2, o2, vs2, rfl, ⟨yv, rfl, hyv⟩, _, hcells2⟩ := HD.out k x hx
      obtain ⟨c0, c1, _⟩ := hcells.mono hBw hcells.lt
      obtain ⟨d0, d1, _⟩ := hcells2.mono hBw hcells2.lt
      have HVx := Lib.hid (HVa.out x.has xv yv wr.drew (hxv.mono hBw.drew (by decide) (fun _ _ h => h)) (hyv.mono hBw.drew (by decide) (fun _ _ h => h)))
      obtain ⟨pa, ka, rfl, _⟩ := hxv.open
      obtain ⟨pb, kb, rfl, _⟩ := hyv.open
      have hi1 : (0 : Int) ≤ (k : Int) := by omega
      have hi2 : (k : Int) < (h.length : Int) := by omega
      have HX := Lib.hid hx
      have HB := Lib.hid hB
      clear hcells hcells2 hB hx hxv hyv hBw
      go_upto_region 6 with (first | fail)
      refine wp_region_still_tail 26 (by kernel_rfl) (by kernel_rfl) ?_
      simp only [List.take_succ_cons, List.take_zero, List.drop_succ_cons, List.drop_zero]
      repeat still_step
      refine wpStill_nil ?_
      change wpList _ _ _ _ _ wr.drew
      go_wp2_with (go_at_call 56; (with_reducible refine HVx.out.mono ?_); rintro e w7 ⟨rfl, hB7⟩)
      go_roundw
      case rel => exact ⟨k + 1, by omega, below_call HB.out.drew (Nat.le_refl _) hB7, by simp⟩
      case measure => simp [intOf]; omega
    · obtain rfl : k = h.length := by omega
      have HB := Lib.hid hBw
      clear hB hBw
      go_wp2_with (first | fail)
      go_ret
      exact ⟨rfl, HB.out⟩
end Go.Proofs.YtbakcdgjibmceaaGreatDoor
namespace Go.Proofs.YtbakcdgjibmceaaGreatDoor
open Go.RowKit Go.Shelf Go.Lib
/-- things, or none -/
def outL (f : Nat) (h : List Thing) (x : Thing) : List Thing := if f = 0 then h ++ [x] else []
def MakeOut (w : World) (f : Nat) (h : List Thing) (x : Thing) (e : Ending) (w' : World) : Prop :=
  (∃ gp gc, e = .returned (.tuple #[.agg #[.slice gp (outL f h x).length gc], .int .i64 ((outL f h x).length : Int), errV f]) ∧ ThingsAt w' (.slice gp (outL f h x).length gc) (outL f h x)) ∧ Below w.heap.size w w'
theorem make_out {w w' : World} {f : Nat} {h : List Thing} {x : Thing} {e : Ending} (hp : MakePost w f h x e w') : MakeOut w f h x e w' := by
  rcases hp with ⟨hB, ⟨rfl, v, rfl, hv⟩ | ⟨hf, rfl⟩⟩
  · have ho : outL 0 h x = h ++ [x] := rfl
    have hl : ((h ++ [x]).length : Int) = (h.length : Int) + 1 := by simp
    unfold MakeOut
    rw [ho, hl]
    obtain ⟨gp, gc, rfl, _⟩ := hv.open
    exact ⟨⟨gp, gc, rfl, hv⟩, hB⟩
  · have ho : outL f h x = [] := by unfold outL; rw [if_neg hf]
    rcases errV_cases f with ⟨_, hz⟩ | ⟨he, _⟩
    · exact absurd hz hf
    unfold MakeOut
    rw [ho, he]
    exact ⟨⟨none, 0, rfl, Or.inl ⟨rfl, rfl⟩⟩, hB⟩
theorem choose_list {α β : Type} {P : Nat → α → β → Prop} : ∀ (h : List α) (o : Nat), (∀ i x, h[i]? = some x → ∃ v, P (o + i) x v) → ∃ ps : List (α × β), ps.map (·.1) = h ∧ ∀ i p, ps[i]? = some p → P (o + i) p.1 p.2
  | [], _, _ => ⟨[], rfl, fun i p hp => by simp at hp⟩
  | x :: r, o, H => by
    obtain ⟨v, hv⟩ := H 0 x rfl
    obtain ⟨ps, h1, h2⟩ := choose_list (P := P) r (o + 1) (fun i y hy => by
      have := H (i + 1) y (by simpa using hy)
      rwa [show o + (i + 1) = o + 1 + i by omega] at this)
    refine ⟨(x, v) :: ps, by simp [h1], fun i p hp => ?_⟩
    match i, hp with
    | 0, hp => simp at hp; subst hp; exact hv
    | i + 1, hp =>
      have := h2 i p (by simpa using hp)
      rwa [show o + 1 + i = o + (i + 1) by omega] at this
theorem things_cells {w : World} {b o : Nat} : ∀ (l : List (Thing × Value)), (∀ i x, l[i]? = some x → Cells w b (o + i * 2) (thingVs x)) → ∀ j u, (l.flatMap thingVs)[j]? = some u → w.cell? ⟨b, o + j, none⟩ = some u
  | [], _, j, u, hj => by simp at hj
  | x :: r, h, j, u, hj => by
    have h0 := h 0 x rfl
    rw [Nat.zero_mul] at h0
    obtain ⟨a0, a1, _⟩ := h0
    match j, hj with
    | 0, hj => simp [thingVs] at hj; subst hj; exact a0
    | 1, hj => simp [thingVs] at hj; subst hj; exact a1
    | j + 2, hj =>
      have := things_cells (o := o + 2) r (fun i y hi => by
        have := h (i + 1) y (by simpa using hi)
        rw [show o + (i + 1) * 2 = o + 2 + i * 2 by omega] at this
        exact this) j u (by simpa [thingVs] using hj)
      rw [show o + 2 + j = o + (j + 2) by omega] at this
      exact this
/-- the things of a heap, each with the slice of its values -/
theorem things_open {w : World} {p : Option Addr} {c : Nat} {h : List Thing} (hh : ThingsAt w (.slice p h.length c) h) : ∃ ps : List (Thing × Value), ps.map (·.1) = h ∧ (∀ q ∈ ps, SliceOf w 2 ValCells q.2 q.1.has) ∧
    ((p = none ∧ ps = []) ∨ ∃ ad, p = some ad ∧ ∀ j u, (ps.flatMap thingVs)[j]? = some u → w.cell? (ad.add j) = some u) := by
  rcases hh with ⟨he, hn⟩ | ⟨a, cap, he, h1, h2, h4⟩
  · subst hn
    injection he with he
    exact ⟨[], rfl, (fun _ h => by cases h), Or.inl ⟨he, rfl⟩⟩
  · injection he with he _ _
    subst he
    obtain ⟨ps, hp1, hp2⟩ := choose_list (P := fun i x v => SliceOf w 2 ValCells v x.has ∧ a = ⟨a.block, a.off, none⟩ ∧ Cells w a.block (a.off + i * 2) (thingVs (x, v))) h 0 (fun i x hx => by
      obtain ⟨vs, ⟨hv, rfl, g1⟩, _, g3, g4⟩ := h4 i x hx
      exact ⟨hv, g1, g3, by rw [Nat.zero_add]; exact g4⟩)
    refine ⟨ps, hp1, fun q hq => ?_, Or.inr ⟨a, rfl, fun j u hj => ?_⟩⟩
    · obtain ⟨i, hi⟩ := List.getElem?_of_mem hq
      exact (hp2 i q hi).1
    · cases ps with
      | nil => simp at hj
      | cons q r =>
        rw [add_eq' (hp2 0 q rfl).2.1]
        exact things_cells (q :: r) (fun i x hi => by have := (hp2 i x hi).2.2; rwa [Nat.zero_add] at this) j u hj
theorem things_slice' {w : World} {base : Nat} {t : TypeId} {v : Value} {ps : List (Thing × Value)} (h : w.ownsRow base t 2 v ps.length (ps.flatMap thingVs)) (hh : ∀ p ∈ ps, SliceOf w 2 ValCells p.2 p.1.has) : ThingsAt w v (ps.map (·.1)) := by
  have hs := rowk_slice (R := fun p vs => vs = thingVs p) thingVs_2 (fun _ => rfl) h
  rcases hs with ⟨rfl, rfl⟩ | ⟨a, cap, rfl, h1, h2, h4⟩
  · exact Or.inl ⟨rfl, rfl⟩
  · refine Or.inr ⟨a, cap, by simp, by simpa using h1, h2, fun i x hi => ?_⟩
    rw [List.getElem?_map, Option.map_eq_some_iff] at hi
    obtain ⟨p, hp, rfl⟩ := hi
    obtain ⟨vs, rfl, g2, g3, g4⟩ := h4 i p hp
    exact ⟨_, ⟨p.2, rfl, hh p (List.mem_of_getElem? hp)⟩, g2, g3, g4⟩
/-- append of a heap's things on an empty row of the call's own -/
theorem wpList_append_things {w : World} {ops : Array Oper} {rest : List Oper} {o : Oper} {a : Act} {Q : Exit → Act → World → Prop} (hgd : o.guard = none) (s x : Operand)
    (ho : o.op = .call { callee := .builtin .append, args := #[s, x], argTypes := #[23, 23] })
    (base : Nat) (v : Value) (hs : a.eval s = v) (hown : w.ownsRow base 56 2 v 0 [])
    (p : Option Addr) (c : Nat) (ps : List (Thing × Value)) (hx : a.eval x = .slice p ps.length c)
    (hp : (p = none ∧ ps = []) ∨ ∃ ad, p = some ad ∧ ∀ j u, (ps.flatMap thingVs)[j]? = some u → w.cell? (ad.add j) = some u) (h1 : ∀ q ∈ ps, q.2.oneCell' = true) (h63 : ps.length ≤ 8388608) (hc : p = none → c = 0) (hbase : base ≤ w.heap.size)
    (h : ∀ v' w', w'.ownsRow base 56 2 v' ps.length (ps.flatMap thingVs) → w.grownBy w' v.ownBlock → wpList Tryz.prog ops Q rest (a.put o.dst v') w') :
    wpList Tryz.prog ops Q (o :: rest) a w := by
  obtain ⟨i0, hi, hz0, hz1, hz2⟩ := info_parts info_thing
  rcases hp with ⟨rfl, rfl⟩ | ⟨ad, rfl, hcells⟩
  · rw [hc rfl] at hx
    refine wpList_append_own_none hgd s x 23 ho base 56 i0 2 Tryz.underlying23 hi v 0 [] hs hown hx ?_
    exact h v w hown (World.grownBy.refl w _)
  · refine wpList_append_own_at _ hgd s x 23 ho base 56 i0 (.agg #[.string .empty, .slice none 0 0]) 2 40 Tryz.underlying23 hi hz0 hz1 hz2 rfl (by decide) v 0 [] hs hown ad ps.length c (ps.flatMap thingVs) hx (flat_length thingVs_2 ps) hcells
      (fun u hu => by
        obtain ⟨q, hq, hqu⟩ := List.mem_flatMap.1 hu
        simp [thingVs] at hqu
        rcases hqu with rfl | rfl
        · rfl
        · exact h1 q hq) (Nat.le_trans (show 0 + ps.length ≤ 8388608 by omega) (by decide)) (by omega) hbase fun v' w' g1 g2 _ _ => h v' w' (by simpa using g1) g2
/-- a thing put behind a heap's things: what lies there then, and in every later world that left the rows as they were -/
theorem put_step {w0 w8 w9 w11 wz : World} {B n g cap fk : Nat} {v1 : Value} {fp : Option Addr} {ps : List (Thing × Value)} {x : Thing} {cs : Array Value} {h : List Thing} (hps : ps.map (·.1) = h) (hh : ∀ q ∈ ps, SliceOf w0 2 ValCells q.2 q.1.has)
    (hown1 : w8.ownsRow B 56 2 v1 n (ps.flatMap thingVs)) (hf : SliceOf w9 2 ValCells (.slice fp x.has.length fk) x.has) (hfr : ∀ g, (Value.slice fp x.has.length fk).ownBlock = some g → w8.heap.size ≤ g ∧ g < w9.heap.size)
    (hown : w11.ownsRow B 56 2 (.slice (some ⟨g, 0, none⟩) (n + 1) cap) (n + 1) (ps.flatMap thingVs ++ [.string x.type, .slice fp x.has.length fk])) (hn : n = ps.length) (hgrow : (w9.alloc (.cells cs 56)).grownBy w11 v1.ownBlock) (hB8 : B ≤ w8.heap.size)
    (hB : Below w0.heap.size w0 wz) (hag : ∀ b, B ≤ b → b < w11.heap.size → wz.heap[b]? = w11.heap[b]?) :
    ThingsAt wz (.slice (some ⟨g, 0, none⟩) (n + 1) cap) (h ++ [x]) := by
  subst hn
  have hl := hown.lt g rfl
  have h1 : wz.ownsRow B 56 2 (.slice (some ⟨g, 0, none⟩) (ps.length + 1) cap) (ps ++ [(x, Value.slice fp x.has.length fk)]).length ((ps ++ [(x, Value.slice fp x.has.length fk)]).flatMap thingVs) := by
    rw [List.length_append, List.flatMap_append]
    rcases hown with ⟨h1, h2 | ⟨g', cap', cur, k1, k2, k3, k4⟩⟩
    · exact absurd h2.1 (by simp)
    · injection k1 with e1 e2 e3
      injection e1 with e1
      injection e1 with e1
      subst e1 e3
      exact ⟨by simpa [thingVs] using h1, Or.inr ⟨g, cap, cur, rfl, k2, (hag g hl.1 hl.2).trans k3, by simpa [thingVs] using k4⟩⟩
  have h2 := things_slice' h1 (fun p hp => by
    rcases List.mem_append.1 hp with hp | hp
    · exact (hh p hp).mono hB (by decide) (fun _ _ h => h)
    · rw [List.mem_singleton.1 hp]
      refine SliceOf.block (w := w9) hf fun g' e' => ?_
      have h3 := hfr g' e'
      have e1 : (w9.alloc (.cells cs 56)).heap[g']? = w9.heap[g']? := ((Below.refl w9.heap.size w9).alloc (Nat.le_refl _) (.cells cs 56)).block g' h3.2
      have e2 := hgrow.block g' (by simp; omega) (fun he => by have := (hown1.lt _ he.symm).2; omega)
      have e3 := hgrow.size
      rw [hag g' (by omega) (by simp at e3; omega), e2, e1])
  rw [List.map_append, hps] at h2
  exact h2
theorem form_bool {k : Str} : typeB (91 :: lst k) = (typeB (lst k) && decide (deepOf (lst k) < 3)) := by
  cases ht : typeB (lst k) with
  | true => rw [Bool.true_and]; exact typeB_deep k ht
  | false =>
    rw [Bool.false_and, Bool.eq_false_iff]
    intro h
    obtain ⟨e, he, hn, hd⟩ := arr_elem h
    simp only [deepTy] at hd
    have := typeB_text hn (show deepTy e ≤ 3 by omega)
    rw [he, ht] at this
    cases this
/-- the law's own chains of tests -/
def step1 (e : Nat) (b : Bool) (n : Nat) : Nat := if e = 0 then (if b then n else 0) else e
def step2 (e : Nat) (n : Nat) : Nat := if e = 0 then n else e
theorem newR_chain (l : List Class) (h : List Thing) (c : Str) : newR l h c = step1 (step1 (step1 (heapFault l h) (!(findC (allC l) c).isSome) 3) (classC (allC l) c).face 7) (decide (50 ≤ h.length)) 4 := by
  unfold newR step1
  by_cases h0 : heapFault l h = 0
  · simp only [h0]
    cases (findC (allC l) c).isSome <;> cases (classC (allC l) c).face <;> by_cases h5 : 50 ≤ h.length <;> simp [h5]
  · simp [h0]
theorem arrR_chain (l : List Class) (h : List Thing) (k : Str) (n : Int) : arrR l h k n = step1 (step1 (step2 (step1 (heapFault l h) (!typeB (lst k) || decide (3 ≤ deepOf (lst k))) 1) (kindR (allC l) k)) (decide (n < 0) || decide (10 < n)) 2) (decide (50 ≤ h.length)) 4 := by
  unfold arrR step1 step2
  rw [form_bool]
  by_cases h0 : heapFault l h = 0
  · simp only [h0]
    have hd : decide (3 ≤ deepOf (lst k)) = !decide (deepOf (lst k) < 3) := by rw [Bool.eq_iff_iff]; simp
    rw [hd]
    generalize decide (deepOf (lst k) < 3) = d
    cases typeB (lst k) <;> cases d <;> by_cases hk : kindR (allC l) k = 0 <;> by_cases hn : n < 0 <;> by_cases hm : 10 < n <;> by_cases h5 : 50 ≤ h.length <;> simp [hk, hn, hm, h5]
  · simp [h0]
end Go.Proofs.YtbakcdgjibmceaaGreatDoor
