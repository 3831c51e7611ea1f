/-
  WALK over check.First. Conditions: a right method; a class's name of at most 1048576 signs.
-/
import Derived.Test.YtlmfmioljeppfaaGreatDoorCall
import Derived.Test.YtlmfmioljeppfaaGreatDoorCaughts
namespace Go.Proofs.YtlmfmioljeppfaaGreatDoor
open Go.RowKit Go.Shelf Go.Lib
def kTop : Str := ⟨#[84]⟩
def thisL (cls : Str) (static : Bool) : List Str := if static then [] else [thText cls]
def firstL (cls : Str) (static : Bool) (args : List Str) (many : Nat) : List Str := thisL cls static ++ args ++ List.replicate (many - (thisL cls static ++ args).length) kTop
def FirstPost (w : World) (L : List Str) (g : Str) (e : Ending) (w' : World) : Prop :=
  Below w.heap.size w w' ∧ ∃ p n c, e = .returned (.tuple #[.agg #[.slice p n c, .slice none 0 0], .string g]) ∧ StrsAt w' (.slice p n c) L ∧ ∀ b, (Value.slice p n c).ownBlock = some b → w.heap.size ≤ b ∧ b < w'.heap.size
structure FX (w wx : World) (mv : List Value) (fb : Nat) (r1 r2 l1 l2 : Value) : Prop where
  below : Below w.heap.size w wx
  box : Blk wx w.heap.size 53 mv
  res : Blk wx (w.heap.size + 1) 27 [r1, r2]
  frm : Blk wx fb 27 [l1, l2]
  gt : w.heap.size + 1 < fb
variable {w wx wy : World} {mv : List Value} {fb : Nat} {r1 r2 l1 l2 : Value}
theorem FX.step (h : FX w wx mv fb r1 r2 l1 l2) (hb : Below wx.heap.size wx wy) : FX w wy mv fb r1 r2 l1 l2 := ⟨below_call h.below (Nat.le_refl _) hb, h.box.step hb, h.res.step hb, h.frm.step hb, h.gt⟩
theorem FX.grown {r : Option Nat} (h : FX w wx mv fb r1 r2 l1 l2) (hg : wx.grownBy wy r) (hr : ∀ g, r = some g → fb < g) : FX w wy mv fb r1 r2 l1 l2 := by
  have hgt := h.gt
  exact ⟨h.below.grown hg h.below.size (fun g e => by have := hr g e; omega), h.box.grown hg (fun e => by have := hr _ e; omega), h.res.grown hg (fun e => by have := hr _ e; omega), h.frm.grown hg (fun e => by have := hr _ e; omega), hgt⟩
theorem FX.lset (h : FX w wx mv fb r1 r2 l1 l2) (v : Value) : FX w (wx.setCell ⟨fb, 0, none⟩ v) mv fb r1 r2 v l2 := by
  have hgt := h.gt
  exact ⟨h.below.setCell (by show w.heap.size ≤ fb; omega) _, h.box.other (by omega) 0 v, h.res.other (by omega) 0 v, h.frm.put 0 v, hgt⟩
theorem strs_other {w : World} {b : Nat} {t : TypeId} {x y v : Value} {l : List Str} (h : StrsAt w v l) (hk : Blk w b t [x, y]) (u : Value) (hx : ∀ s, x ≠ .string s := by simp) (hy : ∀ s, y ≠ .string s := by simp) : StrsAt (w.setCell ⟨b, 0, none⟩ u) v l := h.apart hk hx hy fun _ hg => heap_setCell_other _ _ _ _ hg
def lenAt (w : World) (fb : Nat) : Nat := match w.cell? ⟨fb, 0, none⟩ with
  | some (.slice _ n _) => n
  | _ => 0
theorem lenAt_of {p : Option Addr} {n c : Nat} (h : wx.cell? ⟨fb, 0, none⟩ = some (.slice p n c)) : lenAt wx fb = n := by unfold lenAt; rw [h]
set_option maxHeartbeats 4000000 in
set_option maxRecDepth 100000 in
theorem checkFirst_any (w : World) (cls name type : Str) (static abs priv : Bool) (many : Nat) (pc ph : Option Addr) (nc cc nh ch : Nat) (args : List Str) (g : Str) (hm : methodR type = some (args, g)) (hty : type.size ≤ 1048576) (hc : cls.size ≤ 1048576) (hn : many ≤ 8) (ha : args.length ≤ 5) :
    Calls Tryz.prog 106 #[.string cls, .agg #[.string name, .string type, .bool static, .bool abs, .bool priv, .int .i64 (many : Int), .slice pc nc cc, .slice ph nh ch]] w (FirstPost w (firstL cls static args many) g) := by
  have HTh : Hid (∀ wx, _) := fun wx => thing_any cls wx (Nat.le_trans hc (by decide))
  have HD : Hid (∀ wx, _) := fun wx => descOwn_any type wx hty
  rw [hm] at HD
  unfold DescOwn at HD
  dsimp only at HD
  obtain ⟨mv, hmv⟩ : ∃ mv, mv = [Value.string name, .string type, .bool static, .bool abs, .bool priv, .int .i64 (many : Int), .slice pc nc cc, .slice ph nh ch] := ⟨_, rfl⟩
  have K0 := Blk.new w 53 [.string name, .string type, .bool static, .bool abs, .bool priv, .int .i64 (many : Int), .slice pc nc cc, .slice ph nh ch]
  have K1 := Blk.new (w.alloc (.cells #[.string name, .string type, .bool static, .bool abs, .bool priv, .int .i64 (many : Int), .slice pc nc cc, .slice ph nh ch] 53)) 27 [.slice none 0 0, .slice none 0 0]
  have B1 : Below w.heap.size w ((w.alloc (.cells #[.string name, .string type, .bool static, .bool abs, .bool priv, .int .i64 (many : Int), .slice pc nc cc, .slice ph nh ch] 53)).alloc (.cells #[.slice none 0 0, .slice none 0 0] 27)) := ((Below.refl _ _).alloc (Nat.le_refl _) _).alloc (by simp) _
  replace K0 := K0.step ((Below.refl _ _).alloc (Nat.le_refl _) (.cells #[.slice none 0 0, .slice none 0 0] 27))
  rw [World.size_alloc] at K1
  obtain ⟨w1, hw1⟩ : ∃ w1, w1 = (w.alloc (.cells #[.string name, .string type, .bool static, .bool abs, .bool priv, .int .i64 (many : Int), .slice pc nc cc, .slice ph nh ch] 53)).alloc (.cells #[.slice none 0 0, .slice none 0 0] 27) := ⟨_, rfl⟩
  rw [← hw1] at K0 K1 B1
  rw [← hmv] at K0
  have HW := Lib.hid hw1.symm
  have HHm := Lib.hid hmv
  clear hw1
  have q1 : w1.cell? ⟨w.heap.size, 1, none⟩ = some (.string type) := by rw [hmv] at K0; exact K0.cell 1
  clear hmv
  go_enter Tryz.func106, Tryz.ntmps106
  go_upto_region 1 with (first | fail)
  rw [HW.out]
  go_upto_region 5 with (first | (go_at_call 132; (with_reducible refine (HD.out _).mono ?_); rintro e w3 ⟨hB3, v3, rfl, ho3⟩))
  have K03 := K0.step hB3
  have K13 := K1.step hB3
  have hgt : w.heap.size + 1 < w3.heap.size := Nat.lt_of_lt_of_le K1.lt hB3.size
  have T4 : FX w (w3.alloc (.cells #[.slice none 0 0, .slice none 0 0] 27)) mv w3.heap.size (.slice none 0 0) (.slice none 0 0) (.slice none 0 0) (.slice none 0 0) :=
    ⟨(below_call B1 (Nat.le_refl _) hB3).alloc (by omega) _, K03.step ((Below.refl _ _).alloc (Nat.le_refl _) _), K13.step ((Below.refl _ _).alloc (Nat.le_refl _) _), Blk.new w3 27 [.slice none 0 0, .slice none 0 0], hgt⟩
  have hA4 := (strsAt_of_owns ho3).mono ((Below.refl w3.heap.size w3).alloc (Nat.le_refl _) (.cells #[.slice none 0 0, .slice none 0 0] 27))
  generalize hW4 : w3.alloc (.cells #[.slice none 0 0, .slice none 0 0] 27) = w4 at *
  have hfb4 : w3.heap.size + 1 ≤ w4.heap.size := T4.frm.lt
  generalize w3.heap.size = fb at *
  have HA4 := Lib.hid hA4
  have HT4 := Lib.hid T4
  clear ho3 hA4 K0 K1 K03 K13 B1 q1 hB3 hW4 HW
  cases static
  case' true =>
    have q2 : w4.cell? ⟨w.heap.size, 2, none⟩ = some (.bool true) := by have := T4.box.cell 2; rwa [HHm.out] at this
    have f0 := T4.frm.cell 0
    have hown : w4.ownsRow (fb + 1) 9 1 (.slice none 0 0) 0 [] := ⟨rfl, Or.inl ⟨rfl, rfl⟩⟩
    have n63 : 0 + args.length ≤ maxLen := Nat.le_trans (show 0 + args.length ≤ 8 by omega) (by decide)
    have n16 : (0 + args.length) * 16 ≤ 140737488355328 := by omega
    have hSt := HA4.out
    have z0 := T4.frm.frozen 0
    clear T4
    go_upto_region 8 with (first
      | (at_builtin; go_must (refine wpList_append_strs rfl _ _ rfl (fb + 1) _ 0 [] rfl hown _ args rfl hSt n63 n16 hfb4 ?_); intro v6 w6 ho6 hg6 _; obtain ⟨a6, c6, rfl⟩ := ownsRow_shape ho6; (have T6 := HT4.out.grown hg6 (fun g e => by cases e)); (have k6 := T6.frm.cell 0); (have z6 := T6.frm.frozen 0)))
    obtain ⟨L, hL⟩ : ∃ L, thisL cls true ++ args = L := ⟨_, rfl⟩
    have own8 : (w6.setCell ⟨fb, 0, none⟩ (.slice a6 L.length c6)).ownsRow (fb + 1) 9 1 (.slice a6 L.length c6) L.length (L.map Value.string) := by
      rw [← hL]
      simp only [thisL, if_true, List.length_append, List.length_nil, List.map_append, List.map_nil]
      exact owns_other' ho6 (Nat.lt_succ_self _) 0 _
    have hn6 : 0 + args.length = L.length := by rw [← hL]; simp [thisL]; try omega
    have hn7 : args.length = L.length := by omega
    rw [hn6] at *
    rw [hn7]
    have T8 := T6.lset (.slice a6 L.length c6)
    have hfL : firstL cls true args many = L ++ List.replicate (many - L.length) kTop := by unfold firstL; rw [hL]
    rw [hfL]
    have hL8 : L.length ≤ 8 := by rw [← hL]; simp [thisL]; omega
  case' false =>
    have q2 : w4.cell? ⟨w.heap.size, 2, none⟩ = some (.bool false) := by have := T4.box.cell 2; rwa [HHm.out] at this
    have f0 := T4.frm.cell 0
    have z0 := T4.frm.frozen 0
    have f0' := (T4.step ((Below.refl _ _).alloc (Nat.le_refl _) (.cells #[.string (thText cls)] 9))).frm.cell 0
    have z0' := (T4.step ((Below.refl _ _).alloc (Nat.le_refl _) (.cells #[.string (thText cls)] 9))).frm.frozen 0
    clear T4
    go_upto_region 7 with (first | (go_at_call 142; (with_reducible refine (HTh.out _).mono ?_); rintro e w5 ⟨rfl, rfl⟩))
    have T5 := Lib.hid ((HT4.out.step ((Below.refl _ _).alloc (Nat.le_refl _) (.cells #[.string (thText cls)] 9))).lset (.slice (some ⟨w4.heap.size, 0, none⟩) 1 1))
    have hown := owns_other' (ownsRow_one w4 (fb + 1) (.string (thText cls)) hfb4) (Nat.lt_succ_self fb) 0 (.slice (some ⟨w4.heap.size, 0, none⟩) 1 1)
    have hSt := strs_other (HA4.out.mono ((Below.refl _ _).alloc (Nat.le_refl _) (.cells #[.string (thText cls)] 9))) (HT4.out.step ((Below.refl _ _).alloc (Nat.le_refl _) (.cells #[.string (thText cls)] 9))).frm (.slice (some ⟨w4.heap.size, 0, none⟩) 1 1)
    have hfb5 : fb + 1 ≤ ((w4.alloc (.cells #[.string (thText cls)] 9)).setCell ⟨fb, 0, none⟩ (.slice (some ⟨w4.heap.size, 0, none⟩) 1 1)).heap.size := T5.out.frm.lt
    have n63 : 1 + args.length ≤ maxLen := Nat.le_trans (show 1 + args.length ≤ 8 by omega) (by decide)
    have n16 : (1 + args.length) * 16 ≤ 140737488355328 := by omega
    clear f0 z0 f0' z0' q2
    generalize (w4.alloc (.cells #[.string (thText cls)] 9)).setCell ⟨fb, 0, none⟩ (.slice (some ⟨w4.heap.size, 0, none⟩) 1 1) = w5 at *
    have f0 := T5.out.frm.cell 0
    go_upto_region 8 with (first
      | (at_builtin; go_must (refine wpList_append_strs rfl _ _ rfl (fb + 1) _ 1 [.string (thText cls)] rfl hown _ args rfl hSt n63 n16 hfb5 ?_); intro v6 w6 ho6 hg6 _; obtain ⟨a6, c6, rfl⟩ := ownsRow_shape ho6; (have T6 := T5.out.grown hg6 (fun g e => (hown.lt g e).1)); (have k6 := T6.frm.cell 0); (have z6 := T6.frm.frozen 0)))
    obtain ⟨L, hL⟩ : ∃ L, thisL cls false ++ args = L := ⟨_, rfl⟩
    have own8 : (w6.setCell ⟨fb, 0, none⟩ (.slice a6 L.length c6)).ownsRow (fb + 1) 9 1 (.slice a6 L.length c6) L.length (L.map Value.string) := by
      rw [← hL]
      simp only [thisL, Bool.false_eq_true, if_false, List.length_append, List.length_singleton, List.map_append, List.map_nil, List.map_cons]
      exact owns_other' ho6 (Nat.lt_succ_self _) 0 _
    have hn6 : 1 + args.length = L.length := by rw [← hL]; simp [thisL]; try omega
    rw [hn6] at *
    have T8 := T6.lset (.slice a6 L.length c6)
    have hfL : firstL cls false args many = L ++ List.replicate (many - L.length) kTop := by unfold firstL; rw [hL]
    rw [hfL]
    have hL8 : L.length ≤ 8 := by rw [← hL]; simp [thisL]; omega
  all_goals
    generalize hW8 : w6.setCell ⟨fb, 0, none⟩ (.slice a6 L.length c6) = w8 at *
    have HfL := Lib.hid hfL
    clear hW8 ho6 hg6 z6 hown hfL
    have HO8 := Lib.hid own8
    have HT8 := Lib.hid T8
    have Hfb8 := Lib.hid T8.frm.lt
    have HL8 := Lib.hid hL8
    have HT8gt := Lib.hid T8.gt
    clear own8 T8 HT4 HA4 hfb4 hL8 hgt
    go_loopw [] (fun wr => ∃ (p : Option Addr) (n c : Nat) (M : List Str), Hid (FX w wr mv fb (.slice none 0 0) (.slice none 0 0) (.slice p n c) (.slice none 0 0)) ∧ Hid (wr.ownsRow (fb + 1) 9 1 (.slice p n c) n (M.map Value.string)) ∧ Hid (M.length = n) ∧ Hid (M ++ List.replicate (many - n) kTop = L ++ List.replicate (many - L.length) kTop) ∧ Hid (n ≤ 8)) (fun wr => many - lenAt wr fb)
    case atStart => exact ⟨_, _, _, L, HT8.out, HO8.out, rfl, rfl, HL8.out⟩
    case round =>
      clear HT8 HO8
      obtain ⟨p, n, c, M, hT, hO, hMn, hM, hn8⟩ := hrel
      have c0 := hT.out.frm.cell 0
      have z0 := hT.out.frm.frozen 0
      have c5 := hT.out.box.cell 5
      rw [HHm.out] at c5
      replace c5 := show _ = some (Value.int .i64 (many : Int)) from c5
      by_cases hlt : n < many
      · have hltI : (n : Int) < (many : Int) := by omega
        have c0' := (hT.out.step ((Below.refl _ _).alloc (Nat.le_refl _) (.cells #[.string kTop] 9))).frm.cell 0
        have z0' := (hT.out.step ((Below.refl _ _).alloc (Nat.le_refl _) (.cells #[.string kTop] 9))).frm.frozen 0
        go_wp2_with (at_builtin; go_must (refine wpList_append_strs rfl _ _ rfl (fb + 1) _ n (M.map Value.string) rfl (ownsRow_below hO.out ((Below.refl _ _).alloc (Nat.le_refl _) (.cells #[.string kTop] 9))) _ [kTop] rfl (strs_one _ _) (Nat.le_trans (show n + 1 ≤ 9 by have := hn8.out; omega) (by decide)) (by have := hn8.out; simp; omega) (by simp; have := Hfb8.out; have := hT.out.frm.lt; omega) ?_); intro v' w3 ho3 hg3 _; obtain ⟨a3, c3, rfl⟩ := ownsRow_shape ho3; (have T3 := (hT.out.step ((Below.refl _ _).alloc (Nat.le_refl _) (.cells #[.string kTop] 9))).grown hg3 (fun g e => (World.ownsRow.lt hO.out g e).1)); (have k3 := T3.frm.cell 0); (have z3 := T3.frm.frozen 0))
        go_roundw
        case rel =>
          refine ⟨a3, n + 1, c3, M ++ [kTop], T3.lset _, ?_, ?_, ?_, ?_⟩
          · have := owns_other' ho3 (Nat.lt_succ_self fb) 0 (.slice a3 (n + 1) c3)
            unfold Hid
            rw [List.map_append]
            exact this
          · unfold Hid; rw [List.length_append, hMn.out]; rfl
          · rw [← hM.out]
            unfold Hid
            rw [show many - n = (many - (n + 1)) + 1 by omega, List.replicate_succ, List.append_assoc]
            rfl
          · unfold Hid; omega
        case measure =>
          rw [lenAt_of c0, lenAt_of (T3.lset (.slice a3 (n + 1) c3) |>.frm.cell 0)]
          omega
      · have hltI : ¬ (n : Int) < (many : Int) := by omega
        have c1 := hT.out.frm.cell 1
        have z1 := hT.out.frm.frozen 1
        have d0 := hT.out.res.cell 0
        have d1 := hT.out.res.cell 1
        have e0 := hT.out.res.frozen 0
        have e1 := hT.out.res.frozen 1
        go_wp2_with (first | fail)
        have hmn : many - n = 0 := by omega
        have hM' := hM.out
        rw [hmn] at hM'
        rw [List.replicate_zero, List.append_nil] at hM'
        have hMf := hM'.trans HfL.out.symm
        have hO2 := owns_other' (owns_other' hO.out (Nat.lt_trans HT8gt.out (Nat.lt_succ_self fb)) 0 (.slice p n c)) (Nat.lt_trans HT8gt.out (Nat.lt_succ_self fb)) 1 (.slice none 0 0)
        rw [hMf] at hO2
        have hB2 : Below w.heap.size w ((wr.setCell ⟨w.heap.size + 1, 0, none⟩ (.slice p n c)).setCell ⟨w.heap.size + 1, 1, none⟩ (.slice none 0 0)) := ((hT.out.below).setCell (show w.heap.size ≤ w.heap.size + 1 by omega) _).setCell (show w.heap.size ≤ w.heap.size + 1 by omega) _
        have R2 := (hT.out.res.put 0 (.slice p n c)).put 1 (.slice none 0 0)
        have rr0 : ((wr.setCell ⟨w.heap.size + 1, 0, none⟩ (.slice p n c)).setCell ⟨w.heap.size + 1, 1, none⟩ (.slice none 0 0)).cell? ⟨w.heap.size + 1, 0, none⟩ = some (.slice p n c) := R2.cell 0
        have rr1 : ((wr.setCell ⟨w.heap.size + 1, 0, none⟩ (.slice p n c)).setCell ⟨w.heap.size + 1, 1, none⟩ (.slice none 0 0)).cell? ⟨w.heap.size + 1, 1, none⟩ = some (.slice none 0 0) := R2.cell 1
        have hO3 := hO2
        rw [← hMn.out, hMf] at hO3
        have hS2 := strsAt_of_owns hO3
        rw [← hMf, hMn.out, hMf] at hS2
        have hown2 : ∀ b, (Value.slice p n c).ownBlock = some b → w.heap.size ≤ b ∧ b < ((wr.setCell ⟨w.heap.size + 1, 0, none⟩ (.slice p n c)).setCell ⟨w.heap.size + 1, 1, none⟩ (.slice none 0 0)).heap.size := fun b hb => by
          have h2 := World.ownsRow.lt hO2 b hb
          have := HT8gt.out
          exact ⟨by omega, h2.2⟩
        exact bodyPost_ret (v := .tuple #[.agg #[.slice p n c, .slice none 0 0], .string g]) (by simp [results, Tryz.results106, go_sem, *]) rfl ⟨hB2, p, n, c, rfl, hS2, hown2⟩
end Go.Proofs.YtlmfmioljeppfaaGreatDoor
