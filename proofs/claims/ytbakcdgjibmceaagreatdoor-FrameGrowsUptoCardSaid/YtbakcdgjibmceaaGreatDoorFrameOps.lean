/-
  WALKS over heap.read, Check, Holds. Conditions: as in XRead; types' texts of at most maxLen signs.
  ROWS of values and of things: append of one, what lies at an index, slices.Clone of values. Conditions: lists of at most 4194304 elements.
  WALKS over heap.Zero, Copy, Fresh, More. Conditions: things of right types; rows of at most 4194304 elements.
  PLAIN LAW: frames; what is wrong with one; two joined.
  WALKS over slices.Grow of nil, slices.Concat of two lists of texts, slices.Equal. Conditions: at most sixteen texts in all (Concat).
  WALKS over frame.check, Check, Both, Same, Join, Below. Conditions: as in XRead; kinds' texts of at most maxLen signs.
  WALKS over frame.Join, Below. Conditions: as in XRead; kinds' texts of at most 4194304 signs.
-/
import Derived.Test.YtbakcdgjibmceaaGreatDoorHeap
import Derived.Lib.SliceRun
import Derived.Deep.AppendLies
import Derived.Deep.RegionLaw
import Derived.Test.YtbakcdgjibmceaaGreatDoorRow
import Derived.Lib.AppendZerosOnto
import Derived.Test.YtbakcdgjibmceaaGreatDoorJoinOf
import Derived.Test.YtbakcdgjibmceaaGreatDoorRow3
namespace Go.Proofs.YtbakcdgjibmceaaGreatDoor
open Go.RowKit Go.Shelf Go.Lib
theorem heapFault_no {l : List Class} {h : List Thing} (g : readFault l ≠ 0) : heapFault l h = readFault l := by unfold heapFault; rw [if_pos g]
theorem heapFault_yes {l : List Class} {h : List Thing} (g : readFault l = 0) : heapFault l h = heapR (allC l) h := by unfold heapFault; rw [if_neg (by rw [g]; decide)]
theorem heapFault_zero {l : List Class} {h : List Thing} (g : heapFault l h = 0) : readFault l = 0 ∧ heapR (allC l) h = 0 := by
  by_cases h0 : readFault l = 0
  · exact ⟨h0, by rw [← heapFault_yes h0]; exact g⟩
  · rw [heapFault_no h0] at g; exact absurd g h0
def HeapReadPost (w : World) (l : List Class) (h : List Thing) (e : Ending) (w' : World) : Prop :=
  Below w.heap.size w w' ∧ ((heapFault l h = 0 ∧ ∃ w0 B, e = .returned (.tuple #[.map (some B), .nilIface]) ∧ WorldMap w0 w' B l) ∨ (heapFault l h ≠ 0 ∧ ∃ v, e = .returned (.tuple #[.map v, .iface 35 (.int .i64 (heapFault l h))])))
/-- world.Read, its map under a name -/
def ReadW (w : World) (l : List Class) (e : Ending) (w' : World) : Prop :=
  Below w.heap.size w w' ∧ ((readFault l = 0 ∧ ∃ w0 B, e = .returned (.tuple #[.map (some B), .nilIface]) ∧ WorldMap w0 w' B l) ∨ (readFault l ≠ 0 ∧ e = .returned (.tuple #[.map none, .iface 35 (.int .i64 (readFault l))])))
theorem readW_any (l : List Class) (lv : Value) (w : World) (hl : Laid w) (ho : ∀ c ∈ l, ClassOk c) (hlv : ClassesAt w lv l) :
    Calls Tryz.prog 66 #[lv] w (ReadW w l) := by
  refine (read_any l lv w hl ho hlv).mono ?_
  rintro e w2 ⟨hB2, ⟨hz, rfl, hM, hN, hA, hC, hL⟩ | ⟨hz, rfl⟩⟩
  · exact ⟨hB2, Or.inl ⟨hz, _, _, rfl, hM, right_of hz, hA⟩⟩
  · exact ⟨hB2, Or.inr ⟨hz, rfl⟩⟩
set_option maxRecDepth 100000 in
theorem heapRead_any (l : List Class) (lv : Value) (h : List Thing) (hv : Value) (w : World) (hl : Laid w) (ho : ∀ c ∈ l, ClassOk c) (hlv : ClassesAt w lv l) (hh : ThingsAt w hv h) (hS : Short h) :
    Calls Tryz.prog 38 #[lv, .agg #[hv]] w (HeapReadPost w l h) := by
  have HRd : Hid (∀ wx, Below w.heap.size w wx → _) := fun wx hb => readW_any l lv wx (hl.mono hb hl.1) ho (hlv.mono hb)
  have HRi : Hid (∀ w0 wx B, Below w.heap.size w wx → WorldMap w0 wx B l → _) := fun w0 wx B hb hm => right_any w0 wx B l hm h hv (hh.mono hb) hS
  obtain ⟨pl, cap, rfl, _⟩ := hlv.open
  obtain ⟨ph, kh, rfl, _⟩ := hh.open
  have BX := Lib.hid (boxed_mk w #[.slice ph h.length kh] 25)
  clear hl ho hlv hh hS
  unfold ReadW at HRd
  by_cases hz : readFault l = 0
  · have HF := Lib.hid (heapFault_yes (h := h) hz)
    have HZ := Lib.hid hz
    clear hz
    go_enter Tryz.func38, Tryz.ntmps38
    go_wp2_with (first
      | (go_at_call 66; (with_reducible refine (HRd.out _ BX.out.below).mono ?_); rintro e w2 ⟨hB2, ⟨_, w0, B, rfl, hm⟩ | ⟨hz, _⟩⟩; rotate_left; (exact absurd HZ.out hz); (have BX2 := BX.out.step hB2); (have q0 := boxed1 BX2))
      | (go_at_call 75; (with_reducible refine (HRi.out _ _ _ BX2.below hm).mono ?_); rintro e w3 ⟨rfl, hB3⟩))
    go_ret2
    refine ⟨below_call BX2.below (Nat.le_refl _) hB3, ?_⟩
    rw [HF.out]
    rcases errV_cases (heapR (allC l) h) with ⟨hv, hz⟩ | ⟨hv, hz⟩
    · exact Or.inl ⟨hz, _, _, by rw [hv]; rfl, hm.step hB3⟩
    · exact Or.inr ⟨hz, _, by rw [hv]; rfl⟩
  · have HF := Lib.hid (heapFault_no (h := h) hz)
    have HZ := Lib.hid hz
    clear hz
    go_enter Tryz.func38, Tryz.ntmps38
    go_wp2_with (go_at_call 66; (with_reducible refine (HRd.out _ BX.out.below).mono ?_); rintro e w2 ⟨hB2, ⟨hz, _⟩ | ⟨_, rfl⟩⟩; (exact absurd hz HZ.out))
    go_ret2
    refine ⟨(BX.out.step hB2).below, Or.inr ?_⟩
    rw [HF.out]
    exact ⟨HZ.out, _, rfl⟩
set_option maxRecDepth 100000 in
theorem heapCheck_any (l : List Class) (lv : Value) (h : List Thing) (hv : Value) (w : World) (hl : Laid w) (ho : ∀ c ∈ l, ClassOk c) (hlv : ClassesAt w lv l) (hh : ThingsAt w hv h) (hS : Short h) :
    Calls Tryz.prog 15 #[lv, .agg #[hv]] w fun e w' => e = .returned (errV (heapFault l h)) ∧ Below w.heap.size w w' := by
  have HRd : Hid (∀ wx, Below w.heap.size w wx → _) := fun wx hb => heapRead_any l lv h hv wx (hl.mono hb hl.1) ho (hlv.mono hb) (hh.mono hb) hS
  obtain ⟨pl, cap, rfl, _⟩ := hlv.open
  obtain ⟨ph, kh, rfl, _⟩ := hh.open
  have BX := Lib.hid (boxed_mk w #[.slice ph h.length kh] 25)
  clear hl ho hlv hh hS
  unfold HeapReadPost at HRd
  rcases errV_cases (heapFault l h) with ⟨hv, hz⟩ | ⟨hv, hz⟩
  all_goals
    rw [hv]
    have HZ := Lib.hid hz
    clear hz hv
    go_enter Tryz.func15, Tryz.ntmps15
    go_wp2_with (go_at_call 38; (with_reducible refine (HRd.out _ BX.out.below).mono ?_); rintro e w2 ⟨hB2, ⟨hz, w0, B, rfl, hm⟩ | ⟨hz, v, rfl⟩⟩)
    all_goals
      go_ret
      first | exact ⟨rfl, (BX.out.step hB2).below⟩ | exact absurd HZ.out hz | exact absurd hz HZ.out
/-- what is wrong ahead of Holds -/
def holdsF (l : List Class) (h : List Thing) (k : Str) : Nat := if heapFault l h ≠ 0 then heapFault l h else if !typeB (lst k) then 1 else kindR (allC l) k
def holdsV (l : List Class) (h : List Thing) (v : Val) (k : Str) : Bool := if holdsF l h k = 0 then holdsTy (allC l) h v (tyOf k) else false
theorem holdsF_fault {l : List Class} {h : List Thing} {k : Str} (g : heapFault l h ≠ 0) : holdsF l h k = heapFault l h := by unfold holdsF; rw [if_pos g]
theorem holdsF_form {l : List Class} {h : List Thing} {k : Str} (g : heapFault l h = 0) (ht : typeB (lst k) = false) : holdsF l h k = 1 := by unfold holdsF; rw [if_neg (by rw [g]; decide), ht]; rfl
theorem holdsF_kind {l : List Class} {h : List Thing} {k : Str} (g : heapFault l h = 0) (ht : typeB (lst k) = true) : holdsF l h k = kindR (allC l) k := by unfold holdsF; rw [if_neg (by rw [g]; decide), ht]; rfl
set_option maxHeartbeats 1000000 in
set_option maxRecDepth 100000 in
theorem heapHolds_any (l : List Class) (lv : Value) (h : List Thing) (hv : Value) (v : Val) (k : Str) (w : World) (hl : Laid w) (ho : ∀ c ∈ l, ClassOk c) (hlv : ClassesAt w lv l) (hh : ThingsAt w hv h) (hS : Short h) (hk : k.size ≤ maxLen) :
    Calls Tryz.prog 11 #[lv, .agg #[hv], valV v, .string k] w fun e w' => e = .returned (.tuple #[.bool (holdsV l h v k), errV (holdsF l h k)]) ∧ Below w.heap.size w w' := by
  have HRd : Hid (∀ wx, Below w.heap.size w wx → _) := fun wx hb => heapRead_any l lv h hv wx (hl.mono hb hl.1) ho (hlv.mono hb) (hh.mono hb) hS
  have HKi : Hid (∀ w0 wx B, WorldMap w0 wx B l → _) := fun w0 wx B hm => kind_any w0 wx B (allC l) hm.map hm.right.nodup k hk
  obtain ⟨pl, cap, rfl, _⟩ := hlv.open
  have HT : Hid (∀ wx, Below w.heap.size w wx → ThingsAt wx hv h) := fun wx hb => hh.mono hb
  obtain ⟨ph, kh, rfl, _⟩ := hh.open
  have HSh := Lib.hid hS
  obtain ⟨v1, v2⟩ := v
  unfold valV
  dsimp only
  have HB1 := Lib.hid (((Below.refl w.heap.size w).alloc (Nat.le_refl _) (.cells #[.slice ph h.length kh] 25)).alloc (by simp) (.cells #[.int .i64 v1, .int .i64 v2] 27))
  clear hl ho hlv hh hS
  unfold HeapReadPost at HRd
  by_cases hf : heapFault l h = 0
  · cases hty : typeB (lst k) with
    | false =>
      have hF := holdsF_form (h := h) hf hty
      have hV : holdsV l h ⟨v1, v2⟩ k = false := by unfold holdsV; rw [hF]; rfl
      rw [hV, hF, show errV 1 = .iface 35 (.int .i64 1) from rfl]
      have HD : Hid (∀ wx, _) := fun wx => descCheck_bad hk hty wx
      have HZ := Lib.hid hf
      clear hty hF hV hf HKi
      go_enter Tryz.func11, Tryz.ntmps11
      go_wp2_with (first
        | (go_at_call 38; (with_reducible refine (HRd.out _ HB1.out).mono ?_); rintro e w2 ⟨hB2', ⟨hz, w0, B, rfl, hm⟩ | ⟨hz, v, rfl⟩⟩; rotate_left; (exact absurd HZ.out hz); (have hB2 := below_call HB1.out (Nat.le_refl _) hB2'); (have q0 : w2.cell? ⟨w.heap.size, 0, none⟩ = some (.slice ph h.length kh) := (hB2'.cell (p := ⟨w.heap.size, 0, none⟩) (by simp; omega)).trans (by simp)); (have q1 : w2.cell? ⟨w.heap.size + 1, 0, none⟩ = some (.int .i64 v1) := (hB2'.cell (p := ⟨w.heap.size + 1, 0, none⟩) (by simp)).trans (by simp)); (have q2 : w2.cell? ⟨w.heap.size + 1, 1, none⟩ = some (.int .i64 v2) := (hB2'.cell (p := ⟨w.heap.size + 1, 1, none⟩) (by simp)).trans (by simp)))
        | (go_at_call 39; (with_reducible refine (HD.out _).mono ?_); rintro e w3 ⟨rfl, hB3⟩))
      go_ret2
      exact ⟨rfl, below_call hB2 (Nat.le_refl _) hB3⟩
    | true =>
      have hF := holdsF_kind (h := h) hf hty
      have HD : Hid (∀ wx, _) := fun wx => descCheck_good hk hty wx
      by_cases hr : kindR (allC l) k = 0
      · obtain ⟨y, hy⟩ := ty_of_type hty
        have hfo := formed_typed (heap_zero (heapFault_zero hf).2).2.1
        have hV : holdsV l h ⟨v1, v2⟩ k = holdsTy (allC l) h ⟨v1, v2⟩ y := by unfold holdsV; rw [hF, hr, if_pos rfl, hy.of]
        rw [hV, hF, hr, show errV 0 = .nilIface from rfl]
        rw [hr, show errV 0 = .nilIface from rfl] at HKi
        have HDo : Hid (∀ w0 wx B, Below w.heap.size w wx → WorldMap w0 wx B l → _) := fun w0 wx B hb hm => heapDoes_any w0 wx B l hm h (.slice ph h.length kh) (HT.out wx hb) hfo HSh.out ⟨v1, v2⟩ k y hy.text hk
        unfold valV at HDo
        have HZ := Lib.hid hf
        clear hty hF hV hf hr hfo
        generalize holdsTy (allC l) h ⟨v1, v2⟩ y = r at *
        go_enter Tryz.func11, Tryz.ntmps11
        go_wp2_with (first
          | (go_at_call 38; (with_reducible refine (HRd.out _ HB1.out).mono ?_); rintro e w2 ⟨hB2', ⟨hz, w0, B, rfl, hm⟩ | ⟨hz, v, rfl⟩⟩; rotate_left; (exact absurd HZ.out hz); (have hB2 := below_call HB1.out (Nat.le_refl _) hB2'); (have q0 : w2.cell? ⟨w.heap.size, 0, none⟩ = some (.slice ph h.length kh) := (hB2'.cell (p := ⟨w.heap.size, 0, none⟩) (by simp; omega)).trans (by simp)); (have q1 : w2.cell? ⟨w.heap.size + 1, 0, none⟩ = some (.int .i64 v1) := (hB2'.cell (p := ⟨w.heap.size + 1, 0, none⟩) (by simp)).trans (by simp)); (have q2 : w2.cell? ⟨w.heap.size + 1, 1, none⟩ = some (.int .i64 v2) := (hB2'.cell (p := ⟨w.heap.size + 1, 1, none⟩) (by simp)).trans (by simp)))
          | (go_at_call 39; (with_reducible refine (HD.out _).mono ?_); rintro e w3 ⟨rfl, hB3⟩)
          | (go_at_call 40; (with_reducible refine (HKi.out _ _ _ (hm.step hB3)).mono ?_); rintro e w4 ⟨rfl, hB4⟩; (have hB34 := below_call hB3 (Nat.le_refl _) hB4); (have hB5 := below_call hB2 (Nat.le_refl _) hB34); (have r0 := (hB34.cell (p := ⟨w.heap.size, 0, none⟩) (cells_blk q0)).trans q0); (have r1 := (hB34.cell (p := ⟨w.heap.size + 1, 0, none⟩) (cells_blk q1)).trans q1); (have r2 := (hB34.cell (p := ⟨w.heap.size + 1, 1, none⟩) (cells_blk q2)).trans q2); (have hm5 := (hm.step hB3).step hB4))
          | (go_at_call 41; (with_reducible refine (HDo.out _ _ _ hB5 hm5).mono ?_); rintro e w6 ⟨rfl, hB6⟩))
        go_ret2
        exact ⟨rfl, below_call hB5 (Nat.le_refl _) hB6⟩
      · have hV : holdsV l h ⟨v1, v2⟩ k = false := by unfold holdsV; rw [hF, if_neg hr]
        rcases errV_cases (kindR (allC l) k) with ⟨_, hz⟩ | ⟨he, _⟩
        · exact absurd hz hr
        rw [hV, hF, he]
        rw [he] at HKi
        have HZ := Lib.hid hf
        clear hty hF hV hf hr he
        generalize kindR (allC l) k = f at *
        go_enter Tryz.func11, Tryz.ntmps11
        go_wp2_with (first
          | (go_at_call 38; (with_reducible refine (HRd.out _ HB1.out).mono ?_); rintro e w2 ⟨hB2', ⟨hz, w0, B, rfl, hm⟩ | ⟨hz, v, rfl⟩⟩; rotate_left; (exact absurd HZ.out hz); (have hB2 := below_call HB1.out (Nat.le_refl _) hB2'); (have q0 : w2.cell? ⟨w.heap.size, 0, none⟩ = some (.slice ph h.length kh) := (hB2'.cell (p := ⟨w.heap.size, 0, none⟩) (by simp; omega)).trans (by simp)); (have q1 : w2.cell? ⟨w.heap.size + 1, 0, none⟩ = some (.int .i64 v1) := (hB2'.cell (p := ⟨w.heap.size + 1, 0, none⟩) (by simp)).trans (by simp)); (have q2 : w2.cell? ⟨w.heap.size + 1, 1, none⟩ = some (.int .i64 v2) := (hB2'.cell (p := ⟨w.heap.size + 1, 1, none⟩) (by simp)).trans (by simp)))
          | (go_at_call 39; (with_reducible refine (HD.out _).mono ?_); rintro e w3 ⟨rfl, hB3⟩)
          | (go_at_call 40; (with_reducible refine (HKi.out _ _ _ (hm.step hB3)).mono ?_); rintro e w4 ⟨rfl, hB4⟩; (have hB5 := below_call hB2 (Nat.le_refl _) (below_call hB3 (Nat.le_refl _) hB4))))
        go_ret2
        exact ⟨rfl, hB5⟩
  · have hF := holdsF_fault (k := k) hf
    have hV : holdsV l h ⟨v1, v2⟩ k = false := by unfold holdsV; rw [hF, if_neg hf]
    rcases errV_cases (heapFault l h) with ⟨_, hz⟩ | ⟨he, _⟩
    · exact absurd hz hf
    rw [hV, hF, he]
    have HZ := Lib.hid hf
    clear hF hV hf he HKi
    generalize heapFault l h = f at *
    go_enter Tryz.func11, Tryz.ntmps11
    go_wp2_with (go_at_call 38; (with_reducible refine (HRd.out _ HB1.out).mono ?_); rintro e w2 ⟨hB2, ⟨hz, w0, B, rfl, hm⟩ | ⟨hz, v, rfl⟩⟩; (exact absurd hz HZ.out))
    go_ret2
    exact ⟨rfl, below_call HB1.out (Nat.le_refl _) hB2⟩
end Go.Proofs.YtbakcdgjibmceaaGreatDoor
namespace Go.Proofs.YtbakcdgjibmceaaGreatDoor
open Go.RowKit Go.Shelf Go.Lib
theorem info_val : (Tryz.prog.info? 27).map (fun i => (i.zero, i.size, i.bytes)) = some (some (.agg #[.int .i64 0, .int .i64 0]), 2, 16) := by kernel_rfl
theorem info_thing : (Tryz.prog.info? 56).map (fun i => (i.zero, i.size, i.bytes)) = some (some (.agg #[.string .empty, .slice none 0 0]), 2, 40) := by kernel_rfl
theorem flat_length {α : Type} {f : α → List Value} {k : Nat} (h3 : ∀ x, (f x).length = k) : ∀ m : List α, (m.flatMap f).length = m.length * k := fun m => by
  induction m with
  | nil => simp
  | cons a r ih => rw [List.flatMap_cons, List.length_append, ih, h3, List.length_cons, Nat.succ_mul]; omega
/-- what lies at an index of a row of elements of k cells -/
theorem rowk_at {α : Type} {f : α → List Value} {k : Nat} (h3 : ∀ x, (f x).length = k) {w : World} {base : Nat} {t : TypeId} {p : Option Addr} {c n : Nat} {l : List α} (h : w.ownsRow base t k (.slice p n c) n (l.flatMap f)) (hn : n = l.length) {i : Nat} {x : α} (hx : l[i]? = some x) :
    ∃ g, p = some ⟨g, 0, none⟩ ∧ base ≤ g ∧ g < w.heap.size ∧ ∀ j, j < k → w.cell? ⟨g, i * k + j, none⟩ = (f x)[j]? := by
  subst hn
  obtain ⟨hi, rfl⟩ := List.getElem?_eq_some_iff.1 hx
  rcases h with ⟨h1, ⟨h2, h2'⟩ | ⟨g, cap, cur, k1, k2, k3, k4, k5, k6, k7⟩⟩
  · rw [h2'] at hi; exact absurd hi (Nat.not_lt_zero _)
  · injection k1 with e1 _ e3
    subst e1 e3
    refine ⟨g, rfl, k2, (Array.getElem?_eq_some_iff.1 k3).1, fun j hj => ?_⟩
    have hm : i * k + k ≤ l.length * k := by rw [← Nat.succ_mul]; exact Nat.mul_le_mul_right k hi
    rw [cell_of_row w g (i * k + j) cur t (0, 0) k3]
    have hc : cur[i * k + j]? = (cur.toList.take (l.length * k))[i * k + j]? := by
      rw [List.getElem?_take, if_pos (by omega)]; simp
    rw [hc, k7]
    have hsplit : l.flatMap f = (l.take i).flatMap f ++ (f l[i] ++ (l.drop (i + 1)).flatMap f) := by
      rw [← List.flatMap_cons, ← List.flatMap_append, ← List.drop_eq_getElem_cons hi, List.take_append_drop]
    rw [hsplit, List.getElem?_append_right (by rw [flat_length h3, List.length_take, Nat.min_eq_left (Nat.le_of_lt hi)]; omega), flat_length h3, List.length_take, Nat.min_eq_left (Nat.le_of_lt hi), Nat.add_sub_cancel_left, List.getElem?_append_left (by rw [h3]; exact hj)]
theorem cells_of_at {w : World} {b o : Nat} : ∀ (vs : List Value), (∀ j, j < vs.length → w.cell? ⟨b, o + j, none⟩ = vs[j]?) → Cells w b o vs
  | [], _ => trivial
  | v :: r, h => by
    refine ⟨by simpa using h 0 (by simp), cells_of_at r fun j hj => ?_⟩
    have := h (j + 1) (by simpa using hj)
    rw [show o + (j + 1) = o + 1 + j by omega] at this
    simpa using this
/-- a row of elements of k cells, as a list in memory -/
theorem rowk_slice {α : Type} {f : α → List Value} {k : Nat} {R : α → List Value → Prop} (h3 : ∀ x, (f x).length = k) (hR : ∀ x, R x (f x)) {w : World} {base : Nat} {t : TypeId} {v : Value} {l : List α} (h : w.ownsRow base t k v l.length (l.flatMap f)) : SliceOf w k R v l := by
  obtain ⟨p, c, rfl⟩ := ownsRow_shape h
  have hb := h
  rcases h with ⟨_, ⟨h1, h2⟩ | ⟨g, cap, cur, k1, k2, k3, k4, k5, k6, k7⟩⟩
  · exact Or.inl ⟨h1, List.length_eq_zero_iff.1 h2⟩
  · injection k1 with e1 e2 e3
    subst e1 e3
    refine Or.inr ⟨⟨g, 0, none⟩, c, rfl, k4, k5, fun i x hi => ⟨f x, hR x, h3 x, rfl, ?_⟩⟩
    obtain ⟨g', h1, _, _, h4⟩ := rowk_at h3 hb rfl hi
    injection h1 with h1; injection h1 with h1; subst h1
    refine cells_of_at _ fun j hj => ?_
    have := h4 j (by rw [← h3 x]; exact hj)
    show w.cell? ⟨g, 0 + i * k + j, none⟩ = _
    rw [Nat.zero_add]; exact this
theorem ownsRow_belowk {w w' : World} {base k : Nat} {t : TypeId} {v : Value} {n : Nat} {xs : List Value} (h : w.ownsRow base t k v n xs) (hb : Below w.heap.size w w') : w'.ownsRow base t k v n xs := by
  rcases h with ⟨h1, h2 | ⟨g, cap, cur, k1, k2, k3, k4⟩⟩
  · exact ⟨h1, Or.inl h2⟩
  · exact ⟨h1, Or.inr ⟨g, cap, cur, k1, k2, (hb.block g (Array.getElem?_eq_some_iff.1 k3).1).trans k3, k4⟩⟩
/-- a value's two cells -/
def valVs (v : Val) : List Value := [.int .i64 v.kind, .int .i64 v.n]
theorem valVs_2 (v : Val) : (valVs v).length = 2 := rfl
theorem vals_slice {w : World} {base : Nat} {t : TypeId} {v : Value} {l : List Val} (h : w.ownsRow base t 2 v l.length (l.flatMap valVs)) : SliceOf w 2 ValCells v l := rowk_slice (R := ValCells) valVs_2 (fun _ => rfl) h
/-- a thing and where its values lie: its two cells -/
def thingVs (p : Thing × Value) : List Value := [.string p.1.type, p.2]
theorem thingVs_2 (p : Thing × Value) : (thingVs p).length = 2 := rfl
/-- things whose values lie where they are said to, apart from a row -/
def HasAt (base : Nat) (w : World) (v : Value) (ps : List (Thing × Value)) : Prop := ∀ p ∈ ps, SliceOf w 2 ValCells p.2 p.1.has ∧ ∀ g, p.2.ownBlock = some g → base ≤ g ∧ g < w.heap.size ∧ v.ownBlock ≠ some g
theorem HasAt.nil (base : Nat) (w : World) (v : Value) : HasAt base w v [] := fun _ h => by cases h
theorem HasAt.step {base : Nat} {w w' : World} {v : Value} {ps : List (Thing × Value)} (h : HasAt base w v ps) (hb : Below w.heap.size w w') : HasAt base w' v ps := fun p hp =>
  ⟨(h p hp).1.mono hb (by decide) (fun _ _ h => h), fun g hg => ⟨((h p hp).2 g hg).1, Nat.lt_of_lt_of_le ((h p hp).2 g hg).2.1 hb.size, ((h p hp).2 g hg).2.2⟩⟩
theorem cells_block {w w' : World} {b : Nat} (hb : w'.heap[b]? = w.heap[b]?) : ∀ {vs : List Value} {o : Nat}, Cells w b o vs → Cells w' b o vs
  | [], _, _ => trivial
  | _ :: _, _, ⟨h1, h2⟩ => ⟨(World.cell?_of_block hb).trans h1, cells_block hb h2⟩
theorem SliceOf.block {α : Type} {w w' : World} {k : Nat} {R : α → List Value → Prop} {v : Value} {l : List α} (h : SliceOf w k R v l) (hb : ∀ g, v.ownBlock = some g → w'.heap[g]? = w.heap[g]?) : SliceOf w' k R v l := by
  rcases h with h | ⟨a, cap, rfl, h2, h3, h4⟩
  · exact Or.inl h
  · refine Or.inr ⟨a, cap, rfl, h2, h3, fun i x hi => ?_⟩
    obtain ⟨vs, r1, r2, r3, r4⟩ := h4 i x hi
    exact ⟨vs, r1, r2, r3, cells_block (hb a.block rfl) r4⟩
theorem HasAt.grown {base : Nat} {w w' : World} {v v' : Value} {ps : List (Thing × Value)} (h : HasAt base w v ps) (hg : w.grownBy w' v.ownBlock) (hv : v'.ownBlock = v.ownBlock ∨ v'.ownBlock = some w.heap.size) : HasAt base w' v' ps := fun p hp =>
  ⟨(h p hp).1.block fun g e => hg.block g ((h p hp).2 g e).2.1 (fun he => ((h p hp).2 g e).2.2 he.symm), fun g e => ⟨((h p hp).2 g e).1, Nat.lt_of_lt_of_le ((h p hp).2 g e).2.1 hg.size, by
    rcases hv with hv | hv
    · rw [hv]; exact ((h p hp).2 g e).2.2
    · rw [hv]; intro he; have := ((h p hp).2 g e).2.1; injection he with he; omega⟩⟩
theorem HasAt.set {base b : Nat} {w : World} {v : Value} {ps : List (Thing × Value)} (h : HasAt base w v ps) (hb : b < base) (j : Nat) (u : Value) : HasAt base (w.setCell ⟨b, j, none⟩ u) v ps := fun p hp =>
  ⟨(h p hp).1.block fun g e => heap_setCell_other w ⟨b, j, none⟩ g u (by have := ((h p hp).2 g e).1; show g ≠ b; omega), fun g e => ⟨((h p hp).2 g e).1, by have := ((h p hp).2 g e).2.1; simpa using this, ((h p hp).2 g e).2.2⟩⟩
theorem HasAt.base {base b : Nat} {w : World} {v : Value} {ps : List (Thing × Value)} (h : HasAt base w v ps) (hb : b ≤ base) : HasAt b w v ps := fun p hp =>
  ⟨(h p hp).1, fun g e => ⟨Nat.le_trans hb ((h p hp).2 g e).1, ((h p hp).2 g e).2⟩⟩
theorem HasAt.snoc {base : Nat} {w : World} {v : Value} {ps : List (Thing × Value)} {p : Thing × Value} (h : HasAt base w v ps) (h1 : SliceOf w 2 ValCells p.2 p.1.has) (h2 : ∀ g, p.2.ownBlock = some g → base ≤ g ∧ g < w.heap.size ∧ v.ownBlock ≠ some g) : HasAt base w v (ps ++ [p]) := fun q hq => by
  rcases List.mem_append.1 hq with hq | hq
  · exact h q hq
  · rw [List.mem_singleton.1 hq]; exact ⟨h1, h2⟩
theorem things_slice {w : World} {base : Nat} {t : TypeId} {v : Value} {ps : List (Thing × Value)} (h : w.ownsRow base t 2 v ps.length (ps.flatMap thingVs)) {b : Nat} {u : Value} (hh : HasAt b w u ps) : ThingsAt w v (ps.map (·.1)) := by
  have hs := rowk_slice (R := fun p vs => vs = thingVs p) thingVs_2 (fun _ => rfl) h
  rcases hs with ⟨rfl, rfl⟩ | ⟨a, cap, rfl, h1, h2, h4⟩
  · exact Or.inl ⟨rfl, rfl⟩
  · refine Or.inr ⟨a, cap, by simp, by simpa using h1, h2, fun i x hi => ?_⟩
    rw [List.getElem?_map, Option.map_eq_some_iff] at hi
    obtain ⟨p, hp, rfl⟩ := hi
    obtain ⟨vs, rfl, g2, g3, g4⟩ := h4 i p hp
    exact ⟨_, ⟨p.2, rfl, (hh p (List.mem_of_getElem? hp)).1⟩, g2, g3, g4⟩
theorem cell_duo_new (w : World) (a b : Value) (t : TypeId) : ∀ j u, [a, b][j]? = some u → (w.alloc (.cells #[a, b] t)).cell? ((⟨w.heap.size, 0, none⟩ : Addr).add j) = some u := by
  intro j u hj
  match j, hj with
  | 0, hj => simp at hj; subst hj; simp [Addr.add]
  | 1, hj => simp at hj; subst hj; simp [Addr.add]
theorem SliceOf.one {α : Type} {w : World} {k : Nat} {R : α → List Value → Prop} {v : Value} {l : List α} (h : SliceOf w k R v l) : v.oneCell' = true := by
  rcases h with ⟨rfl, _⟩ | ⟨a, cap, rfl, _⟩ <;> rfl
/-- append of one thing -/
theorem wpList_append_thing {w : World} {ops : Array Oper} {rest : List Oper} {o : Oper} {a : Act} {Q : Exit → Act → World → Prop} (hgd : o.guard = none) (s x : Operand)
    (ho : o.op = .call { callee := .builtin .append, args := #[s, x], argTypes := #[23, 23] })
    (base : Nat) (v : Value) (n : Nat) (xs : List Value) (hs : a.eval s = v) (hown : w.ownsRow base 56 2 v n xs)
    (c1 : Str) (c2 : Value) (hc : c2.oneCell' = true) (g : Nat) (hg : w.heap.size = g) (hx : a.eval x = .slice (some ⟨g, 0, none⟩) 1 1) (h63 : n ≤ 8388608) (hbase : base ≤ w.heap.size)
    (h : ∀ v' w', w'.ownsRow base 56 2 v' (n + 1) (xs ++ [.string c1, c2]) → (w.alloc (.cells #[.string c1, c2] 56)).grownBy w' v.ownBlock → wpList Tryz.prog ops Q rest (a.put o.dst v') w') :
    wpList Tryz.prog ops Q (o :: rest) a (w.alloc (.cells #[.string c1, c2] 56)) := by
  subst hg
  obtain ⟨i0, hi, hz0, hz1, hz2⟩ := info_parts info_thing
  refine wpList_append_own_at _ hgd s x 23 ho base 56 i0 (.agg #[.string .empty, .slice none 0 0]) 2 40 Tryz.underlying23 hi hz0 hz1 hz2 rfl (by decide) v n xs hs (hown.alloc _) ⟨w.heap.size, 0, none⟩ 1 1 [.string c1, c2] hx rfl (cell_duo_new w _ _ 56)
    (fun u hu => by simp at hu; rcases hu with rfl | rfl <;> first | rfl | exact hc) (Nat.le_trans (show n + 1 ≤ 8388609 by omega) (by decide)) (by omega) (Nat.le_trans hbase (by simp)) fun v' w' h1 h2 _ _ => h v' w' h1 h2
theorem add_eq' {a : Addr} (hs : a = ⟨a.block, a.off, none⟩) (n : Nat) : a.add n = ⟨a.block, a.off + n, none⟩ := by
  unfold Addr.add
  split
  · subst_vars; simpa using hs
  · rfl
theorem vals_cells {w : World} {b o : Nat} : ∀ (l : List Val), (∀ i x, l[i]? = some x → Cells w b (o + i * 2) (valVs x)) → ∀ j u, (l.flatMap valVs)[j]? = some u → w.cell? ⟨b, o + j, none⟩ = some u
  | [], _, j, u, hj => by simp at hj
  | x :: r, h, j, u, hj => by
    have h0 := h 0 x rfl
    rw [Nat.zero_mul] at h0
    obtain ⟨a0, a1, _⟩ := h0
    match j, hj with
    | 0, hj => simp [valVs] at hj; subst hj; exact a0
    | 1, hj => simp [valVs] at hj; subst hj; exact a1
    | j + 2, hj =>
      have := vals_cells (o := o + 2) r (fun i y hi => by
        have := h (i + 1) y (by simpa using hi)
        rw [show o + (i + 1) * 2 = o + 2 + i * 2 by omega] at this
        exact this) j u (by simpa [valVs] using hj)
      rw [show o + 2 + j = o + (j + 2) by omega] at this
      exact this
set_option maxHeartbeats 1000000 in
set_option maxRecDepth 100000 in
theorem cloneVals_any (l : List Val) (v : Value) (w : World) (h : SliceOf w 2 ValCells v l) (hn : l.length ≤ 4194304) :
    Calls Tryz.prog 84 #[v] w fun e w' => ∃ v', e = .returned v' ∧ SliceOf w' 2 ValCells v' l ∧ (∀ g, v'.ownBlock = some g → w.heap.size ≤ g ∧ g < w'.heap.size) ∧ Below w.heap.size w w' := by
  have qn : ∀ (w : World) (a : Option Addr) (n c n' c' : Nat), (binOp .eql 54 (.slice a n c) (.slice none n' c')).run Tryz.prog w = .ok (.bool a.isNone) w := fun w a n c n' c' => Lib.run_eql_slice_nil w _ _ a n c n' c' Tryz.underlying54
  rcases h with ⟨rfl, rfl⟩ | ⟨a, cap, rfl, h1, h2, h4⟩
  · go_enter Tryz.func84, Tryz.ntmps84
    go_wp2_with (first | fail)
    go_ret
    exact ⟨_, rfl, Or.inl ⟨rfl, rfl⟩, (fun _ h => by cases h), Below.refl _ _⟩
  · obtain ⟨i0, hi, hz0, hz1, hz2⟩ := info_parts info_val
    have A : Hid (∀ j u, (l.flatMap valVs)[j]? = some u → w.cell? (a.add j) = some u) := by
      intro j u hj
      by_cases hl : l = []
      · subst hl; simp at hj
      · have h0 : l[0]? = some (l.head hl) := by cases l with
          | nil => exact absurd rfl hl
          | cons _ _ => rfl
        obtain ⟨_, _, _, ha, _⟩ := h4 0 _ h0
        rw [add_eq' ha]
        exact vals_cells l (fun i x hi => by
          obtain ⟨vs, g1, _, _, g4⟩ := h4 i x hi
          unfold ValCells at g1; subst g1
          exact g4) j u hj
    have hmm : l.length ≤ maxLen := Nat.le_trans h1 h2
    clear h4
    go_enter Tryz.func84, Tryz.ntmps84
    go_wp2_with (at_builtin; refine wpList_append_own_at _ rfl _ _ 54 rfl w.heap.size 27 i0 (.agg #[.int .i64 0, .int .i64 0]) 2 16 Tryz.underlying54 hi hz0 hz1 hz2 rfl (by decide) _ _ _ rfl (World.ownsRow_made w #[] 0 (Nat.le_refl _) (Nat.zero_le _) rfl) a l.length cap (l.flatMap valVs) rfl ?qc1 ?qc2 ?qc3 ?qc4 ?qc5 ?qc6 ?_)
    case qc1 => exact flat_length valVs_2 l
    case qc2 => exact fun j u hj => Lib.cell?_alloc_some _ (A.out j u hj)
    case qc3 =>
      intro u hu
      obtain ⟨x, _, hx⟩ := List.mem_flatMap.1 hu
      simp [valVs] at hx
      rcases hx with rfl | rfl <;> rfl
    case qc4 => omega
    case qc5 => omega
    case qc6 => simp
    intro v' w1 hown hgrow _ _
    go_wp2_with (first | fail)
    go_ret
    refine ⟨v', rfl, vals_slice (by simpa using hown), fun g hg => hown.lt g hg, ?_⟩
    exact ((Below.refl _ w).alloc (Nat.le_refl _) _).grown hgrow (by simp) (by intro k hk; simp [Value.ownBlock] at hk; omega)
end Go.Proofs.YtbakcdgjibmceaaGreatDoor
namespace Go.Proofs.YtbakcdgjibmceaaGreatDoor
open Go.RowKit Go.Shelf Go.Lib
theorem zero_any (t : Str) (w : World) : Calls Tryz.prog 83 #[.string t] w fun e w' => e = .returned (valV (zeroOf t)) ∧ Below w.heap.size w w' := by
  have e1 : (ByteArray.toList t == [73]) = decide (lst t = [73]) := by
    rw [ByteArray.toList_eq, Bool.eq_iff_iff, beq_iff_eq, decide_eq_true_iff]
  have e2 : (ByteArray.toList t == [74]) = decide (lst t = [74]) := by
    rw [ByteArray.toList_eq, Bool.eq_iff_iff, beq_iff_eq, decide_eq_true_iff]
  have hB := (Below.refl w.heap.size w).alloc (Nat.le_refl _)
  unfold zeroOf
  by_cases h1 : lst t = [73]
  · rw [if_pos h1]
    rw [decide_eq_true h1] at e1
    have h2 : lst t ≠ [74] := by rw [h1]; decide
    rw [decide_eq_false h2] at e2
    clear h1 h2
    go_enter Tryz.func83, Tryz.ntmps83
    go_wp2_with (first | fail)
    exact bodyPost_ret (v := valV ⟨1, 0⟩) (by simp [results, Tryz.results83, go_sem, valV]) rfl ⟨rfl, hB _⟩
  · rw [if_neg h1]
    rw [decide_eq_false h1] at e1
    by_cases h2 : lst t = [74]
    all_goals
      first | rw [if_pos h2] | rw [if_neg h2]
      first | rw [decide_eq_true h2] at e2 | rw [decide_eq_false h2] at e2
      clear h1 h2
      go_enter Tryz.func83, Tryz.ntmps83
      go_wp2_with (first | fail)
      first
        | exact bodyPost_ret (v := valV ⟨2, 0⟩) (by simp [results, Tryz.results83, go_sem, valV]) rfl ⟨rfl, hB _⟩
        | exact bodyPost_ret (v := valV ⟨3, 0⟩) (by simp [results, Tryz.results83, go_sem, valV]) rfl ⟨rfl, hB _⟩
theorem Blk.grown {w w' : World} {b : Nat} {t : TypeId} {vals : List Value} {row : Option Nat} (h : Blk w b t vals) (hg : w.grownBy w' row) (hne : row ≠ some b) : Blk w' b t vals := (hg.block b h.lt (fun e => hne e.symm)).trans h
theorem Blk.other' {w : World} {b : Nat} {t : TypeId} {vals : List Value} (h : Blk w b t vals) {a : Addr} (hne : a.block ≠ b) (u : Value) : Blk (w.setCell a u) b t vals := (heap_setCell_other w a b u (fun e => hne e.symm)).trans h
theorem Blk.store1 {w : World} {b : Nat} {t : TypeId} {v : Value} (h : Blk w b t [v]) (u : Value) : Blk (w.setCell ⟨b, 0, none⟩ u) b t [u] := by
  unfold Blk at *
  rw [heap_setCell_same w b 0 _ _ u h]; rfl
theorem owns_other' {w : World} {base b size n : Nat} {t : TypeId} {v : Value} {xs : List Value} (h : w.ownsRow base t size v n xs) (hb : b < base) (j : Nat) (u : Value) : (w.setCell ⟨b, j, none⟩ u).ownsRow base t size v n xs := by
  rcases h with ⟨h1, h2 | ⟨g, cap, cur, k1, k2, k3, k4⟩⟩
  · exact ⟨h1, Or.inl h2⟩
  · exact ⟨h1, Or.inr ⟨g, cap, cur, k1, k2, (heap_setCell_other w ⟨b, j, none⟩ g u (by show g ≠ b; omega)).trans k3, k4⟩⟩
theorem duo_one (a : Str) (p : Option Addr) (n c : Nat) : ∀ u ∈ [Value.string a, .slice p n c], u.oneCell' = true := by
  intro u hu
  simp at hu
  rcases hu with rfl | rfl <;> rfl
/-- a thing appended on a row, whose values lie in new memory -/
theorem copy_step {B : Nat} {w wr w6 w8 : World} {v : Value} {m n g cap : Nat} {xs : List Value} {ps : List (Thing × Value)} {x : Thing} {v6 : Value} {cs : Array Value}
    (hown : wr.ownsRow (B + 3) 56 2 v n xs) (hhas : HasAt (B + 3) wr v ps) (hB : Below B w wr) (hBw : B ≤ w.heap.size) (hws : B + 3 ≤ wr.heap.size) (hBz : Below wr.heap.size wr w6)
    (hv6 : SliceOf w6 2 ValCells v6 x.has) (hfr : ∀ g, v6.ownBlock = some g → wr.heap.size ≤ g ∧ g < w6.heap.size) (hgrow : (w6.alloc (.cells cs 56)).grownBy w8 v.ownBlock) (hat : v.ownBlock = some g ∨ g = w6.heap.size + 1) :
    HasAt (B + 3) w8 (.slice (some ⟨g, 0, none⟩) m cap) (ps ++ [(x, v6)]) ∧ Below B w w8 ∧ B + 3 ≤ w8.heap.size := by
  have hBy := hBz.alloc hBz.size (.cells cs 56)
  have hBn : Below w6.heap.size w6 (w6.alloc (.cells cs 56)) := (Below.refl _ _).alloc (Nat.le_refl _) _
  have hsz : (w6.alloc (.cells cs 56)).heap.size = w6.heap.size + 1 := by simp
  have hg : (Value.slice (some ⟨g, 0, none⟩) m cap).ownBlock = some g := rfl
  refine ⟨((hhas.step hBy).grown hgrow ?_).snoc (p := (x, v6)) ((hv6.mono hBn (by decide) (fun _ _ h => h)).block ?_) ?_, (below_call hB hBw hBy).grown hgrow ?_ ?_, ?_⟩
  · rw [hg, hsz]
    rcases hat with h | h
    · exact Or.inl h.symm
    · exact Or.inr (by rw [h])
  · intro g' e'
    have h1 := hfr g' e'
    exact hgrow.block g' (by rw [hsz]; omega) (fun he => by have := (hown.lt _ he.symm).2; omega)
  · intro g' e'
    have h1 := hfr g' e'
    have h2 := hgrow.size
    rw [hsz] at h2
    refine ⟨by omega, by omega, ?_⟩
    rw [hg]
    intro he
    injection he with he
    rcases hat with h | h
    · have := (hown.lt _ h).2; omega
    · omega
  · have := hBy.size; omega
  · intro g' e'
    have := (hown.lt _ e').1; omega
  · have h2 := hgrow.size
    have := hBy.size; omega
theorem copy_row {w : World} {base b n g cap : Nat} {ps : List (Thing × Value)} {x : Thing} {v : Value} (h : w.ownsRow base 56 2 (.slice (some ⟨g, 0, none⟩) n cap) (ps.length + 1) (ps.flatMap thingVs ++ [.string x.type, v])) (hb : b < base) (u : Value) :
    (w.setCell ⟨b, 0, none⟩ u).ownsRow base 56 2 (.slice (some ⟨g, 0, none⟩) n cap) (ps ++ [(x, v)]).length ((ps ++ [(x, v)]).flatMap thingVs) := by
  have h2 := owns_other' h hb 0 u
  rw [List.length_append, List.flatMap_append]
  simpa [thingVs] using h2
theorem copy_size {w : World} {B : Nat} (h : B ≤ w.heap.size) (a : Addr) (u : Value) : B ≤ (w.setCell a u).heap.size := by simpa using h
/-- what Copy leaves: a heap of the call's own that holds the same things -/
def CopyPost (w : World) (h : List Thing) (e : Ending) (w' : World) : Prop :=
  (∃ v ps, e = .returned (.agg #[v]) ∧ ps.map (·.1) = h ∧ w'.ownsRow w.heap.size 56 2 v ps.length (ps.flatMap thingVs) ∧ HasAt w.heap.size w' v ps) ∧ Below w.heap.size w w'
set_option maxHeartbeats 4000000 in
set_option maxRecDepth 100000 in
theorem copy_any (w : World) (h : List Thing) (hv : Value) (hh : ThingsAt w hv h) (hn : ∀ x ∈ h, x.has.length ≤ 4194304) (h50 : h.length ≤ 50) :
    Calls Tryz.prog 51 #[.agg #[hv]] w (CopyPost w h) := by
  obtain ⟨p, c, rfl, hc1, hc2, hcc⟩ := hh.open
  have hlen : h.length ≤ 9223372036854775807 := Nat.le_trans hc1 hc2
  have HC := Lib.hid hcc
  have HN := Lib.hid hn
  have HCl : Hid (∀ l v wx, SliceOf wx 2 ValCells v l → l.length ≤ 4194304 → _) := fun l v wx h1 h2 => cloneVals_any l v wx h1 h2
  obtain ⟨i0, hi, hz0, hz1, hz2⟩ := info_parts info_thing
  unfold CopyPost
  clear hh hcc hn
  obtain ⟨w1, hw1⟩ : ∃ w1, w1 = ((w.alloc (.cells #[.slice p h.length c] 25)).alloc (.cells #[.slice none 0 0] 25)).alloc (.cells #[.slice none 0 0] 25) := ⟨_, rfl⟩
  have hB1 : Below w.heap.size w w1 := by rw [hw1]; exact (((Below.refl _ _).alloc (Nat.le_refl _) _).alloc (by simp) _).alloc (by simp; omega) _
  have hsz : w1.heap.size = w.heap.size + 3 := by rw [hw1]; simp
  have hk1 : Blk w1 (w.heap.size + 1) 25 [.slice none 0 0] := by
    rw [hw1]
    have := (Blk.new (w.alloc (.cells #[.slice p h.length c] 25)) 25 [.slice none 0 0]).step ((Below.refl _ _).alloc (Nat.le_refl _) (.cells #[.slice none 0 0] 25))
    simpa using this
  have hk2 : Blk w1 (w.heap.size + 1 + 1) 25 [.slice none 0 0] := by
    rw [hw1]
    have := Blk.new ((w.alloc (.cells #[.slice p h.length c] 25)).alloc (.cells #[.slice none 0 0] 25)) 25 [.slice none 0 0]
    simpa using this
  have HW := Lib.hid hw1.symm
  go_enter Tryz.func51, Tryz.ntmps51
  go_wp2_with (first | fail)
  rw [HW.out]
  clear HW hw1
  have HK1 := Lib.hid hk1
  have HK2 := Lib.hid hk2
  have HB1 := Lib.hid hB1
  clear hk1 hk2 hB1
  go_loopw [9] (fun x wr => ∃ (k : Nat) (v : Value) (ps : List (Thing × Value)), k ≤ h.length ∧ ps.map (·.1) = h.take k ∧ Hid (Blk wr (w.heap.size + 1) 25 [.slice none 0 0]) ∧ Hid (Blk wr (w.heap.size + 1 + 1) 25 [v]) ∧ Hid (wr.ownsRow (w.heap.size + 3) 56 2 v ps.length (ps.flatMap thingVs)) ∧ Hid (HasAt (w.heap.size + 3) wr v ps) ∧ Below w.heap.size w wr ∧ Hid (w.heap.size + 3 ≤ wr.heap.size) ∧ x = .int .i64 k) (fun x _ => h.length - (intOf x).toNat)
  case atStart => exact ⟨0, _, [], by omega, by simp, HK1.out, HK2.out, World.ownsRow_nil _ _ _ _, HasAt.nil _ _ _, HB1.out, by unfold Hid; omega, rfl⟩
  case round =>
    clear HK1 HK2 HB1 hsz
    obtain ⟨k, v, ps, hk, hps, hk1, hk2, hown, hhas, hB, hws, rfl⟩ := hrel
    by_cases hkl : k < h.length
    · obtain ⟨x, hx⟩ : ∃ a, h[k]? = some a := ⟨h[k], by simp [hkl]⟩
      obtain ⟨b, o, vs, rfl, ⟨xv, rfl, hvs⟩, _, hcells⟩ := HC.out k x hx
      obtain ⟨c0, c1, _⟩ := hcells.mono hB hcells.lt
      have hxn := HN.out x (List.mem_of_getElem? hx)
      have hvr := hvs.mono hB (by decide) (fun _ _ h => h)
      have htake : h.take (k + 1) = h.take k ++ [x] := by
        obtain ⟨h1, h2⟩ := List.getElem?_eq_some_iff.1 hx
        rw [List.take_succ_eq_append_getElem h1, h2]
      obtain ⟨p2, c2, rfl, _⟩ := hvs.open
      obtain ⟨va, vc, rfl⟩ := ownsRow_shape hown.out
      obtain ⟨wa, hwa⟩ : ∃ wa, wa = wr.alloc (.cells #[.string x.type, .slice p2 x.has.length c2] 56) := ⟨_, rfl⟩
      have hBa : Below wr.heap.size wr wa := by rw [hwa]; exact (Below.refl _ _).alloc (Nat.le_refl _) _
      have HWa := Lib.hid hwa.symm
      have a0 : wa.cell? ⟨wr.heap.size, 0, none⟩ = some (.string x.type) := by rw [hwa]; simp
      have a1 : wa.cell? ⟨wr.heap.size, 1, none⟩ = some (.slice p2 x.has.length c2) := by rw [hwa]; simp
      have q2 : wa.cell? ⟨w.heap.size + 1 + 1, 0, none⟩ = some (.slice va ps.length vc) := (hk2.out.step hBa).cell 0
      have HClx : Hid (∀ wx, Below wa.heap.size wa wx → Calls Tryz.prog 84 #[.slice p2 x.has.length c2] wx fun e w' => ∃ v', e = .returned v' ∧ SliceOf w' 2 ValCells v' x.has ∧ (∀ g, v'.ownBlock = some g → wx.heap.size ≤ g ∧ g < w'.heap.size) ∧ Below wx.heap.size wx w') := fun wx hb => HCl.out x.has _ wx ((hvr.mono hBa (by decide) (fun _ _ h => h)).mono hb (by decide) (fun _ _ h => h)) hxn
      have hl8 : ps.length ≤ 8388608 := by
        have : (ps.map (·.1)).length = (h.take k).length := by rw [hps]
        rw [List.length_map, List.length_take] at this; omega
      have HBa := Lib.hid hBa
      have HBr := Lib.hid hB
      have HPs := Lib.hid hps
      have HTk := Lib.hid htake
      clear hx hcells hvs hvr hB hps hBa htake hwa
      go_upto_region 5 with (first | fail)
      rw [HWa.out]
      have hne : w.heap.size + 1 + 1 < wr.heap.size := by have := hws.out; omega
      have hb63 : ps.length + 1 ≤ maxLen := by unfold maxLen; omega
      have hb40 : (ps.length + 1) * 40 ≤ 140737488355328 := by omega
      have hno7 : (Value.slice va ps.length vc).ownBlock ≠ some (w.heap.size + 1 + 1) := fun e => by have := (hown.out.lt _ e).1; omega
      have hno1 : (Value.slice va ps.length vc).ownBlock ≠ some (w.heap.size + 1) := fun e => by have := (hown.out.lt _ e).1; omega
      have b0 := Lib.hid a0
      have b1 := Lib.hid a1
      have b2 := Lib.hid q2
      go_region_law (first
        | (refine step_append_lies _ (by rfl) _ _ 23 (by rfl) (w.heap.size + 3) 56 i0 (.agg #[.string .empty, .slice none 0 0]) 2 40 Tryz.underlying23 hi hz0 hz1 hz2 rfl (by decide) _ ps.length _ (by rfl) hown7 ⟨w6.heap.size, 0, none⟩ 1 1 [.string x.type, .slice p6 x.has.length k6] (by rfl) rfl (cell_duo_new w6 _ _ 56) (duo_one _ _ _ _) (by decide) hb63 hb40 hbase7 (w6.heap.size + 1) (by simp) ?_; intro g cap w8 hown8 hgrow hat hlt; (have hk8 := hk27.grown hgrow hno7); (have e8 := hk8.cell 0); (have f8 := hk8.frozen 0))
        | (go_simp; go_at_call 84; refine (HClx.out _ ((Below.refl _ _).drew)).mono ?_; rintro e w6 ⟨v6, rfl, hv6, hfr6, hB6'⟩; (have hv6k := hv6); obtain ⟨p6, k6, rfl, _⟩ := hv6k.open; (have hB6 := below_call ((Below.refl _ _).drew) (Nat.le_refl _) hB6'); (have d0 := (hB6.cell (p := ⟨wr.heap.size, 0, none⟩) (cells_blk b0.out)).trans b0.out); (have d1 := (hB6.cell (p := ⟨wr.heap.size, 1, none⟩) (cells_blk b1.out)).trans b1.out); (have d2 := (hB6.cell (p := ⟨w.heap.size + 1 + 1, 0, none⟩) (cells_blk b2.out)).trans b2.out); (have d3 := Lib.cell?_alloc_some (.cells #[.string x.type, .slice p6 x.has.length k6] 56) d2); (have hBz := below_call HBa.out (Nat.le_refl _) hB6); (have hBy := hBz.alloc hBz.size (.cells #[.string x.type, .slice p6 x.has.length k6] 56)); (have hown7 := ownsRow_belowk hown.out hBy); (have hk27 := hk2.out.step hBy); (have hbase7 := Nat.le_trans hws.out hBy.size)))
      all_goals
        have hk17 := Lib.hid ((hk1.out.step hBy).grown hgrow hno1)
        have hK8 := Lib.hid hk8
        have hO8 := Lib.hid hown8
        have hst := copy_step (B := w.heap.size) (m := ps.length + 1) (cap := cap) (x := x) hown.out hhas.out HBr.out (Nat.le_refl _) hws.out hBz hv6 (fun g' e' => ⟨Nat.le_trans HBa.out.size (Nat.le_trans (by simp) (hfr6 g' e').1), (hfr6 g' e').2⟩) hgrow hat
        have hA8 := Lib.hid hst.1
        have hB8 := Lib.hid hst.2.1
        have hW8 := Lib.hid hst.2.2
        clear hst d0 d1 d2 d3 hBz hBy hown7 hk27 hbase7 hgrow hat hk8 hown8 hv6 hfr6 hB6 hB6' b0 b1 b2 a0 a1 q2 hno1 hno7 hlt HClx hk1 hk2 hown hhas HWa HCl c0 c1
        go_wp2_with (first | fail)
        go_roundw
        case rel => exact ⟨k + 1, Value.slice (some ⟨g, 0, none⟩) (ps.length + 1) cap, ps ++ [(x, Value.slice p6 x.has.length k6)], by omega, by rw [List.map_append, HPs.out, HTk.out]; rfl, hk17.out.other' (by simp) _, hK8.out.store1 _, copy_row (b := w.heap.size + 1 + 1) hO8.out (Nat.lt_succ_self _) _, hA8.out.set (b := w.heap.size + 1 + 1) (Nat.lt_succ_self _) 0 _, hB8.out.setCell (by show w.heap.size ≤ w.heap.size + 1 + 1; omega) _, copy_size hW8.out _ _, by simp⟩
        case measure => simp [intOf]; omega
    · obtain rfl : k = h.length := by omega
      obtain ⟨va, vc, rfl⟩ := ownsRow_shape hown.out
      have q1 : wr.cell? ⟨w.heap.size + 1, 0, none⟩ = some (.slice none 0 0) := hk1.out.cell 0
      have q2 : wr.cell? ⟨w.heap.size + 1 + 1, 0, none⟩ = some (.slice va ps.length vc) := hk2.out.cell 0
      have f1 := hk1.out.frozen 0
      have HB2 := Lib.hid (hB.setCell (p := ⟨w.heap.size + 1, 0, none⟩) (by show w.heap.size ≤ w.heap.size + 1; omega) (.slice va ps.length vc))
      have hown2 : Hid ((wr.setCell ⟨w.heap.size + 1, 0, none⟩ (.slice va ps.length vc)).ownsRow (w.heap.size + 3) 56 2 (.slice va ps.length vc) ps.length (ps.flatMap thingVs)) := owns_other' hown.out (by omega) 0 _
      rw [List.take_length] at hps
      have HPs := Lib.hid hps
      have HA2 := Lib.hid (hhas.out.set (b := w.heap.size + 1) (by omega) 0 (.slice va ps.length vc))
      clear hk1 hk2 hown hhas hB hws hps
      go_wp2_with (first | fail)
      refine bodyPost_ret (v := .agg #[.slice va ps.length vc]) (by simp [results, Tryz.results51, go_sem, *]) rfl ?_
      exact ⟨⟨_, ps, rfl, HPs.out, ownsRow_low hown2.out (by omega), HA2.out.base (by omega)⟩, HB2.out⟩
end Go.Proofs.YtbakcdgjibmceaaGreatDoor
namespace Go.Proofs.YtbakcdgjibmceaaGreatDoor
open Go.RowKit Go.Shelf Go.Lib
structure Frm where
  locals : List Str
  stack : List Str
  deriving DecidableEq
/-- the kind of a text -/
def kdOf (k : Str) : Kd := if lst k = [78] then .n else if lst k = [84] then .t else .ty (tyOf k)
theorem kdOf_text {k : Str} {x : Kd} (h : kdText x = lst k) : kdOf k = x := by
  unfold kdOf
  rw [← h]
  cases x with
  | n => rfl
  | t => rfl
  | ty y =>
    rw [if_neg (by cases y <;> simp [kdText, tyText]), if_neg (by cases y <;> simp [kdText, tyText])]
    exact congrArg Kd.ty (tyOf_text h)
/-- what is wrong with a frame, in a right world -/
def frameR (cs : List Class) (f : Frm) : Nat :=
  if 8 < f.locals.length ∨ 8 < f.stack.length then 4 else firstFault (kindR cs) (f.locals ++ f.stack)
/-- two kinds joined -/
def joinS (cs : List Class) (a b : Str) : Str := str (kdText (joinKd cs (kdOf a) (kdOf b)))
theorem joinS_text {cs : List Class} {a b z : Str} {x y : Kd} (ha : kdText x = lst a) (hb : kdText y = lst b) (hz : kdText (joinKd cs x y) = lst z) : joinS cs a b = z := by
  unfold joinS
  rw [kdOf_text ha, kdOf_text hb, hz]
  rfl
def joinL (cs : List Class) (a b : List Str) : List Str := List.zipWith (joinS cs) a b
def shapedB (a b : Frm) : Bool := decide (a.locals.length = b.locals.length) && decide (a.stack.length = b.stack.length)
def bothF (cs : List Class) (a b : Frm) : Frm := ⟨joinL cs a.locals b.locals, joinL cs a.stack b.stack⟩
/-- what is wrong with two frames, in a right world -/
def framesR (cs : List Class) (a b : Frm) : Nat := if frameR cs a ≠ 0 then frameR cs a else if frameR cs b ≠ 0 then frameR cs b else if shapedB a b then 0 else 8
def frameFault (l : List Class) (f : Frm) : Nat := if readFault l ≠ 0 then readFault l else frameR (allC l) f
def framesFault (l : List Class) (a b : Frm) : Nat := if readFault l ≠ 0 then readFault l else framesR (allC l) a b
theorem firstFault_app {α : Type} {f : α → Nat} : ∀ {l m : List α}, firstFault f (l ++ m) = if firstFault f l = 0 then firstFault f m else firstFault f l
  | [], _ => by simp [firstFault]
  | x :: r, m => by
    show (if f x = 0 then firstFault f (r ++ m) else f x) = if (if f x = 0 then firstFault f r else f x) = 0 then firstFault f m else (if f x = 0 then firstFault f r else f x)
    by_cases h : f x = 0
    · rw [if_pos h, if_pos h, firstFault_app]
    · rw [if_neg h, if_neg h, if_neg h]
/-- a frame's kinds are kinds -/
theorem frame_zero {cs : List Class} {f : Frm} (h : frameR cs f = 0) : f.locals.length ≤ 8 ∧ f.stack.length ≤ 8 ∧ (∀ k ∈ f.locals, kindR cs k = 0) ∧ ∀ k ∈ f.stack, kindR cs k = 0 := by
  unfold frameR at h
  split at h
  · cases h
  · rename_i hn
    have hz := firstFault_zero h
    exact ⟨by omega, by omega, fun k hk => hz k (List.mem_append_left _ hk), fun k hk => hz k (List.mem_append_right _ hk)⟩
end Go.Proofs.YtbakcdgjibmceaaGreatDoor
namespace Go.Proofs.YtbakcdgjibmceaaGreatDoor
open Go.RowKit Go.Shelf Go.Lib
def OwnNil (w : World) (e : Ending) (w' : World) : Prop := (∃ v, e = .returned v ∧ w'.ownsRow w.heap.size 9 1 v 0 []) ∧ Below w.heap.size w w'
set_option maxHeartbeats 1000000 in
set_option maxRecDepth 100000 in
theorem growNil_any (n : Nat) (hn : n ≤ 16) (w : World) : Calls Tryz.prog 134 #[.slice none 0 0, .int .i64 (n : Int)] w (OwnNil w) := by
  unfold OwnNil
  by_cases h0 : n = 0
  · subst h0
    go_enter Tryz.func134, Tryz.ntmps134
    go_wp2_with (first | fail)
    go_ret
    exact ⟨⟨_, rfl, World.ownsRow_nil _ _ _ _⟩, Below.refl _ _⟩
  · obtain ⟨i0, hi, hz0, hz1, hz2⟩ := info_parts info_string
    have hGn : n ≤ grownCap w n 0 9 := grownCap_ge w _ _ _
    have hGm : grownCap w n 0 9 ≤ maxLen := grownCap_le_maxLen w n 0 9 (by unfold maxLen; omega)
    have hsz : (Builtin.zeroCells #[Value.string ByteArray.empty] n ++ Builtin.zeroCells #[Value.string ByteArray.empty] (grownCap w n 0 9 - n)).size = grownCap w n 0 9 * 1 := by
      simp [Builtin.zeroCells]; omega
    have hown := World.ownsRow_made (base := w.heap.size) (e := 9) (size := 1) w.drew _ (grownCap w n 0 9) (Nat.le_refl _) hGm hsz
    have hB := (Below.refl w.heap.size w).drew.alloc (Nat.le_refl _) (.cells (Builtin.zeroCells #[Value.string ByteArray.empty] n ++ Builtin.zeroCells #[Value.string ByteArray.empty] (grownCap w n 0 9 - n)) 9)
    have hn0 : (0 : Int) < (n : Int) := by omega
    have hG63 : grownCap w n 0 9 ≤ 9223372036854775807 := by unfold maxLen at hGm; omega
    clear hi hz0 hz1 hz2
    have hb : Tryz.t9.bytes = 16 := rfl
    have hb1 : (n : Int) * (Tryz.t9.bytes : Int) ≤ 281474976710656 := by rw [hb]; omega
    have hb2 : Builtin.nextslicecap n 0 * Tryz.t9.bytes ≤ 281474976710656 := by
      rw [hb]; unfold Builtin.nextslicecap; rw [if_pos (by omega)]; omega
    clear hb
    go_enter Tryz.func134, Tryz.ntmps134
    go_wp2_with (first | fail)
    all_goals first
      | (go_ret; exact ⟨⟨_, rfl, hown⟩, hB⟩)
      | (exfalso; omega)
set_option maxHeartbeats 1000000 in
set_option maxRecDepth 100000 in
/-- two lists of texts as one -/
theorem concat_any (xs ys : List Str) (v1 v2 : Value) (g : Nat) (w : World) (h0 : w.cell? ⟨g, 0, none⟩ = some v1) (h1 : w.cell? ⟨g, 1, none⟩ = some v2) (hx : StrsAt w v1 xs) (hy : StrsAt w v2 ys) (hn : xs.length + ys.length ≤ 16) :
    Calls Tryz.prog 99 #[.slice (some ⟨g, 0, none⟩) 2 2] w fun e w' => (∃ v, e = .returned v ∧ StrsAt w' v (xs ++ ys)) ∧ Below w.heap.size w w' := by
  have HX : Hid (∀ wx, Below w.heap.size w wx → StrsAt wx v1 xs) := fun wx hb => hx.mono hb
  have HY : Hid (∀ wx, Below w.heap.size w wx → StrsAt wx v2 ys) := fun wx hb => hy.mono hb
  obtain ⟨p1, c1, rfl, _⟩ := hx.open
  obtain ⟨p2, c2, rfl, _⟩ := hy.open
  obtain ⟨n, hnn⟩ : ∃ n, xs.length + ys.length = n := ⟨_, rfl⟩
  have hw1 : IntKind.i64.wrap (0 + (xs.length : Int)) = (xs.length : Int) := by rw [IntWalk.i64_in _ (by omega)]; omega
  have hw1' : IntKind.i64.wrap (xs.length : Int) = (xs.length : Int) := IntWalk.i64_in _ (by omega)
  have hw2 : IntKind.i64.wrap ((xs.length : Int) + (ys.length : Int)) = (n : Int) := by rw [IntWalk.i64_in _ (by omega)]; omega
  have ht1 : ¬ (xs.length : Int) < 0 := by omega
  have ht2 : ¬ (n : Int) < 0 := by omega
  have HG : Hid (∀ wx, _) := fun wx => growNil_any n (by omega) wx
  unfold OwnNil at HG
  have HL0 := Lib.hid (cells_blk h0)
  have HN := Lib.hid hnn
  have HN16 := Lib.hid hn
  clear hx hy hnn hn
  go_enter Tryz.func99, Tryz.ntmps99
  go_wp2_with (first | fail)
  go_loopw [3, 11] (fun x3 x11 wr => w = wr ∧ ((x3 = .int .i64 0 ∧ x11 = .int .i64 0) ∨ (x3 = .int .i64 (xs.length : Int) ∧ x11 = .int .i64 1) ∨ (x3 = .int .i64 (n : Int) ∧ x11 = .int .i64 2))) (fun _ x _ => 2 - (intOf x).toNat)
  case atStart => exact ⟨rfl, Or.inl ⟨rfl, rfl⟩⟩
  case round =>
    obtain ⟨rfl, ⟨rfl, rfl⟩ | ⟨rfl, rfl⟩ | ⟨rfl, rfl⟩⟩ := hrel
    · go_wp2_with (first | fail)
      go_roundw
      case rel => exact ⟨by simp, Or.inr (Or.inl ⟨rfl, rfl⟩)⟩
      case measure => simp [intOf]
    · go_wp2_with (first | fail)
      go_roundw
      case rel => exact ⟨by simp, Or.inr (Or.inr ⟨rfl, rfl⟩)⟩
      case measure => simp [intOf]
    · go_wp2_with (go_at_call 134; (with_reducible refine (HG.out _).mono ?_); rintro e w2 ⟨⟨v0, rfl, hrow0⟩, hB0⟩)
      have HB0 := Lib.hid hB0
      have HR0 := Lib.hid hrow0
      clear hB0 hrow0
      go_loopw [6, 27] (fun x6 x27 wr => Below w.heap.size w wr ∧ ((Hid (wr.ownsRow w.heap.size 9 1 x6 0 []) ∧ x27 = .int .i64 0) ∨ (Hid (wr.ownsRow w.heap.size 9 1 x6 xs.length (xs.map Value.string)) ∧ x27 = .int .i64 1) ∨ (Hid (wr.ownsRow w.heap.size 9 1 x6 n ((xs ++ ys).map Value.string)) ∧ x27 = .int .i64 2))) (fun _ x _ => 2 - (intOf x).toNat)
      case atStart => exact ⟨HB0.out, Or.inl ⟨HR0, rfl⟩⟩
      case round =>
        obtain ⟨hB, ⟨hr, rfl⟩ | ⟨hr, rfl⟩ | ⟨hr, rfl⟩⟩ := hrel
        · have q0 := (hB.cell (p := ⟨g, 0, none⟩) HL0.out).trans h0
          have hS := HX.out _ hB
          have HBr := Lib.hid hB
          clear hB
          go_wp2_with (at_builtin; refine wpList_append_strs rfl _ _ rfl w.heap.size _ 0 [] rfl hr.out _ xs rfl hS (by unfold maxLen; have := HN16.out; omega) (by have := HN16.out; omega) HBr.out.size ?_; intro v' w3 ho3 hg3 _; (have hB3 := Lib.hid (HBr.out.grown hg3 HBr.out.size (fun g e => (World.ownsRow.lt hr.out g e).1))))
          go_roundw
          case rel => exact ⟨hB3.out, Or.inr (Or.inl ⟨by unfold Hid; simpa using ho3, rfl⟩)⟩
          case measure => simp [intOf]
        · have q0 := (hB.cell (p := ⟨g, 1, none⟩) HL0.out).trans h1
          have hS := HY.out _ hB
          have HBr := Lib.hid hB
          clear hB
          go_wp2_with (at_builtin; refine wpList_append_strs rfl _ _ rfl w.heap.size _ xs.length (xs.map Value.string) rfl hr.out _ ys rfl hS (by unfold maxLen; have := HN16.out; omega) (by have := HN16.out; omega) HBr.out.size ?_; intro v' w3 ho3 hg3 _; (have hB3 := Lib.hid (HBr.out.grown hg3 HBr.out.size (fun g e => (World.ownsRow.lt hr.out g e).1))))
          go_roundw
          case rel => exact ⟨hB3.out, Or.inr (Or.inr ⟨by unfold Hid; rw [List.map_append, ← HN.out]; exact ho3, rfl⟩)⟩
          case measure => simp [intOf]
        · have HBr := Lib.hid hB
          clear hB
          go_wp2_with (first | fail)
          go_ret
          exact ⟨⟨_, rfl, strsAt_of_owns (by have := hr.out; rwa [← HN.out, ← List.length_append] at this)⟩, HBr.out⟩
set_option maxHeartbeats 1000000 in
theorem equal_any (a b : List Str) (va vb : Value) (w : World) (ha : StrsAt w va a) (hb : StrsAt w vb b) : Calls Tryz.prog 110 #[va, vb] w fun e w' => e = .returned (.bool (decide (a = b))) ∧ Below w.heap.size w w' := by
  obtain ⟨p, cap, rfl, h1, h2, hcc⟩ := ha.open
  obtain ⟨q, cbp, rfl, k1, k2, hdd⟩ := hb.open
  have HC := Lib.hid hcc
  have HD := Lib.hid hdd
  have hlen : a.length ≤ 9223372036854775807 := Nat.le_trans h1 h2
  clear ha hb hcc hdd
  by_cases hl : a.length = b.length
  · have hl' : ((a.length : Int) != (b.length : Int)) = false := by simp [hl]
    go_enter Tryz.func110, Tryz.ntmps110
    go_wp2_with (first | fail)
    all_goals first | (exfalso; omega) | skip
    go_loopw [13] (fun i wr => ∃ k : Nat, k ≤ a.length ∧ Hid (decide (a.drop k = b.drop k) = decide (a = b)) ∧ Below w.heap.size w wr ∧ i = .int .i64 k) (fun i _ => a.length - (intOf i).toNat)
    case atStart => exact ⟨0, by omega, rfl, Below.refl _ _, rfl⟩
    case round =>
      obtain ⟨k, hk, hff, hB, rfl⟩ := hrel
      by_cases hkl : k < a.length
      · obtain ⟨x, hx⟩ : ∃ x, a[k]? = some x := ⟨a[k], by simp [hkl]⟩
        obtain ⟨y, hy⟩ : ∃ y, b[k]? = some y := ⟨b[k]'(by omega), by simp [← hl, hkl]⟩
        obtain ⟨b1, o1, vs, rfl, hR, _, hcells⟩ := HC.out k x hx
        unfold StrCells at hR; subst hR
        obtain ⟨b2, o2, vs, rfl, hR, _, hcellt⟩ := HD.out k y hy
        unfold StrCells at hR; subst hR
        have c0 := (hcells.mono hB hcells.lt).1
        have d0 := (hcellt.mono hB hcellt.lt).1
        rw [Nat.mul_one] at c0 d0
        have hstep := texts_drop a b hl k x y hx hy
        rw [hff.out, ← strEq] at hstep
        have HX := Lib.hid hx
        have hkb : k < b.length := by omega
        clear hx hy hcells hcellt
        cases he : x.toList == y.toList with
        | true =>
          rw [he, Bool.true_and] at hstep
          have hst := Lib.hid hstep.symm
          clear hstep
          go_upto_region 6 with (first | fail)
          go_quiet (fail)
          go_wp2
          go_roundw
          case rel => exact ⟨k + 1, by omega, hst.out, ⟨hB.os, hB.tape, hB.output, hB.size, hB.block⟩, by simp⟩
          case measure => simp [intOf]; omega
        | false =>
          rw [he, Bool.false_and] at hstep
          have HS := Lib.hid hstep
          clear hstep
          go_upto_region 6 with (first | fail)
          go_quiet (fail)
          go_wp2
          go_ret
          exact ⟨by rw [HS.out]; rfl, ⟨hB.os, hB.tape, hB.output, hB.size, hB.block⟩⟩
      · obtain rfl : k = a.length := by omega
        have hyes : decide (a = b) = true := by rw [← hff.out, List.drop_eq_nil_of_le (Nat.le_refl _), List.drop_eq_nil_of_le (by omega)]; rfl
        have HS := Lib.hid hyes
        clear hyes
        go_wp2_with (first | fail)
        go_ret
        exact ⟨by rw [HS.out]; rfl, hB⟩
  · have hne : decide (a = b) = false := by simpa using fun h => hl (by rw [h])
    have hl' : ((a.length : Int) != (b.length : Int)) = true := by simp; omega
    rw [hne]
    go_enter Tryz.func110, Tryz.ntmps110
    go_wp2_with (first | fail)
    all_goals first | (exfalso; omega) | skip
    go_ret
    exact ⟨rfl, Below.refl _ _⟩
end Go.Proofs.YtbakcdgjibmceaaGreatDoor
namespace Go.Proofs.YtbakcdgjibmceaaGreatDoor
open Go.RowKit Go.Shelf Go.Lib
/-- the kinds' texts are texts of Go -/
def FrmShort (f : Frm) : Prop := (∀ k ∈ f.locals, k.size ≤ 4194304) ∧ ∀ k ∈ f.stack, k.size ≤ 4194304
def FrameAt (w : World) (lv sv : Value) (f : Frm) : Prop := StrsAt w lv f.locals ∧ StrsAt w sv f.stack
theorem FrameAt.mono {w w' : World} (hb : Below w.heap.size w w') {lv sv : Value} {f : Frm} (h : FrameAt w lv sv f) : FrameAt w' lv sv f := ⟨h.1.mono hb, h.2.mono hb⟩
theorem frameR_full {cs : List Class} {f : Frm} (g : 8 < f.locals.length ∨ 8 < f.stack.length) : frameR cs f = 4 := by unfold frameR; rw [if_pos g]
theorem frameR_kinds {cs : List Class} {f : Frm} (g : ¬ (8 < f.locals.length ∨ 8 < f.stack.length)) : frameR cs f = firstFault (kindR cs) (f.locals ++ f.stack) := by unfold frameR; rw [if_neg g]
set_option maxHeartbeats 1000000 in
set_option maxRecDepth 100000 in
theorem frameCheck_any (w0 w : World) (B : Nat) (l : List Class) (hm : WorldMap w0 w B l) (f : Frm) (lv sv : Value) (hf : FrameAt w lv sv f) (hS : FrmShort f) :
    Calls Tryz.prog 67 #[.map (some B), .agg #[lv, sv]] w fun e w' => e = .returned (errV (frameR (allC l) f)) ∧ Below w.heap.size w w' := by
  have HFm : Hid (∀ wx, Below w.heap.size w wx → FrameAt wx lv sv f) := fun wx hb => hf.mono hb
  obtain ⟨p1, c1, rfl, _⟩ := hf.1.open
  obtain ⟨p2, c2, rfl, _⟩ := hf.2.open
  have BX := Lib.hid (boxed_mk w #[.slice p1 f.locals.length c1, .slice p2 f.stack.length c2] 64)
  by_cases hbig : 8 < f.locals.length ∨ 8 < f.stack.length
  · rw [frameR_full hbig, show errV 4 = .iface 35 (.int .i64 4) from rfl]
    clear hm hf hS
    by_cases h1 : 8 < f.locals.length
    · have z1 : decide ((8 : Int) < (f.locals.length : Int)) = true := by simp; omega
      clear hbig
      go_enter Tryz.func67, Tryz.ntmps67
      go_wp2_with (first | fail)
      go_ret
      exact ⟨rfl, BX.out.below⟩
    · have z1 : decide ((8 : Int) < (f.locals.length : Int)) = false := by simp; omega
      have z2 : decide ((8 : Int) < (f.stack.length : Int)) = true := by simp; omega
      clear hbig
      go_enter Tryz.func67, Tryz.ntmps67
      go_wp2_with (first | fail)
      go_ret
      exact ⟨rfl, BX.out.below⟩
  · have HR := Lib.hid (frameR_kinds (cs := allC l) hbig)
    have HK : Hid (∀ wx k, Below w.heap.size w wx → k ∈ f.locals ++ f.stack → _) := fun wx k hb hk => kind_any w0 wx B (allC l) (hm.step hb).map hm.right.nodup k (Nat.le_trans ((List.mem_append.1 hk).elim (hS.1 k) (hS.2 k)) (by decide))
    have HC : Hid (∀ wx g, Below w.heap.size w wx → wx.cell? ⟨g, 0, none⟩ = some (.slice p1 f.locals.length c1) → wx.cell? ⟨g, 1, none⟩ = some (.slice p2 f.stack.length c2) → _) := fun wx g hb h0 h1 =>
      concat_any f.locals f.stack _ _ g wx h0 h1 (HFm.out wx hb).1 (HFm.out wx hb).2 (by omega)
    have z1 : decide ((8 : Int) < (f.locals.length : Int)) = false := by simp; omega
    have z2 : decide ((8 : Int) < (f.stack.length : Int)) = false := by simp; omega
    have hln : (f.locals ++ f.stack).length ≤ 16 := by rw [List.length_append]; omega
    have HB1 := Lib.hid (BX.out.below.alloc BX.out.below.size (.cells #[.slice p1 f.locals.length c1, .slice p2 f.stack.length c2] 43))
    have hq := boxed2 (boxed_mk (w.alloc (.cells #[.slice p1 f.locals.length c1, .slice p2 f.stack.length c2] 64)) #[.slice p1 f.locals.length c1, .slice p2 f.stack.length c2] 43)
    rw [show (w.alloc (.cells #[.slice p1 f.locals.length c1, .slice p2 f.stack.length c2] 64)).heap.size = w.heap.size + 1 by simp] at hq
    have HQ0 := Lib.hid hq.1
    have HQ1 := Lib.hid hq.2
    clear hm hf hS hbig hq
    generalize f.locals ++ f.stack = L at *
    generalize frameR (allC l) f = res at *
    go_enter Tryz.func67, Tryz.ntmps67
    go_wp2_with (go_at_call 99; (with_reducible refine (HC.out _ _ HB1.out HQ0.out HQ1.out).mono ?_); rintro e w2 ⟨⟨v, rfl, hv⟩, hB2⟩; obtain ⟨p, c, rfl, hc1, hc2, hcc⟩ := hv.open)
    have hlen : L.length ≤ 9223372036854775807 := by omega
    have HCc := Lib.hid hcc
    have HBw := Lib.hid (below_call HB1.out (Nat.le_refl _) hB2)
    clear hcc hB2 hv HC HB1 HQ0 HQ1
    go_loopw [26] (fun x wr => ∃ k : Nat, k ≤ L.length ∧ Hid (firstFault (kindR (allC l)) (L.drop k) = res) ∧ Below w2.heap.size w2 wr ∧ x = .int .i64 k) (fun x _ => L.length - (intOf x).toNat)
    case atStart => exact ⟨0, by omega, HR.out.symm, Below.refl _ _, rfl⟩
    case round =>
      obtain ⟨k, hk, hff, hB, rfl⟩ := hrel
      by_cases hkl : k < L.length
      · obtain ⟨x, hx⟩ : ∃ a, L[k]? = some a := ⟨L[k], by simp [hkl]⟩
        obtain ⟨b, o, vs, rfl, hR, _, hcells⟩ := HCc.out k x hx
        unfold StrCells at hR; subst hR
        have hBw := below_call HBw.out (Nat.le_refl _) hB
        have c0 := (hcells.mono hB hcells.lt).1
        rw [Nat.mul_one] at c0
        have HKx := Lib.hid (HK.out wr x hBw (List.mem_of_getElem? hx))
        have hstep := first_drop (kindR (allC l)) L k x hx
        rw [hff.out] at hstep
        have HBr := Lib.hid hB
        clear hx hcells hff hB
        rcases errV_cases (kindR (allC l) x) with ⟨hv0, hz⟩ | ⟨hv0, hz⟩
        · rw [hv0] at HKx
          rw [if_pos hz] at hstep
          have hst := Lib.hid hstep.symm
          clear hstep hv0 hz hBw
          go_wp2_with (go_at_call 40; (with_reducible refine HKx.out.mono ?_); rintro e w6 ⟨rfl, hB6⟩)
          go_roundw
          case rel => exact ⟨k + 1, by omega, hst.out, below_call HBr.out (Nat.le_refl _) hB6, by simp⟩
          case measure => simp [intOf]; omega
        · rw [hv0] at HKx
          rw [if_neg hz] at hstep
          have HRs := Lib.hid hstep
          have HV := Lib.hid hv0
          have HBk := Lib.hid hBw
          clear hstep hv0 hBw
          generalize kindR (allC l) x = f at *
          go_wp2_with (go_at_call 40; (with_reducible refine HKx.out.mono ?_); rintro e w6 ⟨rfl, hB6⟩)
          go_ret
          exact ⟨by rw [HRs.out, HV.out]; rfl, below_call HBk.out (Nat.le_refl _) hB6⟩
      · obtain rfl : k = L.length := by omega
        have hz : res = 0 := by rw [← hff.out, List.drop_eq_nil_of_le (Nat.le_refl _)]; rfl
        have HZ := Lib.hid hz
        have HBk := Lib.hid (below_call HBw.out (Nat.le_refl _) hB)
        clear hz hff hB
        go_wp2_with (first | fail)
        go_ret
        exact ⟨by rw [HZ.out]; rfl, HBk.out⟩
theorem frameFault_no {l : List Class} {f : Frm} (g : readFault l ≠ 0) : frameFault l f = readFault l := by unfold frameFault; rw [if_pos g]
theorem frameFault_yes {l : List Class} {f : Frm} (g : readFault l = 0) : frameFault l f = frameR (allC l) f := by unfold frameFault; rw [if_neg (by rw [g]; decide)]
set_option maxRecDepth 100000 in
theorem frameCheckL_any (l : List Class) (lv : Value) (f : Frm) (fl fs : Value) (w : World) (hl : Laid w) (ho : ∀ c ∈ l, ClassOk c) (hlv : ClassesAt w lv l) (hf : FrameAt w fl fs f) (hS : FrmShort f) :
    Calls Tryz.prog 33 #[lv, .agg #[fl, fs]] w fun e w' => e = .returned (errV (frameFault l f)) ∧ Below w.heap.size w w' := by
  have HRd : Hid (∀ wx, Below w.heap.size w wx → _) := fun wx hb => readW_any l lv wx (hl.mono hb hl.1) ho (hlv.mono hb)
  have HCk : Hid (∀ w0 wx B, Below w.heap.size w wx → WorldMap w0 wx B l → _) := fun w0 wx B hb hm => frameCheck_any w0 wx B l hm f fl fs (hf.mono hb) hS
  obtain ⟨pl, cap, rfl, _⟩ := hlv.open
  have BX := Lib.hid (boxed_mk w #[fl, fs] 64)
  clear hl ho hlv hf hS
  unfold ReadW at HRd
  by_cases hz : readFault l = 0
  · have HF := Lib.hid (frameFault_yes (f := f) hz)
    have HZ := Lib.hid hz
    clear hz
    go_enter Tryz.func33, Tryz.ntmps33
    go_wp2_with (first
      | (go_at_call 66; (with_reducible refine (HRd.out _ BX.out.below).mono ?_); rintro e w2 ⟨hB2, ⟨_, w0, B, rfl, hm⟩ | ⟨hz, _⟩⟩; rotate_left; (exact absurd HZ.out hz); (have BX2 := BX.out.step hB2); (have q0 := (boxed2 BX2).1); (have q1 := (boxed2 BX2).2))
      | (go_at_call 67; (with_reducible refine (HCk.out _ _ _ BX2.below hm).mono ?_); rintro e w3 ⟨rfl, hB3⟩))
    go_ret
    exact ⟨by rw [HF.out]; rfl, below_call BX2.below (Nat.le_refl _) hB3⟩
  · have HF := Lib.hid (frameFault_no (f := f) hz)
    have HZ := Lib.hid hz
    clear hz
    rcases errV_cases (readFault l) with ⟨_, hz⟩ | ⟨hv, _⟩
    · exact absurd hz HZ.out
    rw [HF.out, hv]
    clear hv HF
    go_enter Tryz.func33, Tryz.ntmps33
    go_wp2_with (go_at_call 66; (with_reducible refine (HRd.out _ BX.out.below).mono ?_); rintro e w2 ⟨hB2, ⟨hz, _⟩ | ⟨_, rfl⟩⟩; (exact absurd hz HZ.out))
    go_ret
    exact ⟨rfl, (BX.out.step hB2).below⟩
theorem frm_eq (a b : Frm) : decide (a = b) = (decide (a.locals = b.locals) && decide (a.stack = b.stack)) := by
  cases a; cases b; rw [Bool.eq_iff_iff]; simp
set_option maxRecDepth 100000 in
theorem frameSame_any (a b : Frm) (a1 a2 b1 b2 : Value) (w : World) (ha : FrameAt w a1 a2 a) (hb : FrameAt w b1 b2 b) :
    Calls Tryz.prog 71 #[.agg #[a1, a2], .agg #[b1, b2]] w fun e w' => e = .returned (.bool (decide (a = b))) ∧ Below w.heap.size w w' := by
  have HE1 : Hid (∀ wx, Below w.heap.size w wx → _) := fun wx h => equal_any a.locals b.locals a1 b1 wx (ha.1.mono h) (hb.1.mono h)
  have HE2 : Hid (∀ wx, Below w.heap.size w wx → _) := fun wx h => equal_any a.stack b.stack a2 b2 wx (ha.2.mono h) (hb.2.mono h)
  rw [frm_eq]
  clear ha hb
  have HB := Lib.hid (((Below.refl w.heap.size w).alloc (Nat.le_refl _) (.cells #[a1, a2] 64)).alloc (by simp) (.cells #[b1, b2] 64))
  obtain ⟨wb, hwb⟩ : ∃ wb, wb = (w.alloc (.cells #[a1, a2] 64)).alloc (.cells #[b1, b2] 64) := ⟨_, rfl⟩
  have HA1 : Hid (Blk wb w.heap.size 64 [a1, a2]) := by
    rw [hwb]
    exact (Blk.new w 64 [a1, a2]).step ((Below.refl _ _).alloc (Nat.le_refl _) _)
  have HA2 : Hid (Blk wb (w.heap.size + 1) 64 [b1, b2]) := by
    rw [hwb]
    have := Blk.new (w.alloc (.cells #[a1, a2] 64)) 64 [b1, b2]
    unfold Hid
    simpa using this
  rw [← hwb] at HB
  have HW := Lib.hid hwb.symm
  clear hwb
  generalize decide (a.locals = b.locals) = d at *
  cases d with
  | true =>
    rw [Bool.true_and]
    generalize decide (a.stack = b.stack) = r at *
    go_enter Tryz.func71, Tryz.ntmps71
    go_wp2_with (first
      | (go_at_call 110; rw [HW.out]; (with_reducible refine (HE1.out _ HB.out).mono ?_); rintro e w3 ⟨rfl, hB3⟩; (have hB3' := below_call HB.out (Nat.le_refl _) hB3); obtain ⟨q0, q1⟩ := (HA1.out.step hB3).cells2; obtain ⟨q2, q3⟩ := (HA2.out.step hB3).cells2)
      | (go_at_call 110; (with_reducible refine (HE2.out _ hB3').mono ?_); rintro e w4 ⟨rfl, hB4⟩))
    go_ret
    exact ⟨rfl, below_call hB3' (Nat.le_refl _) hB4⟩
  | false =>
    rw [Bool.false_and]
    go_enter Tryz.func71, Tryz.ntmps71
    go_wp2_with (first
      | (go_at_call 110; rw [HW.out]; (with_reducible refine (HE1.out _ HB.out).mono ?_); rintro e w3 ⟨rfl, hB3⟩; (have hB3' := below_call HB.out (Nat.le_refl _) hB3)))
    go_ret
    exact ⟨rfl, hB3'⟩
theorem joinL_snoc {cs : List Class} {a b : List Str} {k : Nat} {x y : Str} (h1 : a[k]? = some x) (h2 : b[k]? = some y) : joinL cs (a.take (k + 1)) (b.take (k + 1)) = joinL cs (a.take k) (b.take k) ++ [joinS cs x y] := by
  obtain ⟨k1, rfl⟩ := List.getElem?_eq_some_iff.1 h1
  obtain ⟨k2, rfl⟩ := List.getElem?_eq_some_iff.1 h2
  unfold joinL
  rw [List.take_succ_eq_append_getElem k1, List.take_succ_eq_append_getElem k2, List.zipWith_append (by simp; omega)]
  rfl
theorem joinL_full {cs : List Class} {a b : List Str} (h : a.length = b.length) : joinL cs (a.take a.length) (b.take a.length) = joinL cs a b := by
  rw [List.take_length, h, List.take_length]
theorem joinL_length {cs : List Class} {a b : List Str} (h : a.length = b.length) : (joinL cs a b).length = a.length := by unfold joinL; simp [h]
theorem cell_new1 (w : World) (a : Value) (t : TypeId) : ∀ j u, [a][j]? = some u → (w.alloc (.cells #[a] t)).cell? ((⟨w.heap.size, 0, none⟩ : Addr).add j) = some u := by
  intro j u hj
  match j, hj with
  | 0, hj => simp at hj; subst hj; simp [Addr.add]
theorem one_str (a : Str) : ∀ u ∈ [Value.string a], u.oneCell' = true := by
  intro u hu
  simp at hu; subst hu; rfl
/-- what Both leaves -/
def BothPost (w : World) (cs : List Class) (a b : Frm) (e : Ending) (w' : World) : Prop :=
  Below w.heap.size w w' ∧ ((shapedB a b = true ∧ ∃ v1 v2, e = .returned (.tuple #[.agg #[v1, v2], .bool true]) ∧ FrameAt w' v1 v2 (bothF cs a b)) ∨ (shapedB a b = false ∧ e = .returned (.tuple #[.agg #[.slice none 0 0, .slice none 0 0], .bool false])))
set_option maxHeartbeats 4000000 in
set_option maxRecDepth 100000 in
theorem both_any (w0 w : World) (B : Nat) (l : List Class) (hm : WorldMap w0 w B l) (a b : Frm) (a1 a2 b1 b2 : Value) (ha : FrameAt w a1 a2 a) (hb : FrameAt w b1 b2 b) (hSa : FrmShort a) (hSb : FrmShort b) (hza : frameR (allC l) a = 0) (hzb : frameR (allC l) b = 0) :
    Calls Tryz.prog 74 #[.map (some B), .agg #[a1, a2], .agg #[b1, b2]] w (BothPost w (allC l) a b) := by
  obtain ⟨p1, c1, rfl, _, _, ha1⟩ := ha.1.open
  obtain ⟨p2, c2, rfl, _, _, ha2⟩ := ha.2.open
  obtain ⟨p3, c3, rfl, _, _, hb1⟩ := hb.1.open
  obtain ⟨p4, c4, rfl, _, _, hb2⟩ := hb.2.open
  obtain ⟨hla, hsa, hka1, hka2⟩ := frame_zero hza
  obtain ⟨hlb, hsb, hkb1, hkb2⟩ := frame_zero hzb
  have HO : Hid (∀ wx x y, Below w.heap.size w wx → (x ∈ a.locals ∧ y ∈ b.locals) ∨ (x ∈ a.stack ∧ y ∈ b.stack) → Calls Tryz.prog 112 #[.map (some B), .string x, .string y] wx fun e w' => e = .returned (.string (joinS (allC l) x y)) ∧ Below wx.heap.size wx w') := fun wx x y hB h => by
    have hx : kindR (allC l) x = 0 ∧ kindR (allC l) y = 0 ∧ x.size ≤ 4194304 ∧ y.size ≤ 4194304 := by
      rcases h with ⟨h1, h2⟩ | ⟨h1, h2⟩
      · exact ⟨hka1 x h1, hkb1 y h2, hSa.1 x h1, hSb.1 y h2⟩
      · exact ⟨hka2 x h1, hkb2 y h2, hSa.2 x h1, hSb.2 y h2⟩
    obtain ⟨X, hX⟩ := kind_of hx.1
    obtain ⟨Y, hY⟩ := kind_of hx.2.1
    refine (of_any w0 wx B l (hm.step hB) x y X Y hX hY hx.2.2.1 hx.2.2.2).mono ?_
    rintro e w' ⟨⟨z, rfl, hz, _⟩, hB'⟩
    exact ⟨by rw [joinS_text hX.1 hY.1 hz], hB'⟩
  have HA1 := Lib.hid ha1
  have HA2 := Lib.hid ha2
  have HB1 := Lib.hid hb1
  have HB2 := Lib.hid hb2
  obtain ⟨i0, hi, hz0, hz1, hz2⟩ := info_parts info_string
  obtain ⟨n, hn1⟩ : ∃ n, a.locals.length = n := ⟨_, rfl⟩
  obtain ⟨n', hn2⟩ : ∃ n, b.locals.length = n := ⟨_, rfl⟩
  obtain ⟨m, hm1⟩ : ∃ n, a.stack.length = n := ⟨_, rfl⟩
  obtain ⟨m', hm2⟩ : ∃ n, b.stack.length = n := ⟨_, rfl⟩
  rw [hn1, hn2, hm1, hm2]
  have HBn := Lib.hid ((((Below.refl w.heap.size w).alloc (Nat.le_refl _) (.cells #[.slice p1 n c1, .slice p2 m c2] 64)).alloc (by simp) (.cells #[.slice p3 n' c3, .slice p4 m' c4] 64)).alloc (by simp; omega) (.cells #[.slice none 0 0, .slice none 0 0] 64))
  rw [hn1] at hla
  rw [hm1] at hsa
  unfold BothPost
  clear ha1 ha2 hb1 hb2 hka1 hka2 hkb1 hkb2 hza hzb hSa hSb hm ha hb hlb hsb
  have hsh : shapedB a b = (decide (n = n') && decide (m = m')) := by unfold shapedB; rw [hn1, hn2, hm1, hm2]
  have HN1 := Lib.hid hn1
  have HN2 := Lib.hid hn2
  have HM1 := Lib.hid hm1
  have HM2 := Lib.hid hm2
  clear hn1 hn2 hm1 hm2
  generalize allC l = cs at *
  by_cases h1 : n = n'
  · by_cases h2 : m = m'
    · subst h1 h2
      have z1 : ((n : Int) != (n : Int)) = false := by simp
      have z2 : ((m : Int) != (m : Int)) = false := by simp
      rw [decide_eq_true rfl, decide_eq_true rfl, Bool.and_true] at hsh
      have HS := Lib.hid hsh
      clear hsh
      obtain ⟨w1, hw1⟩ : ∃ w1, w1 = (((w.alloc (.cells #[.slice p1 n c1, .slice p2 m c2] 64)).alloc (.cells #[.slice p3 n c3, .slice p4 m c4] 64)).alloc (.cells #[.slice none 0 0, .slice none 0 0] 64)).alloc (.cells #[.slice none 0 0, .slice none 0 0] 64) := ⟨_, rfl⟩
      have hB1' : Below w.heap.size w w1 := by rw [hw1]; exact HBn.out.alloc (by simp; omega) _
      have hsz : w1.heap.size = w.heap.size + 4 := by rw [hw1]; simp
      have hk0 : Blk w1 w.heap.size 64 [.slice p1 n c1, .slice p2 m c2] := by
        rw [hw1]
        exact (Blk.new w 64 _).step ((((Below.refl _ _).alloc (Nat.le_refl _) _).alloc (by simp) _).alloc (by simp) _)
      have hk1 : Blk w1 (w.heap.size + 1) 64 [.slice p3 n c3, .slice p4 m c4] := by
        rw [hw1]
        have := (Blk.new (w.alloc (.cells #[.slice p1 n c1, .slice p2 m c2] 64)) 64 [.slice p3 n c3, .slice p4 m c4]).step (((Below.refl _ _).alloc (Nat.le_refl _) (.cells #[.slice none 0 0, .slice none 0 0] 64)).alloc (by simp) (.cells #[.slice none 0 0, .slice none 0 0] 64))
        simpa using this
      have hk2 : Blk w1 (w.heap.size + 1 + 1) 64 [.slice none 0 0, .slice none 0 0] := by
        rw [hw1]
        have := (Blk.new ((w.alloc (.cells #[.slice p1 n c1, .slice p2 m c2] 64)).alloc (.cells #[.slice p3 n c3, .slice p4 m c4] 64)) 64 [.slice none 0 0, .slice none 0 0]).step ((Below.refl _ _).alloc (Nat.le_refl _) (.cells #[.slice none 0 0, .slice none 0 0] 64))
        simpa using this
      have hk3 : Blk w1 (w.heap.size + 1 + 1 + 1) 64 [.slice none 0 0, .slice none 0 0] := by
        rw [hw1]
        have := Blk.new (((w.alloc (.cells #[.slice p1 n c1, .slice p2 m c2] 64)).alloc (.cells #[.slice p3 n c3, .slice p4 m c4] 64)).alloc (.cells #[.slice none 0 0, .slice none 0 0] 64)) 64 [.slice none 0 0, .slice none 0 0]
        simpa using this
      have HW := Lib.hid hw1.symm
      go_enter Tryz.func74, Tryz.ntmps74
      go_wp2_with (first | fail)
      rw [HW.out]
      clear HW hw1 HBn
      have HK0 := Lib.hid hk0
      have HK1 := Lib.hid hk1
      have HK2 := Lib.hid hk2
      have HK3 := Lib.hid hk3
      have HBw := Lib.hid hB1'
      have HSz : Hid (w.heap.size + 4 ≤ w1.heap.size) := by unfold Hid; omega
      clear hk0 hk1 hk2 hk3 hB1' hsz
      go_loopw [33] (fun x wr => ∃ (k : Nat) (v : Value), k ≤ n ∧ Hid (Blk wr w.heap.size 64 [.slice p1 n c1, .slice p2 m c2]) ∧ Hid (Blk wr (w.heap.size + 1) 64 [.slice p3 n c3, .slice p4 m c4]) ∧ Hid (Blk wr (w.heap.size + 1 + 1) 64 [.slice none 0 0, .slice none 0 0]) ∧ Hid (Blk wr (w.heap.size + 1 + 1 + 1) 64 [v, .slice none 0 0]) ∧ Hid (wr.ownsRow (w.heap.size + 4) 9 1 v k ((joinL cs (a.locals.take k) (b.locals.take k)).map Value.string)) ∧ Below w.heap.size w wr ∧ Hid (w.heap.size + 4 ≤ wr.heap.size) ∧ x = .int .i64 k) (fun x _ => n - (intOf x).toNat)
      case atStart => exact ⟨0, _, by omega, HK0.out, HK1.out, HK2.out, HK3.out, World.ownsRow_nil _ _ _ _, HBw.out, HSz.out, rfl⟩
      case round =>
        clear HK0 HK1 HK2 HK3 HBw HSz
        obtain ⟨k, v, hk, hk0, hk1, hk2, hk3, hown, hB, hws, rfl⟩ := hrel
        by_cases hkl : k < n
        · obtain ⟨va, vc, rfl⟩ := ownsRow_shape hown.out
          obtain ⟨x, hx⟩ : ∃ x, a.locals[k]? = some x := ⟨a.locals[k]'(by rw [HN1.out]; exact hkl), by simp⟩
          obtain ⟨y, hy⟩ : ∃ y, b.locals[k]? = some y := ⟨b.locals[k]'(by rw [HN2.out]; exact hkl), by simp⟩
          obtain ⟨ba, oa, vs, rfl, hR, _, hca⟩ := HA1.out k x hx
          unfold StrCells at hR; subst hR
          obtain ⟨bb, ob, vs, rfl, hR, _, hcb⟩ := HB1.out k y hy
          unfold StrCells at hR; subst hR
          have c0 := (hca.mono hB hca.lt).1
          have d0 := (hcb.mono hB hcb.lt).1
          rw [Nat.mul_one] at c0 d0
          have e1 := hk1.out.cells2
          have q1 : wr.cell? ⟨w.heap.size + 1, 0, none⟩ = some (.slice (some ⟨bb, ob, none⟩) n c3) := e1.1
          have e3 := hk3.out.cells2
          have q3 : wr.cell? ⟨w.heap.size + 1 + 1 + 1, 0, none⟩ = some (.slice va k vc) := e3.1
          have hst := joinL_snoc (cs := cs) hx hy
          have HOx := Lib.hid (fun wx hb => HO.out wx x y hb (Or.inl ⟨List.mem_of_getElem? hx, List.mem_of_getElem? hy⟩))
          generalize joinS cs x y = z at *
          have HSt := Lib.hid hst
          have HBr := Lib.hid hB
          have b3 := Lib.hid q3
          clear hst hx hy hca hcb hB e1 e3
          go_upto_region 7 with (first | fail)
          have hb63 : k + 1 ≤ maxLen := by unfold maxLen; omega
          have hb16 : (k + 1) * 16 ≤ 140737488355328 := by omega
          have hno : ∀ b, b < w.heap.size + 4 → (Value.slice va k vc).ownBlock ≠ some b := fun b hb e => by have := (hown.out.lt _ e).1; omega
          have hi1 : (k : Int) < (n : Int) := by omega
          have hi0 : (0 : Int) ≤ (k : Int) := by omega
          go_region_law (first
            | (refine step_append_lies _ (by rfl) _ _ 43 (by rfl) (w.heap.size + 4) 9 i0 (.string .empty) 1 16 Tryz.underlying43 hi hz0 hz1 hz2 rfl (by decide) _ k _ (by rfl) hown7 ⟨w6.heap.size, 0, none⟩ 1 1 [.string z] (by rfl) rfl (cell_new1 w6 _ 9) (one_str _) (by decide) hb63 hb16 hbase7 (w6.heap.size + 1) (by simp) ?_; intro g cap w8 hown8 hgrow hat hlt; (have hk8 := hk37.grown hgrow (hno _ (by omega))); (have e8 := hk8.cells2); (have f8 := hk8.frozen 0))
            | (go_simp; go_at_call 112; refine (HOx.out _ (HBr.out.drew)).mono ?_; rintro e w6 ⟨rfl, hB6'⟩; (have hB6 := below_call ((Below.refl wr.heap.size wr).drew) (Nat.le_refl _) hB6'); (have d3 := (hB6.cell (p := ⟨w.heap.size + 1 + 1 + 1, 0, none⟩) (cells_blk b3.out)).trans b3.out); (have d4 := Lib.cell?_alloc_some (.cells #[.string z] 9) d3); (have hBy := hB6.alloc hB6.size (.cells #[.string z] 9)); (have hown7 := ownsRow_belowk hown.out hBy); (have hk37 := hk3.out.step hBy); (have hbase7 := Nat.le_trans hws.out hBy.size)))
          all_goals
            have hk07 := Lib.hid ((hk0.out.step hBy).grown hgrow (hno _ (by omega)))
            have hk17 := Lib.hid ((hk1.out.step hBy).grown hgrow (hno _ (by omega)))
            have hk27 := Lib.hid ((hk2.out.step hBy).grown hgrow (hno _ (by omega)))
            have hK8 := Lib.hid hk8
            have hO8 := Lib.hid hown8
            have hW8 : Hid (w.heap.size + 4 ≤ w8.heap.size) := Nat.le_trans hbase7 hgrow.size
            have hB8 := Lib.hid ((below_call HBr.out (Nat.le_refl _) hBy).grown hgrow (below_call HBr.out (Nat.le_refl _) hBy).size (fun g e => by have := (hown.out.lt g e).1; omega))
            obtain ⟨e8a, e8b⟩ := e8
            clear d3 d4 hBy hown7 hk37 hbase7 hgrow hat hlt hk8 hown8 hB6 hB6' b3 hno hk0 hk1 hk2 hk3 hown hws HOx c0 d0 q1 q3
            go_wp2_with (first | fail)
            go_roundw
            case rel => exact ⟨k + 1, Value.slice (some ⟨g, 0, none⟩) (k + 1) cap, by omega, hk07.out.other' (by show w.heap.size + 1 + 1 + 1 ≠ _; omega) _, hk17.out.other' (by show w.heap.size + 1 + 1 + 1 ≠ _; omega) _, hk27.out.other' (by show w.heap.size + 1 + 1 + 1 ≠ _; omega) _, hK8.out.put 0 _, by unfold Hid; rw [HSt.out, List.map_append]; exact owns_other' hO8.out (by omega) _ _, hB8.out.setCell (by show w.heap.size ≤ w.heap.size + 1 + 1 + 1; omega) _, copy_size hW8.out _ _, by simp⟩
            case measure => simp [intOf]; omega
        · obtain ⟨g1, k1, rfl⟩ := ownsRow_shape hown.out
          obtain rfl : n = k := by omega
          have hj := joinL_full (cs := cs) (a := a.locals) (b := b.locals) (by rw [HN1.out, HN2.out])
          rw [HN1.out] at hj
          have ho1 := hown.out
          rw [hj] at ho1
          obtain ⟨q0, q1⟩ := hk0.out.cells2
          have HK0 := Lib.hid hk0.out
          have HK1 := Lib.hid hk1.out
          have HK2 := Lib.hid hk2.out
          have HK3 := Lib.hid hk3.out
          have HO1 := Lib.hid ho1
          have HBw := Lib.hid hB
          have HSz := Lib.hid hws.out
          clear hk0 hk1 hk2 hk3 hown hB hws ho1 hj
          go_wp2_with (first | fail)
          go_loopw [55] (fun x wr => ∃ (k : Nat) (v : Value), k ≤ m ∧ Hid (Blk wr w.heap.size 64 [.slice p1 n c1, .slice p2 m c2]) ∧ Hid (Blk wr (w.heap.size + 1) 64 [.slice p3 n c3, .slice p4 m c4]) ∧ Hid (Blk wr (w.heap.size + 1 + 1) 64 [.slice none 0 0, .slice none 0 0]) ∧ Hid (Blk wr (w.heap.size + 1 + 1 + 1) 64 [.slice g1 n k1, v]) ∧ Hid (wr.ownsRow (w.heap.size + 4) 9 1 v k ((joinL cs (a.stack.take k) (b.stack.take k)).map Value.string)) ∧ Hid (wr.ownsRow (w.heap.size + 4) 9 1 (.slice g1 n k1) n ((joinL cs a.locals b.locals).map Value.string)) ∧ Hid (∀ g, (Value.slice g1 n k1).ownBlock = some g → v.ownBlock ≠ some g) ∧ Below w.heap.size w wr ∧ Hid (w.heap.size + 4 ≤ wr.heap.size) ∧ x = .int .i64 k) (fun x _ => m - (intOf x).toNat)
          case atStart => exact ⟨0, _, by omega, HK0.out, HK1.out, HK2.out, HK3.out, World.ownsRow_nil _ _ _ _, HO1.out, (by intro g _ h; cases h), HBw.out, HSz.out, rfl⟩
          case round =>
            clear HK0 HK1 HK2 HK3 HBw HSz HO1
            obtain ⟨k, v, hk, hk0, hk1, hk2, hk3, hown, hown1, hap, hB, hws, rfl⟩ := hrel
            by_cases hkl : k < m
            · obtain ⟨va, vc, rfl⟩ := ownsRow_shape hown.out
              obtain ⟨x, hx⟩ : ∃ x, a.stack[k]? = some x := ⟨a.stack[k]'(by rw [HM1.out]; exact hkl), by simp⟩
              obtain ⟨y, hy⟩ : ∃ y, b.stack[k]? = some y := ⟨b.stack[k]'(by rw [HM2.out]; exact hkl), by simp⟩
              obtain ⟨ba, oa, vs, rfl, hR, _, hca⟩ := HA2.out k x hx
              unfold StrCells at hR; subst hR
              obtain ⟨bb, ob, vs, rfl, hR, _, hcb⟩ := HB2.out k y hy
              unfold StrCells at hR; subst hR
              have c0 := (hca.mono hB hca.lt).1
              have d0 := (hcb.mono hB hcb.lt).1
              rw [Nat.mul_one] at c0 d0
              have e1 := hk1.out.cells2
              have q1 : wr.cell? ⟨w.heap.size + 1, 1, none⟩ = some (.slice (some ⟨bb, ob, none⟩) m c4) := e1.2
              have e3 := hk3.out.cells2
              have q3 : wr.cell? ⟨w.heap.size + 1 + 1 + 1, 1, none⟩ = some (.slice va k vc) := e3.2
              have hst := joinL_snoc (cs := cs) hx hy
              have HOx := Lib.hid (fun wx hb => HO.out wx x y hb (Or.inr ⟨List.mem_of_getElem? hx, List.mem_of_getElem? hy⟩))
              generalize joinS cs x y = z at *
              have HSt := Lib.hid hst
              have HBr := Lib.hid hB
              have b3 := Lib.hid q3
              clear hst hx hy hca hcb hB e1 e3
              go_upto_region 12 with (first | fail)
              have hb63 : k + 1 ≤ maxLen := by unfold maxLen; omega
              have hb16 : (k + 1) * 16 ≤ 140737488355328 := by omega
              have hno : ∀ b, b < w.heap.size + 4 → (Value.slice va k vc).ownBlock ≠ some b := fun b hb e => by have := (hown.out.lt _ e).1; omega
              have hi1 : (k : Int) < (m : Int) := by omega
              have hi0 : (0 : Int) ≤ (k : Int) := by omega
              go_region_law (first
                | (refine step_append_lies _ (by rfl) _ _ 43 (by rfl) (w.heap.size + 4) 9 i0 (.string .empty) 1 16 Tryz.underlying43 hi hz0 hz1 hz2 rfl (by decide) _ k _ (by rfl) hown7 ⟨w6.heap.size, 0, none⟩ 1 1 [.string z] (by rfl) rfl (cell_new1 w6 _ 9) (one_str _) (by decide) hb63 hb16 hbase7 (w6.heap.size + 1) (by simp) ?_; intro g cap w8 hown8 hgrow hat hlt; (have hk8 := hk37.grown hgrow (hno _ (by omega))); (have e8 := hk8.cells2); (have f8 := hk8.frozen 1))
                | (go_simp; go_at_call 112; refine (HOx.out _ (HBr.out.drew)).mono ?_; rintro e w6 ⟨rfl, hB6'⟩; (have hB6 := below_call ((Below.refl wr.heap.size wr).drew) (Nat.le_refl _) hB6'); (have d3 := (hB6.cell (p := ⟨w.heap.size + 1 + 1 + 1, 1, none⟩) (cells_blk b3.out)).trans b3.out); (have d4 := Lib.cell?_alloc_some (.cells #[.string z] 9) d3); (have hBy := hB6.alloc hB6.size (.cells #[.string z] 9)); (have hown7 := ownsRow_belowk hown.out hBy); (have hk37 := hk3.out.step hBy); (have hbase7 := Nat.le_trans hws.out hBy.size)))
              all_goals
                have hk07 := Lib.hid ((hk0.out.step hBy).grown hgrow (hno _ (by omega)))
                have hk17 := Lib.hid ((hk1.out.step hBy).grown hgrow (hno _ (by omega)))
                have hk27 := Lib.hid ((hk2.out.step hBy).grown hgrow (hno _ (by omega)))
                have hK8 := Lib.hid hk8
                have hO8 := Lib.hid hown8
                have hW8 : Hid (w.heap.size + 4 ≤ w8.heap.size) := Nat.le_trans hbase7 hgrow.size
                have hB8 := Lib.hid ((below_call HBr.out (Nat.le_refl _) hBy).grown hgrow (below_call HBr.out (Nat.le_refl _) hBy).size (fun g e => by have := (hown.out.lt g e).1; omega))
                have hG8 : ∀ g0, (Value.slice g1 n k1).ownBlock = some g0 → g0 ≠ g := fun g0 e0 he => by
                  subst he
                  rcases hat with h | h
                  · exact hap.out _ e0 h
                  · have h1 := (hown1.out.lt _ e0).2
                    have h2 := hBy.size
                    have h3 := hB6.size
                    omega
                have hP8 := Lib.hid ((ownsRow_belowk hown1.out hBy).kept hgrow (by
                  cases h : (Value.slice g1 n k1).ownBlock with
                  | none => exact Or.inl rfl
                  | some g0 => exact Or.inr (fun e => hap.out g0 h e.symm)))
                have hA8 : Hid (∀ g0, (Value.slice g1 n k1).ownBlock = some g0 → (Value.slice (some ⟨g, 0, none⟩) (k + 1) cap).ownBlock ≠ some g0) := fun g0 e0 he => hG8 g0 e0 (by injection he with he; exact he.symm)
                obtain ⟨e8a, e8b⟩ := e8
                clear d3 d4 hBy hown7 hk37 hbase7 hgrow hat hlt hk8 hown8 hB6 hB6' b3 hno hk0 hk1 hk2 hk3 hown hws HOx c0 d0 q1 q3 hG8 hown1 hap
                go_wp2_with (first | fail)
                go_roundw
                case rel => exact ⟨k + 1, Value.slice (some ⟨g, 0, none⟩) (k + 1) cap, by omega, hk07.out.other' (by show w.heap.size + 1 + 1 + 1 ≠ _; omega) _, hk17.out.other' (by show w.heap.size + 1 + 1 + 1 ≠ _; omega) _, hk27.out.other' (by show w.heap.size + 1 + 1 + 1 ≠ _; omega) _, hK8.out.put 1 _, by unfold Hid; rw [HSt.out, List.map_append]; exact owns_other' hO8.out (by omega) _ _, owns_other' hP8.out (by omega) _ _, hA8.out, hB8.out.setCell (by show w.heap.size ≤ w.heap.size + 1 + 1 + 1; omega) _, copy_size hW8.out _ _, by simp⟩
                case measure => simp [intOf]; omega
            · obtain ⟨va, vc, rfl⟩ := ownsRow_shape hown.out
              obtain rfl : m = k := by omega
              have hj := joinL_full (cs := cs) (a := a.stack) (b := b.stack) (by rw [HM1.out, HM2.out])
              rw [HM1.out] at hj
              have ho2 := hown.out
              rw [hj] at ho2
              obtain ⟨q0, q1⟩ := hk3.out.cells2
              obtain ⟨q2, q3⟩ := hk2.out.cells2
              have f2 := hk2.out.frozen 0
              have f3 := hk2.out.frozen 1
              have HR1 := Lib.hid (owns_other' (owns_other' hown1.out (show w.heap.size + 1 + 1 < w.heap.size + 4 by omega) 0 (.slice g1 n k1)) (show w.heap.size + 1 + 1 < w.heap.size + 4 by omega) 1 (.slice va m vc))
              have HR2 := Lib.hid (owns_other' (owns_other' ho2 (show w.heap.size + 1 + 1 < w.heap.size + 4 by omega) 0 (.slice g1 n k1)) (show w.heap.size + 1 + 1 < w.heap.size + 4 by omega) 1 (.slice va m vc))
              have HBw := Lib.hid (below_set2 (b := w.heap.size + 1 + 1) hB (by omega) (.slice g1 n k1) (.slice va m vc))
              clear hk0 hk1 hk2 hk3 hown hown1 hap hB hws ho2 hj
              go_wp2_with (first | fail)
              refine bodyPost_ret (v := .tuple #[.agg #[.slice g1 n k1, .slice va m vc], .bool true]) (by simp [results, Tryz.results74, go_sem, *]) rfl ⟨HBw.out, Or.inl ⟨HS.out, _, _, rfl, ?_⟩⟩
              exact ⟨strsAt_of_owns (l := joinL cs a.locals b.locals) (by rw [joinL_length (by rw [HN1.out, HN2.out]), HN1.out]; exact HR1.out), strsAt_of_owns (l := joinL cs a.stack b.stack) (by rw [joinL_length (by rw [HM1.out, HM2.out]), HM1.out]; exact HR2.out)⟩
    · have z1 : ((n : Int) != (n' : Int)) = false := by simp [h1]
      have z2 : ((m : Int) != (m' : Int)) = true := by simp; omega
      rw [decide_eq_false h2, Bool.and_false] at hsh
      have HS := Lib.hid hsh
      clear hsh h1 h2
      go_enter Tryz.func74, Tryz.ntmps74
      go_wp2_with (first | fail)
      exact bodyPost_ret (v := .tuple #[.agg #[.slice none 0 0, .slice none 0 0], .bool false]) (by simp [results, Tryz.results74, go_sem, *]) rfl ⟨HBn.out, Or.inr ⟨HS.out, rfl⟩⟩
  · have z1 : ((n : Int) != (n' : Int)) = true := by simp; omega
    rw [decide_eq_false h1, Bool.false_and] at hsh
    have HS := Lib.hid hsh
    clear hsh h1
    go_enter Tryz.func74, Tryz.ntmps74
    go_wp2_with (first | fail)
    exact bodyPost_ret (v := .tuple #[.agg #[.slice none 0 0, .slice none 0 0], .bool false]) (by simp [results, Tryz.results74, go_sem, *]) rfl ⟨HBn.out, Or.inr ⟨HS.out, rfl⟩⟩
end Go.Proofs.YtbakcdgjibmceaaGreatDoor
namespace Go.Proofs.YtbakcdgjibmceaaGreatDoor
open Go.RowKit Go.Shelf Go.Lib
/-- what frame.Join leaves -/
def FJoinPost (w : World) (l : List Class) (a b : Frm) (e : Ending) (w' : World) : Prop :=
  Below w.heap.size w w' ∧ ((framesFault l a b = 0 ∧ ∃ v1 v2, e = .returned (.tuple #[.agg #[v1, v2], .nilIface]) ∧ FrameAt w' v1 v2 (bothF (allC l) a b)) ∨ (framesFault l a b ≠ 0 ∧ e = .returned (.tuple #[.agg #[.slice none 0 0, .slice none 0 0], .iface 35 (.int .i64 (framesFault l a b))])))
theorem framesFault_no {l : List Class} {a b : Frm} (g : readFault l ≠ 0) : framesFault l a b = readFault l := by unfold framesFault; rw [if_pos g]
theorem framesFault_yes {l : List Class} {a b : Frm} (g : readFault l = 0) : framesFault l a b = framesR (allC l) a b := by unfold framesFault; rw [if_neg (by rw [g]; decide)]
theorem framesR_a {cs : List Class} {a b : Frm} (h : frameR cs a ≠ 0) : framesR cs a b = frameR cs a := by unfold framesR; rw [if_pos h]
theorem framesR_b {cs : List Class} {a b : Frm} (h : frameR cs a = 0) (g : frameR cs b ≠ 0) : framesR cs a b = frameR cs b := by unfold framesR; rw [if_neg (by rw [h]; decide), if_pos g]
theorem framesR_shape {cs : List Class} {a b : Frm} (h : frameR cs a = 0) (g : frameR cs b = 0) : framesR cs a b = if shapedB a b then 0 else 8 := by unfold framesR; rw [if_neg (by rw [h]; decide), if_neg (by rw [g]; decide)]
/-- a list of texts lies apart from a block that holds none -/
theorem StrsAt.apart {w : World} {v : Value} {l : List Str} {b : Nat} {t : TypeId} {x y : Value} (h : StrsAt w v l) (hk : Blk w b t [x, y]) (hx : ∀ s, x ≠ .string s) (hy : ∀ s, y ≠ .string s) {w' : World} (hw : ∀ g, g ≠ b → w'.heap[g]? = w.heap[g]?) : StrsAt w' v l := by
  cases l with
  | nil =>
    rcases h with h | ⟨a, cap, h1, h2, h3, _⟩
    · exact Or.inl h
    · exact Or.inr ⟨a, cap, h1, h2, h3, fun i x hx => by simp at hx⟩
  | cons z r =>
    refine SliceOf.block h fun g hg => hw g fun he => ?_
    subst he
    rcases h with ⟨_, h⟩ | ⟨a, cap, h1, h2, h3, h4⟩
    · cases h
    · rw [h1] at hg
      injection hg with hg
      subst hg
      obtain ⟨vs, r1, _, _, r4⟩ := h4 0 z rfl
      unfold StrCells at r1; subst r1
      have hc := r4.1
      rw [hk.cell] at hc
      rcases Nat.lt_or_ge (a.off + 0 * 1) 2 with h | h
      · have : a.off + 0 * 1 = 0 ∨ a.off + 0 * 1 = 1 := by omega
        rcases this with h | h <;> rw [h] at hc <;> injection hc with hc
        · exact hx _ hc
        · exact hy _ hc
      · rw [List.getElem?_eq_none (by simpa using h)] at hc; cases hc
set_option maxHeartbeats 4000000 in
set_option maxRecDepth 100000 in
theorem frameJoin_any (l : List Class) (lv : Value) (a b : Frm) (a1 a2 b1 b2 : Value) (w : World) (hl : Laid w) (ho : ∀ c ∈ l, ClassOk c) (hlv : ClassesAt w lv l) (ha : FrameAt w a1 a2 a) (hb : FrameAt w b1 b2 b) (hSa : FrmShort a) (hSb : FrmShort b) :
    Calls Tryz.prog 37 #[lv, .agg #[a1, a2], .agg #[b1, b2]] w (FJoinPost w l a b) := by
  have HRd : Hid (∀ wx, Below w.heap.size w wx → _) := fun wx hb => readW_any l lv wx (hl.mono hb hl.1) ho (hlv.mono hb)
  have HCa : Hid (∀ w0 wx B, Below w.heap.size w wx → WorldMap w0 wx B l → _) := fun w0 wx B hx hm => frameCheck_any w0 wx B l hm a a1 a2 (ha.mono hx) hSa
  have HCb : Hid (∀ w0 wx B, Below w.heap.size w wx → WorldMap w0 wx B l → _) := fun w0 wx B hx hm => frameCheck_any w0 wx B l hm b b1 b2 (hb.mono hx) hSb
  have HBo : Hid (∀ w0 wx B, Below w.heap.size w wx → WorldMap w0 wx B l → frameR (allC l) a = 0 → frameR (allC l) b = 0 → _) := fun w0 wx B hx hm h1 h2 => both_any w0 wx B l hm a b a1 a2 b1 b2 (ha.mono hx) (hb.mono hx) hSa hSb h1 h2
  obtain ⟨pl, cap, rfl, _⟩ := hlv.open
  obtain ⟨p1, c1, rfl, _⟩ := ha.1.open
  obtain ⟨p2, c2, rfl, _⟩ := ha.2.open
  obtain ⟨p3, c3, rfl, _⟩ := hb.1.open
  obtain ⟨p4, c4, rfl, _⟩ := hb.2.open
  have x0 : ∀ w : World, (Instr.index 114 (.agg #[.slice p1 a.locals.length c1, .slice p2 a.stack.length c2, .slice p3 b.locals.length c3, .slice p4 b.stack.length c4]) (.int .i64 0)).run Tryz.prog w = .ok (.agg #[.slice p1 a.locals.length c1, .slice p2 a.stack.length c2]) w := fun _ => by kernel_rfl
  have x1 : ∀ w : World, (Instr.index 114 (.agg #[.slice p1 a.locals.length c1, .slice p2 a.stack.length c2, .slice p3 b.locals.length c3, .slice p4 b.stack.length c4]) (.int .i64 1)).run Tryz.prog w = .ok (.agg #[.slice p3 b.locals.length c3, .slice p4 b.stack.length c4]) w := fun _ => by kernel_rfl
  obtain ⟨n1, hn1⟩ : ∃ n, a.locals.length = n := ⟨_, rfl⟩
  obtain ⟨n2, hn2⟩ : ∃ n, a.stack.length = n := ⟨_, rfl⟩
  obtain ⟨n3, hn3⟩ : ∃ n, b.locals.length = n := ⟨_, rfl⟩
  obtain ⟨n4, hn4⟩ : ∃ n, b.stack.length = n := ⟨_, rfl⟩
  rw [hn1, hn2] at HCa x0 x1
  rw [hn3, hn4] at HCb x0 x1
  rw [hn1, hn2, hn3, hn4] at HBo
  rw [hn1, hn2, hn3, hn4]
  clear hn1 hn2 hn3 hn4
  obtain ⟨w1, hw1⟩ : ∃ w1, w1 = ((w.alloc (.cells #[.slice p1 n1 c1, .slice p2 n2 c2] 64)).alloc (.cells #[.slice p3 n3 c3, .slice p4 n4 c4] 64)).alloc (.cells #[.slice none 0 0, .slice none 0 0] 64) := ⟨_, rfl⟩
  have HB1 : Hid (Below w.heap.size w w1) := by rw [hw1]; exact (((Below.refl _ _).alloc (Nat.le_refl _) _).alloc (by simp) _).alloc (by simp; omega) _
  have HK0 : Hid (Blk w1 w.heap.size 64 [.slice p1 n1 c1, .slice p2 n2 c2]) := by
    rw [hw1]
    exact (Blk.new w 64 _).step (((Below.refl _ _).alloc (Nat.le_refl _) _).alloc (by simp) _)
  have HK1 : Hid (Blk w1 (w.heap.size + 1) 64 [.slice p3 n3 c3, .slice p4 n4 c4]) := by
    rw [hw1]
    have := (Blk.new (w.alloc (.cells #[.slice p1 n1 c1, .slice p2 n2 c2] 64)) 64 [.slice p3 n3 c3, .slice p4 n4 c4]).step ((Below.refl _ _).alloc (Nat.le_refl _) (.cells #[.slice none 0 0, .slice none 0 0] 64))
    unfold Hid
    simpa using this
  have HK2 : Hid (Blk w1 (w.heap.size + 1 + 1) 64 [.slice none 0 0, .slice none 0 0]) := by
    rw [hw1]
    have := Blk.new ((w.alloc (.cells #[.slice p1 n1 c1, .slice p2 n2 c2] 64)).alloc (.cells #[.slice p3 n3 c3, .slice p4 n4 c4] 64)) 64 [.slice none 0 0, .slice none 0 0]
    unfold Hid
    simpa using this
  have HW := Lib.hid hw1.symm
  clear hl ho hlv ha hb hSa hSb hw1
  unfold ReadW at HRd
  unfold BothPost at HBo
  unfold FJoinPost
  by_cases hz : readFault l = 0
  · have HF := Lib.hid (framesFault_yes (a := a) (b := b) hz)
    have HZ := Lib.hid hz
    clear hz
    go_enter Tryz.func37, Tryz.ntmps37
    go_wp2_with (first
      | (go_at_call 66; rw [HW.out]; (with_reducible refine (HRd.out _ HB1.out).mono ?_); rintro e w2 ⟨hB2, ⟨_, w0, B, rfl, hm⟩ | ⟨hz, _⟩⟩; rotate_left; (exact absurd HZ.out hz); (have hk0 := HK0.out.step hB2); obtain ⟨q0, q1⟩ := hk0.cells2; (have hk1 := HK1.out.step hB2); obtain ⟨q2, q3⟩ := hk1.cells2; (have hk2 := HK2.out.step hB2)))
    have HB2 := Lib.hid (below_call HB1.out (Nat.le_refl _) hB2)
    have HM := Lib.hid hm
    have HK02 := Lib.hid hk0
    have HK12 := Lib.hid hk1
    have HK22 := Lib.hid hk2
    clear hk0 hk1 hk2 hB2 hm HB1 HK0 HK1 HK2 q0 q1 q2 q3 HW
    go_loopw [27] (fun x wr => Hid (Blk wr w.heap.size 64 [.slice p1 n1 c1, .slice p2 n2 c2]) ∧ Hid (Blk wr (w.heap.size + 1) 64 [.slice p3 n3 c3, .slice p4 n4 c4]) ∧ Hid (Blk wr (w.heap.size + 1 + 1) 64 [.slice none 0 0, .slice none 0 0]) ∧ Hid (Below w.heap.size w wr) ∧ Hid (WorldMap w0 wr B l) ∧ (x = .int .i64 0 ∨ (x = .int .i64 1 ∧ frameR (allC l) a = 0) ∨ (x = .int .i64 2 ∧ frameR (allC l) a = 0 ∧ frameR (allC l) b = 0))) (fun x _ => 2 - (intOf x).toNat)
    case atStart => exact ⟨HK02.out, HK12.out, HK22.out, HB2.out, HM.out, Or.inl rfl⟩
    case round =>
      obtain ⟨hk0, hk1, hk2, hB, hm, rfl | ⟨rfl, hfa⟩ | ⟨rfl, hfa, hfb⟩⟩ := hrel
      · have hBa := hB.out.alloc hB.out.size (.cells #[.slice p1 n1 c1, .slice p2 n2 c2] 64)
        have hma := hm.out.step ((Below.refl _ _).alloc (Nat.le_refl _) (.cells #[.slice p1 n1 c1, .slice p2 n2 c2] 64))
        have HCk := Lib.hid (HCa.out _ _ _ hBa hma)
        have HBa := Lib.hid hBa
        have HMa := Lib.hid hma
        have ka0 := Lib.hid (hk0.out.step ((Below.refl _ _).alloc (Nat.le_refl _) (.cells #[.slice p1 n1 c1, .slice p2 n2 c2] 64)))
        have ka1 := Lib.hid (hk1.out.step ((Below.refl _ _).alloc (Nat.le_refl _) (.cells #[.slice p1 n1 c1, .slice p2 n2 c2] 64)))
        have ka2 := Lib.hid (hk2.out.step ((Below.refl _ _).alloc (Nat.le_refl _) (.cells #[.slice p1 n1 c1, .slice p2 n2 c2] 64)))
        clear hBa hma hB hm hk0 hk1 hk2
        rcases errV_cases (frameR (allC l) a) with ⟨hv0, hz⟩ | ⟨hv0, hz⟩
        · rw [hv0] at HCk
          have HZf := Lib.hid hz
          clear hv0 hz
          go_wp2_with (go_at_call 67; (with_reducible refine HCk.out.mono ?_); rintro e w6 ⟨rfl, hB6⟩)
          go_roundw
          case rel => exact ⟨ka0.out.step hB6, ka1.out.step hB6, ka2.out.step hB6, below_call HBa.out (Nat.le_refl _) hB6, HMa.out.step hB6, Or.inr (Or.inl ⟨by simp, HZf.out⟩)⟩
          case measure => simp [intOf]
        · rw [hv0] at HCk
          have HV := Lib.hid hv0
          have HNz := Lib.hid hz
          have HFf : Hid (framesFault l a b = frameR (allC l) a) := HF.out.trans (framesR_a hz)
          clear hv0 hz
          generalize frameR (allC l) a = f at *
          go_wp2_with (go_at_call 67; (with_reducible refine HCk.out.mono ?_); rintro e w6 ⟨rfl, hB6⟩; (have kb2 := ka2.out.step hB6); obtain ⟨q4, q5⟩ := kb2.cells2; (have f4 := kb2.frozen 0); (have f5 := kb2.frozen 1))
          exact bodyPost_ret (v := .tuple #[.agg #[.slice none 0 0, .slice none 0 0], .iface 35 (.int .i64 f)]) (by simp [results, Tryz.results37, go_sem, *]) rfl ⟨below_set2 (b := w.heap.size + 1 + 1) (below_call HBa.out (Nat.le_refl _) hB6) (by omega) _ _, Or.inr ⟨by rw [HFf.out]; exact HNz.out, by rw [HFf.out]⟩⟩
      · have hBa := hB.out.alloc hB.out.size (.cells #[.slice p3 n3 c3, .slice p4 n4 c4] 64)
        have hma := hm.out.step ((Below.refl _ _).alloc (Nat.le_refl _) (.cells #[.slice p3 n3 c3, .slice p4 n4 c4] 64))
        have HCk := Lib.hid (HCb.out _ _ _ hBa hma)
        have HBa := Lib.hid hBa
        have HMa := Lib.hid hma
        have ka0 := Lib.hid (hk0.out.step ((Below.refl _ _).alloc (Nat.le_refl _) (.cells #[.slice p3 n3 c3, .slice p4 n4 c4] 64)))
        have ka1 := Lib.hid (hk1.out.step ((Below.refl _ _).alloc (Nat.le_refl _) (.cells #[.slice p3 n3 c3, .slice p4 n4 c4] 64)))
        have ka2 := Lib.hid (hk2.out.step ((Below.refl _ _).alloc (Nat.le_refl _) (.cells #[.slice p3 n3 c3, .slice p4 n4 c4] 64)))
        clear hBa hma hB hm hk0 hk1 hk2
        rcases errV_cases (frameR (allC l) b) with ⟨hv0, hz⟩ | ⟨hv0, hz⟩
        · rw [hv0] at HCk
          have HZf := Lib.hid hz
          clear hv0 hz
          go_wp2_with (go_at_call 67; (with_reducible refine HCk.out.mono ?_); rintro e w6 ⟨rfl, hB6⟩)
          go_roundw
          case rel => exact ⟨ka0.out.step hB6, ka1.out.step hB6, ka2.out.step hB6, below_call HBa.out (Nat.le_refl _) hB6, HMa.out.step hB6, Or.inr (Or.inr ⟨by simp, hfa, HZf.out⟩)⟩
          case measure => simp [intOf]
        · rw [hv0] at HCk
          have HV := Lib.hid hv0
          have HNz := Lib.hid hz
          have HFf : Hid (framesFault l a b = frameR (allC l) b) := HF.out.trans (framesR_b hfa hz)
          clear hv0 hz
          generalize frameR (allC l) b = f at *
          go_wp2_with (go_at_call 67; (with_reducible refine HCk.out.mono ?_); rintro e w6 ⟨rfl, hB6⟩; (have kb2 := ka2.out.step hB6); obtain ⟨q4, q5⟩ := kb2.cells2; (have f4 := kb2.frozen 0); (have f5 := kb2.frozen 1))
          exact bodyPost_ret (v := .tuple #[.agg #[.slice none 0 0, .slice none 0 0], .iface 35 (.int .i64 f)]) (by simp [results, Tryz.results37, go_sem, *]) rfl ⟨below_set2 (b := w.heap.size + 1 + 1) (below_call HBa.out (Nat.le_refl _) hB6) (by omega) _ _, Or.inr ⟨by rw [HFf.out]; exact HNz.out, by rw [HFf.out]⟩⟩
      · obtain ⟨q0, q1⟩ := hk0.out.cells2
        obtain ⟨q2, q3⟩ := hk1.out.cells2
        have HCk := Lib.hid (HBo.out _ _ _ hB.out hm.out hfa hfb)
        have HFs := Lib.hid (HF.out.trans (framesR_shape hfa hfb))
        have HFA := Lib.hid hfa
        clear hfa hfb
        go_wp2_with (go_at_call 74; (with_reducible refine HCk.out.mono ?_); rintro e w6 ⟨hB6, ⟨hsh, v1, v2, rfl, hv⟩ | ⟨hsh, rfl⟩⟩; obtain ⟨⟨pa, ka, rfl, _⟩, ⟨pb, kb, rfl, _⟩⟩ := And.intro hv.1.open hv.2.open; all_goals ((have kb2 := hk2.out.step hB6); obtain ⟨q4, q5⟩ := kb2.cells2; (have f4 := kb2.frozen 0); (have f5 := kb2.frozen 1); (have hlt := kb2.lt)))
        all_goals
          have hB7 := below_call hB.out (Nat.le_refl _) hB6
          have HFt := HFs.out
          rw [hsh] at HFt
        · have hr1 := StrsAt.apart hv.1 kb2 (fun s h => by cases h) (fun s h => by cases h) (w' := ((w6.setCell ⟨w.heap.size + 1 + 1, 0, none⟩ (.slice pa (bothF (allC l) a b).locals.length ka)).setCell ⟨w.heap.size + 1 + 1, 1, none⟩ (.slice pb (bothF (allC l) a b).stack.length kb))) (fun g hg => by rw [heap_setCell_other _ _ _ _ hg, heap_setCell_other _ _ _ _ hg])
          have hr2 := StrsAt.apart hv.2 kb2 (fun s h => by cases h) (fun s h => by cases h) (w' := ((w6.setCell ⟨w.heap.size + 1 + 1, 0, none⟩ (.slice pa (bothF (allC l) a b).locals.length ka)).setCell ⟨w.heap.size + 1 + 1, 1, none⟩ (.slice pb (bothF (allC l) a b).stack.length kb))) (fun g hg => by rw [heap_setCell_other _ _ _ _ hg, heap_setCell_other _ _ _ _ hg])
          have hbs := below_set2 (b := w.heap.size + 1 + 1) hB7 (by omega) (.slice pa (bothF (allC l) a b).locals.length ka) (.slice pb (bothF (allC l) a b).stack.length kb)
          have hba := (Below.refl ((w6.setCell ⟨w.heap.size + 1 + 1, 0, none⟩ (.slice pa (bothF (allC l) a b).locals.length ka)).setCell ⟨w.heap.size + 1 + 1, 1, none⟩ (.slice pb (bothF (allC l) a b).stack.length kb)).heap.size _).alloc (Nat.le_refl _) (.cells #[.slice pa (bothF (allC l) a b).locals.length ka, .slice pb (bothF (allC l) a b).stack.length kb] 64)
          exact bodyPost_ret (v := .tuple #[.agg #[.slice pa (bothF (allC l) a b).locals.length ka, .slice pb (bothF (allC l) a b).stack.length kb], .nilIface]) (by simp [results, Tryz.results37, go_sem, *]) rfl ⟨below_call hbs (Nat.le_refl _) hba, Or.inl ⟨HFt.trans (if_pos rfl), _, _, rfl, hr1.mono hba, hr2.mono hba⟩⟩
        · have hFt := HFt.trans (if_neg (by decide))
          have hbs := below_set2 (b := w.heap.size + 1 + 1) hB7 (by omega) (.slice none 0 0) (.slice none 0 0)
          have hba := (Below.refl ((w6.setCell ⟨w.heap.size + 1 + 1, 0, none⟩ (.slice none 0 0)).setCell ⟨w.heap.size + 1 + 1, 1, none⟩ (.slice none 0 0)).heap.size _).alloc (Nat.le_refl _) (.cells #[.slice none 0 0, .slice none 0 0] 64)
          exact bodyPost_ret (v := .tuple #[.agg #[.slice none 0 0, .slice none 0 0], .iface 35 (.int .i64 8)]) (by simp [results, Tryz.results37, go_sem, *]) rfl ⟨below_call hbs (Nat.le_refl _) hba, Or.inr ⟨by rw [hFt]; decide, by rw [hFt]; rfl⟩⟩
  · have HF := Lib.hid (framesFault_no (a := a) (b := b) hz)
    have HZ := Lib.hid hz
    clear hz
    go_enter Tryz.func37, Tryz.ntmps37
    go_wp2_with (go_at_call 66; rw [HW.out]; (with_reducible refine (HRd.out _ HB1.out).mono ?_); rintro e w2 ⟨hB2, ⟨hz, _⟩ | ⟨_, rfl⟩⟩; (exact absurd hz HZ.out); obtain ⟨q4, q5⟩ := (HK2.out.step hB2).cells2; (have f4 := (HK2.out.step hB2).frozen 0); (have f5 := (HK2.out.step hB2).frozen 1))
    exact bodyPost_ret (v := .tuple #[.agg #[.slice none 0 0, .slice none 0 0], .iface 35 (.int .i64 (readFault l))]) (by simp [results, Tryz.results37, go_sem, *]) rfl ⟨below_set2 (b := w.heap.size + 1 + 1) (below_call HB1.out (Nat.le_refl _) hB2) (by omega) _ _, Or.inr ⟨by rw [HF.out]; exact HZ.out, by rw [HF.out]⟩⟩
/-- what frame.Below tells -/
def belowF (l : List Class) (a b : Frm) : Bool := decide (framesFault l a b = 0) && decide (bothF (allC l) a b = b)
set_option maxRecDepth 100000 in
theorem frameBelow_any (l : List Class) (lv : Value) (a b : Frm) (a1 a2 b1 b2 : Value) (w : World) (hl : Laid w) (ho : ∀ c ∈ l, ClassOk c) (hlv : ClassesAt w lv l) (ha : FrameAt w a1 a2 a) (hb : FrameAt w b1 b2 b) (hSa : FrmShort a) (hSb : FrmShort b) :
    Calls Tryz.prog 34 #[lv, .agg #[a1, a2], .agg #[b1, b2]] w fun e w' => e = .returned (.tuple #[.bool (belowF l a b), errV (framesFault l a b)]) ∧ Below w.heap.size w w' := by
  have HJ : Hid (∀ wx, Below w.heap.size w wx → _) := fun wx hx => frameJoin_any l lv a b a1 a2 b1 b2 wx (hl.mono hx hl.1) ho (hlv.mono hx) (ha.mono hx) (hb.mono hx) hSa hSb
  have HSm : Hid (∀ wx v1 v2, Below w.heap.size w wx → FrameAt wx v1 v2 (bothF (allC l) a b) → _) := fun wx v1 v2 hx hv => frameSame_any (bothF (allC l) a b) b v1 v2 b1 b2 wx hv (hb.mono hx)
  obtain ⟨pl, cap, rfl, _⟩ := hlv.open
  obtain ⟨p1, c1, rfl, _⟩ := ha.1.open
  obtain ⟨p2, c2, rfl, _⟩ := ha.2.open
  obtain ⟨p3, c3, rfl, _⟩ := hb.1.open
  obtain ⟨p4, c4, rfl, _⟩ := hb.2.open
  obtain ⟨n1, hn1⟩ : ∃ n, a.locals.length = n := ⟨_, rfl⟩
  obtain ⟨n2, hn2⟩ : ∃ n, a.stack.length = n := ⟨_, rfl⟩
  obtain ⟨n3, hn3⟩ : ∃ n, b.locals.length = n := ⟨_, rfl⟩
  obtain ⟨n4, hn4⟩ : ∃ n, b.stack.length = n := ⟨_, rfl⟩
  rw [hn1, hn2, hn3, hn4] at HJ
  rw [hn3, hn4] at HSm
  rw [hn1, hn2, hn3, hn4]
  clear hn1 hn2 hn3 hn4
  obtain ⟨w1, hw1⟩ : ∃ w1, w1 = (w.alloc (.cells #[.slice p1 n1 c1, .slice p2 n2 c2] 64)).alloc (.cells #[.slice p3 n3 c3, .slice p4 n4 c4] 64) := ⟨_, rfl⟩
  have HB1 : Hid (Below w.heap.size w w1) := by rw [hw1]; exact ((Below.refl _ _).alloc (Nat.le_refl _) _).alloc (by simp) _
  have HK1 : Hid (Blk w1 (w.heap.size + 1) 64 [.slice p3 n3 c3, .slice p4 n4 c4]) := by
    rw [hw1]
    have := Blk.new (w.alloc (.cells #[.slice p1 n1 c1, .slice p2 n2 c2] 64)) 64 [.slice p3 n3 c3, .slice p4 n4 c4]
    unfold Hid
    simpa using this
  have HW := Lib.hid hw1.symm
  clear hl ho hlv ha hb hSa hSb hw1
  unfold FJoinPost at HJ
  unfold belowF
  rcases errV_cases (framesFault l a b) with ⟨hv0, hz⟩ | ⟨hv0, hz⟩
  · rw [hv0, decide_eq_true hz, Bool.true_and]
    have HZ := Lib.hid hz
    clear hv0 hz
    generalize decide (bothF (allC l) a b = b) = r at *
    go_enter Tryz.func34, Tryz.ntmps34
    go_wp2_with (first
      | (go_at_call 37; rw [HW.out]; (with_reducible refine (HJ.out _ HB1.out).mono ?_); rintro e w2 ⟨hB2, ⟨_, v1, v2, rfl, hv⟩ | ⟨hz, _⟩⟩; rotate_left; (exact absurd HZ.out hz); (have hB3 := below_call HB1.out (Nat.le_refl _) hB2); obtain ⟨⟨pa, ka, rfl, _⟩, ⟨pb, kb, rfl, _⟩⟩ := And.intro hv.1.open hv.2.open; (have hBa := (Below.refl w2.heap.size w2).alloc (Nat.le_refl _) (.cells #[.slice pa (bothF (allC l) a b).locals.length ka, .slice pb (bothF (allC l) a b).stack.length kb] 64)); (have hk := (HK1.out.step hB2).step hBa); obtain ⟨q0, q1⟩ := hk.cells2)
      | (go_at_call 71; (with_reducible refine (HSm.out _ _ _ (below_call hB3 (Nat.le_refl _) hBa) (hv.mono hBa)).mono ?_); rintro e w4 ⟨rfl, hB4⟩))
    go_ret2
    exact ⟨rfl, below_call (below_call hB3 (Nat.le_refl _) hBa) (Nat.le_refl _) hB4⟩
  · rw [hv0, decide_eq_false hz, Bool.false_and]
    have HZ := Lib.hid hz
    clear hv0 hz
    generalize framesFault l a b = f at *
    go_enter Tryz.func34, Tryz.ntmps34
    go_wp2_with (first
      | (go_at_call 37; rw [HW.out]; (with_reducible refine (HJ.out _ HB1.out).mono ?_); rintro e w2 ⟨hB2, ⟨hz, _⟩ | ⟨hz, rfl⟩⟩; (exact absurd hz HZ.out); (have hB3 := below_call HB1.out (Nat.le_refl _) hB2)))
    go_ret2
    exact ⟨rfl, hB3.alloc hB3.size _⟩
set_option maxRecDepth 100000 in
theorem sameFrame_any (a b : Frm) (a1 a2 b1 b2 : Value) (w : World) (ha : FrameAt w a1 a2 a) (hb : FrameAt w b1 b2 b) :
    Calls Tryz.prog 32 #[.agg #[a1, a2], .agg #[b1, b2]] w fun e w' => e = .returned (.bool (decide (a = b))) ∧ Below w.heap.size w w' := by
  have HE1 : Hid (∀ wx, Below w.heap.size w wx → _) := fun wx h => texts_any a.locals b.locals a1 b1 wx (ha.1.mono h) (hb.1.mono h)
  have HE2 : Hid (∀ wx, Below w.heap.size w wx → _) := fun wx h => texts_any a.stack b.stack a2 b2 wx (ha.2.mono h) (hb.2.mono h)
  rw [frm_eq]
  clear ha hb
  have HB := Lib.hid (((Below.refl w.heap.size w).alloc (Nat.le_refl _) (.cells #[a1, a2] 64)).alloc (by simp) (.cells #[b1, b2] 64))
  obtain ⟨wb, hwb⟩ : ∃ wb, wb = (w.alloc (.cells #[a1, a2] 64)).alloc (.cells #[b1, b2] 64) := ⟨_, rfl⟩
  have HA1 : Hid (Blk wb w.heap.size 64 [a1, a2]) := by
    rw [hwb]
    exact (Blk.new w 64 [a1, a2]).step ((Below.refl _ _).alloc (Nat.le_refl _) _)
  have HA2 : Hid (Blk wb (w.heap.size + 1) 64 [b1, b2]) := by
    rw [hwb]
    have := Blk.new (w.alloc (.cells #[a1, a2] 64)) 64 [b1, b2]
    unfold Hid
    simpa using this
  rw [← hwb] at HB
  have HW := Lib.hid hwb.symm
  clear hwb
  generalize decide (a.locals = b.locals) = d at *
  cases d with
  | true =>
    rw [Bool.true_and]
    generalize decide (a.stack = b.stack) = r at *
    go_enter Tryz.func32, Tryz.ntmps32
    go_wp2_with (first
      | (go_at_call 70; rw [HW.out]; (with_reducible refine (HE1.out _ HB.out).mono ?_); rintro e w3 ⟨rfl, hB3⟩; (have hB3' := below_call HB.out (Nat.le_refl _) hB3); obtain ⟨q0, q1⟩ := (HA1.out.step hB3).cells2; obtain ⟨q2, q3⟩ := (HA2.out.step hB3).cells2)
      | (go_at_call 70; (with_reducible refine (HE2.out _ hB3').mono ?_); rintro e w4 ⟨rfl, hB4⟩))
    go_ret
    exact ⟨rfl, below_call hB3' (Nat.le_refl _) hB4⟩
  | false =>
    rw [Bool.false_and]
    go_enter Tryz.func32, Tryz.ntmps32
    go_wp2_with (first
      | (go_at_call 70; rw [HW.out]; (with_reducible refine (HE1.out _ HB.out).mono ?_); rintro e w3 ⟨rfl, hB3⟩; (have hB3' := below_call HB.out (Nat.le_refl _) hB3)))
    go_ret
    exact ⟨rfl, hB3'⟩
end Go.Proofs.YtbakcdgjibmceaaGreatDoor
