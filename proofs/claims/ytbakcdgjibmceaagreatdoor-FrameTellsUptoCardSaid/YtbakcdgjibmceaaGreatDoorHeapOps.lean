/-
  WALKS over heap.read, Check, Holds. Conditions: as in XRead; types' texts of at most maxLen signs.
  ROWS of values and of things: append of one, what lies at an index, slices.Clone of values. Conditions: lists of at most 4194304 elements.
  WALKS over heap.Zero, Copy, Fresh, More. Conditions: things of right types; rows of at most 4194304 elements.
-/
import Derived.Test.YtbakcdgjibmceaaGreatDoorHeap
import Derived.Lib.SliceRun
import Derived.Deep.AppendLies
import Derived.Deep.RegionLaw
namespace Go.Proofs.YtbakcdgjibmceaaGreatDoor
open Go.RowKit Go.Shelf Go.Lib
theorem heapFault_no {l : List Class} {h : List Thing} (g : readFault l ≠ 0) : heapFault l h = readFault l := by unfold heapFault; rw [if_pos g]
theorem heapFault_yes {l : List Class} {h : List Thing} (g : readFault l = 0) : heapFault l h = heapR (allC l) h := by unfold heapFault; rw [if_neg (by rw [g]; decide)]
theorem heapFault_zero {l : List Class} {h : List Thing} (g : heapFault l h = 0) : readFault l = 0 ∧ heapR (allC l) h = 0 := by
  by_cases h0 : readFault l = 0
  · exact ⟨h0, by rw [← heapFault_yes h0]; exact g⟩
  · rw [heapFault_no h0] at g; exact absurd g h0
def HeapReadPost (w : World) (l : List Class) (h : List Thing) (e : Ending) (w' : World) : Prop :=
  Below w.heap.size w w' ∧ ((heapFault l h = 0 ∧ ∃ w0 B, e = .returned (.tuple #[.map (some B), .nilIface]) ∧ WorldMap w0 w' B l) ∨ (heapFault l h ≠ 0 ∧ ∃ v, e = .returned (.tuple #[.map v, .iface 35 (.int .i64 (heapFault l h))])))
/-- world.Read, its map under a name -/
def ReadW (w : World) (l : List Class) (e : Ending) (w' : World) : Prop :=
  Below w.heap.size w w' ∧ ((readFault l = 0 ∧ ∃ w0 B, e = .returned (.tuple #[.map (some B), .nilIface]) ∧ WorldMap w0 w' B l) ∨ (readFault l ≠ 0 ∧ e = .returned (.tuple #[.map none, .iface 35 (.int .i64 (readFault l))])))
theorem readW_any (l : List Class) (lv : Value) (w : World) (hl : Laid w) (ho : ∀ c ∈ l, ClassOk c) (hlv : ClassesAt w lv l) :
    Calls Tryz.prog 66 #[lv] w (ReadW w l) := by
  refine (read_any l lv w hl ho hlv).mono ?_
  rintro e w2 ⟨hB2, ⟨hz, rfl, hM, hN, hA, hC, hL⟩ | ⟨hz, rfl⟩⟩
  · exact ⟨hB2, Or.inl ⟨hz, _, _, rfl, hM, right_of hz, hA⟩⟩
  · exact ⟨hB2, Or.inr ⟨hz, rfl⟩⟩
set_option maxRecDepth 100000 in
theorem heapRead_any (l : List Class) (lv : Value) (h : List Thing) (hv : Value) (w : World) (hl : Laid w) (ho : ∀ c ∈ l, ClassOk c) (hlv : ClassesAt w lv l) (hh : ThingsAt w hv h) (hS : Short h) :
    Calls Tryz.prog 38 #[lv, .agg #[hv]] w (HeapReadPost w l h) := by
  have HRd : Hid (∀ wx, Below w.heap.size w wx → _) := fun wx hb => readW_any l lv wx (hl.mono hb hl.1) ho (hlv.mono hb)
  have HRi : Hid (∀ w0 wx B, Below w.heap.size w wx → WorldMap w0 wx B l → _) := fun w0 wx B hb hm => right_any w0 wx B l hm h hv (hh.mono hb) hS
  obtain ⟨pl, cap, rfl, _⟩ := hlv.open
  obtain ⟨ph, kh, rfl, _⟩ := hh.open
  have BX := Lib.hid (boxed_new w #[.slice ph h.length kh] 25)
  clear hl ho hlv hh hS
  unfold ReadW at HRd
  by_cases hz : readFault l = 0
  · have HF := Lib.hid (heapFault_yes (h := h) hz)
    have HZ := Lib.hid hz
    clear hz
    go_enter Tryz.func38, Tryz.ntmps38
    go_wp2_with (first
      | (go_at_call 66; (with_reducible refine (HRd.out _ BX.out.below).mono ?_); rintro e w2 ⟨hB2, ⟨_, w0, B, rfl, hm⟩ | ⟨hz, _⟩⟩; rotate_left; (exact absurd HZ.out hz); (have BX2 := BX.out.step hB2); (have q0 := boxed1 BX2))
      | (go_at_call 75; (with_reducible refine (HRi.out _ _ _ BX2.below hm).mono ?_); rintro e w3 ⟨rfl, hB3⟩))
    go_ret2
    refine ⟨below_call BX2.below (Nat.le_refl _) hB3, ?_⟩
    rw [HF.out]
    rcases errV_cases (heapR (allC l) h) with ⟨hv, hz⟩ | ⟨hv, hz⟩
    · exact Or.inl ⟨hz, _, _, by rw [hv]; rfl, hm.step hB3⟩
    · exact Or.inr ⟨hz, _, by rw [hv]; rfl⟩
  · have HF := Lib.hid (heapFault_no (h := h) hz)
    have HZ := Lib.hid hz
    clear hz
    go_enter Tryz.func38, Tryz.ntmps38
    go_wp2_with (go_at_call 66; (with_reducible refine (HRd.out _ BX.out.below).mono ?_); rintro e w2 ⟨hB2, ⟨hz, _⟩ | ⟨_, rfl⟩⟩; (exact absurd hz HZ.out))
    go_ret2
    refine ⟨(BX.out.step hB2).below, Or.inr ?_⟩
    rw [HF.out]
    exact ⟨HZ.out, _, rfl⟩
set_option maxRecDepth 100000 in
theorem heapCheck_any (l : List Class) (lv : Value) (h : List Thing) (hv : Value) (w : World) (hl : Laid w) (ho : ∀ c ∈ l, ClassOk c) (hlv : ClassesAt w lv l) (hh : ThingsAt w hv h) (hS : Short h) :
    Calls Tryz.prog 15 #[lv, .agg #[hv]] w fun e w' => e = .returned (errV (heapFault l h)) ∧ Below w.heap.size w w' := by
  have HRd : Hid (∀ wx, Below w.heap.size w wx → _) := fun wx hb => heapRead_any l lv h hv wx (hl.mono hb hl.1) ho (hlv.mono hb) (hh.mono hb) hS
  obtain ⟨pl, cap, rfl, _⟩ := hlv.open
  obtain ⟨ph, kh, rfl, _⟩ := hh.open
  have BX := Lib.hid (boxed_new w #[.slice ph h.length kh] 25)
  clear hl ho hlv hh hS
  unfold HeapReadPost at HRd
  rcases errV_cases (heapFault l h) with ⟨hv, hz⟩ | ⟨hv, hz⟩
  all_goals
    rw [hv]
    have HZ := Lib.hid hz
    clear hz hv
    go_enter Tryz.func15, Tryz.ntmps15
    go_wp2_with (go_at_call 38; (with_reducible refine (HRd.out _ BX.out.below).mono ?_); rintro e w2 ⟨hB2, ⟨hz, w0, B, rfl, hm⟩ | ⟨hz, v, rfl⟩⟩)
    all_goals
      go_ret
      first | exact ⟨rfl, (BX.out.step hB2).below⟩ | exact absurd HZ.out hz | exact absurd hz HZ.out
/-- what is wrong ahead of Holds -/
def holdsF (l : List Class) (h : List Thing) (k : Str) : Nat := if heapFault l h ≠ 0 then heapFault l h else if !typeB (lst k) then 1 else kindR (allC l) k
def holdsV (l : List Class) (h : List Thing) (v : Val) (k : Str) : Bool := if holdsF l h k = 0 then holdsTy (allC l) h v (tyOf k) else false
theorem holdsF_fault {l : List Class} {h : List Thing} {k : Str} (g : heapFault l h ≠ 0) : holdsF l h k = heapFault l h := by unfold holdsF; rw [if_pos g]
theorem holdsF_form {l : List Class} {h : List Thing} {k : Str} (g : heapFault l h = 0) (ht : typeB (lst k) = false) : holdsF l h k = 1 := by unfold holdsF; rw [if_neg (by rw [g]; decide), ht]; rfl
theorem holdsF_kind {l : List Class} {h : List Thing} {k : Str} (g : heapFault l h = 0) (ht : typeB (lst k) = true) : holdsF l h k = kindR (allC l) k := by unfold holdsF; rw [if_neg (by rw [g]; decide), ht]; rfl
set_option maxHeartbeats 1000000 in
set_option maxRecDepth 100000 in
theorem heapHolds_any (l : List Class) (lv : Value) (h : List Thing) (hv : Value) (v : Val) (k : Str) (w : World) (hl : Laid w) (ho : ∀ c ∈ l, ClassOk c) (hlv : ClassesAt w lv l) (hh : ThingsAt w hv h) (hS : Short h) (hk : k.size ≤ maxLen) :
    Calls Tryz.prog 11 #[lv, .agg #[hv], valV v, .string k] w fun e w' => e = .returned (.tuple #[.bool (holdsV l h v k), errV (holdsF l h k)]) ∧ Below w.heap.size w w' := by
  have HRd : Hid (∀ wx, Below w.heap.size w wx → _) := fun wx hb => heapRead_any l lv h hv wx (hl.mono hb hl.1) ho (hlv.mono hb) (hh.mono hb) hS
  have HKi : Hid (∀ w0 wx B, WorldMap w0 wx B l → _) := fun w0 wx B hm => kind_any w0 wx B (allC l) hm.map hm.right.nodup k hk
  obtain ⟨pl, cap, rfl, _⟩ := hlv.open
  have HT : Hid (∀ wx, Below w.heap.size w wx → ThingsAt wx hv h) := fun wx hb => hh.mono hb
  obtain ⟨ph, kh, rfl, _⟩ := hh.open
  have HSh := Lib.hid hS
  obtain ⟨v1, v2⟩ := v
  unfold valV
  dsimp only
  have HB1 := Lib.hid (((Below.refl w.heap.size w).alloc (Nat.le_refl _) (.cells #[.slice ph h.length kh] 25)).alloc (by simp) (.cells #[.int .i64 v1, .int .i64 v2] 27))
  clear hl ho hlv hh hS
  unfold HeapReadPost at HRd
  by_cases hf : heapFault l h = 0
  · cases hty : typeB (lst k) with
    | false =>
      have hF := holdsF_form (h := h) hf hty
      have hV : holdsV l h ⟨v1, v2⟩ k = false := by unfold holdsV; rw [hF]; rfl
      rw [hV, hF, show errV 1 = .iface 35 (.int .i64 1) from rfl]
      have HD : Hid (∀ wx, _) := fun wx => descCheck_bad hk hty wx
      have HZ := Lib.hid hf
      clear hty hF hV hf HKi
      go_enter Tryz.func11, Tryz.ntmps11
      go_wp2_with (first
        | (go_at_call 38; (with_reducible refine (HRd.out _ HB1.out).mono ?_); rintro e w2 ⟨hB2', ⟨hz, w0, B, rfl, hm⟩ | ⟨hz, v, rfl⟩⟩; rotate_left; (exact absurd HZ.out hz); (have hB2 := below_call HB1.out (Nat.le_refl _) hB2'); (have q0 : w2.cell? ⟨w.heap.size, 0, none⟩ = some (.slice ph h.length kh) := (hB2'.cell (p := ⟨w.heap.size, 0, none⟩) (by simp; omega)).trans (by simp)); (have q1 : w2.cell? ⟨w.heap.size + 1, 0, none⟩ = some (.int .i64 v1) := (hB2'.cell (p := ⟨w.heap.size + 1, 0, none⟩) (by simp)).trans (by simp)); (have q2 : w2.cell? ⟨w.heap.size + 1, 1, none⟩ = some (.int .i64 v2) := (hB2'.cell (p := ⟨w.heap.size + 1, 1, none⟩) (by simp)).trans (by simp)))
        | (go_at_call 39; (with_reducible refine (HD.out _).mono ?_); rintro e w3 ⟨rfl, hB3⟩))
      go_ret2
      exact ⟨rfl, below_call hB2 (Nat.le_refl _) hB3⟩
    | true =>
      have hF := holdsF_kind (h := h) hf hty
      have HD : Hid (∀ wx, _) := fun wx => descCheck_good hk hty wx
      by_cases hr : kindR (allC l) k = 0
      · obtain ⟨y, hy⟩ := ty_of_type hty
        have hfo := formed_typed (heap_zero (heapFault_zero hf).2).2.1
        have hV : holdsV l h ⟨v1, v2⟩ k = holdsTy (allC l) h ⟨v1, v2⟩ y := by unfold holdsV; rw [hF, hr, if_pos rfl, hy.of]
        rw [hV, hF, hr, show errV 0 = .nilIface from rfl]
        rw [hr, show errV 0 = .nilIface from rfl] at HKi
        have HDo : Hid (∀ w0 wx B, Below w.heap.size w wx → WorldMap w0 wx B l → _) := fun w0 wx B hb hm => heapDoes_any w0 wx B l hm h (.slice ph h.length kh) (HT.out wx hb) hfo HSh.out ⟨v1, v2⟩ k y hy.text hk
        unfold valV at HDo
        have HZ := Lib.hid hf
        clear hty hF hV hf hr hfo
        generalize holdsTy (allC l) h ⟨v1, v2⟩ y = r at *
        go_enter Tryz.func11, Tryz.ntmps11
        go_wp2_with (first
          | (go_at_call 38; (with_reducible refine (HRd.out _ HB1.out).mono ?_); rintro e w2 ⟨hB2', ⟨hz, w0, B, rfl, hm⟩ | ⟨hz, v, rfl⟩⟩; rotate_left; (exact absurd HZ.out hz); (have hB2 := below_call HB1.out (Nat.le_refl _) hB2'); (have q0 : w2.cell? ⟨w.heap.size, 0, none⟩ = some (.slice ph h.length kh) := (hB2'.cell (p := ⟨w.heap.size, 0, none⟩) (by simp; omega)).trans (by simp)); (have q1 : w2.cell? ⟨w.heap.size + 1, 0, none⟩ = some (.int .i64 v1) := (hB2'.cell (p := ⟨w.heap.size + 1, 0, none⟩) (by simp)).trans (by simp)); (have q2 : w2.cell? ⟨w.heap.size + 1, 1, none⟩ = some (.int .i64 v2) := (hB2'.cell (p := ⟨w.heap.size + 1, 1, none⟩) (by simp)).trans (by simp)))
          | (go_at_call 39; (with_reducible refine (HD.out _).mono ?_); rintro e w3 ⟨rfl, hB3⟩)
          | (go_at_call 40; (with_reducible refine (HKi.out _ _ _ (hm.step hB3)).mono ?_); rintro e w4 ⟨rfl, hB4⟩; (have hB34 := below_call hB3 (Nat.le_refl _) hB4); (have hB5 := below_call hB2 (Nat.le_refl _) hB34); (have r0 := (hB34.cell (p := ⟨w.heap.size, 0, none⟩) (hcells_lt q0)).trans q0); (have r1 := (hB34.cell (p := ⟨w.heap.size + 1, 0, none⟩) (hcells_lt q1)).trans q1); (have r2 := (hB34.cell (p := ⟨w.heap.size + 1, 1, none⟩) (hcells_lt q2)).trans q2); (have hm5 := (hm.step hB3).step hB4))
          | (go_at_call 41; (with_reducible refine (HDo.out _ _ _ hB5 hm5).mono ?_); rintro e w6 ⟨rfl, hB6⟩))
        go_ret2
        exact ⟨rfl, below_call hB5 (Nat.le_refl _) hB6⟩
      · have hV : holdsV l h ⟨v1, v2⟩ k = false := by unfold holdsV; rw [hF, if_neg hr]
        rcases errV_cases (kindR (allC l) k) with ⟨_, hz⟩ | ⟨he, _⟩
        · exact absurd hz hr
        rw [hV, hF, he]
        rw [he] at HKi
        have HZ := Lib.hid hf
        clear hty hF hV hf hr he
        generalize kindR (allC l) k = f at *
        go_enter Tryz.func11, Tryz.ntmps11
        go_wp2_with (first
          | (go_at_call 38; (with_reducible refine (HRd.out _ HB1.out).mono ?_); rintro e w2 ⟨hB2', ⟨hz, w0, B, rfl, hm⟩ | ⟨hz, v, rfl⟩⟩; rotate_left; (exact absurd HZ.out hz); (have hB2 := below_call HB1.out (Nat.le_refl _) hB2'); (have q0 : w2.cell? ⟨w.heap.size, 0, none⟩ = some (.slice ph h.length kh) := (hB2'.cell (p := ⟨w.heap.size, 0, none⟩) (by simp; omega)).trans (by simp)); (have q1 : w2.cell? ⟨w.heap.size + 1, 0, none⟩ = some (.int .i64 v1) := (hB2'.cell (p := ⟨w.heap.size + 1, 0, none⟩) (by simp)).trans (by simp)); (have q2 : w2.cell? ⟨w.heap.size + 1, 1, none⟩ = some (.int .i64 v2) := (hB2'.cell (p := ⟨w.heap.size + 1, 1, none⟩) (by simp)).trans (by simp)))
          | (go_at_call 39; (with_reducible refine (HD.out _).mono ?_); rintro e w3 ⟨rfl, hB3⟩)
          | (go_at_call 40; (with_reducible refine (HKi.out _ _ _ (hm.step hB3)).mono ?_); rintro e w4 ⟨rfl, hB4⟩; (have hB5 := below_call hB2 (Nat.le_refl _) (below_call hB3 (Nat.le_refl _) hB4))))
        go_ret2
        exact ⟨rfl, hB5⟩
  · have hF := holdsF_fault (k := k) hf
    have hV : holdsV l h ⟨v1, v2⟩ k = false := by unfold holdsV; rw [hF, if_neg hf]
    rcases errV_cases (heapFault l h) with ⟨_, hz⟩ | ⟨he, _⟩
    · exact absurd hz hf
    rw [hV, hF, he]
    have HZ := Lib.hid hf
    clear hF hV hf he HKi
    generalize heapFault l h = f at *
    go_enter Tryz.func11, Tryz.ntmps11
    go_wp2_with (go_at_call 38; (with_reducible refine (HRd.out _ HB1.out).mono ?_); rintro e w2 ⟨hB2, ⟨hz, w0, B, rfl, hm⟩ | ⟨hz, v, rfl⟩⟩; (exact absurd hz HZ.out))
    go_ret2
    exact ⟨rfl, below_call HB1.out (Nat.le_refl _) hB2⟩
end Go.Proofs.YtbakcdgjibmceaaGreatDoor
namespace Go.Proofs.YtbakcdgjibmceaaGreatDoor
open Go.RowKit Go.Shelf Go.Lib
theorem info_val : (Tryz.prog.info? 27).map (fun i => (i.zero, i.size, i.bytes)) = some (some (.agg #[.int .i64 0, .int .i64 0]), 2, 16) := by kernel_rfl
theorem info_thing : (Tryz.prog.info? 56).map (fun i => (i.zero, i.size, i.bytes)) = some (some (.agg #[.string .empty, .slice none 0 0]), 2, 40) := by kernel_rfl
theorem flat_length {α : Type} {f : α → List Value} {k : Nat} (h3 : ∀ x, (f x).length = k) : ∀ m : List α, (m.flatMap f).length = m.length * k := fun m => by
  induction m with
  | nil => simp
  | cons a r ih => rw [List.flatMap_cons, List.length_append, ih, h3, List.length_cons, Nat.succ_mul]; omega
/-- what lies at an index of a row of elements of k cells -/
theorem rowk_at {α : Type} {f : α → List Value} {k : Nat} (h3 : ∀ x, (f x).length = k) {w : World} {base : Nat} {t : TypeId} {p : Option Addr} {c n : Nat} {l : List α} (h : w.ownsRow base t k (.slice p n c) n (l.flatMap f)) (hn : n = l.length) {i : Nat} {x : α} (hx : l[i]? = some x) :
    ∃ g, p = some ⟨g, 0, none⟩ ∧ base ≤ g ∧ g < w.heap.size ∧ ∀ j, j < k → w.cell? ⟨g, i * k + j, none⟩ = (f x)[j]? := by
  subst hn
  obtain ⟨hi, rfl⟩ := List.getElem?_eq_some_iff.1 hx
  rcases h with ⟨h1, ⟨h2, h2'⟩ | ⟨g, cap, cur, k1, k2, k3, k4, k5, k6, k7⟩⟩
  · rw [h2'] at hi; exact absurd hi (Nat.not_lt_zero _)
  · injection k1 with e1 _ e3
    subst e1 e3
    refine ⟨g, rfl, k2, (Array.getElem?_eq_some_iff.1 k3).1, fun j hj => ?_⟩
    have hm : i * k + k ≤ l.length * k := by rw [← Nat.succ_mul]; exact Nat.mul_le_mul_right k hi
    rw [cell_of_row w g (i * k + j) cur t (0, 0) k3]
    have hc : cur[i * k + j]? = (cur.toList.take (l.length * k))[i * k + j]? := by
      rw [List.getElem?_take, if_pos (by omega)]; simp
    rw [hc, k7]
    have hsplit : l.flatMap f = (l.take i).flatMap f ++ (f l[i] ++ (l.drop (i + 1)).flatMap f) := by
      rw [← List.flatMap_cons, ← List.flatMap_append, ← List.drop_eq_getElem_cons hi, List.take_append_drop]
    rw [hsplit, List.getElem?_append_right (by rw [flat_length h3, List.length_take, Nat.min_eq_left (Nat.le_of_lt hi)]; omega), flat_length h3, List.length_take, Nat.min_eq_left (Nat.le_of_lt hi), Nat.add_sub_cancel_left, List.getElem?_append_left (by rw [h3]; exact hj)]
theorem cells_of_at {w : World} {b o : Nat} : ∀ (vs : List Value), (∀ j, j < vs.length → w.cell? ⟨b, o + j, none⟩ = vs[j]?) → Cells w b o vs
  | [], _ => trivial
  | v :: r, h => by
    refine ⟨by simpa using h 0 (by simp), cells_of_at r fun j hj => ?_⟩
    have := h (j + 1) (by simpa using hj)
    rw [show o + (j + 1) = o + 1 + j by omega] at this
    simpa using this
/-- a row of elements of k cells, as a list in memory -/
theorem rowk_slice {α : Type} {f : α → List Value} {k : Nat} {R : α → List Value → Prop} (h3 : ∀ x, (f x).length = k) (hR : ∀ x, R x (f x)) {w : World} {base : Nat} {t : TypeId} {v : Value} {l : List α} (h : w.ownsRow base t k v l.length (l.flatMap f)) : SliceOf w k R v l := by
  obtain ⟨p, c, rfl⟩ := ownsRow_shape h
  have hb := h
  rcases h with ⟨_, ⟨h1, h2⟩ | ⟨g, cap, cur, k1, k2, k3, k4, k5, k6, k7⟩⟩
  · exact Or.inl ⟨h1, List.length_eq_zero_iff.1 h2⟩
  · injection k1 with e1 e2 e3
    subst e1 e3
    refine Or.inr ⟨⟨g, 0, none⟩, c, rfl, k4, k5, fun i x hi => ⟨f x, hR x, h3 x, rfl, ?_⟩⟩
    obtain ⟨g', h1, _, _, h4⟩ := rowk_at h3 hb rfl hi
    injection h1 with h1; injection h1 with h1; subst h1
    refine cells_of_at _ fun j hj => ?_
    have := h4 j (by rw [← h3 x]; exact hj)
    show w.cell? ⟨g, 0 + i * k + j, none⟩ = _
    rw [Nat.zero_add]; exact this
theorem ownsRow_belowk {w w' : World} {base k : Nat} {t : TypeId} {v : Value} {n : Nat} {xs : List Value} (h : w.ownsRow base t k v n xs) (hb : Below w.heap.size w w') : w'.ownsRow base t k v n xs := by
  rcases h with ⟨h1, h2 | ⟨g, cap, cur, k1, k2, k3, k4⟩⟩
  · exact ⟨h1, Or.inl h2⟩
  · exact ⟨h1, Or.inr ⟨g, cap, cur, k1, k2, (hb.block g (Array.getElem?_eq_some_iff.1 k3).1).trans k3, k4⟩⟩
/-- a value's two cells -/
def valVs (v : Val) : List Value := [.int .i64 v.kind, .int .i64 v.n]
theorem valVs_2 (v : Val) : (valVs v).length = 2 := rfl
theorem vals_slice {w : World} {base : Nat} {t : TypeId} {v : Value} {l : List Val} (h : w.ownsRow base t 2 v l.length (l.flatMap valVs)) : SliceOf w 2 ValCells v l := rowk_slice (R := ValCells) valVs_2 (fun _ => rfl) h
/-- a thing and where its values lie: its two cells -/
def thingVs (p : Thing × Value) : List Value := [.string p.1.type, p.2]
theorem thingVs_2 (p : Thing × Value) : (thingVs p).length = 2 := rfl
/-- things whose values lie where they are said to, apart from a row -/
def HasAt (base : Nat) (w : World) (v : Value) (ps : List (Thing × Value)) : Prop := ∀ p ∈ ps, SliceOf w 2 ValCells p.2 p.1.has ∧ ∀ g, p.2.ownBlock = some g → base ≤ g ∧ g < w.heap.size ∧ v.ownBlock ≠ some g
theorem HasAt.nil (base : Nat) (w : World) (v : Value) : HasAt base w v [] := fun _ h => by cases h
theorem HasAt.step {base : Nat} {w w' : World} {v : Value} {ps : List (Thing × Value)} (h : HasAt base w v ps) (hb : Below w.heap.size w w') : HasAt base w' v ps := fun p hp =>
  ⟨(h p hp).1.mono hb (by decide) (fun _ _ h => h), fun g hg => ⟨((h p hp).2 g hg).1, Nat.lt_of_lt_of_le ((h p hp).2 g hg).2.1 hb.size, ((h p hp).2 g hg).2.2⟩⟩
theorem cells_block {w w' : World} {b : Nat} (hb : w'.heap[b]? = w.heap[b]?) : ∀ {vs : List Value} {o : Nat}, Cells w b o vs → Cells w' b o vs
  | [], _, _ => trivial
  | _ :: _, _, ⟨h1, h2⟩ => ⟨(World.cell?_of_block hb).trans h1, cells_block hb h2⟩
theorem SliceOf.block {α : Type} {w w' : World} {k : Nat} {R : α → List Value → Prop} {v : Value} {l : List α} (h : SliceOf w k R v l) (hb : ∀ g, v.ownBlock = some g → w'.heap[g]? = w.heap[g]?) : SliceOf w' k R v l := by
  rcases h with h | ⟨a, cap, rfl, h2, h3, h4⟩
  · exact Or.inl h
  · refine Or.inr ⟨a, cap, rfl, h2, h3, fun i x hi => ?_⟩
    obtain ⟨vs, r1, r2, r3, r4⟩ := h4 i x hi
    exact ⟨vs, r1, r2, r3, cells_block (hb a.block rfl) r4⟩
theorem HasAt.grown {base : Nat} {w w' : World} {v v' : Value} {ps : List (Thing × Value)} (h : HasAt base w v ps) (hg : w.grownBy w' v.ownBlock) (hv : v'.ownBlock = v.ownBlock ∨ v'.ownBlock = some w.heap.size) : HasAt base w' v' ps := fun p hp =>
  ⟨(h p hp).1.block fun g e => hg.block g ((h p hp).2 g e).2.1 (fun he => ((h p hp).2 g e).2.2 he.symm), fun g e => ⟨((h p hp).2 g e).1, Nat.lt_of_lt_of_le ((h p hp).2 g e).2.1 hg.size, by
    rcases hv with hv | hv
    · rw [hv]; exact ((h p hp).2 g e).2.2
    · rw [hv]; intro he; have := ((h p hp).2 g e).2.1; injection he with he; omega⟩⟩
theorem HasAt.set {base b : Nat} {w : World} {v : Value} {ps : List (Thing × Value)} (h : HasAt base w v ps) (hb : b < base) (j : Nat) (u : Value) : HasAt base (w.setCell ⟨b, j, none⟩ u) v ps := fun p hp =>
  ⟨(h p hp).1.block fun g e => heap_setCell_other w ⟨b, j, none⟩ g u (by have := ((h p hp).2 g e).1; show g ≠ b; omega), fun g e => ⟨((h p hp).2 g e).1, by have := ((h p hp).2 g e).2.1; simpa using this, ((h p hp).2 g e).2.2⟩⟩
theorem HasAt.base {base b : Nat} {w : World} {v : Value} {ps : List (Thing × Value)} (h : HasAt base w v ps) (hb : b ≤ base) : HasAt b w v ps := fun p hp =>
  ⟨(h p hp).1, fun g e => ⟨Nat.le_trans hb ((h p hp).2 g e).1, ((h p hp).2 g e).2⟩⟩
theorem HasAt.snoc {base : Nat} {w : World} {v : Value} {ps : List (Thing × Value)} {p : Thing × Value} (h : HasAt base w v ps) (h1 : SliceOf w 2 ValCells p.2 p.1.has) (h2 : ∀ g, p.2.ownBlock = some g → base ≤ g ∧ g < w.heap.size ∧ v.ownBlock ≠ some g) : HasAt base w v (ps ++ [p]) := fun q hq => by
  rcases List.mem_append.1 hq with hq | hq
  · exact h q hq
  · rw [List.mem_singleton.1 hq]; exact ⟨h1, h2⟩
theorem things_slice {w : World} {base : Nat} {t : TypeId} {v : Value} {ps : List (Thing × Value)} (h : w.ownsRow base t 2 v ps.length (ps.flatMap thingVs)) {b : Nat} {u : Value} (hh : HasAt b w u ps) : ThingsAt w v (ps.map (·.1)) := by
  have hs := rowk_slice (R := fun p vs => vs = thingVs p) thingVs_2 (fun _ => rfl) h
  rcases hs with ⟨rfl, rfl⟩ | ⟨a, cap, rfl, h1, h2, h4⟩
  · exact Or.inl ⟨rfl, rfl⟩
  · refine Or.inr ⟨a, cap, by simp, by simpa using h1, h2, fun i x hi => ?_⟩
    rw [List.getElem?_map, Option.map_eq_some_iff] at hi
    obtain ⟨p, hp, rfl⟩ := hi
    obtain ⟨vs, rfl, g2, g3, g4⟩ := h4 i p hp
    exact ⟨_, ⟨p.2, rfl, (hh p (List.mem_of_getElem? hp)).1⟩, g2, g3, g4⟩
theorem cell_duo_new (w : World) (a b : Value) (t : TypeId) : ∀ j u, [a, b][j]? = some u → (w.alloc (.cells #[a, b] t)).cell? ((⟨w.heap.size, 0, none⟩ : Addr).add j) = some u := by
  intro j u hj
  match j, hj with
  | 0, hj => simp at hj; subst hj; simp [Addr.add]
  | 1, hj => simp at hj; subst hj; simp [Addr.add]
theorem SliceOf.one {α : Type} {w : World} {k : Nat} {R : α → List Value → Prop} {v : Value} {l : List α} (h : SliceOf w k R v l) : v.oneCell' = true := by
  rcases h with ⟨rfl, _⟩ | ⟨a, cap, rfl, _⟩ <;> rfl
/-- append of one thing -/
theorem wpList_append_thing {w : World} {ops : Array Oper} {rest : List Oper} {o : Oper} {a : Act} {Q : Exit → Act → World → Prop} (hgd : o.guard = none) (s x : Operand)
    (ho : o.op = .call { callee := .builtin .append, args := #[s, x], argTypes := #[23, 23] })
    (base : Nat) (v : Value) (n : Nat) (xs : List Value) (hs : a.eval s = v) (hown : w.ownsRow base 56 2 v n xs)
    (c1 : Str) (c2 : Value) (hc : c2.oneCell' = true) (g : Nat) (hg : w.heap.size = g) (hx : a.eval x = .slice (some ⟨g, 0, none⟩) 1 1) (h63 : n ≤ 8388608) (hbase : base ≤ w.heap.size)
    (h : ∀ v' w', w'.ownsRow base 56 2 v' (n + 1) (xs ++ [.string c1, c2]) → (w.alloc (.cells #[.string c1, c2] 56)).grownBy w' v.ownBlock → wpList Tryz.prog ops Q rest (a.put o.dst v') w') :
    wpList Tryz.prog ops Q (o :: rest) a (w.alloc (.cells #[.string c1, c2] 56)) := by
  subst hg
  obtain ⟨i0, hi, hz0, hz1, hz2⟩ := info_parts info_thing
  refine wpList_append_own_at _ hgd s x 23 ho base 56 i0 (.agg #[.string .empty, .slice none 0 0]) 2 40 Tryz.underlying23 hi hz0 hz1 hz2 rfl (by decide) v n xs hs (hown.alloc _) ⟨w.heap.size, 0, none⟩ 1 1 [.string c1, c2] hx rfl (cell_duo_new w _ _ 56)
    (fun u hu => by simp at hu; rcases hu with rfl | rfl <;> first | rfl | exact hc) (Nat.le_trans (show n + 1 ≤ 8388609 by omega) (by decide)) (by omega) (Nat.le_trans hbase (by simp)) fun v' w' h1 h2 _ _ => h v' w' h1 h2
theorem add_eq' {a : Addr} (hs : a = ⟨a.block, a.off, none⟩) (n : Nat) : a.add n = ⟨a.block, a.off + n, none⟩ := by
  unfold Addr.add
  split
  · subst_vars; simpa using hs
  · rfl
theorem vals_cells {w : World} {b o : Nat} : ∀ (l : List Val), (∀ i x, l[i]? = some x → Cells w b (o + i * 2) (valVs x)) → ∀ j u, (l.flatMap valVs)[j]? = some u → w.cell? ⟨b, o + j, none⟩ = some u
  | [], _, j, u, hj => by simp at hj
  | x :: r, h, j, u, hj => by
    have h0 := h 0 x rfl
    rw [Nat.zero_mul] at h0
    obtain ⟨a0, a1, _⟩ := h0
    match j, hj with
    | 0, hj => simp [valVs] at hj; subst hj; exact a0
    | 1, hj => simp [valVs] at hj; subst hj; exact a1
    | j + 2, hj =>
      have := vals_cells (o := o + 2) r (fun i y hi => by
        have := h (i + 1) y (by simpa using hi)
        rw [show o + (i + 1) * 2 = o + 2 + i * 2 by omega] at this
        exact this) j u (by simpa [valVs] using hj)
      rw [show o + 2 + j = o + (j + 2) by omega] at this
      exact this
set_option maxHeartbeats 1000000 in
set_option maxRecDepth 100000 in
theorem cloneVals_any (l : List Val) (v : Value) (w : World) (h : SliceOf w 2 ValCells v l) (hn : l.length ≤ 4194304) :
    Calls Tryz.prog 84 #[v] w fun e w' => ∃ v', e = .returned v' ∧ SliceOf w' 2 ValCells v' l ∧ (∀ g, v'.ownBlock = some g → w.heap.size ≤ g ∧ g < w'.heap.size) ∧ Below w.heap.size w w' := by
  have qn : ∀ (w : World) (a : Option Addr) (n c n' c' : Nat), (binOp .eql 54 (.slice a n c) (.slice none n' c')).run Tryz.prog w = .ok (.bool a.isNone) w := fun w a n c n' c' => Lib.run_eql_slice_nil w _ _ a n c n' c' Tryz.underlying54
  rcases h with ⟨rfl, rfl⟩ | ⟨a, cap, rfl, h1, h2, h4⟩
  · go_enter Tryz.func84, Tryz.ntmps84
    go_wp2_with (first | fail)
    go_ret
    exact ⟨_, rfl, Or.inl ⟨rfl, rfl⟩, (fun _ h => by cases h), Below.refl _ _⟩
  · obtain ⟨i0, hi, hz0, hz1, hz2⟩ := info_parts info_val
    have A : Hid (∀ j u, (l.flatMap valVs)[j]? = some u → w.cell? (a.add j) = some u) := by
      intro j u hj
      by_cases hl : l = []
      · subst hl; simp at hj
      · have h0 : l[0]? = some (l.head hl) := by cases l with
          | nil => exact absurd rfl hl
          | cons _ _ => rfl
        obtain ⟨_, _, _, ha, _⟩ := h4 0 _ h0
        rw [add_eq' ha]
        exact vals_cells l (fun i x hi => by
          obtain ⟨vs, g1, _, _, g4⟩ := h4 i x hi
          unfold ValCells at g1; subst g1
          exact g4) j u hj
    have hmm : l.length ≤ maxLen := Nat.le_trans h1 h2
    clear h4
    go_enter Tryz.func84, Tryz.ntmps84
    go_wp2_with (at_builtin; refine wpList_append_own_at _ rfl _ _ 54 rfl w.heap.size 27 i0 (.agg #[.int .i64 0, .int .i64 0]) 2 16 Tryz.underlying54 hi hz0 hz1 hz2 rfl (by decide) _ _ _ rfl (World.ownsRow_made w #[] 0 (Nat.le_refl _) (Nat.zero_le _) rfl) a l.length cap (l.flatMap valVs) rfl ?qc1 ?qc2 ?qc3 ?qc4 ?qc5 ?qc6 ?_)
    case qc1 => exact flat_length valVs_2 l
    case qc2 => exact fun j u hj => Lib.cell?_alloc_some _ (A.out j u hj)
    case qc3 =>
      intro u hu
      obtain ⟨x, _, hx⟩ := List.mem_flatMap.1 hu
      simp [valVs] at hx
      rcases hx with rfl | rfl <;> rfl
    case qc4 => omega
    case qc5 => omega
    case qc6 => simp
    intro v' w1 hown hgrow _ _
    go_wp2_with (first | fail)
    go_ret
    refine ⟨v', rfl, vals_slice (by simpa using hown), fun g hg => hown.lt g hg, ?_⟩
    exact ((Below.refl _ w).alloc (Nat.le_refl _) _).grown hgrow (by simp) (by intro k hk; simp [Value.ownBlock] at hk; omega)
end Go.Proofs.YtbakcdgjibmceaaGreatDoor
namespace Go.Proofs.YtbakcdgjibmceaaGreatDoor
open Go.RowKit Go.Shelf Go.Lib
theorem zero_any (t : Str) (w : World) : Calls Tryz.prog 83 #[.string t] w fun e w' => e = .returned (valV (zeroOf t)) ∧ Below w.heap.size w w' := by
  have e1 : (ByteArray.toList t == [73]) = decide (lst t = [73]) := by
    rw [ByteArray.toList_eq, Bool.eq_iff_iff, beq_iff_eq, decide_eq_true_iff]
  have e2 : (ByteArray.toList t == [74]) = decide (lst t = [74]) := by
    rw [ByteArray.toList_eq, Bool.eq_iff_iff, beq_iff_eq, decide_eq_true_iff]
  have hB := (Below.refl w.heap.size w).alloc (Nat.le_refl _)
  unfold zeroOf
  by_cases h1 : lst t = [73]
  · rw [if_pos h1]
    rw [decide_eq_true h1] at e1
    have h2 : lst t ≠ [74] := by rw [h1]; decide
    rw [decide_eq_false h2] at e2
    clear h1 h2
    go_enter Tryz.func83, Tryz.ntmps83
    go_wp2_with (first | fail)
    exact bodyPost_ret (v := valV ⟨1, 0⟩) (by simp [results, Tryz.results83, go_sem, valV]) rfl ⟨rfl, hB _⟩
  · rw [if_neg h1]
    rw [decide_eq_false h1] at e1
    by_cases h2 : lst t = [74]
    all_goals
      first | rw [if_pos h2] | rw [if_neg h2]
      first | rw [decide_eq_true h2] at e2 | rw [decide_eq_false h2] at e2
      clear h1 h2
      go_enter Tryz.func83, Tryz.ntmps83
      go_wp2_with (first | fail)
      first
        | exact bodyPost_ret (v := valV ⟨2, 0⟩) (by simp [results, Tryz.results83, go_sem, valV]) rfl ⟨rfl, hB _⟩
        | exact bodyPost_ret (v := valV ⟨3, 0⟩) (by simp [results, Tryz.results83, go_sem, valV]) rfl ⟨rfl, hB _⟩
theorem Blk.grown {w w' : World} {b : Nat} {t : TypeId} {vals : List Value} {row : Option Nat} (h : Blk w b t vals) (hg : w.grownBy w' row) (hne : row ≠ some b) : Blk w' b t vals := (hg.block b h.lt (fun e => hne e.symm)).trans h
theorem Blk.other' {w : World} {b : Nat} {t : TypeId} {vals : List Value} (h : Blk w b t vals) {a : Addr} (hne : a.block ≠ b) (u : Value) : Blk (w.setCell a u) b t vals := (heap_setCell_other w a b u (fun e => hne e.symm)).trans h
theorem Blk.store1 {w : World} {b : Nat} {t : TypeId} {v : Value} (h : Blk w b t [v]) (u : Value) : Blk (w.setCell ⟨b, 0, none⟩ u) b t [u] := by
  unfold Blk at *
  rw [heap_setCell_same w b 0 _ _ u h]; rfl
theorem owns_other' {w : World} {base b size n : Nat} {t : TypeId} {v : Value} {xs : List Value} (h : w.ownsRow base t size v n xs) (hb : b < base) (j : Nat) (u : Value) : (w.setCell ⟨b, j, none⟩ u).ownsRow base t size v n xs := by
  rcases h with ⟨h1, h2 | ⟨g, cap, cur, k1, k2, k3, k4⟩⟩
  · exact ⟨h1, Or.inl h2⟩
  · exact ⟨h1, Or.inr ⟨g, cap, cur, k1, k2, (heap_setCell_other w ⟨b, j, none⟩ g u (by show g ≠ b; omega)).trans k3, k4⟩⟩
theorem duo_one (a : Str) (p : Option Addr) (n c : Nat) : ∀ u ∈ [Value.string a, .slice p n c], u.oneCell' = true := by
  intro u hu
  simp at hu
  rcases hu with rfl | rfl <;> rfl
/-- a thing appended on a row, whose values lie in new memory -/
theorem copy_step {B : Nat} {w wr w6 w8 : World} {v : Value} {m n g cap : Nat} {xs : List Value} {ps : List (Thing × Value)} {x : Thing} {v6 : Value} {cs : Array Value}
    (hown : wr.ownsRow (B + 3) 56 2 v n xs) (hhas : HasAt (B + 3) wr v ps) (hB : Below B w wr) (hBw : B ≤ w.heap.size) (hws : B + 3 ≤ wr.heap.size) (hBz : Below wr.heap.size wr w6)
    (hv6 : SliceOf w6 2 ValCells v6 x.has) (hfr : ∀ g, v6.ownBlock = some g → wr.heap.size ≤ g ∧ g < w6.heap.size) (hgrow : (w6.alloc (.cells cs 56)).grownBy w8 v.ownBlock) (hat : v.ownBlock = some g ∨ g = w6.heap.size + 1) :
    HasAt (B + 3) w8 (.slice (some ⟨g, 0, none⟩) m cap) (ps ++ [(x, v6)]) ∧ Below B w w8 ∧ B + 3 ≤ w8.heap.size := by
  have hBy := hBz.alloc hBz.size (.cells cs 56)
  have hBn : Below w6.heap.size w6 (w6.alloc (.cells cs 56)) := (Below.refl _ _).alloc (Nat.le_refl _) _
  have hsz : (w6.alloc (.cells cs 56)).heap.size = w6.heap.size + 1 := by simp
  have hg : (Value.slice (some ⟨g, 0, none⟩) m cap).ownBlock = some g := rfl
  refine ⟨((hhas.step hBy).grown hgrow ?_).snoc (p := (x, v6)) ((hv6.mono hBn (by decide) (fun _ _ h => h)).block ?_) ?_, (below_call hB hBw hBy).grown hgrow ?_ ?_, ?_⟩
  · rw [hg, hsz]
    rcases hat with h | h
    · exact Or.inl h.symm
    · exact Or.inr (by rw [h])
  · intro g' e'
    have h1 := hfr g' e'
    exact hgrow.block g' (by rw [hsz]; omega) (fun he => by have := (hown.lt _ he.symm).2; omega)
  · intro g' e'
    have h1 := hfr g' e'
    have h2 := hgrow.size
    rw [hsz] at h2
    refine ⟨by omega, by omega, ?_⟩
    rw [hg]
    intro he
    injection he with he
    rcases hat with h | h
    · have := (hown.lt _ h).2; omega
    · omega
  · have := hBy.size; omega
  · intro g' e'
    have := (hown.lt _ e').1; omega
  · have h2 := hgrow.size
    have := hBy.size; omega
theorem copy_row {w : World} {base b n g cap : Nat} {ps : List (Thing × Value)} {x : Thing} {v : Value} (h : w.ownsRow base 56 2 (.slice (some ⟨g, 0, none⟩) n cap) (ps.length + 1) (ps.flatMap thingVs ++ [.string x.type, v])) (hb : b < base) (u : Value) :
    (w.setCell ⟨b, 0, none⟩ u).ownsRow base 56 2 (.slice (some ⟨g, 0, none⟩) n cap) (ps ++ [(x, v)]).length ((ps ++ [(x, v)]).flatMap thingVs) := by
  have h2 := owns_other' h hb 0 u
  rw [List.length_append, List.flatMap_append]
  simpa [thingVs] using h2
theorem copy_size {w : World} {B : Nat} (h : B ≤ w.heap.size) (a : Addr) (u : Value) : B ≤ (w.setCell a u).heap.size := by simpa using h
/-- what Copy leaves: a heap of the call's own that holds the same things -/
def CopyPost (w : World) (h : List Thing) (e : Ending) (w' : World) : Prop :=
  (∃ v ps, e = .returned (.agg #[v]) ∧ ps.map (·.1) = h ∧ w'.ownsRow w.heap.size 56 2 v ps.length (ps.flatMap thingVs) ∧ HasAt w.heap.size w' v ps) ∧ Below w.heap.size w w'
set_option maxHeartbeats 4000000 in
set_option maxRecDepth 100000 in
theorem copy_any (w : World) (h : List Thing) (hv : Value) (hh : ThingsAt w hv h) (hn : ∀ x ∈ h, x.has.length ≤ 4194304) (h50 : h.length ≤ 50) :
    Calls Tryz.prog 51 #[.agg #[hv]] w (CopyPost w h) := by
  obtain ⟨p, c, rfl, hc1, hc2, hcc⟩ := hh.open
  have hlen : h.length ≤ 9223372036854775807 := Nat.le_trans hc1 hc2
  have HC := Lib.hid hcc
  have HN := Lib.hid hn
  have HCl : Hid (∀ l v wx, SliceOf wx 2 ValCells v l → l.length ≤ 4194304 → _) := fun l v wx h1 h2 => cloneVals_any l v wx h1 h2
  obtain ⟨i0, hi, hz0, hz1, hz2⟩ := info_parts info_thing
  unfold CopyPost
  clear hh hcc hn
  obtain ⟨w1, hw1⟩ : ∃ w1, w1 = ((w.alloc (.cells #[.slice p h.length c] 25)).alloc (.cells #[.slice none 0 0] 25)).alloc (.cells #[.slice none 0 0] 25) := ⟨_, rfl⟩
  have hB1 : Below w.heap.size w w1 := by rw [hw1]; exact (((Below.refl _ _).alloc (Nat.le_refl _) _).alloc (by simp) _).alloc (by simp; omega) _
  have hsz : w1.heap.size = w.heap.size + 3 := by rw [hw1]; simp
  have hk1 : Blk w1 (w.heap.size + 1) 25 [.slice none 0 0] := by
    rw [hw1]
    have := (Blk.new (w.alloc (.cells #[.slice p h.length c] 25)) 25 [.slice none 0 0]).step ((Below.refl _ _).alloc (Nat.le_refl _) (.cells #[.slice none 0 0] 25))
    simpa using this
  have hk2 : Blk w1 (w.heap.size + 1 + 1) 25 [.slice none 0 0] := by
    rw [hw1]
    have := Blk.new ((w.alloc (.cells #[.slice p h.length c] 25)).alloc (.cells #[.slice none 0 0] 25)) 25 [.slice none 0 0]
    simpa using this
  have HW := Lib.hid hw1.symm
  go_enter Tryz.func51, Tryz.ntmps51
  go_wp2_with (first | fail)
  rw [HW.out]
  clear HW hw1
  have HK1 := Lib.hid hk1
  have HK2 := Lib.hid hk2
  have HB1 := Lib.hid hB1
  clear hk1 hk2 hB1
  go_loopw [9] (fun x wr => ∃ (k : Nat) (v : Value) (ps : List (Thing × Value)), k ≤ h.length ∧ ps.map (·.1) = h.take k ∧ Hid (Blk wr (w.heap.size + 1) 25 [.slice none 0 0]) ∧ Hid (Blk wr (w.heap.size + 1 + 1) 25 [v]) ∧ Hid (wr.ownsRow (w.heap.size + 3) 56 2 v ps.length (ps.flatMap thingVs)) ∧ Hid (HasAt (w.heap.size + 3) wr v ps) ∧ Below w.heap.size w wr ∧ Hid (w.heap.size + 3 ≤ wr.heap.size) ∧ x = .int .i64 k) (fun x _ => h.length - (intOf x).toNat)
  case atStart => exact ⟨0, _, [], by omega, by simp, HK1.out, HK2.out, World.ownsRow_nil _ _ _ _, HasAt.nil _ _ _, HB1.out, by unfold Hid; omega, rfl⟩
  case round =>
    clear HK1 HK2 HB1 hsz
    obtain ⟨k, v, ps, hk, hps, hk1, hk2, hown, hhas, hB, hws, rfl⟩ := hrel
    by_cases hkl : k < h.length
    · obtain ⟨x, hx⟩ : ∃ a, h[k]? = some a := ⟨h[k], by simp [hkl]⟩
      obtain ⟨b, o, vs, rfl, ⟨xv, rfl, hvs⟩, _, hcells⟩ := HC.out k x hx
      obtain ⟨c0, c1, _⟩ := hcells.mono hB hcells.lt
      have hxn := HN.out x (List.mem_of_getElem? hx)
      have hvr := hvs.mono hB (by decide) (fun _ _ h => h)
      have htake : h.take (k + 1) = h.take k ++ [x] := by
        obtain ⟨h1, h2⟩ := List.getElem?_eq_some_iff.1 hx
        rw [List.take_succ_eq_append_getElem h1, h2]
      obtain ⟨p2, c2, rfl, _⟩ := hvs.open
      obtain ⟨va, vc, rfl⟩ := ownsRow_shape hown.out
      obtain ⟨wa, hwa⟩ : ∃ wa, wa = wr.alloc (.cells #[.string x.type, .slice p2 x.has.length c2] 56) := ⟨_, rfl⟩
      have hBa : Below wr.heap.size wr wa := by rw [hwa]; exact (Below.refl _ _).alloc (Nat.le_refl _) _
      have HWa := Lib.hid hwa.symm
      have a0 : wa.cell? ⟨wr.heap.size, 0, none⟩ = some (.string x.type) := by rw [hwa]; simp
      have a1 : wa.cell? ⟨wr.heap.size, 1, none⟩ = some (.slice p2 x.has.length c2) := by rw [hwa]; simp
      have q2 : wa.cell? ⟨w.heap.size + 1 + 1, 0, none⟩ = some (.slice va ps.length vc) := (hk2.out.step hBa).cell 0
      have HClx : Hid (∀ wx, Below wa.heap.size wa wx → Calls Tryz.prog 84 #[.slice p2 x.has.length c2] wx fun e w' => ∃ v', e = .returned v' ∧ SliceOf w' 2 ValCells v' x.has ∧ (∀ g, v'.ownBlock = some g → wx.heap.size ≤ g ∧ g < w'.heap.size) ∧ Below wx.heap.size wx w') := fun wx hb => HCl.out x.has _ wx ((hvr.mono hBa (by decide) (fun _ _ h => h)).mono hb (by decide) (fun _ _ h => h)) hxn
      have hl8 : ps.length ≤ 8388608 := by
        have : (ps.map (·.1)).length = (h.take k).length := by rw [hps]
        rw [List.length_map, List.length_take] at this; omega
      have HBa := Lib.hid hBa
      have HBr := Lib.hid hB
      have HPs := Lib.hid hps
      have HTk := Lib.hid htake
      clear hx hcells hvs hvr hB hps hBa htake hwa
      go_upto_region 5 with (first | fail)
      rw [HWa.out]
      have hne : w.heap.size + 1 + 1 < wr.heap.size := by have := hws.out; omega
      have hb63 : ps.length + 1 ≤ maxLen := by unfold maxLen; omega
      have hb40 : (ps.length + 1) * 40 ≤ 140737488355328 := by omega
      have hno7 : (Value.slice va ps.length vc).ownBlock ≠ some (w.heap.size + 1 + 1) := fun e => by have := (hown.out.lt _ e).1; omega
      have hno1 : (Value.slice va ps.length vc).ownBlock ≠ some (w.heap.size + 1) := fun e => by have := (hown.out.lt _ e).1; omega
      have b0 := Lib.hid a0
      have b1 := Lib.hid a1
      have b2 := Lib.hid q2
      go_region_law (first
        | (refine step_append_lies _ (by rfl) _ _ 23 (by rfl) (w.heap.size + 3) 56 i0 (.agg #[.string .empty, .slice none 0 0]) 2 40 Tryz.underlying23 hi hz0 hz1 hz2 rfl (by decide) _ ps.length _ (by rfl) hown7 ⟨w6.heap.size, 0, none⟩ 1 1 [.string x.type, .slice p6 x.has.length k6] (by rfl) rfl (cell_duo_new w6 _ _ 56) (duo_one _ _ _ _) (by decide) hb63 hb40 hbase7 (w6.heap.size + 1) (by simp) ?_; intro g cap w8 hown8 hgrow hat hlt; (have hk8 := hk27.grown hgrow hno7); (have e8 := hk8.cell 0); (have f8 := hk8.frozen 0))
        | (go_simp; go_at_call 84; refine (HClx.out _ ((Below.refl _ _).drew)).mono ?_; rintro e w6 ⟨v6, rfl, hv6, hfr6, hB6'⟩; (have hv6k := hv6); obtain ⟨p6, k6, rfl, _⟩ := hv6k.open; (have hB6 := below_call ((Below.refl _ _).drew) (Nat.le_refl _) hB6'); (have d0 := (hB6.cell (p := ⟨wr.heap.size, 0, none⟩) (hcells_lt b0.out)).trans b0.out); (have d1 := (hB6.cell (p := ⟨wr.heap.size, 1, none⟩) (hcells_lt b1.out)).trans b1.out); (have d2 := (hB6.cell (p := ⟨w.heap.size + 1 + 1, 0, none⟩) (hcells_lt b2.out)).trans b2.out); (have d3 := Lib.cell?_alloc_some (.cells #[.string x.type, .slice p6 x.has.length k6] 56) d2); (have hBz := below_call HBa.out (Nat.le_refl _) hB6); (have hBy := hBz.alloc hBz.size (.cells #[.string x.type, .slice p6 x.has.length k6] 56)); (have hown7 := ownsRow_belowk hown.out hBy); (have hk27 := hk2.out.step hBy); (have hbase7 := Nat.le_trans hws.out hBy.size)))
      all_goals
        have hk17 := Lib.hid ((hk1.out.step hBy).grown hgrow hno1)
        have hK8 := Lib.hid hk8
        have hO8 := Lib.hid hown8
        have hst := copy_step (B := w.heap.size) (m := ps.length + 1) (cap := cap) (x := x) hown.out hhas.out HBr.out (Nat.le_refl _) hws.out hBz hv6 (fun g' e' => ⟨Nat.le_trans HBa.out.size (Nat.le_trans (by simp) (hfr6 g' e').1), (hfr6 g' e').2⟩) hgrow hat
        have hA8 := Lib.hid hst.1
        have hB8 := Lib.hid hst.2.1
        have hW8 := Lib.hid hst.2.2
        clear hst d0 d1 d2 d3 hBz hBy hown7 hk27 hbase7 hgrow hat hk8 hown8 hv6 hfr6 hB6 hB6' b0 b1 b2 a0 a1 q2 hno1 hno7 hlt HClx hk1 hk2 hown hhas HWa HCl c0 c1
        go_wp2_with (first | fail)
        go_roundw
        case rel => exact ⟨k + 1, Value.slice (some ⟨g, 0, none⟩) (ps.length + 1) cap, ps ++ [(x, Value.slice p6 x.has.length k6)], by omega, by rw [List.map_append, HPs.out, HTk.out]; rfl, hk17.out.other' (by simp) _, hK8.out.store1 _, copy_row (b := w.heap.size + 1 + 1) hO8.out (Nat.lt_succ_self _) _, hA8.out.set (b := w.heap.size + 1 + 1) (Nat.lt_succ_self _) 0 _, hB8.out.setCell (by show w.heap.size ≤ w.heap.size + 1 + 1; omega) _, copy_size hW8.out _ _, by simp⟩
        case measure => simp [intOf]; omega
    · obtain rfl : k = h.length := by omega
      obtain ⟨va, vc, rfl⟩ := ownsRow_shape hown.out
      have q1 : wr.cell? ⟨w.heap.size + 1, 0, none⟩ = some (.slice none 0 0) := hk1.out.cell 0
      have q2 : wr.cell? ⟨w.heap.size + 1 + 1, 0, none⟩ = some (.slice va ps.length vc) := hk2.out.cell 0
      have f1 := hk1.out.frozen 0
      have HB2 := Lib.hid (hB.setCell (p := ⟨w.heap.size + 1, 0, none⟩) (by show w.heap.size ≤ w.heap.size + 1; omega) (.slice va ps.length vc))
      have hown2 : Hid ((wr.setCell ⟨w.heap.size + 1, 0, none⟩ (.slice va ps.length vc)).ownsRow (w.heap.size + 3) 56 2 (.slice va ps.length vc) ps.length (ps.flatMap thingVs)) := owns_other' hown.out (by omega) 0 _
      rw [List.take_length] at hps
      have HPs := Lib.hid hps
      have HA2 := Lib.hid (hhas.out.set (b := w.heap.size + 1) (by omega) 0 (.slice va ps.length vc))
      clear hk1 hk2 hown hhas hB hws hps
      go_wp2_with (first | fail)
      refine bodyPost_ret (v := .agg #[.slice va ps.length vc]) (by simp [results, Tryz.results51, go_sem, *]) rfl ?_
      exact ⟨⟨_, ps, rfl, HPs.out, ownsRow_base hown2.out (by omega), HA2.out.base (by omega)⟩, HB2.out⟩
end Go.Proofs.YtbakcdgjibmceaaGreatDoor
