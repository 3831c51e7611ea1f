/-
  WALKS over the reference's Needs, typeMay, InsFault. Conditions: as in XIns.
-/
import Derived.Test.YtinccnehfalfnaaGreatDoorRefMethod
namespace Go.Proofs.YtinccnehfalfnaaGreatDoor
open Go.RowKit Go.Shelf Go.Lib
theorem op_cases {n : Nat} (h1 : 1 ≤ n) (h2 : n ≤ 28) {P : Nat → Prop} (h : ∀ k : Fin 28, P (k.val + 1)) : P n := by
  have := h ⟨n - 1, by omega⟩
  rwa [show n - 1 + 1 = n by omega] at this
def needsV (op : Int) : Value := .agg #[.bool (needA op), .bool (needB op), .bool (needT op), .bool (needC op), .bool (needN op)]
set_option maxHeartbeats 4000000 in
theorem refNeeds_any (op : Nat) (w : World) (h1 : 1 ≤ op) (h2 : op ≤ 28) : Calls Tryz.prog 82 #[.int .i64 op] w fun e w' => e = .returned (needsV op) ∧ Below w.heap.size w w' := by
  refine op_cases (P := fun op => Calls Tryz.prog 82 #[.int .i64 ((op : Nat) : Int)] w fun e w' => e = .returned (needsV (op : Nat)) ∧ Below w.heap.size w w') h1 h2 fun k => ?_
  have HJ : Hid (∀ op wx, _) := fun op wx => refJumps_any op wx
  match k with
  | ⟨0, _⟩ | ⟨1, _⟩ | ⟨2, _⟩ | ⟨3, _⟩ | ⟨4, _⟩ | ⟨5, _⟩ | ⟨6, _⟩ | ⟨7, _⟩ | ⟨8, _⟩ | ⟨9, _⟩ | ⟨10, _⟩ | ⟨11, _⟩ | ⟨12, _⟩ | ⟨13, _⟩ | ⟨14, _⟩ | ⟨15, _⟩ | ⟨16, _⟩ | ⟨17, _⟩ | ⟨18, _⟩ | ⟨19, _⟩ | ⟨20, _⟩ | ⟨21, _⟩ | ⟨22, _⟩ | ⟨23, _⟩ | ⟨24, _⟩ | ⟨25, _⟩ | ⟨26, _⟩ | ⟨27, _⟩ =>
    dsimp only
    go_enter Tryz.func82, Tryz.ntmps82
    go_wp2_with (go_at_call 60; (with_reducible refine (HJ.out _ _).mono ?_); rintro e w' ⟨rfl, rfl⟩)
    exact bodyPost_ret (v := needsV _) (by simp [results, Tryz.results82, go_sem]; rfl) rfl ⟨rfl, (Below.refl _ _).alloc (Nat.le_refl _) _⟩
  | ⟨_ + 28, h⟩ => exact absurd h (by omega)
theorem typeB_deep (t : ByteArray) (h : typeB t.data.toList = true) : typeB (91 :: t.data.toList) = decide (deepOf t.data.toList < 3) := by
  have hb := (typeB_iff t).1 h
  obtain ⟨h1, h2⟩ := hb
  have hd : deepOf (91 :: t.data.toList) = deepOf t.data.toList + 1 := by rw [deepOf, if_pos rfl]
  have hr : (91 :: t.data.toList).drop (deepOf t.data.toList + 1) = t.data.toList.drop (deepOf t.data.toList) := rfl
  have hl := length_eq t
  unfold typeLen at h2
  unfold typeB typeLen
  rw [hd, hr]
  by_cases hc : deepOf t.data.toList ≤ 3 ∧ 0 < coreLen (t.data.toList.drop (deepOf t.data.toList))
  · rw [if_pos hc] at h2
    by_cases h3 : deepOf t.data.toList < 3
    · rw [if_pos (by omega), decide_eq_true h3]
      simp; omega
    · rw [if_neg (by omega), decide_eq_false h3]
      simp
  · rw [if_neg hc] at h2; omega
end Go.Proofs.YtinccnehfalfnaaGreatDoor
