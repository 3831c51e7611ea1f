/-
  ROWS of structs of three texts (lay's slots, tables' slots): append of one element on a row of the call's own.
-/
import Derived.Test.YtehhmedjgmbpgaaGreatDoorFind
namespace Go.Proofs.YtehhmedjgmbpgaaGreatDoor
open Go.RowKit Go.Shelf Go.Lib
def trio (a b c : Str) : List Value := [.string a, .string b, .string c]
theorem info_laySlot : (Tryz.prog.info? 198).map (fun i => (i.zero, i.size, i.bytes)) = some (some (.agg #[.string .empty, .string .empty, .string .empty]), 3, 48) := by kernel_rfl
theorem info_apiSlot : (Tryz.prog.info? 39).map (fun i => (i.zero, i.size, i.bytes)) = some (some (.agg #[.string .empty, .string .empty, .string .empty]), 3, 48) := by kernel_rfl
theorem cell_trio_new (w : World) (a b c : Str) (t : TypeId) : ∀ j u, (trio a b c)[j]? = some u → (w.alloc (.cells #[.string a, .string b, .string c] t)).cell? ((⟨w.heap.size, 0, none⟩ : Addr).add j) = some u := by
  intro j u hj
  match j, hj with
  | 0, hj => simp [trio] at hj; subst hj; simp [Addr.add]
  | 1, hj => simp [trio] at hj; subst hj; simp [Addr.add]
  | 2, hj => simp [trio] at hj; subst hj; simp [Addr.add]
theorem wpList_append_trio {w : World} {T TS : TypeId} {ops : Array Oper} {rest : List Oper} {o : Oper} {a : Act} {Q : Exit → Act → World → Prop} (hu : Tryz.prog.underlying TS = some (.slice T))
    (hinfo : (Tryz.prog.info? T).map (fun i => (i.zero, i.size, i.bytes)) = some (some (.agg #[.string .empty, .string .empty, .string .empty]), 3, 48)) (hgd : o.guard = none) (s x : Operand)
    (ho : o.op = .call { callee := .builtin .append, args := #[s, x], argTypes := #[TS, TS] })
    (base : Nat) (v : Value) (n : Nat) (xs : List Value) (hs : a.eval s = v) (hown : w.ownsRow base T 3 v n xs)
    (c1 c2 c3 : Str) (g : Nat) (hg : w.heap.size = g) (hx : a.eval x = .slice (some ⟨g, 0, none⟩) 1 1) (h63 : n ≤ 8388608) (hbase : base ≤ w.heap.size)
    (h : ∀ v' w', w'.ownsRow base T 3 v' (n + 1) (xs ++ trio c1 c2 c3) → (w.alloc (.cells #[.string c1, .string c2, .string c3] T)).grownBy w' v.ownBlock → wpList Tryz.prog ops Q rest (a.put o.dst v') w') :
    wpList Tryz.prog ops Q (o :: rest) a (w.alloc (.cells #[.string c1, .string c2, .string c3] T)) := by
  subst hg
  obtain ⟨i0, hi, hz0, hz1, hz2⟩ := info_parts hinfo
  refine wpList_append_own_at _ hgd s x TS ho base T i0 (.agg #[.string .empty, .string .empty, .string .empty]) 3 48 hu hi hz0 hz1 hz2 rfl (by decide) v n xs hs (hown.alloc _) ⟨w.heap.size, 0, none⟩ 1 1 (trio c1 c2 c3) hx rfl (cell_trio_new w c1 c2 c3 T)
    (fun u hu => by simp [trio] at hu; rcases hu with rfl | rfl | rfl <;> rfl) (Nat.le_trans (show n + 1 ≤ 8388609 by omega) (by decide)) (by omega) (Nat.le_trans hbase (by simp)) fun v' w' h1 h2 _ _ => h v' w' h1 h2
theorem ownsRow3_nil (w : World) (base : Nat) (t : TypeId) : w.ownsRow base t 3 (.slice none 0 0) 0 [] := ⟨rfl, Or.inl ⟨rfl, rfl⟩⟩
theorem ownsRow3_below {w w' : World} {base : Nat} {t : TypeId} {v : Value} {n : Nat} {xs : List Value} (h : w.ownsRow base t 3 v n xs) (hb : Below w.heap.size w w') : w'.ownsRow base t 3 v n xs := by
  rcases h with ⟨h1, h2 | ⟨g, cap, cur, k1, k2, k3, k4⟩⟩
  · exact ⟨h1, Or.inl h2⟩
  · exact ⟨h1, Or.inr ⟨g, cap, cur, k1, k2, (hb.block g (Array.getElem?_eq_some_iff.1 k3).1).trans k3, k4⟩⟩
/-- what lies at an index of a row of structs of three texts -/
theorem ownsRow3_at {α : Type} {f : α → List Value} (h3 : ∀ x, (f x).length = 3) {w : World} {base : Nat} {t : TypeId} {p : Option Addr} {c n : Nat} {l : List α} (h : w.ownsRow base t 3 (.slice p n c) n (l.flatMap f)) (hn : n = l.length) {i : Nat} {x : α} (hx : l[i]? = some x) :
    ∃ g, p = some ⟨g, 0, none⟩ ∧ base ≤ g ∧ g < w.heap.size ∧ ∀ j, j < 3 → w.cell? ⟨g, i * 3 + j, none⟩ = (f x)[j]? := by
  subst hn
  obtain ⟨hi, rfl⟩ := List.getElem?_eq_some_iff.1 hx
  rcases h with ⟨h1, ⟨h2, h2'⟩ | ⟨g, cap, cur, k1, k2, k3, k4, k5, k6, k7⟩⟩
  · rw [h2'] at hi; exact absurd hi (Nat.not_lt_zero _)
  · injection k1 with e1 _ e3
    subst e1 e3
    refine ⟨g, rfl, k2, (Array.getElem?_eq_some_iff.1 k3).1, fun j hj => ?_⟩
    have hlen : ∀ m : List α, (m.flatMap f).length = m.length * 3 := fun m => by
      induction m with
      | nil => rfl
      | cons a r ih => rw [List.flatMap_cons, List.length_append, ih, h3, List.length_cons]; omega
    rw [cell_of_row w g (i * 3 + j) cur t (0, 0) k3]
    have hc : cur[i * 3 + j]? = (cur.toList.take (l.length * 3))[i * 3 + j]? := by
      rw [List.getElem?_take, if_pos (by omega)]; simp
    rw [hc, k7]
    have hsplit : l.flatMap f = (l.take i).flatMap f ++ (f l[i] ++ (l.drop (i + 1)).flatMap f) := by
      rw [← List.flatMap_cons, ← List.flatMap_append, ← List.drop_eq_getElem_cons hi, List.take_append_drop]
    rw [hsplit, List.getElem?_append_right (by rw [hlen, List.length_take]; omega), hlen, List.length_take, Nat.min_eq_left (by omega), Nat.add_sub_cancel_left, List.getElem?_append_left (by rw [h3]; exact hj)]
/-- append of one text on a row of the call's own -/
theorem wpList_append_text1 {w : World} {ops : Array Oper} {rest : List Oper} {o : Oper} {a : Act} {Q : Exit → Act → World → Prop} (hgd : o.guard = none) (s x : Operand)
    (ho : o.op = .call { callee := .builtin .append, args := #[s, x], argTypes := #[27, 27] })
    (base : Nat) (v : Value) (n : Nat) (xs : List Value) (hs : a.eval s = v) (hown : w.ownsRow base 9 1 v n xs)
    (c : Str) (g : Nat) (hg : w.heap.size = g) (hx : a.eval x = .slice (some ⟨g, 0, none⟩) 1 1) (h63 : n ≤ 8388608) (hbase : base ≤ w.heap.size)
    (h : ∀ v' w', w'.ownsRow base 9 1 v' (n + 1) (xs ++ [.string c]) → (w.alloc (.cells #[.string c] 9)).grownBy w' v.ownBlock → wpList Tryz.prog ops Q rest (a.put o.dst v') w') :
    wpList Tryz.prog ops Q (o :: rest) a (w.alloc (.cells #[.string c] 9)) := by
  subst hg
  obtain ⟨i0, hi, hz0, hz1, hz2⟩ := info_parts info_string
  refine wpList_append_own_at _ hgd s x 27 ho base 9 i0 (.string .empty) 1 16 Tryz.underlying27 hi hz0 hz1 hz2 rfl (by decide) v n xs hs (hown.alloc _) ⟨w.heap.size, 0, none⟩ 1 1 [.string c] hx rfl (cell_one_new _ _ _)
    (fun u hu => by simp at hu; subst hu; rfl) (Nat.le_trans (show n + 1 ≤ 8388609 by omega) (by decide)) (by omega) (Nat.le_trans hbase (by simp)) fun v' w' h1 h2 _ _ => h v' w' h1 h2
end Go.Proofs.YtehhmedjgmbpgaaGreatDoor
