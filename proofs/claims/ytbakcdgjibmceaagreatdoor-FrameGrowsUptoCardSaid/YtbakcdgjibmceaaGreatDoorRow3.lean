/-
  WALKS over same.Method, of a method without code and handlers; blocks that are stored to.
  ROWS of structs of three texts (lay's slots, tables' slots): append of one element on a row of the call's own.
  EQUALITY of structs of texts: fields, lay's slots, tables' slots.
-/
import Derived.Test.YtbakcdgjibmceaaGreatDoorFind
namespace Go.Proofs.YtbakcdgjibmceaaGreatDoor
open Go.RowKit Go.Shelf Go.Lib
theorem Blk.put {w : World} {b : Nat} {t : TypeId} {vals : List Value} (h : Blk w b t vals) (j : Nat) (v : Value) : Blk (w.setCell ⟨b, j, none⟩ v) b t (vals.set j v) := by
  unfold Blk at *
  rw [heap_setCell_same w b j _ t v h]
  simp
theorem Blk.other {w : World} {b b' : Nat} {t : TypeId} {vals : List Value} (h : Blk w b t vals) (hne : b ≠ b') (j : Nat) (v : Value) : Blk (w.setCell ⟨b', j, none⟩ v) b t vals := by
  unfold Blk at *
  rw [heap_setCell_other w ⟨b', j, none⟩ b v hne]; exact h
theorem Blk.put2 {w : World} {b : Nat} {t : TypeId} {a0 a1 : Value} (h : Blk w b t [a0, a1]) (v0 v1 : Value) : Blk ((w.setCell ⟨b, 0, none⟩ v0).setCell ⟨b, 1, none⟩ v1) b t [v0, v1] := (h.put 0 v0).put 1 v1
theorem Blk.put8 {w : World} {b : Nat} {t : TypeId} {a0 a1 a2 a3 a4 a5 a6 a7 : Value} (h : Blk w b t [a0, a1, a2, a3, a4, a5, a6, a7]) (v0 v1 v2 v3 v4 v5 v6 v7 : Value) :
    Blk ((((((((w.setCell ⟨b, 0, none⟩ v0).setCell ⟨b, 1, none⟩ v1).setCell ⟨b, 2, none⟩ v2).setCell ⟨b, 3, none⟩ v3).setCell ⟨b, 4, none⟩ v4).setCell ⟨b, 5, none⟩ v5).setCell ⟨b, 6, none⟩ v6).setCell ⟨b, 7, none⟩ v7) b t [v0, v1, v2, v3, v4, v5, v6, v7] :=
  (((((((h.put 0 v0).put 1 v1).put 2 v2).put 3 v3).put 4 v4).put 5 v5).put 6 v6).put 7 v7
theorem Blk.other8 {w : World} {b b' : Nat} {t : TypeId} {vals : List Value} (h : Blk w b t vals) (hne : b ≠ b') (v0 v1 v2 v3 v4 v5 v6 v7 : Value) :
    Blk ((((((((w.setCell ⟨b', 0, none⟩ v0).setCell ⟨b', 1, none⟩ v1).setCell ⟨b', 2, none⟩ v2).setCell ⟨b', 3, none⟩ v3).setCell ⟨b', 4, none⟩ v4).setCell ⟨b', 5, none⟩ v5).setCell ⟨b', 6, none⟩ v6).setCell ⟨b', 7, none⟩ v7) b t vals :=
  (((((((h.other hne 0 v0).other hne 1 v1).other hne 2 v2).other hne 3 v3).other hne 4 v4).other hne 5 v5).other hne 6 v6).other hne 7 v7
theorem Blk.cells2 {w : World} {b : Nat} {t : TypeId} {a0 a1 : Value} (h : Blk w b t [a0, a1]) : w.cell? ⟨b, 0, none⟩ = some a0 ∧ w.cell? ⟨b, 1, none⟩ = some a1 := ⟨h.cell 0, h.cell 1⟩
theorem Blk.cells8 {w : World} {b : Nat} {t : TypeId} {a0 a1 a2 a3 a4 a5 a6 a7 : Value} (h : Blk w b t [a0, a1, a2, a3, a4, a5, a6, a7]) :
    w.cell? ⟨b, 0, none⟩ = some a0 ∧ w.cell? ⟨b, 1, none⟩ = some a1 ∧ w.cell? ⟨b, 2, none⟩ = some a2 ∧ w.cell? ⟨b, 3, none⟩ = some a3 ∧ w.cell? ⟨b, 4, none⟩ = some a4 ∧ w.cell? ⟨b, 5, none⟩ = some a5 ∧ w.cell? ⟨b, 6, none⟩ = some a6 ∧ w.cell? ⟨b, 7, none⟩ = some a7 :=
  ⟨h.cell 0, h.cell 1, h.cell 2, h.cell 3, h.cell 4, h.cell 5, h.cell 6, h.cell 7⟩
end Go.Proofs.YtbakcdgjibmceaaGreatDoor
namespace Go.Proofs.YtbakcdgjibmceaaGreatDoor
open Go.RowKit Go.Shelf Go.Lib
def trio (a b c : Str) : List Value := [.string a, .string b, .string c]
theorem info_laySlot : (Tryz.prog.info? 165).map (fun i => (i.zero, i.size, i.bytes)) = some (some (.agg #[.string .empty, .string .empty, .string .empty]), 3, 48) := by kernel_rfl
theorem cell_trio_new (w : World) (a b c : Str) (t : TypeId) : ∀ j u, (trio a b c)[j]? = some u → (w.alloc (.cells #[.string a, .string b, .string c] t)).cell? ((⟨w.heap.size, 0, none⟩ : Addr).add j) = some u := by
  intro j u hj
  match j, hj with
  | 0, hj => simp [trio] at hj; subst hj; simp [Addr.add]
  | 1, hj => simp [trio] at hj; subst hj; simp [Addr.add]
  | 2, hj => simp [trio] at hj; subst hj; simp [Addr.add]
theorem wpList_append_trio {w : World} {T TS : TypeId} {ops : Array Oper} {rest : List Oper} {o : Oper} {a : Act} {Q : Exit → Act → World → Prop} (hu : Tryz.prog.underlying TS = some (.slice T))
    (hinfo : (Tryz.prog.info? T).map (fun i => (i.zero, i.size, i.bytes)) = some (some (.agg #[.string .empty, .string .empty, .string .empty]), 3, 48)) (hgd : o.guard = none) (s x : Operand)
    (ho : o.op = .call { callee := .builtin .append, args := #[s, x], argTypes := #[TS, TS] })
    (base : Nat) (v : Value) (n : Nat) (xs : List Value) (hs : a.eval s = v) (hown : w.ownsRow base T 3 v n xs)
    (c1 c2 c3 : Str) (g : Nat) (hg : w.heap.size = g) (hx : a.eval x = .slice (some ⟨g, 0, none⟩) 1 1) (h63 : n ≤ 8388608) (hbase : base ≤ w.heap.size)
    (h : ∀ v' w', w'.ownsRow base T 3 v' (n + 1) (xs ++ trio c1 c2 c3) → (w.alloc (.cells #[.string c1, .string c2, .string c3] T)).grownBy w' v.ownBlock → wpList Tryz.prog ops Q rest (a.put o.dst v') w') :
    wpList Tryz.prog ops Q (o :: rest) a (w.alloc (.cells #[.string c1, .string c2, .string c3] T)) := by
  subst hg
  obtain ⟨i0, hi, hz0, hz1, hz2⟩ := info_parts hinfo
  refine wpList_append_own_at _ hgd s x TS ho base T i0 (.agg #[.string .empty, .string .empty, .string .empty]) 3 48 hu hi hz0 hz1 hz2 rfl (by decide) v n xs hs (hown.alloc _) ⟨w.heap.size, 0, none⟩ 1 1 (trio c1 c2 c3) hx rfl (cell_trio_new w c1 c2 c3 T)
    (fun u hu => by simp [trio] at hu; rcases hu with rfl | rfl | rfl <;> rfl) (Nat.le_trans (show n + 1 ≤ 8388609 by omega) (by decide)) (by omega) (Nat.le_trans hbase (by simp)) fun v' w' h1 h2 _ _ => h v' w' h1 h2
theorem ownsRow3_nil (w : World) (base : Nat) (t : TypeId) : w.ownsRow base t 3 (.slice none 0 0) 0 [] := ⟨rfl, Or.inl ⟨rfl, rfl⟩⟩
theorem ownsRow3_below {w w' : World} {base : Nat} {t : TypeId} {v : Value} {n : Nat} {xs : List Value} (h : w.ownsRow base t 3 v n xs) (hb : Below w.heap.size w w') : w'.ownsRow base t 3 v n xs := by
  rcases h with ⟨h1, h2 | ⟨g, cap, cur, k1, k2, k3, k4⟩⟩
  · exact ⟨h1, Or.inl h2⟩
  · exact ⟨h1, Or.inr ⟨g, cap, cur, k1, k2, (hb.block g (Array.getElem?_eq_some_iff.1 k3).1).trans k3, k4⟩⟩
/-- what lies at an index of a row of structs of three texts -/
theorem ownsRow3_at {α : Type} {f : α → List Value} (h3 : ∀ x, (f x).length = 3) {w : World} {base : Nat} {t : TypeId} {p : Option Addr} {c n : Nat} {l : List α} (h : w.ownsRow base t 3 (.slice p n c) n (l.flatMap f)) (hn : n = l.length) {i : Nat} {x : α} (hx : l[i]? = some x) :
    ∃ g, p = some ⟨g, 0, none⟩ ∧ base ≤ g ∧ g < w.heap.size ∧ ∀ j, j < 3 → w.cell? ⟨g, i * 3 + j, none⟩ = (f x)[j]? := by
  subst hn
  obtain ⟨hi, rfl⟩ := List.getElem?_eq_some_iff.1 hx
  rcases h with ⟨h1, ⟨h2, h2'⟩ | ⟨g, cap, cur, k1, k2, k3, k4, k5, k6, k7⟩⟩
  · rw [h2'] at hi; exact absurd hi (Nat.not_lt_zero _)
  · injection k1 with e1 _ e3
    subst e1 e3
    refine ⟨g, rfl, k2, (Array.getElem?_eq_some_iff.1 k3).1, fun j hj => ?_⟩
    have hlen : ∀ m : List α, (m.flatMap f).length = m.length * 3 := fun m => by
      induction m with
      | nil => rfl
      | cons a r ih => rw [List.flatMap_cons, List.length_append, ih, h3, List.length_cons]; omega
    rw [cell_of_row w g (i * 3 + j) cur t (0, 0) k3]
    have hc : cur[i * 3 + j]? = (cur.toList.take (l.length * 3))[i * 3 + j]? := by
      rw [List.getElem?_take, if_pos (by omega)]; simp
    rw [hc, k7]
    have hsplit : l.flatMap f = (l.take i).flatMap f ++ (f l[i] ++ (l.drop (i + 1)).flatMap f) := by
      rw [← List.flatMap_cons, ← List.flatMap_append, ← List.drop_eq_getElem_cons hi, List.take_append_drop]
    rw [hsplit, List.getElem?_append_right (by rw [hlen, List.length_take]; omega), hlen, List.length_take, Nat.min_eq_left (by omega), Nat.add_sub_cancel_left, List.getElem?_append_left (by rw [h3]; exact hj)]
/-- append of one text on a row of the call's own -/
theorem wpList_append_text1 {w : World} {ops : Array Oper} {rest : List Oper} {o : Oper} {a : Act} {Q : Exit → Act → World → Prop} (hgd : o.guard = none) (s x : Operand)
    (ho : o.op = .call { callee := .builtin .append, args := #[s, x], argTypes := #[43, 43] })
    (base : Nat) (v : Value) (n : Nat) (xs : List Value) (hs : a.eval s = v) (hown : w.ownsRow base 9 1 v n xs)
    (c : Str) (g : Nat) (hg : w.heap.size = g) (hx : a.eval x = .slice (some ⟨g, 0, none⟩) 1 1) (h63 : n ≤ 8388608) (hbase : base ≤ w.heap.size)
    (h : ∀ v' w', w'.ownsRow base 9 1 v' (n + 1) (xs ++ [.string c]) → (w.alloc (.cells #[.string c] 9)).grownBy w' v.ownBlock → wpList Tryz.prog ops Q rest (a.put o.dst v') w') :
    wpList Tryz.prog ops Q (o :: rest) a (w.alloc (.cells #[.string c] 9)) := by
  subst hg
  obtain ⟨i0, hi, hz0, hz1, hz2⟩ := info_parts info_string
  refine wpList_append_own_at _ hgd s x 43 ho base 9 i0 (.string .empty) 1 16 Tryz.underlying43 hi hz0 hz1 hz2 rfl (by decide) v n xs hs (hown.alloc _) ⟨w.heap.size, 0, none⟩ 1 1 [.string c] hx rfl (cell_one_new _ _ _)
    (fun u hu => by simp at hu; subst hu; rfl) (Nat.le_trans (show n + 1 ≤ 8388609 by omega) (by decide)) (by omega) (Nat.le_trans hbase (by simp)) fun v' w' h1 h2 _ _ => h v' w' h1 h2
end Go.Proofs.YtbakcdgjibmceaaGreatDoor
namespace Go.Proofs.YtbakcdgjibmceaaGreatDoor
open Go.RowKit Go.Shelf Go.Lib
theorem two_of {l : List Go.Field} {a b : String × TypeId × Nat} (h : l.map (fun f => (f.name, f.type, f.offset)) = [a, b]) :
    ∃ g1 g2 : Go.Field, l = [g1, g2] ∧ (g1.name = a.1 ∧ g1.type = a.2.1 ∧ g1.offset = a.2.2) ∧ (g2.name = b.1 ∧ g2.type = b.2.1 ∧ g2.offset = b.2.2) := by
  match l, h with
  | [g1, g2], h =>
    simp only [List.map_cons, List.map_nil, List.cons.injEq, and_true] at h
    obtain ⟨rfl, rfl⟩ := h
    exact ⟨g1, g2, rfl, ⟨rfl, rfl, rfl⟩, ⟨rfl, rfl, rfl⟩⟩
theorem three_of {l : List Go.Field} {a b c : String × TypeId × Nat} (h : l.map (fun f => (f.name, f.type, f.offset)) = [a, b, c]) :
    ∃ g1 g2 g3 : Go.Field, l = [g1, g2, g3] ∧ (g1.name = a.1 ∧ g1.type = a.2.1 ∧ g1.offset = a.2.2) ∧ (g2.name = b.1 ∧ g2.type = b.2.1 ∧ g2.offset = b.2.2) ∧ (g3.name = c.1 ∧ g3.type = c.2.1 ∧ g3.offset = c.2.2) := by
  match l, h with
  | [g1, g2, g3], h =>
    simp only [List.map_cons, List.map_nil, List.cons.injEq, and_true] at h
    obtain ⟨rfl, rfl, rfl⟩ := h
    exact ⟨g1, g2, g3, rfl, ⟨rfl, rfl, rfl⟩, ⟨rfl, rfl, rfl⟩, ⟨rfl, rfl, rfl⟩⟩
theorem uField : Tryz.prog.underlying 125 = some (.struct (Tryz.prog.fieldsOf 125)) := by kernel_rfl
theorem sField : Tryz.prog.stoodInHeld 125 = false := by kernel_rfl
theorem fField : (Tryz.prog.fieldsOf 125).toList.map (fun f => (f.name, f.type, f.offset)) = [("Name", 9, 0), ("Type", 9, 1)] := by kernel_rfl
theorem field_eqIn (b c e f : Str) (d : Nat) (w : World) : (Op.equalIn (d + 2) 125 (.agg #[.string b, .string c]) (.agg #[.string e, .string f])).run Tryz.prog w = .ok ((b.toList == e.toList) && (c.toList == f.toList)) w := by
  rw [run_equalIn_agg _ (d+1) _ _ _ uField sField]
  obtain ⟨g1, g2, hg, ⟨n1, t1, o1⟩, n2, t2, o2⟩ := two_of fField
  rw [hg]
  have p0 : ∀ (x y : Str) (w : World), (part 9 #[.string x, .string y] 0).run Tryz.prog w = .ok (.string x) w := fun x y w => by kernel_rfl
  have p1 : ∀ (x y : Str) (w : World), (part 9 #[.string x, .string y] 1).run Tryz.prog w = .ok (.string y) w := fun x y w => by kernel_rfl
  have hs := fun (x y : Str) (w : World) => run_equalIn_string (P := Tryz.prog) w d 9 x y strType
  simp only [Op.eqFields, n1, t1, o1, n2, t2, o2, ne_eq, show ("Name" = "_") = False from by simp, show ("Type" = "_") = False from by simp, not_false_eq_true, if_true, Sem.run_bind, p0, p1, hs, Result.andThen_ok, Sem.run_ite]
  cases b.toList == e.toList <;> cases c.toList == f.toList <;> simp [Sem.run_pure]
theorem field_eql (b c e f : Str) (w : World) : (binOp .eql 125 (.agg #[.string b, .string c]) (.agg #[.string e, .string f])).run Tryz.prog w = .ok (.bool (decide ((b, c) = (e, f)))) w := by
  have h : decide ((b, c) = (e, f)) = (decide (b = e) && decide (c = f)) := by rw [Bool.eq_iff_iff]; simp
  rw [h, ← strEq b e, ← strEq c f, run_eql_struct, field_eqIn b c e f 9998 w]; rfl
theorem uLay : Tryz.prog.underlying 165 = some (.struct (Tryz.prog.fieldsOf 165)) := by kernel_rfl
theorem sLay : Tryz.prog.stoodInHeld 165 = false := by kernel_rfl
theorem fLay : (Tryz.prog.fieldsOf 165).toList.map (fun f => (f.name, f.type, f.offset)) = [("class", 9, 0), ("Field", 125, 1)] := by kernel_rfl
theorem slot_eql (a b c d e f : Str) (w : World) : (binOp .eql 165 (.agg #[.string a, .string b, .string c]) (.agg #[.string d, .string e, .string f])).run Tryz.prog w = .ok (.bool (decide ((a, b, c) = (d, e, f)))) w := by
  have h : decide ((a, b, c) = (d, e, f)) = (decide (a = d) && (decide (b = e) && decide (c = f))) := by rw [Bool.eq_iff_iff]; simp
  rw [h, ← strEq a d, ← strEq b e, ← strEq c f, run_eql_struct, run_equalIn_agg _ 9999 _ _ _ uLay sLay]
  obtain ⟨g1, g2, hg, ⟨n1, t1, o1⟩, n2, t2, o2⟩ := two_of fLay
  rw [hg]
  have p0 : ∀ (x y z : Str) (w : World), (part 9 #[.string x, .string y, .string z] 0).run Tryz.prog w = .ok (.string x) w := fun x y z w => by kernel_rfl
  have p1 : ∀ (x y z : Str) (w : World), (part 125 #[.string x, .string y, .string z] 1).run Tryz.prog w = .ok (.agg #[.string y, .string z]) w := fun x y z w => by kernel_rfl
  have hs := fun (x y : Str) (w : World) => run_equalIn_string (P := Tryz.prog) w 9998 9 x y strType
  have hf := fun (b c e f : Str) (w : World) => field_eqIn b c e f 9997 w
  simp only [Op.eqFields, n1, t1, o1, n2, t2, o2, ne_eq, show ("class" = "_") = False from by simp, show ("Field" = "_") = False from by simp, not_false_eq_true, if_true, Sem.run_bind, p0, p1, hs, hf, Result.andThen_ok, Sem.run_ite]
  cases a.toList == d.toList <;> cases b.toList == e.toList <;> cases c.toList == f.toList <;> simp [Sem.run_pure, Result.andThen]
theorem cells_blk {w : World} {b o : Nat} {v : Value} (h : w.cell? ⟨b, o, none⟩ = some v) : b < w.heap.size := Cells.lt (w := w) (b := b) (o := o) (v := v) (r := []) ⟨h, trivial⟩
theorem ownsRow_low {w : World} {base base' : Nat} {e : TypeId} {size : Nat} {v : Value} {n : Nat} {xs : List Value} (h : w.ownsRow base e size v n xs) (hb : base' ≤ base) : w.ownsRow base' e size v n xs := by
  rcases h with ⟨h1, h2 | ⟨g, cap, cur, k1, k2, k3⟩⟩
  · exact ⟨h1, Or.inl h2⟩
  · exact ⟨h1, Or.inr ⟨g, cap, cur, k1, Nat.le_trans hb k2, k3⟩⟩
def headR : Ty → Bool
  | .ar _ => true
  | _ => false
theorem kd_arrR {k : Str} {x : Ty} (h : tyText x = lst k) (hp : 0 < k.size) : (((k[0]'hp).toNat : Int) == 91) = headR x := by
  have hk : k[0]'hp = (lst k)[0]'(by have h1 : (lst k).length = k.size := rfl; omega) := rfl
  have h0 : (lst k)[0]? = (tyText x)[0]? := by rw [h]
  rw [hk]
  have h2 : (lst k)[0]? = some ((lst k)[0]'(by have h1 : (lst k).length = k.size := rfl; omega)) := List.getElem?_eq_getElem _
  rw [h2] at h0
  generalize (lst k)[0]'(by have h1 : (lst k).length = k.size := rfl; omega) = b at *
  cases x with
  | i => simp [tyText] at h0; subst h0; rfl
  | j => simp [tyText] at h0; subst h0; rfl
  | cl c => simp [tyText] at h0; subst h0; rfl
  | ar y => simp [tyText] at h0; subst h0; rfl
theorem cells_every {w : World} {b : Nat} : ∀ {vs : List Value} {o : Nat}, (∀ i v, vs[i]? = some v → w.cell? ⟨b, o + i, none⟩ = some v) → Cells w b o vs
  | [], _, _ => trivial
  | v :: r, o, h => ⟨h 0 v rfl, cells_every fun i x hx => by
      have := h (i + 1) x (by simpa using hx)
      rwa [show o + (i + 1) = o + 1 + i by omega] at this⟩
/-- what has just been boxed lies there -/
theorem boxed_mk (w : World) (cs : Array Value) (t : TypeId) : Boxed w (w.alloc (.cells cs t)) cs.toList :=
  ⟨(Below.refl _ _).alloc (Nat.le_refl _) _, by simp, cells_every fun i v h => by
    rw [cell_of_row (w.alloc (.cells cs t)) w.heap.size (0 + i) cs t (0, 0) (heap_alloc_new _ _), Nat.zero_add]
    simpa using h⟩
/-- a row of texts of the call's own that is handed back -/
def RowPs (w : World) (l : List Str) (e : Ending) (w' : World) : Prop := (∃ v, e = .returned v ∧ w'.ownsRow w.heap.size 9 1 v l.length (l.map Value.string)) ∧ Below w.heap.size w w'
theorem ownsRow_nl (w : World) (base : Nat) : w.ownsRow base 9 1 (.slice none 0 0) 0 [] := ⟨rfl, Or.inl ⟨rfl, rfl⟩⟩
end Go.Proofs.YtbakcdgjibmceaaGreatDoor
