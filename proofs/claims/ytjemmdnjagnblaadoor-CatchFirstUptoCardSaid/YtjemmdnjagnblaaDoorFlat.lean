/-
  LAWS for rows of handlers: appending them.
-/
import Derived.Test.YtjemmdnjagnblaaDoorRight
import Derived.Laws.AppendOwnNone
import Derived.Maps.AppendAt
namespace Go.Proofs.YtjemmdnjagnblaaDoor
open Go.RowKit Go.Shelf Go.Lib
def hVals (h : Handler) : List Value := [.int .i64 h.lo, .int .i64 h.hi, .int .i64 h.dest, .string h.cls]
def flat (l : List Handler) : List Value := l.flatMap hVals
theorem flat_length (l : List Handler) : (flat l).length = l.length * 4 := by
  induction l with
  | nil => rfl
  | cons a r ih => unfold flat at *; rw [List.flatMap_cons, List.length_append, ih]; simp [hVals]; omega
theorem flat_append (a b : List Handler) : flat (a ++ b) = flat a ++ flat b := by simp [flat]
theorem flat_get (l : List Handler) : ∀ (i t : Nat), t < 4 → (flat l)[i * 4 + t]? = (l[i]?).bind fun h => (hVals h)[t]? := by
  induction l with
  | nil => intro i t _; simp [flat]
  | cons a r ih =>
    intro i t ht
    unfold flat at *
    rw [List.flatMap_cons]
    cases i with
    | zero =>
      rw [List.getElem?_append_left (by simp [hVals]; omega)]
      simp
    | succ i =>
      rw [List.getElem?_append_right (by simp [hVals]; omega)]
      have : (i + 1) * 4 + t - (hVals a).length = i * 4 + t := by simp [hVals]; omega
      rw [this, ih i t ht]
      simp
theorem flat_one (l : List Handler) : ∀ u ∈ flat l, u.oneCell' = true := by
  intro u hu
  unfold flat at hu
  obtain ⟨h, _, hh⟩ := List.mem_flatMap.1 hu
  simp only [hVals, List.mem_cons, List.mem_nil_iff, or_false] at hh
  rcases hh with rfl | rfl | rfl | rfl <;> rfl
theorem flat_news {w : World} {a : Addr} {m c : Nat} {l : List Handler} (h : SliceOf w 4 HandlerCells (.slice (some a) m c) l) : ∀ (j : Nat) (u : Value), (flat l)[j]? = some u → w.cell? (a.add j) = some u := by
  intro j u hj
  rw [show j = j / 4 * 4 + j % 4 by omega, flat_get _ _ _ (by omega)] at hj
  cases hx : l[j / 4]? with
  | none => rw [hx] at hj; cases hj
  | some x =>
    rw [hx] at hj
    simp only [Option.bind_some] at hj
    obtain ⟨p, cap, h1, _, _, h4⟩ := h.open
    obtain ⟨b, o, vs, hp, hR, _, hc⟩ := h4 _ x hx
    injection h1 with h1
    rw [hp] at h1
    injection h1 with h1
    unfold HandlerCells at hR; subst hR
    obtain ⟨c0, c1, c2, c3, _⟩ := hc
    rw [h1, Addr.add_lit]
    have h5 : j % 4 < 4 := Nat.mod_lt _ (by decide)
    have hjd : o + j = o + j / 4 * 4 + j % 4 := by omega
    rw [hjd]
    generalize j % 4 = t at *
    match t, h5 with
    | 0, _ => simp [hVals] at hj; subst hj; exact c0
    | 1, _ => simp [hVals] at hj; subst hj; exact c1
    | 2, _ => simp [hVals] at hj; subst hj; exact c2
    | 3, _ => simp [hVals] at hj; subst hj; exact c3
theorem sliceOf_flat {w : World} {base : Nat} {e : TypeId} {v : Value} {l : List Handler} (h : w.ownsRow base e 4 v l.length (flat l)) : SliceOf w 4 HandlerCells v l := by
  rcases h.2 with ⟨h1, h2⟩ | ⟨g, cap, cur, h1, _, hb, k1, k2, _, _⟩
  · exact Or.inl ⟨h1, List.length_eq_zero_iff.1 h2⟩
  · refine Or.inr ⟨⟨g, 0, none⟩, cap, h1, k1, k2, fun i x hx => ⟨hVals x, rfl, rfl, rfl, ?_⟩⟩
    subst h1
    have hc := h.cells (g := g) rfl
    have hg : ∀ t, t < 4 → ∀ u, (hVals x)[t]? = some u → w.cell? ⟨g, 0 + i * 4 + t, none⟩ = some u := by
      intro t ht u hu
      have := hc (i * 4 + t) u (by rw [flat_get _ _ _ ht, hx]; exact hu)
      rw [Addr.add_lit] at this
      rw [show 0 + i * 4 + t = 0 + (i * 4 + t) by omega]; exact this
    exact ⟨hg 0 (by decide) _ rfl, hg 1 (by decide) _ rfl, hg 2 (by decide) _ rfl, hg 3 (by decide) _ rfl, trivial⟩
theorem info_handler : (Tryd.prog.info? 33).map (fun i => (i.zero, i.size, i.bytes)) = some (some (.agg #[.int .i64 0, .int .i64 0, .int .i64 0, .string .empty]), 4, 40) := by kernel_rfl
theorem append_handlers {w : World} {ops : Array Oper} {rest : List Oper} {o : Oper} {a : Act} {Q : Exit → Act → World → Prop} (hgd : o.guard = none) (s x : Operand)
    (ho : o.op = .call { callee := .builtin .append, args := #[s, x], argTypes := #[24, 24] }) (base : Nat) (v : Value) (l1 : List Handler) (hs : a.eval s = v) (hown : w.ownsRow base 33 4 v l1.length (flat l1))
    (xv : Value) (l : List Handler) (hx : a.eval x = xv) (hl : SliceOf w 4 HandlerCells xv l) (hb : l1.length + l.length ≤ 4194304) (hbase : base ≤ w.heap.size)
    (h : ∀ v' w', w'.ownsRow base 33 4 v' (l1 ++ l).length (flat (l1 ++ l)) → w.grownBy w' v.ownBlock → wpList Tryd.prog ops Q rest (a.put o.dst v') w') : wpList Tryd.prog ops Q (o :: rest) a w := by
  obtain ⟨i0, hi, hz0, hz1, hz2⟩ := info_parts info_handler
  rcases hl with ⟨rfl, rfl⟩ | ⟨ad, cap, rfl, h1, h2, h3⟩
  · refine wpList_append_own_none hgd s x 24 ho base 33 i0 4 Tryd.underlying24 hi v l1.length (flat l1) hs hown hx (h v w (by simpa using hown) (World.grownBy.refl w _))
  · have hl' : SliceOf w 4 HandlerCells (.slice (some ad) l.length cap) l := Or.inr ⟨ad, cap, rfl, h1, h2, h3⟩
    refine wpList_append_own w hgd s x 24 ho base 33 i0 _ 4 40 Tryd.underlying24 hi hz0 hz1 hz2 rfl (by decide) v l1.length (flat l1) hs hown ad l.length cap (flat l) hx (flat_length l) (flat_news hl') (flat_one l) (Nat.le_trans hb (by decide)) (by omega) hbase ?_
    intro v' w' h5 h6 _
    exact h v' w' (by rw [List.length_append, flat_append]; exact h5) h6
theorem SliceOf.block {α : Type} {w w' : World} {k : Nat} (hk : 0 < k) {R : α → List Value → Prop} {v : Value} {l : List α} (h : SliceOf w k R v l) (hb : ∀ g, v.ownBlock = some g → w'.heap[g]? = w.heap[g]?) : SliceOf w' k R v l := by
  rcases h with h | ⟨a, cap, h1, h2, h3, h4⟩
  · exact Or.inl h
  · refine Or.inr ⟨a, cap, h1, h2, h3, fun i x hx => ?_⟩
    obtain ⟨vs, r1, r2, r3, r4⟩ := h4 i x hx
    refine ⟨vs, r1, r2, r3, ?_⟩
    have hbl := hb a.block (by rw [h1]; rfl)
    clear r1 r2
    revert r4
    generalize a.off + i * k = o
    induction vs generalizing o with
    | nil => intro _; trivial
    | cons v r ih =>
      rintro ⟨c1, c2⟩
      exact ⟨(World.cell?_of_block (w := w) (a := ⟨a.block, o, none⟩) hbl).trans c1, ih _ c2⟩
end Go.Proofs.YtjemmdnjagnblaaDoor
