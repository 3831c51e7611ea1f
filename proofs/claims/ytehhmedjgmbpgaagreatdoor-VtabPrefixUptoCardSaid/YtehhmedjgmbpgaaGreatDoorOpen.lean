/-
  READING A SLICE: a slice that is read as data is the slice of a list.
-/
import Derived.Test.YtehhmedjgmbpgaaGreatDoorPlain
import Derived.ProofKit
import Derived.Deep.Slices
namespace Go.Proofs.YtehhmedjgmbpgaaGreatDoor
open Go.RowKit Go.ChangeShapes Go.WideShapes Go.Deep

theorem cell_spot {w : World} {a : Addr} {v : Value} (h : w.cell? a = some v) : a = ⟨a.block, a.off, none⟩ := by
  unfold World.cell? at h
  split at h
  · split at h
    · simp at h
    · rename_i hs
      cases a with
      | mk b o s => cases s <;> simp_all
  · simp at h

theorem add_eq {a : Addr} (hs : a = ⟨a.block, a.off, none⟩) (n : Nat) : a.add n = ⟨a.block, a.off + n, none⟩ := by
  unfold Addr.add
  split
  · subst_vars; simpa using hs
  · rfl

theorem mapM_range_cells {w : World} {b : Nat} : ∀ (k s o : Nat) (cs : List Value), (List.range' s k).mapM (fun j => w.cell? ⟨b, o + j, none⟩) = some cs → cs.length = k ∧ Cells w b (o + s) cs
  | 0, s, o, cs, h => by
    simp at h; subst h; exact ⟨rfl, trivial⟩
  | k + 1, s, o, cs, h => by
    rw [List.range'_succ, List.mapM_cons] at h
    cases h1 : w.cell? ⟨b, o + s, none⟩ with
    | none => simp [h1] at h
    | some v =>
      cases h2 : (List.range' (s + 1) k).mapM (fun j => w.cell? ⟨b, o + j, none⟩) with
      | none => simp [h1, h2] at h
      | some r =>
        simp [h1, h2] at h
        subst h
        obtain ⟨hl, hc⟩ := mapM_range_cells k (s + 1) o r h2
        exact ⟨by simp [hl], h1, by rw [Nat.add_assoc]; exact hc⟩

theorem cells_of {w : World} {base k : Nat} {a : Addr} {n : Nat} {cs : List Value} (hs : a = ⟨a.block, a.off, none⟩) (h : w.cells? base (a.add n) k = some cs) :
    cs.length = k ∧ Cells w a.block (a.off + n) cs := by
  unfold World.cells? at h
  split at h
  · rw [List.range_eq_range'] at h
    have e : (fun i => w.cell? ((a.add n).add i)) = fun j => w.cell? ⟨a.block, (a.off + n) + j, none⟩ := by
      funext j; rw [add_add, add_eq hs, Nat.add_assoc]
    rw [e] at h
    have := mapM_range_cells k 0 (a.off + n) cs h
    simpa using this
  · simp at h

section
variable {H : Type} {enc : TypeId × Value → H} {P : Program} {w : World} {base : Nat} {spare : Nat → Bool} {held : Bool}

/-- the elements of a list and of a list of readings, one by one -/
def All2 {α β : Type} (f : α → β → Prop) : List α → List β → Prop
  | [], [] => True
  | x :: r, y :: s => f x y ∧ All2 f r s
  | _, _ => False

theorem all2_of_lt {α β : Type} {f : α → β → Prop} : ∀ (n s : Nat) (D : Nat → β), (∀ i, s ≤ i → i < s + n → ∃ x, f x (D i)) → ∃ l : List α, l.length = n ∧ All2 f l ((List.range' s n).map D) ∧ ∀ i x, l[i]? = some x → f x (D (s + i))
  | 0, s, D, _ => ⟨[], rfl, trivial, fun i x h => by simp at h⟩
  | n + 1, s, D, h => by
    obtain ⟨x, hx⟩ := h s (Nat.le_refl _) (by omega)
    obtain ⟨l, hl, h2, h3⟩ := all2_of_lt n (s + 1) D fun i a b => h i (by omega) (by omega)
    refine ⟨x :: l, by simp [hl], ?_, ?_⟩
    · rw [List.range'_succ]; exact ⟨hx, h2⟩
    · intro i y hi
      cases i with
      | zero => simp at hi; subst hi; exact hx
      | succ i => have := h3 i y (by simpa using hi); rwa [show s + (i + 1) = s + 1 + i from by omega]

/-- A SLICE THAT IS READ AS DATA IS THE SLICE OF A LIST. -/
theorem open_sl {α : Type} (R : α → List Value → Prop) (f : α → DataW H → Prop) {t e k : Nat} (ht : P.underlying t = some (.slice e)) (hk : P.cellsOf e = k) (hk0 : 0 < k)
    (hel : ∀ (fuel : Nat) (cs : List Value) (y : DataW H × List MemPlace), cs.length = k → DataW.trod enc P w base spare held fuel e cs = some y → ∃ x, R x cs ∧ f x y.1)
    {fuel : Nat} {v : Value} {x : DataW H × List MemPlace} (h : DataW.trod enc P w base spare held fuel t [v] = some x) :
    ∃ l : List α, SliceOf w k R v l ∧ ((x.1 = .nil ∧ l = []) ∨ ∃ ds sp, x.1 = .slice ds sp ∧ All2 f l ds) := by
  rcases open_slice ht h with ⟨h1, h2⟩ | ⟨a, len, cap, m, n, D, Pl, h1, h2, h3, h4, h5, h6, h7⟩
  · simp at h1; subst h1; subst h2
    exact ⟨[], Or.inl ⟨rfl, rfl⟩, Or.inl ⟨rfl, rfl⟩⟩
  · simp at h1; subst h1
    have hlm : len ≤ m := by rw [h5]; split <;> omega
    rw [hk] at h7
    have hs : 0 < len → a = ⟨a.block, a.off, none⟩ := by
      intro h0
      obtain ⟨cs', hc, _⟩ := h7 0 (by omega)
      unfold World.cells? at hc
      rw [if_pos (by simpa [Addr.add] using h2)] at hc
      cases k with
      | zero => omega
      | succ k =>
        rw [List.range_eq_range', List.range'_succ, List.mapM_cons] at hc
        simp only [Nat.zero_mul] at hc
        cases h9 : w.cell? ((a.add 0).add 0) with
        | none => rw [h9] at hc; simp at hc
        | some v => simp [Addr.add] at h9; exact cell_spot h9
    obtain ⟨l, hl, h2', h3'⟩ := all2_of_lt (f := fun x d => ∃ i cs, d = (i, D i) ∧ w.cells? base (a.add (i * k)) k = some cs ∧ R x cs ∧ f x (D i)) len 0 (fun i => (i, D i)) (fun i _ hi => by
      obtain ⟨cs', hc, hd⟩ := h7 i (by omega)
      obtain ⟨hcl, _⟩ := cells_of (hs (by omega)) hc
      obtain ⟨x, hx1, hx2⟩ := hel _ _ _ hcl hd
      exact ⟨x, i, cs', rfl, hc, hx1, hx2⟩)
    refine ⟨l, Or.inr ⟨a, cap, by rw [hl], by omega, h4, ?_⟩, Or.inr ⟨(List.range len).map D, _, by rw [h6], ?_⟩⟩
    · intro i x hi
      obtain ⟨j, cs, e1, e2, e3, e4⟩ := h3' i x hi
      simp at e1
      obtain ⟨rfl, _⟩ := e1
      have hil : i < len := by
        rw [← hl]; exact (List.getElem?_eq_some_iff.1 hi).1
      obtain ⟨hcl, hcc⟩ := cells_of (hs (by omega)) e2
      exact ⟨cs, e3, hcl, hs (by omega), hcc⟩
    · have : ∀ (l : List α) (ds : List (Nat × DataW H)), All2 (fun x d => ∃ i cs, d = (i, D i) ∧ w.cells? base (a.add (i * k)) k = some cs ∧ R x cs ∧ f x (D i)) l ds → All2 f l (ds.map (·.2)) := by
        intro l
        induction l with
        | nil => intro ds; cases ds <;> simp [All2]
        | cons x l ih =>
          intro ds; cases ds with
          | nil => simp [All2]
          | cons d ds =>
            rintro ⟨⟨i, cs, e1, e2, e3, e4⟩, h⟩
            exact ⟨by rw [e1]; exact e4, ih ds h⟩
      have := this _ _ h2'
      rw [List.map_map] at this
      rw [List.range_eq_range']
      exact this
end
end Go.Proofs.YtehhmedjgmbpgaaGreatDoor
