/-
  PLAIN LAW: the places that want a map, in order, each once. No program in sight.
  A LIST OF NUMBERS that the call has built, sorted and each kept once by the library: where it lies.
  WALK over maps.Needs. Conditions: as in XRead.
-/
import Derived.Test.YtlmfmioljeppfaaGreatDoorAcceptLaw
import Derived.Test.YtlmfmioljeppfaaGreatDoorQueue
import Derived.Test.YtlmfmioljeppfaaGreatDoorShelfB
import Derived.Test.YtlmfmioljeppfaaGreatDoorAccept
import Derived.Test.YtlmfmioljeppfaaGreatDoorMethodMaps
import Derived.Lib.SlicesCompact
import Derived.Sort.OwnSortedInts
import Derived.Maps.RangeRun
namespace Go.Proofs.YtlmfmioljeppfaaGreatDoor
open Go.RowKit Go.Shelf Go.Lib
def placeNeeds (m : Method) (i : Nat) : List Nat := (match m.code[i]? with
  | some x => if jumpsB x.op then [x.a.toNat] else []
  | none => []) ++ ((m.handlers.filter fun h => decide (h.lo ≤ (i : Int)) && decide ((i : Int) < h.hi)).map fun h => h.dest.toNat)
def NeedP (m : Method) (F : Asg Frm) (p : Nat) : Prop := ∃ i, (F i).isSome = true ∧ p ∈ placeNeeds m i
def NeedL (m : Method) (F : Asg Frm) (ns : List Int) : Prop := ns.Pairwise (· < ·) ∧ ∀ x : Int, x ∈ ns ↔ ∃ p : Nat, x = (p : Int) ∧ NeedP m F p
theorem placeNeeds_len (m : Method) (h8 : m.handlers.length ≤ 8) (i : Nat) : (placeNeeds m i).length ≤ 9 := by
  unfold placeNeeds
  rw [List.length_append, List.length_map]
  have h1 := List.length_filter_le (fun h : Handler => decide (h.lo ≤ (i : Int)) && decide ((i : Int) < h.hi)) m.handlers
  have h2 : (match m.code[i]? with | some x => if jumpsB x.op then [x.a.toNat] else [] | none => ([] : List Nat)).length ≤ 1 := by
    split
    · split <;> simp
    · simp
  omega
theorem needs_iff {m : Method} {F M : Asg Frm} : NeedsM m F M ↔ ∀ p, NeedP m F p → (∃ i f x, F i = some f ∧ m.code[i]? = some x ∧ p ∈ placeNeeds m i) → (M p).isSome = true := by
  constructor
  · rintro h p _ ⟨i, f, x, hf, hx, hp⟩
    obtain ⟨h1, h2⟩ := h i f x hf hx
    unfold placeNeeds at hp
    rw [hx] at hp
    dsimp only at hp
    rcases List.mem_append.1 hp with hp | hp
    · split at hp
      · rename_i hj
        rw [List.mem_singleton.1 hp]
        exact h1 hj
      · cases hp
    · obtain ⟨y, hy, rfl⟩ := List.mem_map.1 hp
      rw [List.mem_filter, Bool.and_eq_true, decide_eq_true_eq, decide_eq_true_eq] at hy
      exact h2 y hy.1 hy.2.1 hy.2.2
  · intro h i f x hf hx
    have key : ∀ p ∈ placeNeeds m i, (M p).isSome = true := fun p hp => h p ⟨i, by rw [hf]; rfl, hp⟩ ⟨i, f, x, hf, hx, hp⟩
    refine ⟨fun hj => key _ ?_, fun y hy h1 h2 => key _ ?_⟩
    · unfold placeNeeds
      rw [hx]
      dsimp only
      rw [if_pos hj]
      exact List.mem_append_left _ (List.mem_singleton.2 rfl)
    · unfold placeNeeds
      refine List.mem_append_right _ (List.mem_map.2 ⟨y, ?_, rfl⟩)
      rw [List.mem_filter, Bool.and_eq_true, decide_eq_true_eq, decide_eq_true_eq]
      exact ⟨hy, h1, h2⟩
theorem compact_sorted {zs : List Int} (h : zs.Pairwise (· ≤ ·)) : (compact zs).Pairwise (· < ·) ∧ ∀ x, x ∈ compact zs ↔ x ∈ zs := by
  have hget : ∀ j (hj : j < zs.length), zs.toArray[j]! = zs[j] := fun j hj => by simp [hj]
  have hle : ∀ i j (hi : i < zs.length) (hj : j < zs.length), i ≤ j → zs[i] ≤ zs[j] := fun i j hi hj hij => by
    rcases Nat.lt_or_ge i j with hlt | hge
    · exact List.pairwise_iff_getElem.1 h i j hi hj hlt
    · have : i = j := by omega
      subst this
      exact Int.le_refl _
  have key : ∀ n, n ≤ zs.length → (compactUpTo zs.toArray n).Pairwise (· < ·) ∧ (∀ x ∈ compactUpTo zs.toArray n, ∃ (j : Nat) (hj : j < zs.length), j < n ∧ x = zs[j]) ∧ ∀ (j : Nat) (hj : j < zs.length), j < n → zs[j] ∈ compactUpTo zs.toArray n := fun n => by
    induction n with
    | zero =>
      intro _
      refine ⟨?_, fun x hx => ?_, fun j _ hj => absurd hj (Nat.not_lt_zero _)⟩
      · have : compactUpTo zs.toArray 0 = [] := rfl
        rw [this]; exact List.Pairwise.nil
      · have : compactUpTo zs.toArray 0 = [] := rfl
        rw [this] at hx; cases hx
    | succ n ih =>
      intro hn
      have hnl : n < zs.length := by omega
      obtain ⟨k1, k2, k3⟩ := ih (by omega)
      rw [compactUpTo_succ]
      by_cases hk : keeps zs.toArray n = true
      · rw [if_pos hk, hget n hnl]
        refine ⟨List.pairwise_append.2 ⟨k1, by simp, fun x hx y hy => ?_⟩, fun x hx => ?_, fun j hj hjn => ?_⟩
        · rw [List.mem_singleton.1 hy]
          obtain ⟨j, hj, hjn, rfl⟩ := k2 x hx
          have h1 : n ≠ 0 := by omega
          have h2 : zs[n] ≠ zs[n - 1] := fun e => by
            unfold keeps at hk
            rw [decide_eq_true_eq, hget n hnl, hget (n - 1) (by omega)] at hk
            rcases hk with hk | hk
            · exact h1 hk
            · exact hk e
          have h3 := hle j (n - 1) hj (by omega) (by omega)
          have h4 := hle (n - 1) n (by omega) hnl (by omega)
          omega
        · rcases List.mem_append.1 hx with hx | hx
          · obtain ⟨j, hj, hjn, e⟩ := k2 x hx
            exact ⟨j, hj, by omega, e⟩
          · exact ⟨n, hnl, Nat.lt_succ_self _, List.mem_singleton.1 hx⟩
        · by_cases e : j = n
          · subst e
            exact List.mem_append_right _ (List.mem_singleton.2 rfl)
          · exact List.mem_append_left _ (k3 j hj (by omega))
      · rw [if_neg hk, List.append_nil]
        refine ⟨k1, fun x hx => ?_, fun j hj hjn => ?_⟩
        · obtain ⟨j, hj, hjn, e⟩ := k2 x hx
          exact ⟨j, hj, by omega, e⟩
        · by_cases e : j = n
          · subst e
            have h1 : ¬ (j = 0 ∨ zs[j] ≠ zs[j - 1]'(by omega)) := fun hh => hk (by
              unfold keeps
              rw [decide_eq_true_eq, hget j hnl, hget (j - 1) (by omega)]
              exact hh)
            rw [not_or, Decidable.not_not] at h1
            rw [h1.2]
            exact k3 (j - 1) (by omega) (by omega)
          · exact k3 j hj (by omega)
  obtain ⟨k1, k2, k3⟩ := key zs.length (Nat.le_refl _)
  refine ⟨k1, fun x => ⟨fun hx => ?_, fun hx => ?_⟩⟩
  · obtain ⟨j, hj, _, rfl⟩ := k2 x hx
    exact List.getElem_mem hj
  · obtain ⟨j, hj, rfl⟩ := List.getElem_of_mem hx
    exact k3 j hj hj
def needZ (T : List Nat) : List Int := compact ((T.map fun p : Nat => (p : Int)).mergeSort fun x y => decide (x ≤ y))
theorem needZ_spec (T : List Nat) : (needZ T).Pairwise (· < ·) ∧ ∀ x : Int, x ∈ needZ T ↔ ∃ p : Nat, x = (p : Int) ∧ p ∈ T := by
  have h1 : ((T.map fun p : Nat => (p : Int)).mergeSort fun x y => decide (x ≤ y)).Pairwise (· ≤ ·) := by
    have := List.pairwise_mergeSort (le := fun x y : Int => decide (x ≤ y)) (fun a b c h1 h2 => by simp at h1 h2 ⊢; omega) (fun a b => by simp; omega) (T.map fun p : Nat => (p : Int))
    exact this.imp fun h => of_decide_eq_true h
  obtain ⟨k1, k2⟩ := compact_sorted h1
  refine ⟨k1, fun x => ?_⟩
  unfold needZ
  rw [k2, (List.mergeSort_perm _ _).mem_iff, List.mem_map]
  constructor
  · rintro ⟨p, hp, rfl⟩; exact ⟨p, rfl, hp⟩
  · rintro ⟨p, rfl, hp⟩; exact ⟨p, hp, rfl⟩
end Go.Proofs.YtlmfmioljeppfaaGreatDoor
namespace Go.Proofs.YtlmfmioljeppfaaGreatDoor
open Go.RowKit Go.Shelf Go.Lib Go.Sort
def IntCells (x : Int) (vs : List Value) : Prop := vs = [.int .i64 x]
def IntsAt (w : World) (v : Value) (l : List Int) : Prop := SliceOf w 1 IntCells v l
theorem IntsAt.mono {w w' : World} {v : Value} {l : List Int} (hb : Below w.heap.size w w') (h : IntsAt w v l) : IntsAt w' v l := SliceOf.mono hb (by decide) (fun _ _ h => h) h
theorem grownBy_row {w : World} {g off n : Nat} {os : Array Obj} (d : Array Int) : w.grownBy (grow (putRow (Value.int .i64) (Sort.ahead w n) g off d) os) (some g) := by
  refine ⟨rfl, rfl, rfl, by simp, fun k hk hne => ?_⟩
  rw [heap_grow_old _ _ (by simpa using hk)]
  have : g ≠ k := fun e => hne (by rw [e])
  simp [putRow, mapBlock, Sort.ahead, Array.getElem?_modify, this]
theorem grownBy_row0 {w : World} {g off n : Nat} (d : Array Int) : w.grownBy (putRow (Value.int .i64) (Sort.ahead w n) g off d) (some g) := by
  have := grownBy_row (w := w) (g := g) (off := off) (n := n) (os := #[]) d
  rwa [grow_empty] at this
theorem que_holds {w : World} {base : Nat} {v : Value} {T : List Nat} (h : Que w base v T) : (v = .slice none 0 0 ∧ T = []) ∨ ∃ b off cap, v = .slice (some ⟨b, off, none⟩) (T.map fun p : Nat => (p : Int)).length cap ∧ base ≤ b ∧ b < w.heap.size ∧ T.length ≤ cap ∧ cap ≤ maxLen ∧ Holds (Value.int .i64) w b off (T.map fun p : Nat => (p : Int)).toArray := by
  rcases h with h | ⟨b, off, cap, cur, rfl, h1, h2, h3, h4, h5, h6, h7⟩
  · exact Or.inl h
  · refine Or.inr ⟨b, off, cap, by rw [List.length_map], h1, (Array.getElem?_eq_some_iff.1 h2).1, h3, h4, fun j hj => ?_⟩
    have hj' : j < T.length := by simpa using hj
    refine ⟨?_, by simp [World.frozen?, h2]⟩
    have := h7 j T[j] (by simp [hj'])
    simp only [World.cell?, h2]
    simp only [Option.isSome_none, Bool.false_eq_true, if_false]
    rw [this]
    unfold intV
    simp [hj']
def SortPost (w : World) (base : Nat) (v : Value) (T : List Nat) (e : Ending) (w' : World) : Prop := e = .returned (.tuple #[]) ∧ w.grownBy w' v.ownBlock ∧ ((v = .slice none 0 0 ∧ T = []) ∨ ∃ b off cap, v = .slice (some ⟨b, off, none⟩) ((T.map fun p : Nat => (p : Int)).mergeSort fun x y => decide (x ≤ y)).length cap ∧ base ≤ b ∧ b < w'.heap.size ∧ T.length ≤ cap ∧ cap ≤ maxLen ∧ Holds (Value.int .i64) w' b off ((T.map fun p : Nat => (p : Int)).mergeSort fun x y => decide (x ≤ y)).toArray)
theorem sort_que {w : World} {base : Nat} {v : Value} {T : List Nat} (h : Que w base v T) (hl : T.length ≤ 1000000) : Calls Tryz.prog 71 #[v] w (SortPost w base v T) := by
  rcases que_holds h with ⟨rfl, rfl⟩ | ⟨b, off, cap, rfl, h1, h2, h3, h4, h5⟩
  · refine (Tryz.slices_Sort_int_none none 0 w).mono ?_
    rintro e w' ⟨rfl, rfl⟩
    exact ⟨rfl, World.grownBy.refl w' _, Or.inl ⟨rfl, rfl⟩⟩
  · refine (Tryz.slices_Sort_int b off cap _ w h5 h2 (by rw [List.length_map]; omega)).mono ?_
    rintro e w' ⟨rfl, n, os, rfl⟩
    refine ⟨rfl, grownBy_row _, Or.inr ⟨b, off, cap, by rw [List.length_mergeSort], h1, Nat.lt_of_lt_of_le h2 (grownBy_row _).size, h3, h4, ?_⟩⟩
    refine holds_grow _ _ _ _ _ _ (by simpa [Sort.ahead] using h2) ?_
    exact holds_putRow _ _ _ _ _ _ (holds_ahead _ _ n _ _ _ h5) (by simp)
theorem compact_len (zs : List Int) : (compact zs).length ≤ zs.length := by
  unfold compact compactUpTo
  rw [List.length_map]
  exact Nat.le_trans (List.length_filter_le _ _) (by simp)
def CompactPost (w : World) (v : Value) (T : List Nat) (e : Ending) (w' : World) : Prop := ∃ u, e = .returned u ∧ IntsAt w' u (needZ T) ∧ w.grownBy w' v.ownBlock
theorem compact_que {w : World} {base : Nat} {v : Value} {T : List Nat} (h : (v = .slice none 0 0 ∧ T = []) ∨ ∃ b off cap, v = .slice (some ⟨b, off, none⟩) ((T.map fun p : Nat => (p : Int)).mergeSort fun x y => decide (x ≤ y)).length cap ∧ base ≤ b ∧ b < w.heap.size ∧ T.length ≤ cap ∧ cap ≤ maxLen ∧ Holds (Value.int .i64) w b off ((T.map fun p : Nat => (p : Int)).mergeSort fun x y => decide (x ≤ y)).toArray) (hl : T.length ≤ 1000000) :
    Calls Tryz.prog 72 #[v] w (CompactPost w v T) := by
  rcases h with ⟨rfl, rfl⟩ | ⟨b, off, cap, rfl, h1, h2, h3, h4, h5⟩
  · refine (Tryz.slices_Compact_int_empty none 0 w).mono ?_
    rintro e w' ⟨rfl, rfl⟩
    exact ⟨_, rfl, Or.inl ⟨rfl, by simp [needZ, compact, compactUpTo]⟩, World.grownBy.refl w' _⟩
  · have hlen : ((T.map fun p : Nat => (p : Int)).mergeSort fun x y => decide (x ≤ y)).length = T.length := by rw [List.length_mergeSort, List.length_map]
    refine (Tryz.slices_Compact_int b off cap _ w h5 (by rw [hlen]; omega) (by rw [hlen]; exact h3)).mono ?_
    rintro e w' ⟨rfl, q, rfl⟩
    have hcl := compact_len ((T.map fun p : Nat => (p : Int)).mergeSort fun x y => decide (x ≤ y))
    refine ⟨_, rfl, Or.inr ⟨⟨b, off, none⟩, cap, rfl, by rw [hlen] at hcl; unfold needZ; omega, h4, fun i x hi => ?_⟩, grownBy_row0 _⟩
    have hH := holds_putRow (Value.int .i64) (Sort.ahead w q) b off _ (compact ((T.map fun p : Nat => (p : Int)).mergeSort fun x y => decide (x ≤ y)) ++ List.replicate (((T.map fun p : Nat => (p : Int)).mergeSort fun x y => decide (x ≤ y)).length - (compact ((T.map fun p : Nat => (p : Int)).mergeSort fun x y => decide (x ≤ y))).length) 0).toArray (holds_ahead _ _ q _ _ _ h5) (by simp; omega)
    have hil : i < (needZ T).length := (List.getElem?_eq_some_iff.1 hi).1
    have hil' : i < (compact ((T.map fun p : Nat => (p : Int)).mergeSort fun x y => decide (x ≤ y))).length := hil
    obtain ⟨h6, _⟩ := hH i (by simp; omega)
    refine ⟨[.int .i64 x], rfl, rfl, rfl, ?_, trivial⟩
    rw [Nat.mul_one]
    rw [h6]
    have hx : (compact ((T.map fun p : Nat => (p : Int)).mergeSort fun x y => decide (x ≤ y)))[i]? = some x := hi
    rw [List.getElem?_eq_getElem hil'] at hx
    injection hx with hx
    congr 2
    rw [getElem!_pos _ _ (by simp; omega)]
    simp only [List.getElem_toArray]
    rw [List.getElem_append_left hil', hx]
end Go.Proofs.YtlmfmioljeppfaaGreatDoor
namespace Go.Proofs.YtlmfmioljeppfaaGreatDoor
open Go.RowKit Go.Shelf Go.Lib
open Go.ChangeMaps (setBlock heap_setBlock_same heap_setBlock_other)
def NeedsPost (w : World) (l : List Class) (cls : Str) (at' : Int) (e : Ending) (w' : World) : Prop := Below w.heap.size w w' ∧ ∃ n F, CheckIs l cls at' n F ∧ match F with
  | none => n ≠ 0 ∧ e = .returned (.tuple #[.slice none 0 0, .iface 29 (.int .i64 n)])
  | some (m, A) => ∃ v ns, e = .returned (.tuple #[v, .nilIface]) ∧ IntsAt w' v ns ∧ NeedL m A ns
structure NeedAt (we w : World) (mb clock : Nat) (seen : Array Nat) (v : Value) (T : List Nat) : Prop where
  below : Below we.heap.size we w
  iter : w.heap[we.heap.size]? = some (.mapIter (some mb) clock seen clock)
  que : Que w we.heap.size v T
theorem NeedAt.size {we w : World} {mb clock : Nat} {seen : Array Nat} {v : Value} {T : List Nat} (h : NeedAt we w mb clock seen v T) : we.heap.size < w.heap.size := (Array.getElem?_eq_some_iff.1 h.iter).1
theorem NeedAt.step {we w w' : World} {mb clock : Nat} {seen : Array Nat} {v : Value} {T : List Nat} (h : NeedAt we w mb clock seen v T) (hb : Below w.heap.size w w') : NeedAt we w' mb clock seen v T :=
  ⟨below_call h.below (Nat.le_refl _) hb, (hb.block _ h.size).trans h.iter, h.que.keep fun g hg => hb.block g (h.que.lt g hg).2⟩
theorem NeedAt.ne {we w : World} {mb clock : Nat} {seen : Array Nat} {v : Value} {T : List Nat} (h : NeedAt we w mb clock seen v T) : v.ownBlock ≠ some we.heap.size := fun e => by
  rcases h.que with ⟨rfl, _⟩ | ⟨b, off, cap, cur, rfl, _, h2, _⟩
  · cases e
  · have e : b = we.heap.size := Option.some.inj e
    rw [e, h.iter] at h2
    cases h2
theorem NeedAt.next {we w : World} {mb clock : Nat} {seen : Array Nat} {v : Value} {T : List Nat} (h : NeedAt we w mb clock seen v T) {w1 : World} (h1 : w1 = w ∨ w1 = w.drew) (seen' : Array Nat) : NeedAt we (setBlock w1 we.heap.size (.mapIter (some mb) clock seen' clock)) mb clock seen' v T := by
  have hh : w1.heap = w.heap := by rcases h1 with rfl | rfl <;> rfl
  have hi : w1.heap[we.heap.size]? = some (.mapIter (some mb) clock seen clock) := by rw [hh]; exact h.iter
  have hb : Below we.heap.size we w1 := by
    rcases h1 with rfl | rfl
    · exact h.below
    · exact h.below.drew
  have hoth : ∀ k, k ≠ we.heap.size → (setBlock w1 we.heap.size (.mapIter (some mb) clock seen' clock)).heap[k]? = w1.heap[k]? := fun k hk => by
    simp only [setBlock]
    rw [Array.getElem?_setIfInBounds_ne (fun e => hk e.symm)]
  have hs : we.heap.size < w1.heap.size := (Array.getElem?_eq_some_iff.1 hi).1
  refine ⟨⟨hb.os, hb.tape, hb.output, by simpa [setBlock] using hb.size, fun k hk => (hoth k (by omega)).trans (hb.block k hk)⟩, ?_, h.que.keep fun g hg => ?_⟩
  · simp only [setBlock]
    rw [Array.getElem?_setIfInBounds_self_of_lt hs]
  · rw [hoth g fun e => h.ne (by rw [hg, e]), hh]
theorem NeedAt.app {we w w' : World} {mb clock : Nat} {seen : Array Nat} {v v' : Value} {T T' : List Nat} (h : NeedAt we w mb clock seen v T) (hg : w.grownBy w' v.ownBlock) (hq : Que w' we.heap.size v' T') : NeedAt we w' mb clock seen v' T' :=
  ⟨h.below.grown hg h.below.size fun k e => (h.que.lt k e).1, (hg.block _ h.size fun e => h.ne e.symm).trans h.iter, hq⟩
theorem nodup_le : ∀ (n : Nat) (l : List Nat), l.Nodup → (∀ x ∈ l, x < n) → l.length ≤ n
  | 0, [], _, _ => Nat.le_refl _
  | 0, x :: _, _, h => absurd (h x (List.mem_cons_self ..)) (Nat.not_lt_zero _)
  | n + 1, l, hn, h => by
    have h1 := nodup_le n (l.erase n) (hn.erase n) fun x hx => by
      have hx' := (hn.mem_erase_iff).1 hx
      have := h x hx'.2
      have := hx'.1
      omega
    have h2 : l.length ≤ (l.erase n).length + 1 := by
      rw [List.length_erase]
      split <;> omega
    omega
theorem entries_few {es : List MapEntry} {n : Nat} (hn : (es.map (·.key)).Nodup) (h : ∀ e ∈ es, ∃ i, i < n ∧ e.key = intV i) : es.length ≤ n := by
  have key : ∀ es : List MapEntry, (∀ e ∈ es, ∃ i, i < n ∧ e.key = intV i) → ∃ is : List Nat, es.map (·.key) = is.map intV ∧ ∀ i ∈ is, i < n := fun es => by
    induction es with
    | nil => exact fun _ => ⟨[], rfl, fun i hi => by cases hi⟩
    | cons e r ih =>
      intro h
      obtain ⟨i, hi, he⟩ := h e (List.mem_cons_self ..)
      obtain ⟨is, k1, k2⟩ := ih fun x hx => h x (List.mem_cons_of_mem _ hx)
      exact ⟨i :: is, by rw [List.map_cons, List.map_cons, he, k1], fun x hx => by
        rcases List.mem_cons.1 hx with rfl | hx
        · exact hi
        · exact k2 x hx⟩
  obtain ⟨is, k1, k2⟩ := key es h
  rw [k1] at hn
  have := nodup_le n is ((List.pairwise_map.1 hn).imp fun h e => h (by rw [e])) k2
  have h3 : es.length = is.length := by
    have := congrArg List.length k1
    simpa using this
  omega
def keyN (e : MapEntry) : Nat := match e.key with
  | .int _ n => n.toNat
  | _ => 0
theorem keyN_intV {e : MapEntry} {i : Nat} (h : e.key = intV i) : keyN e = i := by
  unfold keyN
  rw [h]
  unfold intV
  simp
def SeenP (m : Method) (es : Array MapEntry) (seen : Array Nat) (T : List Nat) : Prop := ∀ p, p ∈ T ↔ ∃ e ∈ es.toList, seen.contains e.born = true ∧ p ∈ placeNeeds m (keyN e)
theorem seenP_none (m : Method) (es : Array MapEntry) : SeenP m es #[] [] := fun p => by
  constructor
  · intro h; cases h
  · rintro ⟨e, _, h, _⟩
    simp at h
theorem seenP_push {m : Method} {es : Array MapEntry} {seen : Array Nat} {T : List Nat} {e : MapEntry} (hn : (es.toList.map (·.born)).Nodup) (he : e ∈ es.toList) (h : SeenP m es seen T) : SeenP m es (seen.push e.born) (T ++ placeNeeds m (keyN e)) := fun p => by
  rw [List.mem_append, h p]
  constructor
  · rintro (⟨x, hx, h1, h2⟩ | h2)
    · exact ⟨x, hx, by rw [contains_push, h1]; rfl, h2⟩
    · exact ⟨e, he, by rw [contains_push, beq_self_eq_true, Bool.or_true], h2⟩
  · rintro ⟨x, hx, h1, h2⟩
    rw [contains_push, Bool.or_eq_true] at h1
    rcases h1 with h1 | h1
    · exact Or.inl ⟨x, hx, h1, h2⟩
    · have hb : x.born = e.born := beq_iff_eq.1 h1
      have := find_born e es.toList hn he
      have h3 := find_born x es.toList hn hx
      rw [hb] at h3
      rw [this] at h3
      injection h3 with h3
      subst h3
      exact Or.inr h2
theorem seenP_full {m : Method} {es : Array MapEntry} {seen : Array Nat} {T : List Nat} {A : Asg Frm} (h0 : (leftOf es seen).size = 0) (h : SeenP m es seen T) (h3 : ∀ e ∈ es.toList, ∃ i f, e.key = intV i ∧ A i = some f) (h4 : ∀ i f, A i = some f → ∃ e ∈ es.toList, e.key = intV i) (p : Nat) : p ∈ T ↔ NeedP m A p := by
  rw [h p]
  constructor
  · rintro ⟨e, he, _, hp⟩
    obtain ⟨i, f, k1, k2⟩ := h3 e he
    rw [keyN_intV k1] at hp
    exact ⟨i, by rw [k2]; rfl, hp⟩
  · rintro ⟨i, hi, hp⟩
    obtain ⟨f, hf⟩ := Option.isSome_iff_exists.1 hi
    obtain ⟨e, he, hk⟩ := h4 i f hf
    refine ⟨e, he, ?_, by rw [keyN_intV hk]; exact hp⟩
    cases hc : seen.contains e.born with
    | true => rfl
    | false =>
      have : e ∈ leftOf es seen := Array.mem_filter.2 ⟨Array.mem_toList_iff.1 he, by rw [hc]; rfl⟩
      have h5 : leftOf es seen = #[] := Array.eq_empty_of_size_eq_zero h0
      rw [h5] at this
      simp at this
set_option maxHeartbeats 4000000 in
set_option maxRecDepth 100000 in
theorem mapsNeeds_any (l : List Class) (lv : Value) (cls : Str) (at' : Int) (w : World) (hl : Laid w) (ho : ∀ c ∈ l, ClassOk c) (hlv : ClassesAt w lv l) :
    Calls Tryz.prog 33 #[lv, .string cls, .int .i64 at'] w (NeedsPost w l cls at') := by
  have HNm := Lib.hid (named_any l lv cls at' w hl ho hlv)
  obtain ⟨pl, cap, rfl, hpo⟩ := hlv.open
  clear hpo
  have HO := Lib.hid ho
  have HA : Hid (∀ (wx : World) (o : Obj), Below wx.heap.size wx (wx.alloc o)) := fun wx o => (Below.refl _ _).alloc (Nat.le_refl _) o
  clear hl ho hlv
  unfold NamedPost zMethod at HNm
  by_cases hz : namedN l cls at' = 0
  · have HZ := Lib.hid hz
    clear hz
    go_enter Tryz.func33, Tryz.ntmps33
    go_upto_region 2 with (go_at_call 62; (with_reducible refine (HNm.out).mono ?_); rintro e w2 ⟨hB2, ⟨_, m, ws, B, v, hnm, hab, rfl, ⟨pc, kc, ph, kh, rfl, hcv, hhv⟩, hM⟩ | ⟨hz, _⟩⟩; rotate_left; (exact absurd HZ.out hz))
    obtain ⟨c, hc, hcn, hmc⟩ := namedM_mem hnm
    have hmo := (HO.out c hc).methods m hmc
    have hcl : cls.size ≤ 1048576 := by rw [← hcn]; exact (HO.out c hc).name
    obtain ⟨args, g, many, hG⟩ := meth_good (hM.faults c hc) hmc hab.out
    have k3 := Blk.new w2 53 [.string m.name, .string m.type, .bool m.static, .bool m.abs, .bool m.priv, .int .i64 m.locals, .slice pc m.code.length kc, .slice ph m.handlers.length kh]
    have B3 : Below w.heap.size w (w2.alloc (.cells #[.string m.name, .string m.type, .bool m.static, .bool m.abs, .bool m.priv, .int .i64 m.locals, .slice pc m.code.length kc, .slice ph m.handlers.length kh] 53)) := hB2.alloc hB2.size _
    have M3 := hM.step (HA.out w2 (.cells #[.string m.name, .string m.type, .bool m.static, .bool m.abs, .bool m.priv, .int .i64 m.locals, .slice pc m.code.length kc, .slice ph m.handlers.length kh] 53))
    generalize w2.alloc (.cells #[.string m.name, .string m.type, .bool m.static, .bool m.abs, .bool m.priv, .int .i64 m.locals, .slice pc m.code.length kc, .slice ph m.handlers.length kh] 53) = w3 at *
    have HLo := Lib.hid (looked_any l B ws w3 M3 m cls g args many pc ph kc kh hG hmo hcl (hcv.mono B3 (by decide) (fun _ _ h => h)) (hhv.mono B3 (by decide) (fun _ _ h => h)))
    have HG := Lib.hid hG
    have HNm2 := Lib.hid (And.intro hnm hab.out)
    have Hcv := Lib.hid hcv
    have Hhv := Lib.hid hhv
    have HB3 := Lib.hid B3
    have Hk3 := Lib.hid k3
    have m0 := k3.cell 0
    have m1 := k3.cell 1
    have m2 := k3.cell 2
    have m3 := k3.cell 3
    have m4 := k3.cell 4
    have m5 := k3.cell 5
    have m6 := k3.cell 6
    have m7 := k3.cell 7
    unfold LookedPost at HLo
    clear hnm hab hM hcv hhv hB2 hc hcn hmc hmo hcl hG k3 B3 M3 HO HNm
    by_cases hex : ∃ A, MethodFrames (allC l) cls g m (firstL cls m.static args many) (some A)
    · have HEx := Lib.hid hex
      clear hex
      go_upto_region 8 with (go_at_call 63; (with_reducible refine (HLo.out).mono ?_); rintro e w4 ⟨hB4, ⟨F, mb, hF, rfl, hFm⟩ | ⟨hF, _⟩⟩; rotate_left; (exact absurd HEx.out (fun ⟨A, k1, k2⟩ => hF k1 A k2.1)))
      have HB4 := Lib.hid (below_call HB3.out (Nat.le_refl _) hB4)
      have HFF := Lib.hid hF
      have HCo := Lib.hid (codeOk_of HG.out.code)
      have HHo := Lib.hid (handlersOk_of HG.out.hands)
      have hlen40 := (codeOk_of HG.out.code).small
      have hlen8 : m.handlers.length ≤ 8 := (handlersOk_of HG.out.hands).1
      have Hoks : Hid (∀ i f, F i = some f → i < m.code.length ∧ frameR (allC l) f = 0) := fun i f e => hF.2.1.1 i f e
      obtain ⟨es, clock, e1, e2, e3, e4, e5, e6⟩ := hFm.ex
      have Hmb := Lib.hid e1
      have hmlt : mb < w4.heap.size := hFm.lt
      have He5 := Lib.hid e5
      have He6 := Lib.hid e6
      have He3 : Hid (∀ e ∈ es.toList, ∃ i f lv sv, e.key = intV i ∧ e.val = .agg #[lv, sv] ∧ F i = some f) := fun e he => by
        obtain ⟨i, f, lv, sv, _, k1, k2, k3, _⟩ := e3 e he
        exact ⟨i, f, lv, sv, k1, k2, k3⟩
      have He4 := Lib.hid e4
      have hes : es.toList.length ≤ 40 := Nat.le_trans (entries_few e2 fun e he => by
        obtain ⟨i, f, _, _, _, k1, _, k3, _⟩ := e3 e he
        exact ⟨i, (Hoks.out i f k3).1, k1⟩) hlen40
      have hrg := fun (wx : World) (hx : wx.heap[mb]? = some (.map es clock)) => run_range_map (P := Tryz.prog) wx 116 3 27 mb es clock fmapType hx
      have hr4 := hrg w4 e1
      have HN0 : Hid (NeedAt w4 (w4.alloc (.mapIter (some mb) clock #[] clock)) mb clock #[] (.slice none 0 0) []) := ⟨HA.out _ _, heap_alloc_new _ _, Que.empty _ _⟩
      have hl0 : Hid (9 * (leftOf es #[]).size ≤ 9 * 40) := by
        have : (leftOf es #[]).size ≤ es.size := by unfold leftOf; exact Array.size_filter_le
        have h2 : es.size = es.toList.length := by simp
        unfold Hid
        omega
      have kq : Hid (∀ wx, Below w4.heap.size w4 wx → Blk wx w2.heap.size 53 [.string m.name, .string m.type, .bool m.static, .bool m.abs, .bool m.priv, .int .i64 m.locals, .slice pc m.code.length kc, .slice ph m.handlers.length kh]) := fun wx hb => (Hk3.out.step hB4).step hb
      clear e1 e2 e3 e4 e5 e6 hF hFm hB4 m0 m1 m2 m3 m4 m5 m6 m7 HLo hrg hes
      go_wp2_with (first | fail)
      clear hr4
      go_loopw [13] (fun y wr => ∃ (seen : Array Nat) (T : List Nat), Hid (NeedAt w4 wr mb clock seen y T) ∧ Hid (SeenP m es seen T) ∧ Hid (T.length + 9 * (leftOf es seen).size ≤ 360)) (fun _ wr => (leftOf es (wr.iterSeen w4.heap.size)).size)
      case atStart => exact ⟨#[], [], HN0.out, seenP_none m es, by have := hl0.out; unfold Hid; simp only [List.length_nil]; omega⟩
      case round =>
        obtain ⟨seen, T, hN, hS, hL⟩ := hrel
        have hbm : wr.heap[mb]? = some (.map es clock) := (hN.out.below.block mb hmlt).trans Hmb.out
        have law := run_next_at (P := Tryz.prog) wr 0 w4.heap.size mb clock clock seen es clock hN.out.iter hbm He6.out (Nat.le_refl _)
        rcases law with ⟨h0, hrun⟩ | ⟨e, he, w5, hal, hrun⟩
        · have hnx : ∀ ty, (Instr.next (.pointer (some ⟨w4.heap.size, 0, none⟩)) false ty).run Tryz.prog wr = _ := fun _ => hrun
          obtain ⟨va, vc, rfl⟩ := que_shape hN.out.que
          have HSo := Lib.hid (sort_que hN.out.que (by have := hL.out; omega))
          have HT : Hid (∀ p, p ∈ T ↔ NeedP m F p) := seenP_full h0 hS.out (fun e he => by
            obtain ⟨i, f, _, _, k1, _, k3⟩ := He3.out e he
            exact ⟨i, f, k1, k3⟩) He4.out
          unfold SortPost at HSo
          have HL := Lib.hid (show T.length ≤ 1000000 by have := hL.out; omega)
          clear hrun h0 hbm
          go_upto_region 21 with (go_at_call 71; (with_reducible refine (HSo.out).mono ?_); rintro e w6 ⟨rfl, hg6, hQ6⟩)
          have HCp := Lib.hid (compact_que hQ6 HL.out)
          have hb6 := hN.out.below.grown hg6 hN.out.below.size (fun k e => (hN.out.que.lt k e).1)
          have HB6 := Lib.hid hb6
          unfold CompactPost at HCp
          clear hQ6 hg6 hb6
          go_wp2_with (go_at_call 72; (with_reducible refine (HCp.out).mono ?_); rintro e w7 ⟨u, rfl, hu, hg7⟩)
          have hB7 := HB6.out.grown hg7 HB6.out.size (fun k e => (hN.out.que.lt k e).1)
          go_ret2
          obtain ⟨z1, z2⟩ := needZ_spec T
          exact ⟨below_call HB4.out (Nat.le_refl _) hB7, 0, some (m, F), Or.inr ⟨HZ.out, m, args, g, many, HNm2.out.1, HNm2.out.2, HG.out, some F, HFF.out, rfl, rfl⟩, u, needZ T, rfl, hu, z1, fun x => (z2 x).trans ⟨fun ⟨p, k1, k2⟩ => ⟨p, k1, (HT.out p).1 k2⟩, fun ⟨p, k1, k2⟩ => ⟨p, k1, (HT.out p).2 k2⟩⟩⟩
        · obtain ⟨hem, hes'⟩ := mem_left he
          obtain ⟨i, f, lv, sv, hk, hv, hFi⟩ := He3.out e hem
          have hN2 := hN.out.next hal (seen.push e.born)
          have hb2 := (hN2.below.block mb hmlt).trans Hmb.out
          have hen := run_entry_at (P := Tryz.prog) _ w4.heap.size mb clock seen es clock e hN2.iter hb2 hem He5.out
          rw [hk, hv, intV] at hrun hen
          obtain ⟨wn, hwn⟩ : ∃ wn, wn = setBlock w5 w4.heap.size (.mapIter (some mb) clock (seen.push e.born) clock) := ⟨_, rfl⟩
          rw [← hwn] at hrun hen hN2
          clear hwn
          have hnx : ∀ ty, (Instr.next (.pointer (some ⟨w4.heap.size, 0, none⟩)) false ty).run Tryz.prog wr = _ := fun _ => hrun
          have hin := (Hoks.out i f hFi).1
          obtain ⟨x, hx⟩ : ∃ x, m.code[i]? = some x := ⟨m.code[i], by simp [hin]⟩
          have hxm := List.mem_of_getElem? hx
          obtain ⟨b0, o, cap, vs, e', hxv, hvl, hcells⟩ := Hcv.out.at hin
          injection e' with e1 _ e2
          subst e1 e2
          rw [show m.code[i] = x from Option.some.inj ((List.getElem?_eq_getElem hin).symm.trans hx)] at hxv
          unfold InsCells at hxv
          subst hxv
          have Bn := below_call HB4.out (Nat.le_refl _) hN2.below
          have hcells := hcells.mono Bn hcells.lt
          have Hxj := Lib.hid (HCo.out.jumps x hxm)
          have hS2 := seenP_push (m := m) He5.out hem hS.out
          rw [keyN_intV hk] at hS2
          have HS2 := Lib.hid hS2
          have hlen : Hid ((T ++ placeNeeds m i).length + 9 * (leftOf es (seen.push e.born)).size ≤ 360) := by
            have h1 := left_shrinks es seen e he
            have h2 := placeNeeds_len m hlen8 i
            have h3 := hL.out
            unfold Hid
            rw [List.length_append]
            omega
          have hTl : T.length ≤ 360 := by have := hL.out; omega
          have HLeft : Hid ((leftOf es (seen.push e.born)).size < (leftOf es seen).size) := left_shrinks es seen e he
          have hPn : Hid (placeNeeds m i = (if jumpsB x.op then [x.a.toNat] else []) ++ ((m.handlers.filter fun h => decide (h.lo ≤ (i : Int)) && decide ((i : Int) < h.hi)).map fun h => h.dest.toNat)) := by
            unfold Hid placeNeeds
            rw [hx]
          have HIt : Hid (wr.iterSeen w4.heap.size = seen) := by
            unfold Hid World.iterSeen
            rw [hN.out.iter]
          obtain ⟨op, xa, xb, type, xcls, name⟩ := x
          obtain ⟨c0, c1, c2, c3, c4, c5, _⟩ := hcells
          have kn := kq.out wn hN2.below
          have m6 := kn.cell 6
          have Ba := HA.out wn (.cells #[.int .i64 op, .int .i64 xa, .int .i64 xb, .string type, .string xcls, .string name] 24)
          have kx := Blk.new wn 24 [.int .i64 op, .int .i64 xa, .int .i64 xb, .string type, .string xcls, .string name]
          have HN3 := Lib.hid (hN2.step Ba)
          have hinI : (i : Int) < (m.code.length : Int) := by omega
          have hi0 : (0 : Int) ≤ (i : Int) := Int.natCast_nonneg _
          have HJ : Hid (∀ wx, _) := fun wx => jumps_any op wx
          have hi64 : i ≤ 40 := by omega
          dsimp only at Hxj hPn
          clear he hal hem hes' hk hv hFi hb2 hS2 hx hxm Bn kn hN2 hbm hrun hin hvl
          go_upto_region 12 with (first | fail)
          obtain ⟨wx, hwx⟩ : ∃ wx, wx = wn.alloc (.cells #[.int .i64 op, .int .i64 xa, .int .i64 xb, .string type, .string xcls, .string name] 24) := ⟨_, rfl⟩
          rw [← hwx] at kx HN3 Ba
          rw [← hwx]
          have x0 := kx.cell 0
          have x1 := kx.cell 1
          clear hen hnx c0 c1 c2 c3 c4 c5 m6 hwx Ba
          obtain ⟨bj, hbj⟩ : ∃ b, jumpsB op = b := ⟨_, rfl⟩
          rw [hbj] at HJ hPn
          have Hbj := Lib.hid hbj
          clear hbj
          obtain ⟨J, hJ⟩ : ∃ J, (if bj then [xa.toNat] else []) = J := ⟨_, rfl⟩
          have HJl := Lib.hid hJ
          rw [hJ] at hPn
          clear hJ
          go_upto_if 52 with (first | (go_at_call 70; (with_reducible refine (HJ.out _).mono ?_); rintro e w6 ⟨rfl, rfl⟩))
          go_cut [13] from 53 to 57 (fun y wy => NeedAt w4 wy mb clock (seen.push e.born) y (T ++ J))
          case first =>
            cases bj with
            | true =>
              have hJe := HJl.out
              rw [if_pos rfl] at hJe
              obtain ⟨hx0, _⟩ := Hxj.out Hbj.out
              (try dsimp only at hx0)
              obtain ⟨d, rfl⟩ := Int.eq_ofNat_of_zero_le hx0
              rw [Int.toNat_natCast] at hJe
              subst hJe
              have HN4 := Lib.hid (HN3.out.step (HA.out _ (.cells #[.int .i64 (d : Int)] 3)))
              have hbs : w4.heap.size ≤ (wx.alloc (.cells #[.int .i64 (d : Int)] 3)).heap.size := HN4.out.below.size
              have hce := cell_new1 wx (.int .i64 (d : Int)) 3
              have hce0 : (wx.alloc (.cells #[.int .i64 (d : Int)] 3)).cell? ((⟨wx.heap.size, 0, none⟩ : Addr).add 0) = some (intV d) := hce 0 _ rfl
              have h63 : T.length + 1 ≤ maxLen := by unfold maxLen; omega
              have h56 : (T.length + 1) * 8 ≤ 140737488355328 := by omega
              have hq4 := HN4.out.que
              clear hce hx0
              go_wp2_with (at_builtin; go_must (refine wpList_append_que rfl _ _ rfl w4.heap.size _ T rfl hq4 hbs d ⟨wx.heap.size, 0, none⟩ 1 rfl hce0 h63 h56 ?_); intro v9 w9 hR9 hg9 _; (have HR9 := Lib.hid hR9); (have Hg9 := Lib.hid hg9); clear hR9 hg9)
              go_meet
              exact HN4.out.app Hg9.out HR9.out
            | false =>
              have hJe := HJl.out
              rw [if_neg (by decide)] at hJe
              subst hJe
              go_wp2_with (first | fail)
              go_meet
              rw [List.append_nil]
              exact HN3.out
          case rest =>
            have HN5 := Lib.hid hcut
            have hTJ : (T ++ J).length ≤ 361 := by
              rw [List.length_append, ← HJl.out]
              split <;> simp <;> omega
            clear hcut x0 x1
            have m7 := (kq.out _ HN5.out.below).cell 7
            go_wp2_with (first | fail)
            clear m7
            go_loopw [13, 61] (fun y z wy => ∃ (k : Nat) (T2 : List Nat), k ≤ m.handlers.length ∧ z = .int .i64 (k : Int) ∧ Hid (NeedAt w4 wy mb clock (seen.push e.born) y T2) ∧ Hid (T2 = (T ++ J) ++ ((m.handlers.take k).filter fun h => decide (h.lo ≤ (i : Int)) && decide ((i : Int) < h.hi)).map fun h => h.dest.toNat)) (fun _ z _ => m.handlers.length - (intOf z).toNat)
            case atStart => exact ⟨0, T ++ J, Nat.zero_le _, rfl, HN5.out, by unfold Hid; simp⟩
            case round =>
              obtain ⟨k, T2, hk, rfl, hN6, hT2⟩ := hrel
              by_cases hkl : k < m.handlers.length
              · obtain ⟨h, hh⟩ : ∃ x, m.handlers[k]? = some x := ⟨m.handlers[k], by simp [hkl]⟩
                obtain ⟨b0, o, cap, vs, e', hhv2, hvl, hcells⟩ := Hhv.out.at hkl
                injection e' with e1 _ e2
                subst e1 e2
                rw [show m.handlers[k] = h from Option.some.inj ((List.getElem?_eq_getElem hkl).symm.trans hh)] at hhv2
                unfold HandlerCells at hhv2
                subst hhv2
                have hcells := hcells.mono (below_call HB4.out (Nat.le_refl _) hN6.out.below) hcells.lt
                have hT2l : T2.length ≤ 369 := by
                  have h1 := List.length_filter_le (fun h : Handler => decide (h.lo ≤ (i : Int)) && decide ((i : Int) < h.hi)) (m.handlers.take k)
                  have h2 := hT2.out
                  rw [h2, List.length_append, List.length_map]
                  rw [List.length_take] at h1
                  omega
                have hstep : Hid (((m.handlers.take (k + 1)).filter fun h => decide (h.lo ≤ (i : Int)) && decide ((i : Int) < h.hi)).map (fun h => h.dest.toNat) = (((m.handlers.take k).filter fun h => decide (h.lo ≤ (i : Int)) && decide ((i : Int) < h.hi)).map fun h => h.dest.toNat) ++ (if (decide (h.lo ≤ (i : Int)) && decide ((i : Int) < h.hi)) = true then [h.dest.toNat] else [])) := by
                  unfold Hid
                  rw [List.take_add_one, hh, List.filter_append, List.map_append]
                  congr 1
                  cases hc : (decide (h.lo ≤ (i : Int)) && decide ((i : Int) < h.hi)) <;> simp [hc]
                obtain ⟨_, _, ho3, ho4, _⟩ := HHo.out.2 h (List.mem_of_getElem? hh)
                obtain ⟨lo, hi', dest, hcls⟩ := h
                dsimp only at hstep ho3 ho4
                obtain ⟨d, rfl⟩ := Int.eq_ofNat_of_zero_le ho3
                obtain ⟨c0, c1, c2, c3, _⟩ := hcells
                have Ba := HA.out wr (.cells #[.int .i64 lo, .int .i64 hi', .int .i64 (d : Int), .string hcls] 126)
                have kh2 := Blk.new wr 126 [.int .i64 lo, .int .i64 hi', .int .i64 (d : Int), .string hcls]
                have HN7 := Lib.hid (hN6.out.step Ba)
                have hkI : (k : Int) < (m.handlers.length : Int) := by omega
                have hk0 : (0 : Int) ≤ (k : Int) := Int.natCast_nonneg _
                clear hh hvl ho3 ho4
                go_upto_region 17 with (first | fail)
                obtain ⟨wh, hwh⟩ : ∃ wh, wh = wr.alloc (.cells #[.int .i64 lo, .int .i64 hi', .int .i64 (d : Int), .string hcls] 126) := ⟨_, rfl⟩
                rw [← hwh] at kh2 HN7 Ba
                rw [← hwh]
                have y0 := kh2.cell 0
                have y1 := kh2.cell 1
                have y2 := kh2.cell 2
                clear c0 c1 c2 c3 kh2 Ba hwh
                by_cases hrg : lo ≤ (i : Int) ∧ (i : Int) < hi'
                · have hst := hstep.out
                  rw [decide_eq_true hrg.1, decide_eq_true hrg.2, Bool.and_self, if_pos rfl, Int.toNat_natCast] at hst
                  have HT3 : Hid (T2 ++ [d] = (T ++ J) ++ ((m.handlers.take (k + 1)).filter fun h => decide (h.lo ≤ (i : Int)) && decide ((i : Int) < h.hi)).map fun h => h.dest.toNat) := by
                    unfold Hid
                    rw [hst, ← List.append_assoc, ← hT2.out]
                  have HN8 := Lib.hid (HN7.out.step (HA.out _ (.cells #[.int .i64 (d : Int)] 3)))
                  have hbs : w4.heap.size ≤ (wh.alloc (.cells #[.int .i64 (d : Int)] 3)).heap.size := HN8.out.below.size
                  have hce0 : (wh.alloc (.cells #[.int .i64 (d : Int)] 3)).cell? ((⟨wh.heap.size, 0, none⟩ : Addr).add 0) = some (intV d) := cell_new1 wh (.int .i64 (d : Int)) 3 0 _ rfl
                  have h63 : T2.length + 1 ≤ maxLen := by unfold maxLen; omega
                  have h56 : (T2.length + 1) * 8 ≤ 140737488355328 := by omega
                  have hq4 := HN8.out.que
                  obtain ⟨hg1, hg2⟩ := hrg
                  clear hst hstep
                  go_wp2_with (at_builtin; go_must (refine wpList_append_que rfl _ _ rfl w4.heap.size _ T2 rfl hq4 hbs d ⟨wh.heap.size, 0, none⟩ 1 rfl hce0 h63 h56 ?_); intro v9 w9 hR9 hg9 _; (have HR9 := Lib.hid hR9); (have Hg9 := Lib.hid hg9); clear hR9 hg9)
                  go_roundw
                  case rel => exact ⟨k + 1, T2 ++ [d], by omega, by simp, HN8.out.app Hg9.out HR9.out, HT3.out⟩
                  case measure => simp [intOf]; omega
                · have hfalse : (decide (lo ≤ (i : Int)) && decide ((i : Int) < hi')) = false := by
                    rw [Bool.and_eq_false_iff, decide_eq_false_iff_not, decide_eq_false_iff_not]
                    by_cases h1 : lo ≤ (i : Int)
                    · exact Or.inr fun h2 => hrg ⟨h1, h2⟩
                    · exact Or.inl h1
                  have HT3 : Hid (T2 = (T ++ J) ++ ((m.handlers.take (k + 1)).filter fun h => decide (h.lo ≤ (i : Int)) && decide ((i : Int) < h.hi)).map fun h => h.dest.toNat) := by
                    have hst := hstep.out
                    unfold Hid
                    rw [hst, hfalse, if_neg (by decide), List.append_nil]
                    exact hT2.out
                  clear hstep hfalse
                  by_cases h1 : lo ≤ (i : Int)
                  · have h2 : ¬ (i : Int) < hi' := fun h2 => hrg ⟨h1, h2⟩
                    clear hrg
                    go_wp2_with (first | fail)
                    go_roundw
                    case rel => exact ⟨k + 1, T2, by omega, by simp, HN7.out, HT3.out⟩
                    case measure => simp [intOf]; omega
                  · clear hrg
                    go_wp2_with (first | fail)
                    go_roundw
                    case rel => exact ⟨k + 1, T2, by omega, by simp, HN7.out, HT3.out⟩
                    case measure => simp [intOf]; omega
              · obtain rfl : k = m.handlers.length := by omega
                have hTe : Hid (T2 = T ++ placeNeeds m i) := by
                  unfold Hid
                  rw [hT2.out, List.take_length, hPn.out, List.append_assoc]
                go_wp2_with (first | fail)
                go_roundw
                case rel =>
                  exact ⟨seen.push e.born, T2, hN6.out, by unfold Hid; rw [hTe.out]; exact HS2.out, by unfold Hid; rw [hTe.out]; exact hlen.out⟩
                case measure =>
                  have h9 : wr.iterSeen w4.heap.size = seen.push e.born := by
                    unfold World.iterSeen
                    rw [hN6.out.iter]
                  rw [h9, HIt.out]
                  exact HLeft.out
    · have HEx := Lib.hid hex
      clear hex
      go_upto_region 5 with (go_at_call 63; (with_reducible refine (HLo.out).mono ?_); rintro e w4 ⟨hB4, ⟨F, mb, hF, _⟩ | ⟨hF, rfl⟩⟩; (exact absurd ⟨F, hF⟩ HEx.out))
      have HFF := Lib.hid hF
      have HB4 := Lib.hid (below_call HB3.out (Nat.le_refl _) hB4)
      clear hF hB4 m0 m1 m2 m3 m4 m5 m6 m7 HLo
      go_wp2_with (first | fail)
      go_ret2
      exact ⟨HB4.out, 7, none, Or.inr ⟨HZ.out, m, args, g, many, HNm2.out.1, HNm2.out.2, HG.out, none, HFF.out, rfl, rfl⟩, by decide, rfl⟩
  · have HZ := Lib.hid hz
    clear hz
    go_enter Tryz.func33, Tryz.ntmps33
    go_wp2_with (go_at_call 62; (with_reducible refine (HNm.out).mono ?_); rintro e w2 ⟨hB2, ⟨hz, _⟩ | ⟨_, rfl⟩⟩; (exact absurd hz HZ.out))
    go_ret2
    exact ⟨hB2.alloc hB2.size _, _, none, Or.inl ⟨HZ.out, rfl, rfl⟩, HZ.out, rfl⟩
end Go.Proofs.YtlmfmioljeppfaaGreatDoor
