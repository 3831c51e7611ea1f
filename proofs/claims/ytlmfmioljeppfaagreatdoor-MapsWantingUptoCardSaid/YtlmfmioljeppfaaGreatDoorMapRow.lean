/-
  A LIST OF MAPS (places with frames) that grows at its end: where it lies; no text lies in its block.
-/
import Derived.Test.YtlmfmioljeppfaaGreatDoorLeastLaw
import Derived.Test.YtlmfmioljeppfaaGreatDoorQueue
import Derived.Test.YtlmfmioljeppfaaGreatDoorLooker
namespace Go.Proofs.YtlmfmioljeppfaaGreatDoor
open Go.RowKit Go.Shelf Go.Lib
theorem info_map : (Tryz.prog.info? 62).map (fun i => (i.zero, i.size, i.bytes)) = some (some (.agg #[.int .i64 0, .slice none 0 0, .slice none 0 0]), 3, 56) := by kernel_rfl
def NoText (l : List Value) : Prop := ∀ u ∈ l, ∀ s, u ≠ .string s
def MRow (w : World) (base : Nat) (v : Value) (n : Nat) (xs : List Value) : Prop := (v = .slice none 0 0 ∧ n = 0 ∧ xs = []) ∨
  ∃ b cap vals, v = .slice (some ⟨b, 0, none⟩) n cap ∧ base ≤ b ∧ Blk w b 62 vals ∧ n ≤ cap ∧ cap ≤ maxLen ∧ cap * 3 ≤ vals.length ∧ xs.length = n * 3 ∧ NoText vals ∧ ∀ (j : Nat) (u : Value), xs[j]? = some u → vals[j]? = some u
theorem MRow.empty (w : World) (base : Nat) : MRow w base (.slice none 0 0) 0 [] := Or.inl ⟨rfl, rfl, rfl⟩
theorem MRow.lt {w : World} {base : Nat} {v : Value} {n : Nat} {xs : List Value} (h : MRow w base v n xs) : ∀ g, v.ownBlock = some g → base ≤ g ∧ g < w.heap.size := by
  intro g hg
  rcases h with ⟨rfl, _⟩ | ⟨b, cap, vals, rfl, h1, h2, _⟩
  · cases hg
  · injection hg with hg
    subst hg
    exact ⟨h1, h2.lt⟩
theorem MRow.keep {w w' : World} {base : Nat} {v : Value} {n : Nat} {xs : List Value} (h : MRow w base v n xs) (hb : ∀ g, v.ownBlock = some g → w'.heap[g]? = w.heap[g]?) : MRow w' base v n xs := by
  rcases h with h | ⟨b, cap, vals, rfl, h1, h2, h3⟩
  · exact Or.inl h
  · exact Or.inr ⟨b, cap, vals, rfl, h1, (hb b rfl).trans h2, h3⟩
theorem MRow.below {w w' : World} {base : Nat} {v : Value} {n : Nat} {xs : List Value} (h : MRow w base v n xs) (hb : Below w.heap.size w w') : MRow w' base v n xs := h.keep fun g hg => hb.block g (h.lt g hg).2
theorem MRow.shape {w : World} {base : Nat} {v : Value} {n : Nat} {xs : List Value} (h : MRow w base v n xs) : ∃ a c, v = .slice a n c := by
  rcases h with ⟨rfl, rfl, _⟩ | ⟨b, cap, vals, rfl, _⟩
  · exact ⟨none, 0, rfl⟩
  · exact ⟨_, _, rfl⟩
theorem MRow.keepS {w w' : World} {base : Nat} {v : Value} {n : Nat} {xs : List Value} (h : MRow w base v n xs) (hg : w.grownBy w' v.ownBlock) : KeepS w w' := by
  rcases h with ⟨rfl, _⟩ | ⟨b, cap, vals, rfl, _, h2, _, _, _, _, h6, _⟩
  · exact fun a s e => (World.cell?_of_block (hg.block a.block (cell_lt e) (by simp [Value.ownBlock]))).trans e
  · refine KeepS.blocks b (fun k hk hne => hg.block k hk fun e => hne (Option.some.inj e)) fun a s ha e => ?_
    obtain ⟨c, off, spot⟩ := a
    have ha : c = b := ha
    subst ha
    cases spot with
    | none =>
      rw [h2.cell off] at e
      exact h6 _ (List.mem_of_getElem? e) s rfl
    | some x =>
      unfold Blk at h2
      unfold World.cell? at e
      rw [h2] at e
      cases e
theorem zeros_map {n : Nat} {u : Value} (h : u ∈ (Builtin.zeroCells (Value.agg #[.int .i64 0, .slice none 0 0, .slice none 0 0]).cells n).toList) : ∀ s, u ≠ .string s := by
  unfold Builtin.zeroCells at h
  simp only [Array.toList_map, List.mem_map] at h
  obtain ⟨i, _, rfl⟩ := h
  have hc : (Value.agg #[.int .i64 0, .slice none 0 0, .slice none 0 0]).cells = #[.int .i64 0, .slice none 0 0, .slice none 0 0] := by kernel_rfl
  rw [hc]
  intro s
  have h3 : i % 3 < 3 := Nat.mod_lt _ (by decide)
  show #[Value.int .i64 0, .slice none 0 0, .slice none 0 0].getD (i % 3) _ ≠ _
  match hq : i % 3, h3 with
  | 0, _ => simp
  | 1, _ => simp
  | 2, _ => simp
theorem MRow.made (w : World) {base n cap : Nat} {xs : List Value} (hb : base ≤ w.heap.size) (h1 : n ≤ cap) (h2 : cap ≤ maxLen) (hx : xs.length = n * 3) (ht : NoText xs) :
    MRow (w.alloc (.cells (xs.toArray ++ Builtin.zeroCells (Value.agg #[.int .i64 0, .slice none 0 0, .slice none 0 0]).cells (cap - n)) 62)) base (.slice (some ⟨w.heap.size, 0, none⟩) n cap) n xs := by
  have hc : (Value.agg #[.int .i64 0, .slice none 0 0, .slice none 0 0]).cells.size = 3 := by kernel_rfl
  have hE : xs.toArray ++ Builtin.zeroCells (Value.agg #[.int .i64 0, .slice none 0 0, .slice none 0 0]).cells (cap - n) = (xs ++ (Builtin.zeroCells (Value.agg #[.int .i64 0, .slice none 0 0, .slice none 0 0]).cells (cap - n)).toList).toArray := by
    apply Array.ext'
    simp
  rw [hE]
  refine Or.inr ⟨w.heap.size, cap, _, rfl, hb, Blk.new w 62 _, h1, h2, ?_, hx, fun u hu => ?_, fun j u hj => ?_⟩
  · have hz := size_zeroCells (Value.agg #[.int .i64 0, .slice none 0 0, .slice none 0 0]).cells (cap - n)
    rw [hc] at hz
    rw [List.length_append, hx, show (Builtin.zeroCells (Value.agg #[.int .i64 0, .slice none 0 0, .slice none 0 0]).cells (cap - n)).toList.length = (cap - n) * 3 from hz, ← Nat.add_mul]
    exact Nat.mul_le_mul_right _ (by omega)
  · rcases List.mem_append.1 hu with hu | hu
    · exact ht u hu
    · exact zeros_map hu
  · rw [List.getElem?_append_left (List.getElem?_eq_some_iff.1 hj).1]
    exact hj
theorem set3_get {vals : List Value} {o : Nat} {a b c : Value} {xs : List Value} (hl : xs.length = o) (hs : o + 3 ≤ vals.length) (h : ∀ (j : Nat) (u : Value), xs[j]? = some u → vals[j]? = some u) :
    ∀ (j : Nat) (u : Value), (xs ++ [a, b, c])[j]? = some u → (((vals.set o a).set (o + 1) b).set (o + 2) c)[j]? = some u := by
  intro j u hu
  by_cases hj : j < xs.length
  · rw [List.getElem?_append_left hj] at hu
    rw [List.getElem?_set_ne (by omega), List.getElem?_set_ne (by omega), List.getElem?_set_ne (by omega)]
    exact h j u hu
  · rw [List.getElem?_append_right (by omega)] at hu
    have hj3 : j - xs.length < 3 := (List.getElem?_eq_some_iff.1 hu).1
    obtain ⟨d, hd⟩ : ∃ d, j = o + d := ⟨j - o, by omega⟩
    subst hd
    rw [hl, Nat.add_sub_cancel_left] at hu hj3
    match d, hj3 with
    | 0, _ =>
      rw [List.getElem?_set_ne (by omega), List.getElem?_set_ne (by omega), Nat.add_zero, List.getElem?_set_self (by omega)]
      exact hu
    | 1, _ =>
      rw [List.getElem?_set_ne (by omega), List.getElem?_set_self (by rw [List.length_set]; omega)]
      exact hu
    | 2, _ =>
      rw [List.getElem?_set_self (by rw [List.length_set, List.length_set]; omega)]
      exact hu
theorem noText_set {l : List Value} (h : NoText l) (o : Nat) {a : Value} (ha : ∀ s, a ≠ .string s) : NoText (l.set o a) := fun u hu => by
  rcases List.mem_or_eq_of_mem_set hu with hu | rfl
  · exact h u hu
  · exact ha
theorem run_append_mrow {w : World} (ty : TypeId) {base : Nat} {v : Value} {n : Nat} {xs : List Value} (h : MRow w base v n xs) (hbase : base ≤ w.heap.size) (y0 y1 y2 : Value) (ad : Addr) (c : Nat) (hc : ∀ j u, [y0, y1, y2][j]? = some u → w.cell? (ad.add j) = some u)
    (ho : ∀ u ∈ [y0, y1, y2], u.oneCell' = true) (ht : NoText [y0, y1, y2]) (h63 : n + 1 ≤ maxLen) (hbytes : (n + 1) * 56 ≤ 140737488355328) :
    ∃ v' w', (Builtin.append_ #[56, 56] ty #[v, .slice (some ad) 1 c]).run Tryz.prog w = .ok v' w' ∧ MRow w' base v' (n + 1) (xs ++ [y0, y1, y2]) ∧ w.grownBy w' v.ownBlock ∧ ∀ g, v'.ownBlock = some g → v.ownBlock = some g ∨ w.heap.size ≤ g := by
  obtain ⟨i0, hi, hz0, hz1, hz2⟩ := info_parts info_map
  rcases h with ⟨rfl, rfl, rfl⟩ | ⟨b, cap, vals, rfl, hb, hh, hlc, hcm, hfit, hxl, hnt, hcur⟩
  · have hr := run_append_nil (P := Tryz.prog) (w := w) 56 ty 62 i0 _ Tryz.underlying56 hi hz0 ad 1 c [y0, y1, y2] (by rw [hz1]; rfl) hc (by decide) (by decide) (by rw [hz2]; decide)
    exact ⟨_, _, hr, MRow.made w.drew hbase (grownCap_ge w 1 0 62) (grownCap_le_maxLen w 1 0 62 (by decide)) rfl ht, ⟨rfl, rfl, rfl, by simp, fun k hk _ => heap_alloc_old w.drew _ hk⟩, fun g hg => Or.inr (Nat.le_of_eq (Option.some.inj hg))⟩
  · by_cases hroom : n + 1 ≤ cap
    · have hsz : i0.size = 3 := hz1
      have hin : ∀ j, j < 3 → n * 3 + j < vals.length := fun j hj => by have := Nat.mul_le_mul_right 3 hroom; omega
      have hr := run_append_room_cells (P := Tryz.prog) w 56 ty 62 i0 Tryz.underlying56 hi b 0 n cap ad 1 c [y0, y1, y2] (by rw [hsz]; rfl) hc ho hroom
        (fun j hj => by
          rw [hsz, Nat.zero_add, hh.cell, List.getElem?_eq_getElem (hin j hj)]; rfl)
        (fun j _ => hh.frozen _)
      rw [hsz, Nat.zero_add] at hr
      refine ⟨_, _, hr, Or.inr ⟨b, cap, ((vals.set (n * 3) y0).set (n * 3 + 1) y1).set (n * 3 + 2) y2, rfl, hb, ((hh.put _ _).put _ _).put _ _, hroom, hcm, by simpa using hfit, by rw [List.length_append, hxl]; show _ + 3 = _; omega, ?_, set3_get hxl (by have := hin 2 (by decide); omega) hcur⟩, ⟨rfl, rfl, rfl, by simp [World.setCells], fun k hk hne => ?_⟩, fun g hg => Or.inl hg⟩
      · exact noText_set (noText_set (noText_set hnt _ (ht y0 (by simp))) _ (ht y1 (by simp))) _ (ht y2 (by simp))
      · have hne' : k ≠ b := fun e => hne (by rw [e]; rfl)
        exact (heap_setCell_other _ _ _ _ hne').trans ((heap_setCell_other _ _ _ _ hne').trans (heap_setCell_other _ _ _ _ hne'))
    · have hr := run_append_grow (P := Tryz.prog) (w := w) 56 ty 62 i0 _ Tryz.underlying56 hi hz0 ⟨b, 0, none⟩ n cap xs (by rw [hz1]; exact hxl)
        (fun j u hu => by
          rw [add_eq' rfl, Nat.zero_add, hh.cell]
          exact hcur j u hu) ad 1 c [y0, y1, y2] (by rw [hz1]; rfl) hc (by omega) (by unfold maxLen at h63; omega) (growslice_fits (by omega) (by rw [hz2]; exact hbytes))
      have hnx : NoText xs := fun u hu => by
        obtain ⟨j, hj, rfl⟩ := List.getElem_of_mem hu
        exact hnt _ (List.mem_of_getElem? (hcur j _ (List.getElem?_eq_getElem hj)))
      have hm := MRow.made w.drew (xs := xs ++ [y0, y1, y2]) (base := base) (n := n + 1) (cap := grownCap w (n + 1) cap 62) hbase (grownCap_ge w _ _ _) (grownCap_le_maxLen w _ _ _ h63) (by rw [List.length_append, hxl]; show _ + 3 = _; omega) (fun u hu => by
        rcases List.mem_append.1 hu with hu | hu
        · exact hnx u hu
        · exact ht u hu)
      rw [← List.append_toArray] at hm
      exact ⟨_, _, hr, hm, ⟨rfl, rfl, rfl, by simp, fun k hk _ => heap_alloc_old w.drew _ hk⟩, fun g hg => Or.inr (Nat.le_of_eq (Option.some.inj hg))⟩
theorem wpList_append_mrow {w : World} {ops : Array Oper} {rest : List Oper} {o : Oper} {a : Act} {Q : Exit → Act → World → Prop} (hgd : o.guard = none) (s x : Operand)
    (ho : o.op = .call { callee := .builtin .append, args := #[s, x], argTypes := #[56, 56] }) (base : Nat) (v : Value) (n : Nat) (xs : List Value) (hs : a.eval s = v) (h : MRow w base v n xs) (hbase : base ≤ w.heap.size)
    (y0 y1 y2 : Value) (ad : Addr) (c : Nat) (hx : a.eval x = .slice (some ad) 1 c) (hc : ∀ j u, [y0, y1, y2][j]? = some u → w.cell? (ad.add j) = some u) (h1 : ∀ u ∈ [y0, y1, y2], u.oneCell' = true) (ht : NoText [y0, y1, y2]) (h63 : n + 1 ≤ maxLen) (hbytes : (n + 1) * 56 ≤ 140737488355328)
    (hK : ∀ v' w', MRow w' base v' (n + 1) (xs ++ [y0, y1, y2]) → w.grownBy w' v.ownBlock → (∀ g, v'.ownBlock = some g → v.ownBlock = some g ∨ w.heap.size ≤ g) → wpList Tryz.prog ops Q rest (a.put o.dst v') w') : wpList Tryz.prog ops Q (o :: rest) a w := by
  obtain ⟨v', w', hr, k1, k2, k3⟩ := run_append_mrow o.type h hbase y0 y1 y2 ad c hc h1 ht h63 hbytes
  exact Lib.wpList_append_run w hgd s x 56 56 ho v _ hs hx v' w' hr (hK v' w' k1 k2 k3)
def MapCells (w : World) (p : Nat × Frm) (vs : List Value) : Prop := ∃ lv sv, vs = [intV p.1, lv, sv] ∧ FrameAt w lv sv p.2
def MapsAt (w : World) (v : Value) (l : List (Nat × Frm)) : Prop := SliceOf w 3 (MapCells w) v l
def MapVals (w : World) : List (Nat × Frm) → List Value → Prop
  | [], xs => xs = []
  | p :: r, xs => ∃ lv sv ys, xs = intV p.1 :: lv :: sv :: ys ∧ FrameAt w lv sv p.2 ∧ MapVals w r ys
theorem MapVals.keepS {w w' : World} (hk : KeepS w w') : ∀ {l : List (Nat × Frm)} {xs : List Value}, MapVals w l xs → MapVals w' l xs
  | [], _, h => h
  | _ :: _, _, ⟨lv, sv, ys, h1, h2, h3⟩ => ⟨lv, sv, ys, h1, h2.keepS hk, MapVals.keepS hk h3⟩
theorem MapVals.snoc {w : World} {p : Nat × Frm} {lv sv : Value} (hf : FrameAt w lv sv p.2) : ∀ {l : List (Nat × Frm)} {xs : List Value}, MapVals w l xs → MapVals w (l ++ [p]) (xs ++ [intV p.1, lv, sv])
  | [], _, h => by
    have h : _ = [] := h
    subst h
    exact ⟨lv, sv, [], rfl, hf, rfl⟩
  | _ :: _, _, ⟨a, b, ys, h1, h2, h3⟩ => by
    subst h1
    exact ⟨a, b, _, rfl, h2, MapVals.snoc hf h3⟩
theorem MapVals.at {w : World} : ∀ {l : List (Nat × Frm)} {xs : List Value} {i : Nat} {p : Nat × Frm}, MapVals w l xs → l[i]? = some p → ∃ lv sv, FrameAt w lv sv p.2 ∧ xs[i * 3]? = some (intV p.1) ∧ xs[i * 3 + 1]? = some lv ∧ xs[i * 3 + 2]? = some sv
  | [], _, _, _, _, h => by simp at h
  | q :: r, _, 0, p, ⟨lv, sv, ys, h1, h2, h3⟩, h => by
    have h : q = p := by simpa using h
    subst h h1
    exact ⟨lv, sv, h2, rfl, rfl, rfl⟩
  | q :: r, _, i + 1, p, ⟨lv, sv, ys, h1, h2, h3⟩, h => by
    subst h1
    obtain ⟨a, b, k1, k2, k3, k4⟩ := MapVals.at h3 (by simpa using h)
    refine ⟨a, b, k1, ?_, ?_, ?_⟩
    · rw [Nat.succ_mul]; exact k2
    · rw [show (i + 1) * 3 + 1 = (i * 3 + 1) + 3 by omega]; exact k3
    · rw [show (i + 1) * 3 + 2 = (i * 3 + 2) + 3 by omega]; exact k4
theorem MRow.maps {w : World} {base : Nat} {v : Value} {l : List (Nat × Frm)} {xs : List Value} (h : MRow w base v l.length xs) (hv : MapVals w l xs) : MapsAt w v l := by
  rcases h with ⟨rfl, h2, _⟩ | ⟨b, cap, vals, rfl, h1, h2, h3, h4, h5, h6, h7, h8⟩
  · exact Or.inl ⟨rfl, List.eq_nil_of_length_eq_zero h2⟩
  · refine Or.inr ⟨⟨b, 0, none⟩, cap, rfl, h3, h4, fun i p hi => ?_⟩
    obtain ⟨lv, sv, k1, k2, k3, k4⟩ := hv.at hi
    refine ⟨_, ⟨lv, sv, rfl, k1⟩, rfl, rfl, ?_⟩
    have e : ∀ j u, vals[j]? = some u → w.cell? ⟨b, j, none⟩ = some u := fun j u hj => (h2.cell j).trans hj
    simp only [Nat.zero_add]
    exact ⟨e _ _ (h8 _ _ k2), e _ _ (h8 _ _ k3), e _ _ (h8 _ _ k4), trivial⟩
end Go.Proofs.YtlmfmioljeppfaaGreatDoor
