/-
  WALK over world.Every: what is above a class, sorted. Conditions: at most twelve classes, of at most eight faces each, all that are named are there.
-/
import Derived.Test.YtlmfmioljeppfaaGreatDoorWorldMap
import Derived.Sort.OwnSorted
import Derived.Lib.OwnBridge
namespace Go.Proofs.YtlmfmioljeppfaaGreatDoor
open Go.RowKit Go.Shelf Go.Lib
def addNew (out : List Str) (more : List Str) : List Str := more.foldl (fun o a => if memB o a then o else o ++ [a]) out
def reachF (ab : Str → List Str) : Nat → Nat → List Str → List Str
  | 0, _, out => out
  | n + 1, i, out =>
    match out[i]? with
    | none => out
    | some x => reachF ab n (i + 1) (addNew out (ab x))
def everyC (cs : List Class) (n : Str) : List Str := reachF (aboveC cs) (cs.length + 1) 0 [n]
theorem reachF_some {ab : Str → List Str} {n i : Nat} {out : List Str} {x : Str} (h : out[i]? = some x) : reachF ab (n + 1) i out = reachF ab n (i + 1) (addNew out (ab x)) := by
  rw [reachF, h]
theorem reachF_none {ab : Str → List Str} {n i : Nat} {out : List Str} (h : out[i]? = none) : reachF ab n i out = out := by
  cases n with
  | zero => rfl
  | succ n => rw [reachF, h]
theorem addNew_cons (out : List Str) (a : Str) (r : List Str) : addNew out (a :: r) = addNew (if memB out a then out else out ++ [a]) r := rfl
theorem addNew_drop (out : List Str) (l : List Str) (k : Nat) (x : Str) (h : l[k]? = some x) : addNew out (l.drop k) = addNew (if memB out x then out else out ++ [x]) (l.drop (k + 1)) := by
  obtain ⟨hk, rfl⟩ := List.getElem?_eq_some_iff.1 h
  rw [List.drop_eq_getElem_cons hk, addNew_cons]
theorem nodup_length {α : Type} [DecidableEq α] : ∀ (l m : List α), l.Nodup → (∀ x ∈ l, x ∈ m) → l.length ≤ m.length
  | [], _, _, _ => Nat.zero_le _
  | a :: r, m, hn, hs => by
    have hm : a ∈ m := hs a (by simp)
    rw [List.nodup_cons] at hn
    have := nodup_length r (m.erase a) hn.2 (fun x hx => by
      have hxm := hs x (by simp [hx])
      exact (List.mem_erase_of_ne (fun h => hn.1 (by rw [← h]; exact hx))).2 hxm)
    rw [List.length_erase_of_mem hm] at this
    have := List.length_pos_of_mem hm
    simp; omega
structure Good (cs : List Class) (out : List Str) : Prop where
  nodup : out.Nodup
  known : ∀ x ∈ out, (findC cs x).isSome = true
theorem findC_mem {cs : List Class} {n : Str} (h : (findC cs n).isSome = true) : ∃ c ∈ cs, c.name = n := by
  rw [Option.isSome_iff_exists] at h
  obtain ⟨c, hc⟩ := h
  exact ⟨c, List.mem_of_find?_eq_some hc, by simpa using List.find?_some hc⟩
theorem Good.length {cs : List Class} {out : List Str} (h : Good cs out) : out.length ≤ cs.length := by
  have := nodup_length out (cs.map (·.name)) h.nodup (fun x hx => by
    obtain ⟨c, hc, rfl⟩ := findC_mem (h.known x hx)
    exact List.mem_map_of_mem hc)
  simpa using this
theorem Good.add {cs : List Class} {out : List Str} (h : Good cs out) {a : Str} (ha : (findC cs a).isSome = true) (hm : memB out a = false) : Good cs (out ++ [a]) := by
  refine ⟨?_, fun x hx => ?_⟩
  · rw [List.nodup_append]
    refine ⟨h.nodup, by simp, fun x hx y hy => ?_⟩
    simp at hy; subst hy
    rintro rfl
    rw [memB_iff.2 hx] at hm; cases hm
  · rcases List.mem_append.1 hx with hx | hx
    · exact h.known x hx
    · simp at hx; subst hx; exact ha
theorem Good.one {cs : List Class} {n : Str} (h : (findC cs n).isSome = true) : Good cs [n] := ⟨by simp, fun x hx => by simp at hx; subst hx; exact h⟩
def Closed (cs : List Class) : Prop := ∀ x, (findC cs x).isSome = true → ∀ a ∈ aboveC cs x, (findC cs a).isSome = true
theorem ClassMap.names {w0 w : World} {B : Nat} {cs : List Class} (h : ClassMap w0 w B cs) {n : Str} (hn : (findC cs n).isSome = true) : n.size ≤ maxLen := by
  obtain ⟨c, hc, rfl⟩ := findC_mem hn
  obtain ⟨_, _, _, es, clock, _, hlen, hget⟩ := h
  obtain ⟨i, hi, rfl⟩ := List.getElem_of_mem hc
  exact (hget i (es.toList[i]'(by omega)) cs[i] (List.getElem?_eq_getElem (by omega)) (List.getElem?_eq_getElem hi)).2.1
theorem ClassMap.grown {w0 w w' : World} {B : Nat} {cs : List Class} {row : Option Nat} (h : ClassMap w0 w B cs) (hg : w.grownBy w' row) (hr : ∀ g, row = some g → w0.heap.size ≤ g ∧ g ≠ B) : ClassMap w0 w' B cs := by
  obtain ⟨h1, h2, h3, es, clock, h4, h5⟩ := h
  exact ⟨h1.grown hg h1.size (fun k hk => (hr k hk).1), h2, Nat.lt_of_lt_of_le h3 hg.size, es, clock, (hg.block B h3 (fun he => (hr B he.symm).2 rfl)).trans h4, h5⟩
theorem ownsRow_ptr {w : World} {base : Nat} {e : TypeId} {a : Option Addr} {n c : Nat} {xs : List Value} (h : w.ownsRow base e 1 (.slice a n c) n xs) (hn : 0 < n) : ∃ g, a = some ⟨g, 0, none⟩ := by
  rcases h.2 with ⟨h1, h2⟩ | ⟨g, cap, cur, h1, _⟩
  · omega
  · injection h1 with h1; exact ⟨g, h1⟩
theorem strs_news_own {w : World} {base : Nat} {e : TypeId} {a : Option Addr} {n c : Nat} {l : List ByteArray} (h : w.ownsRow base e 1 (.slice a n c) l.length (l.map Value.string)) (i : Nat) (x : ByteArray) (hx : l[i]? = some x) :
    ∀ g, a = some ⟨g, 0, none⟩ → w.cell? ⟨g, i, none⟩ = some (.string x) := by
  rintro g rfl
  obtain ⟨p, cap, h1, _, _, h4⟩ := (strsAt_of_owns h).open
  obtain ⟨b, o, vs, hp, hR, _, hcl⟩ := h4 i x hx
  injection h1 with h1
  rw [← h1] at hp
  injection hp with hp
  injection hp with hp1 hp2
  subst hp1 hp2
  unfold StrCells at hR; subst hR
  have := hcl.1
  rwa [Nat.mul_one, Nat.zero_add] at this
def sortS (l : List Str) : List Str := ((l.map (·.data.toList)).mergeSort fun x y => decide (x ≤ y)).map fun x => ⟨x.toArray⟩
theorem sortS_length (l : List Str) : (sortS l).length = l.length := by simp [sortS]
theorem sort_own {w : World} {base : Nat} {a : Option Addr} {c : Nat} {l : List Str} (h : w.ownsRow base 9 1 (.slice a l.length c) l.length (l.map Value.string)) (hl : l.length < 4611686018427387904) :
    Calls Tryz.prog 173 #[.slice a l.length c] w fun e w' => e = .returned (.tuple #[]) ∧ StrsAt w' (.slice a l.length c) (sortS l) ∧ w.grownBy w' (Value.slice a l.length c).ownBlock := by
  rcases h.2 with ⟨h1, h2⟩ | ⟨g, cap, cur, hv, hbase, hb, k1, k2, k3, k4⟩
  · obtain rfl := List.length_eq_zero_iff.1 h2
    injection h1 with h1 _ h3
    subst h1 h3
    refine (Tryz.slices_Sort_string_none none 0 w).mono ?_
    rintro e w' ⟨rfl, rfl⟩
    exact ⟨rfl, Or.inl ⟨rfl, by simp [sortS]⟩, World.grownBy.refl w' _⟩
  · injection hv with hv1 _ hv3
    subst hv1 hv3
    have hm := Lib.map_encStr l
    have hlen : (l.map (·.data.toList)).length = l.length := by simp
    have hH := holds_of_block (ss := l.map (·.data.toList)) hb (by rw [hlen, hm]; simpa using k4)
    have hc := Tryz.slices_Sort_string g 0 c (l.map (·.data.toList)) w hH (Array.getElem?_eq_some_iff.1 hb).1 (by rw [hlen]; exact hl)
    rw [hlen] at hc
    refine hc.mono ?_
    rintro e w' ⟨rfl, n, os, rfl⟩
    have ho := ownsRow_sorted (n := n) (os := os) (ts := (l.map (·.data.toList)).mergeSort fun x y => decide (x ≤ y)) (ss := l.map (·.data.toList)) (by simp) hbase hb (by rw [hlen]; exact k1) k2 k3
    rw [hlen] at ho
    refine ⟨rfl, ?_, grownBy_sorted _⟩
    have : (((l.map (·.data.toList)).mergeSort fun x y => decide (x ≤ y)).map Proofs.encStr) = (sortS l).map Value.string := by
      unfold sortS; rw [List.map_map]; rfl
    rw [this] at ho
    have h2 : l.length = (sortS l).length := (sortS_length l).symm
    rw [h2] at ho ⊢
    exact strsAt_of_owns ho
set_option maxHeartbeats 4000000 in
set_option maxRecDepth 100000 in
theorem every_any (w0 w : World) (B : Nat) (cs : List Class) (hm : ClassMap w0 w B cs) (hn : (cs.map (·.name)).Nodup) (h8 : ∀ c ∈ cs, c.faces.length ≤ 8) (h12 : cs.length ≤ 12) (hcl : Closed cs) (n : Str) (hk : (findC cs n).isSome = true) :
    Calls Tryz.prog 127 #[.map (some B), .string n] w fun e w' => (∃ v, e = .returned v ∧ StrsAt w' v (sortS (everyC cs n))) ∧ Below w.heap.size w w' := by
  obtain ⟨i0, hi, hz0, hz1, hz2⟩ := info_parts info_string
  have HAb : Hid (∀ wr x, Below w.heap.size w wr → (findC cs x).isSome = true → _) := fun wr x hb hx => above_any w0 wr B cs (hm.step hb) hn h8 x (hm.names hx)
  have hone : (w.alloc (.cells #[.string n] 9)).ownsRow w.heap.size 9 1 (.slice (some ⟨w.heap.size, 0, none⟩) 1 1) 1 [.string n] := ownsRow_one w w.heap.size (.string n) (Nat.le_refl _)
  have hge : w0.heap.size ≤ w.heap.size := hm.below.size
  clear hm hn h8
  have HCl := Lib.hid hcl
  clear hcl
  go_enter Tryz.func127, Tryz.ntmps127
  go_wp2_with (first | fail)
  go_loopw [5, 6] (fun v x wr => ∃ (i : Nat) (out : List Str), Hid (reachF (aboveC cs) (cs.length + 1 - i) i out = everyC cs n) ∧ Hid (Good cs out) ∧ wr.ownsRow w.heap.size 9 1 v out.length (out.map Value.string) ∧ Below w.heap.size w wr ∧ i ≤ 13 ∧ x = .int .i64 i) (fun _ x _ => 14 - (intOf x).toNat)
  case atStart => exact ⟨0, [n], rfl, Good.one hk, hone, (Below.refl _ _).alloc (Nat.le_refl _) _, by omega, rfl⟩
  case round =>
    obtain ⟨i, out, HR, HG, hown, hB, hi13, rfl⟩ := hrel
    obtain ⟨va, vc, rfl⟩ := ownsRow_shape hown
    have hol := Nat.le_trans HG.out.length h12
    by_cases hil : i < out.length
    · obtain ⟨x, hx⟩ : ∃ x, out[i]? = some x := ⟨out[i], by simp [hil]⟩
      have hkx := HG.out.known x (List.mem_of_getElem? hx)
      have hrs : Hid (reachF (aboveC cs) (cs.length + 1 - (i + 1)) (i + 1) (addNew out (aboveC cs x)) = everyC cs n) := by
        have := HR.out
        have hle := HG.out.length
        rw [show cs.length + 1 - i = (cs.length - i) + 1 by omega, reachF_some hx] at this
        rw [show cs.length + 1 - (i + 1) = cs.length - i by omega]; exact this
      have hknow : Hid (∀ a ∈ aboveC cs x, (findC cs a).isSome = true) := HCl.out x hkx
      have hcell := strs_news_own hown i x hx
      obtain ⟨g, rfl⟩ := ownsRow_ptr hown (by omega)
      have HAx := Lib.hid (HAb.out wr x hB hkx)
      have HX := Lib.hid hx
      clear hx HR hkx
      generalize aboveC cs x = abv at *
      go_wp2_with (go_at_call 125; ((with_reducible refine HAx.out.mono ?_); rintro e w2 ⟨⟨v2, rfl, hv2, haw⟩, hB2⟩; obtain ⟨pv, kv, rfl, hv21, hv22, _⟩ := hv2.open))
      have hg := (hown.lt g rfl)
      have hown2 := ownsRow_below hown hB2
      have hbw := below_call hB (Nat.le_refl _) hB2
      have hsep : Hid (abv = [] ∨ ∀ g', (Value.slice (some ⟨g, 0, none⟩) out.length vc).ownBlock = some g' → (Value.slice pv abv.length kv).ownBlock ≠ some g') := by
        rcases haw with h | h
        · exact Or.inl h
        · refine Or.inr fun g' h1 h2 => ?_
          obtain rfl : g = g' := by injection h1
          have := h _ h2
          have := hg.1; have := hg.2
          omega
      clear HAx HAb hcell hown hB haw hB2 HCl
      go_loopw [5, 24] (fun v x wr2 => ∃ (k : Nat) (o2 : List Str), k ≤ abv.length ∧ Hid (addNew o2 (abv.drop k) = addNew out abv) ∧ Hid (Good cs o2) ∧ wr2.ownsRow w.heap.size 9 1 v o2.length (o2.map Value.string) ∧ Below w.heap.size w wr2 ∧ StrsAt wr2 (.slice pv abv.length kv) abv ∧ Hid (abv = [] ∨ ∀ g', v.ownBlock = some g' → (Value.slice pv abv.length kv).ownBlock ≠ some g') ∧ x = .int .i64 k) (fun _ x _ => abv.length - (intOf x).toNat)
      case atStart => exact ⟨0, out, by omega, rfl, HG, hown2, hbw, hv2, hsep, rfl⟩
      case round =>
        clear hown2 hbw hv2 hsep
        obtain ⟨k, o2, hk, HA, HG2, hown, hB, hv, hsep, rfl⟩ := hrel
        obtain ⟨va, vc2, rfl⟩ := ownsRow_shape hown
        have hlen : abv.length ≤ 9223372036854775807 := Nat.le_trans hv21 hv22
        by_cases hkl : k < abv.length
        · obtain ⟨a, ha⟩ : ∃ a, abv[k]? = some a := ⟨abv[k], by simp [hkl]⟩
          have hka := hknow.out a (List.mem_of_getElem? ha)
          have hstep := addNew_drop o2 abv k a ha
          rw [HA.out] at hstep
          obtain ⟨p2, kv2, hp2, _, _, hcc⟩ := hv.open
          obtain ⟨b, o, vs, hpb, hR, _, hcl⟩ := hcc k a ha
          injection hp2 with hp2 hx1 hx2
          clear hx1 hx2
          rw [← hp2] at hpb
          subst hpb
          unfold StrCells at hR; subst hR
          have hc := hcl.1
          rw [Nat.mul_one] at hc
          have hcon := contains_any o2 (.slice va o2.length vc2) a wr (strsAt_of_owns hown)
          clear hcl hcc hp2
          have HX := Lib.hid ha; clear ha
          cases hmm : memB o2 a with
          | true =>
            rw [hmm, if_pos rfl] at hstep
            rw [hmm] at hcon
            have HC := Lib.hid hcon
            have hst := Lib.hid hstep.symm
            clear hcon hstep hmm
            go_wp2_with (go_at_call 119; (with_reducible refine HC.out.mono ?_); rintro e w3 ⟨rfl, rfl⟩)
            go_roundw
            case rel => exact ⟨k + 1, o2, by omega, hst.out, HG2, hown, hB, hv, hsep, by simp⟩
            case measure => simp [intOf]; omega
          | false =>
            rw [hmm, if_neg (by decide)] at hstep
            rw [hmm] at hcon
            have HC := Lib.hid hcon
            have hst := Lib.hid hstep.symm
            have HG3 : Hid (Good cs (o2 ++ [a])) := HG2.out.add hka hmm
            have hl3 : (o2 ++ [a]).length ≤ 12 := Nat.le_trans HG3.out.length h12
            rw [List.length_append, List.length_singleton] at hl3
            have c2 : ∀ u ∈ [Value.string a], u.oneCell' = true := fun u hu => by simp at hu; subst hu; rfl
            have c3 : o2.length + 1 ≤ maxLen := Nat.le_trans hl3 (by decide)
            have c4 : (o2.length + 1) * 16 ≤ 140737488355328 := by omega
            have c5 : w.heap.size ≤ (wr.alloc (.cells #[.string a] 9)).heap.size := (hB.alloc hB.size _).size
            have HV := Lib.hid (hv.mono ((Below.refl _ _).alloc (Nat.le_refl _) (.cells #[.string a] 9)))
            have HB := Lib.hid (hB.alloc hB.size (.cells #[.string a] 9))
            have HO := Lib.hid hown
            clear hcon hstep hmm hv hB hka
            go_wp2_with (first | (go_at_call 119; (with_reducible refine HC.out.mono ?_); rintro e w3 ⟨rfl, rfl⟩) | (at_builtin; (refine wpList_append_own_at _ rfl _ _ 25 rfl w.heap.size 9 i0 (.string .empty) 1 16 Tryz.underlying25 hi hz0 hz1 hz2 rfl (by decide) _ _ _ rfl (hown.alloc _) ⟨wr.heap.size, 0, none⟩ 1 1 [.string a] rfl rfl (cell_one_new _ _ _) c2 c3 c4 c5 ?_; intro v3 w3 hown3 hgrow3 _ hat3)))
            have hown4 : w3.ownsRow w.heap.size 9 1 v3 (o2 ++ [a]).length ((o2 ++ [a]).map Value.string) := by simpa using hown3
            go_roundw
            case measure => simp [intOf]; omega
            case rel =>
            refine ⟨k + 1, o2 ++ [a], by omega, hst.out, HG3, hown4, HB.out.grown hgrow3 c5 (fun k hk => (HO.out.lt k hk).1), ?_, ?_, by simp⟩
            · refine HV.out.grown hgrow3 ?_
              rcases hsep.out with h | h
              · exact Or.inl h
              · refine Or.inr fun he => ?_
                obtain ⟨g2, h1, _⟩ := strsAt_lt HV.out (List.ne_nil_of_length_pos (by omega))
                rw [h1] at he
                exact h g2 he.symm h1
            · refine Or.inr fun g' h1 h2 => ?_
              obtain ⟨g2, h3, h4⟩ := strsAt_lt HV.out (List.ne_nil_of_length_pos (by omega))
              rw [h3] at h2
              injection h2 with h2
              subst h2
              rcases hat3 with h | h
              · rcases hsep.out with h5 | h5
                · rw [h5] at hkl; simp at hkl
                · exact h5 _ (h.symm.trans h1) h3
              · rw [h] at h1; injection h1 with h1; omega
        · have hdone : Hid (o2 = addNew out abv) := by
            have := HA.out; rw [List.drop_eq_nil_of_le (by omega)] at this; exact this
          cases hdone.out
          go_wp2_with (first | fail)
          go_roundw
          case rel => exact ⟨i + 1, _, hrs, HG2, hown, hB, by omega, by simp⟩
          case measure => simp [intOf]; omega
    · have hend : Hid (out = everyC cs n) := by
        have := HR.out; rwa [reachF_none (List.getElem?_eq_none (by omega))] at this
      have hsort := sort_own hown (by omega)
      have HS := Lib.hid hsort
      have HO := Lib.hid hown
      clear hsort hown HR
      go_wp2_with (go_at_call 173; (with_reducible refine HS.out.mono ?_); rintro e w2 ⟨rfl, hs2, hg2⟩)
      go_ret
      exact ⟨⟨_, rfl, by rw [← hend.out]; exact hs2⟩, hB.grown hg2 hB.size (fun k hk => (HO.out.lt k hk).1)⟩
end Go.Proofs.YtlmfmioljeppfaaGreatDoor
