/-
  slices.Reverse on a row of texts that the call owns.
  WALKS over lay.slots, Types. Conditions: a right world, a class that is there.
  WALKS over the reference's FieldTypes, FieldPlace. Conditions: a right world, a class that is there.
-/
import Derived.Test.YtbakcdgjibmceaaGreatDoorRow
import Derived.Test.YtbakcdgjibmceaaGreatDoorShelf
import Derived.Sort.OwnSorted
import Derived.Lib.OwnBridge
import Derived.Test.YtbakcdgjibmceaaGreatDoorRow3
namespace Go.Proofs.YtbakcdgjibmceaaGreatDoor
open Go.RowKit Go.Shelf Go.Lib Go.Sort
theorem heap_turned {w : World} {g n : Nat} {cur : Array Value} {e : TypeId} {fr : Nat × Nat} (d : Array (List UInt8)) (hb : w.heap[g]? = some (.cells cur e fr)) :
    (putRow encStr (Sort.ahead w n) g 0 d).heap[g]? = some (.cells (putCells encStr 0 d cur) e fr) := by
  simp [putRow, mapBlock, Sort.ahead, Array.getElem?_modify, hb, onCells]
theorem grownBy_turned {w : World} {g n : Nat} (d : Array (List UInt8)) : w.grownBy (putRow encStr (Sort.ahead w n) g 0 d) (some g) := by
  refine ⟨rfl, rfl, rfl, by simp, fun k hk hne => ?_⟩
  have : g ≠ k := fun e => hne (by rw [e])
  simp [putRow, mapBlock, Sort.ahead, Array.getElem?_modify, this]
theorem ownsRow_turned {w : World} {base g cap n : Nat} {e : TypeId} {cur : Array Value} {ss ts : List (List UInt8)} (hl : ts.length = ss.length) (hbase : base ≤ g) (hb : w.heap[g]? = some (.cells cur e (0, 0)))
    (h1 : ss.length ≤ cap) (h2 : cap ≤ maxLen) (h3 : cur.size = cap * 1) :
    (putRow encStr (Sort.ahead w n) g 0 ts.toArray).ownsRow base e 1 (.slice (some ⟨g, 0, none⟩) ss.length cap) ss.length (ts.map encStr) :=
  ⟨by simp [hl], .inr ⟨g, cap, _, rfl, hbase, heap_turned _ hb, h1, h2, by simp [putCells, h3], by rw [Nat.mul_one, ← hl]; exact take_putCells cur ts (by omega)⟩⟩
/-- slices.Reverse on a row of strings that the call owns -/
theorem reverse_own {w : World} {base : Nat} {a : Option Addr} {c : Nat} {l : List Str} (h : w.ownsRow base 9 1 (.slice a l.length c) l.length (l.map Value.string)) (hl : l.length ≤ 9223372036854775807) :
    Calls Tryz.prog 161 #[.slice a l.length c] w fun e w' => e = .returned (.tuple #[]) ∧ w'.ownsRow base 9 1 (.slice a l.reverse.length c) l.reverse.length (l.reverse.map Value.string) ∧ w.grownBy w' (Value.slice a l.length c).ownBlock := by
  rcases h.2 with ⟨h1, h2⟩ | ⟨g, cap, cur, hv, hbase, hb, k1, k2, k3, k4⟩
  · obtain rfl := List.length_eq_zero_iff.1 h2
    injection h1 with h1 _ h3
    subst h1 h3
    refine (Tryz.slices_Reverse_string_empty none 0 w).mono ?_
    rintro e w' ⟨rfl, rfl⟩
    exact ⟨rfl, h, World.grownBy.refl w' _⟩
  · injection hv with hv1 _ hv3
    subst hv1 hv3
    have hm := Lib.map_encStr l
    have hlen : (l.map (·.data.toList)).length = l.length := by simp
    have hH := holds_of_block (ss := l.map (·.data.toList)) hb (by rw [hlen, hm]; simpa using k4)
    have hc := Tryz.slices_Reverse_string g 0 c (l.map (·.data.toList)) w hH (by rw [hlen]; exact hl)
    rw [hlen] at hc
    refine hc.mono ?_
    rintro e w' ⟨rfl, n, rfl⟩
    have ho := ownsRow_turned (n := n) (ts := (l.map (·.data.toList)).reverse) (ss := l.map (·.data.toList)) (by simp) hbase hb (by rw [hlen]; exact k1) k2 k3
    rw [hlen] at ho
    refine ⟨rfl, ?_, grownBy_turned _⟩
    have : ((l.map (·.data.toList)).reverse.map Proofs.encStr) = l.reverse.map Value.string := by
      rw [← List.map_reverse]; exact Lib.map_encStr l.reverse
    rw [this] at ho
    rw [List.length_reverse]
    exact ho
/-- the same with the length as it is told -/
theorem reverse_at {w : World} {base : Nat} {a : Option Addr} {c n : Nat} {l : List Str} (h : w.ownsRow base 9 1 (.slice a n c) n (l.map Value.string)) (hn : n = l.length) (hl : n ≤ 9223372036854775807) :
    Calls Tryz.prog 161 #[.slice a n c] w fun e w' => e = .returned (.tuple #[]) ∧ w'.ownsRow base 9 1 (.slice a n c) n (l.reverse.map Value.string) ∧ w.grownBy w' (Value.slice a n c).ownBlock := by
  subst hn
  have := reverse_own h hl
  rwa [List.length_reverse] at this
end Go.Proofs.YtbakcdgjibmceaaGreatDoor
namespace Go.Proofs.YtbakcdgjibmceaaGreatDoor
open Go.RowKit Go.Shelf Go.Lib
def laySlotV (x : Str × Field) : List Value := trio x.1 x.2.name x.2.type
theorem line_length2 {l : List Class} (h : Right l) {n : Str} (hk : (findC (allC l) n).isSome = true) : (lineC (allC l) n).length ≤ 13 := by
  have h1 := lineF_length (allC l) (everyC (allC l) n).length n
  have h2 := (every_facts h.closed hk).1.length
  have h3 := h.small
  unfold lineC; omega
theorem class_counts {l : List Class} (hf : ∀ c ∈ l, classFault c = 0) (x : Str) : (classC (allC l) x).fields.length ≤ 8 ∧ (classC (allC l) x).methods.length ≤ 8 := by
  unfold classC
  cases hq : findC (allC l) x with
  | none => exact ⟨Nat.zero_le _, Nat.zero_le _⟩
  | some c =>
    have hm : c ∈ allC l := List.mem_of_find?_eq_some hq
    show c.fields.length ≤ 8 ∧ c.methods.length ≤ 8
    unfold allC at hm
    rcases List.mem_cons.1 hm with rfl | hm
    · exact ⟨Nat.zero_le _, Nat.zero_le _⟩
    · rcases List.mem_cons.1 hm with rfl | hm
      · exact ⟨Nat.zero_le _, Nat.zero_le _⟩
      · have h := hf c hm
        unfold classFault at h
        split at h
        · cases h
        · split at h
          · rename_i h1; exact absurd h h1
          · split at h
            · cases h
            · rename_i h1; omega
theorem laySlots_drop (cs : List Class) (l : List Str) (k : Nat) (c : Str) (h : l[k]? = some c) : laySlots cs (l.take (k + 1)) = laySlots cs (l.take k) ++ ownSlots cs c := by
  obtain ⟨hk, rfl⟩ := List.getElem?_eq_some_iff.1 h
  rw [List.take_succ_eq_append_getElem hk, laySlots_append, laySlots_one]
theorem map_take_one {α β : Type} (f : α → β) (l : List α) (j : Nat) (x : α) (h : l[j]? = some x) : (l.take (j + 1)).map f = (l.take j).map f ++ [f x] := by
  obtain ⟨hk, rfl⟩ := List.getElem?_eq_some_iff.1 h
  rw [List.take_succ_eq_append_getElem hk, List.map_append]; rfl
theorem lay_small {l : List Class} (hR : Right l) (hcf : ∀ c ∈ l, classFault c = 0) {c : Str} (hk : (findC (allC l) c).isSome = true) : (layC (allC l) c).length ≤ 4194304 := by
  have h1 := line_length2 hR hk
  have h2 : ∀ line : List Str, (laySlots (allC l) line).length ≤ 8 * line.length := fun line => by
    induction line with
    | nil => exact Nat.le_refl _
    | cons a r ih =>
      have := (class_counts hcf a).1
      rw [show a :: r = [a] ++ r from rfl, laySlots_append, laySlots_one, List.length_append]
      unfold ownSlots
      rw [List.length_map, List.length_append, List.length_singleton]; omega
  have h3 := h2 (lineC (allC l) c).reverse
  rw [List.length_reverse] at h3
  unfold layC; omega
/-- a row of structs of three texts that is handed back -/
def TrioPost {α : Type} (f : α → List Value) (t : TypeId) (w : World) (l : List α) (e : Ending) (w' : World) : Prop := (∃ v, e = .returned v ∧ w'.ownsRow w.heap.size t 3 v l.length (l.flatMap f)) ∧ Below w.heap.size w w'
set_option maxHeartbeats 4000000 in
set_option maxRecDepth 100000 in
theorem laySlots_any (w0 w : World) (B : Nat) (l : List Class) (hm : WorldMap w0 w B l) (c : Str) (hk : (findC (allC l) c).isSome = true) :
    Calls Tryz.prog 122 #[.map (some B), .string c] w (TrioPost laySlotV 165 w (layC (allC l) c)) := by
  have HL := Lib.hid (line_any w0 w B l hm.right hm.map c hk)
  have HKn : Hid (∀ d ∈ (lineC (allC l) c).reverse, (findC (allC l) d).isSome = true) := fun d hd => hm.right.line_known hk (List.mem_reverse.1 hd)
  have HLk : Hid (∀ d : Str, (findC (allC l) d).isSome = true → _) := fun d hd => hm.map.look3 hm.right.nodup d (hm.map.names hd)
  have HB0 := Lib.hid hm.map.below
  have HCt : Hid (∀ d, (classC (allC l) d).fields.length ≤ 8) := fun d => (class_counts hm.faults d).1
  have hl13 := line_length2 hm.right hk
  have hcf := class_fields
  have hRes : Hid (layC (allC l) c = laySlots (allC l) (lineC (allC l) c).reverse) := rfl
  have hlr : (lineC (allC l) c).reverse.length = (lineC (allC l) c).length := List.length_reverse
  clear hm hk
  generalize layC (allC l) c = res at *
  go_enter Tryz.func122, Tryz.ntmps122
  go_wp2_with (first
    | (go_at_call 160; (with_reducible refine HL.out.mono ?_); rintro e w3 ⟨⟨v3, rfl, hv3⟩, hB3⟩; obtain ⟨pv, kv, rfl⟩ := ownsRow_shape hv3; (have HRv := Lib.hid (reverse_own hv3 (by omega))))
    | (go_at_call 161; (with_reducible refine HRv.out.mono ?_); rintro e w4 ⟨rfl, hv4, hg4⟩))
  rw [← hlr]
  have hBw := hB3.grown hg4 hB3.size (fun g hg => (hv3.lt g hg).1)
  have hs4 := strsAt_of_owns hv4
  have hr13 : (lineC (allC l) c).reverse.length ≤ 13 := by omega
  clear HL hv3 hg4 hB3 HRv hlr hv4 hl13
  generalize (lineC (allC l) c).reverse = R at *
  obtain ⟨pv', kv', he, h1, h2, hcc⟩ := hs4.open
  injection he with he1 he2 he3
  subst he1 he3
  clear he2 hs4
  have HC := Lib.hid hcc
  have hlen : R.length ≤ 9223372036854775807 := Nat.le_trans h1 h2
  have HBw := Lib.hid hBw
  clear hcc hBw
  go_loopw [5, 18] (fun v x wr => ∃ (k : Nat) (out : List (Str × Field)), k ≤ R.length ∧ Hid (laySlots (allC l) (R.take k) = out) ∧ Hid (out.length ≤ 8 * k) ∧ wr.ownsRow w4.heap.size 165 3 v out.length (out.flatMap laySlotV) ∧ Below w4.heap.size w4 wr ∧ x = .int .i64 k) (fun _ x _ => R.length - (intOf x).toNat)
  case atStart => exact ⟨0, [], by omega, rfl, Nat.zero_le _, ownsRow3_nil _ _ _, Below.refl _ _, rfl⟩
  case round =>
    obtain ⟨k, out, hk, hout, hol, hown, hB, rfl⟩ := hrel
    obtain ⟨va, vc, rfl⟩ := ownsRow_shape hown
    by_cases hkl : k < R.length
    · obtain ⟨a, ha⟩ : ∃ a, R[k]? = some a := ⟨R[k], by simp [hkl]⟩
      have hka := HKn.out a (List.mem_of_getElem? ha)
      obtain ⟨b, o, vs, rfl, hR, _, hcells⟩ := HC.out k a ha
      unfold StrCells at hR; subst hR
      have c0 := (hcells.mono hB hcells.lt).1
      rw [Nat.mul_one] at c0
      have hstep := laySlots_drop (allC l) R k a ha
      rw [hout.out] at hstep
      obtain ⟨p1, k1, p2, k2, p3, k3, _, hfs, _, hlk⟩ := HLk.out a hka
      have hlk2 := (hlk wr (below_call HBw.out (Nat.le_refl _) hB)).2
      have hc0 : (findC (allC l) a).getD noClass = classC (allC l) a := rfl
      rw [hc0] at hlk2 hfs
      have hct := HCt.out a
      have HX := Lib.hid ha
      unfold ownSlots at hstep
      clear ha hcells hlk hc0 hka hout
      generalize classC (allC l) a = d at *
      obtain ⟨n2, s2, f2, b2, d2, m2⟩ := d
      unfold classV at hlk2
      dsimp only at hlk2 hfs hstep hct
      obtain ⟨pd', kd', he, g1, g2, hdd⟩ := hfs.open
      injection he with he1 he2 he3
      subst he1 he3
      clear he2 hfs
      have HD := Lib.hid hdd
      have hlen2 : d2.length ≤ 9223372036854775807 := Nat.le_trans g1 g2
      clear hdd
      have HS := Lib.hid hstep
      have HO := Lib.hid hown
      have HBr := Lib.hid hB
      clear hstep hown hB
      go_wp2_with (first | fail)
      go_loopw [5, 27] (fun v x wy => ∃ (j : Nat) (o2 : List (Str × Field)), j ≤ d2.length ∧ Hid (out ++ (d2.take j).map (fun f => (a, f)) = o2) ∧ Hid (o2.length ≤ 8 * k + j) ∧ wy.ownsRow w4.heap.size 165 3 v o2.length (o2.flatMap laySlotV) ∧ Below w4.heap.size w4 wy ∧ x = .int .i64 j) (fun _ x _ => d2.length - (intOf x).toNat)
      case atStart => exact ⟨0, out, by omega, by unfold Hid; simp, hol, HO.out, HBr.out, rfl⟩
      case round =>
        clear c0 hlk2 HO HBr hol
        obtain ⟨j, o2, hj, hout, hol, hown, hB, rfl⟩ := hrel
        obtain ⟨va, vc, rfl⟩ := ownsRow_shape hown
        by_cases hjl : j < d2.length
        · obtain ⟨f, hf⟩ : ∃ a, d2[j]? = some a := ⟨d2[j], by simp [hjl]⟩
          obtain ⟨bb, oo, vs, rfl, hR, _, hcells⟩ := HD.out j f hf
          unfold FieldCells at hR; subst hR
          obtain ⟨u0, u1, _⟩ := hcells.mono (below_call HB0.out (Nat.le_refl _) (below_call HBw.out (Nat.le_refl _) hB)) hcells.lt
          have hnext : Hid (out ++ (d2.take (j + 1)).map (fun f => (a, f)) = o2 ++ [(a, f)]) := by
            unfold Hid; rw [map_take_one _ d2 j f hf, ← List.append_assoc, hout.out]
          have HXf := Lib.hid hf
          have hbd : o2.length ≤ 8388608 := by have := hol.out; omega
          have hol2 : Hid ((o2 ++ [(a, f)]).length ≤ 8 * k + (j + 1)) := by unfold Hid; have := hol.out; simp; omega
          have hown1 := hown.alloc (.cells #[.string f.name, .string f.type] 125)
          have hBa := hB.alloc hB.size (.cells #[.string f.name, .string f.type] 125)
          have HB1 := Lib.hid hBa
          have hbs := hBa.size
          clear hf hcells hout hol hown hBa hB
          go_wp2_with (at_builtin; (refine wpList_append_trio Tryz.underlying162 info_laySlot rfl _ _ rfl w4.heap.size _ _ _ rfl hown1 _ _ _ _ (World.size_alloc _ _) rfl hbd hbs ?_); intro v3 w6 hown3 hg3)
          have hown4 : w6.ownsRow w4.heap.size 165 3 v3 (o2 ++ [(a, f)]).length ((o2 ++ [(a, f)]).flatMap laySlotV) := by
            rw [List.length_append, List.flatMap_append]; simpa [laySlotV] using hown3
          have hB6 := (HB1.out.alloc HB1.out.size (.cells (trio a f.name f.type).toArray 165)).grown hg3 (Nat.le_trans HB1.out.size (by simp)) (fun g hg => (hown1.lt g hg).1)
          have HO4 := Lib.hid hown4
          have HB6 := Lib.hid hB6
          clear hown3 hg3 hown1 hown4 hB6 HB1
          go_roundw
          case rel => exact ⟨j + 1, _, by omega, hnext, hol2, HO4.out, HB6.out, by simp⟩
          case measure => simp [intOf]; omega
        · obtain rfl : j = d2.length := by omega
          have hnext : Hid (laySlots (allC l) (R.take (k + 1)) = o2) := by
            unfold Hid; rw [HS.out, ← hout.out, List.take_of_length_le (Nat.le_refl _)]
          have hol2 : Hid (o2.length ≤ 8 * (k + 1)) := by unfold Hid; have := hol.out; omega
          have HO4 := Lib.hid hown
          have HB6 := Lib.hid hB
          clear hout hol hown hB
          go_wp2_with (first | fail)
          go_roundw
          case rel => exact ⟨k + 1, o2, by omega, hnext, hol2, HO4.out, HB6.out, by simp⟩
          case measure => simp [intOf]; omega
    · obtain rfl : k = R.length := by omega
      have hfin : Hid (res = out) := by unfold Hid; rw [hRes.out, ← hout.out, List.take_of_length_le (Nat.le_refl _)]
      have HO4 := Lib.hid hown
      have HB6 := Lib.hid hB
      clear hout hol hown hB
      go_wp2_with (first | fail)
      go_ret
      exact ⟨⟨_, rfl, by rw [hfin.out]; exact ownsRow_low HO4.out HBw.out.size⟩, below_call HBw.out (Nat.le_refl _) HB6.out⟩
theorem laySlotV_length (x : Str × Field) : (laySlotV x).length = 3 := rfl
/-- a slot that is told of a row -/
theorem slot_cells {w : World} {base : Nat} {p : Option Addr} {c n : Nat} {l : List (Str × Field)} (h : w.ownsRow base 165 3 (.slice p n c) n (l.flatMap laySlotV)) (hn : n = l.length) {i : Nat} {x : Str × Field} (hx : l[i]? = some x) :
    ∃ g, p = some ⟨g, 0, none⟩ ∧ g < w.heap.size ∧ w.cell? ⟨g, i * 3, none⟩ = some (.string x.1) ∧ w.cell? ⟨g, i * 3 + 1, none⟩ = some (.string x.2.name) ∧ w.cell? ⟨g, i * 3 + 2, none⟩ = some (.string x.2.type) := by
  obtain ⟨g, h1, _, h3, h4⟩ := ownsRow3_at laySlotV_length h hn hx
  exact ⟨g, h1, h3, h4 0 (by omega), h4 1 (by omega), h4 2 (by omega)⟩
set_option maxHeartbeats 4000000 in
set_option maxRecDepth 100000 in
theorem layTypes_any (w0 w : World) (B : Nat) (l : List Class) (hm : WorldMap w0 w B l) (c : Str) (hk : (findC (allC l) c).isSome = true) :
    Calls Tryz.prog 86 #[.map (some B), .string c] w (RowPs w (typesOf (layC (allC l) c))) := by
  have HS := Lib.hid (laySlots_any w0 w B l hm c hk)
  have hsmall := lay_small hm.right hm.faults hk
  unfold TrioPost at HS
  unfold RowPs
  clear hm hk
  generalize layC (allC l) c = S at *
  go_enter Tryz.func86, Tryz.ntmps86
  go_wp2_with (go_at_call 122; (with_reducible refine HS.out.mono ?_); rintro e w2 ⟨⟨v2, rfl, hv2⟩, hB2⟩; obtain ⟨pv, kv, rfl⟩ := ownsRow_shape hv2)
  have HV := Lib.hid hv2
  have HB2 := Lib.hid hB2
  clear hv2 hB2 HS
  go_loopw [5, 12] (fun v x wr => ∃ k : Nat, k ≤ S.length ∧ wr.ownsRow w2.heap.size 9 1 v k ((typesOf (S.take k)).map Value.string) ∧ Below w2.heap.size w2 wr ∧ x = .int .i64 k) (fun _ x _ => S.length - (intOf x).toNat)
  case atStart => exact ⟨0, by omega, ownsRow_nl _ _, Below.refl _ _, rfl⟩
  case round =>
    obtain ⟨k, hk, hown, hB, rfl⟩ := hrel
    obtain ⟨va, vc, rfl⟩ := ownsRow_shape hown
    by_cases hkl : k < S.length
    · obtain ⟨⟨a, f⟩, hx⟩ : ∃ x, S[k]? = some x := ⟨S[k], by simp [hkl]⟩
      obtain ⟨g, rfl, hlt, u0, u1, u2⟩ := slot_cells HV.out rfl hx
      have c0 := (hB.cell (p := ⟨g, k * 3, none⟩) hlt).trans u0
      have c1 := (hB.cell (p := ⟨g, k * 3 + 1, none⟩) hlt).trans u1
      have c2 := (hB.cell (p := ⟨g, k * 3 + 2, none⟩) hlt).trans u2
      have hnext : Hid ((typesOf (S.take (k + 1))).map Value.string = (typesOf (S.take k)).map Value.string ++ [.string f.type]) := by
        unfold Hid typesOf; rw [map_take_one _ S k _ hx, List.map_append]; rfl
      have hown1 := hown.alloc (.cells #[.string a, .string f.name, .string f.type] 165)
      have hBa := hB.alloc hB.size (.cells #[.string a, .string f.name, .string f.type] 165)
      have hbd : k ≤ 8388608 := by omega
      have hbs := hBa.size
      have HX := Lib.hid hx
      have HBa := Lib.hid hBa
      clear u0 u1 u2 hx hown hB hBa hlt
      dsimp only at *
      go_wp2_with (at_builtin; (refine wpList_append_text1 rfl _ _ rfl w2.heap.size _ _ _ rfl hown1 f.type _ (World.size_alloc _ _) rfl hbd hbs ?_); intro v3 w6 hown3 hg3)
      have hown4 : w6.ownsRow w2.heap.size 9 1 v3 (k + 1) ((typesOf (S.take (k + 1))).map Value.string) := by rw [hnext.out]; exact hown3
      have hB6 := (HBa.out.alloc HBa.out.size (.cells #[.string f.type] 9)).grown hg3 (Nat.le_trans HBa.out.size (by simp)) (fun g hg => (hown1.lt g hg).1)
      have HO4 := Lib.hid hown4
      have HB6 := Lib.hid hB6
      clear hown3 hg3 hown1 hown4 hB6 HBa
      go_roundw
      case rel => exact ⟨k + 1, by omega, HO4.out, HB6.out, by simp⟩
      case measure => simp [intOf]; omega
    · obtain rfl : k = S.length := by omega
      rw [List.take_of_length_le (Nat.le_refl _)] at hown
      have HO4 := Lib.hid hown
      have HB6 := Lib.hid hB
      clear hown hB
      go_wp2_with (first | fail)
      go_ret
      exact ⟨⟨_, rfl, by rw [typesOf_length]; exact ownsRow_low HO4.out HB2.out.size⟩, below_call HB2.out (Nat.le_refl _) HB6.out⟩
theorem idxIn_drop {α : Type} [DecidableEq α] (x : α) (l : List α) (k : Nat) (y : α) (h : l[k]? = some y) : idxIn x (l.drop k) = if x = y then some 0 else (idxIn x (l.drop (k + 1))).map (· + 1) := by
  obtain ⟨hk, rfl⟩ := List.getElem?_eq_some_iff.1 h
  rw [List.drop_eq_getElem_cons hk]; rfl
end Go.Proofs.YtbakcdgjibmceaaGreatDoor
