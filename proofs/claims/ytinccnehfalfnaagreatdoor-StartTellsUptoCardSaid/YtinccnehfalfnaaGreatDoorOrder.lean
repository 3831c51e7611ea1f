/-
  WALK over start.Order: classes in the order in which they are there. Conditions: as in XRead; texts of at most maxLen signs.
-/
import Derived.Test.YtinccnehfalfnaaGreatDoorLineLaw
import Derived.Test.YtinccnehfalfnaaGreatDoorShelfB
import Derived.Sort.OwnSorted
import Derived.Lib.OwnBridge
namespace Go.Proofs.YtinccnehfalfnaaGreatDoor
open Go.RowKit Go.Shelf Go.Lib Go.Sort
def orderFault (l : List Class) (uses : List Str) : Nat := if readFault l ≠ 0 then readFault l else if uses.all (fun u => (findC (allC l) u).isSome) then 0 else 3
def orderF (l : List Class) (out uses : List Str) : List Str := uses.foldl (fun o u => addNew o (lineC (allC l) u).reverse) out
def orderC (l : List Class) (uses : List Str) : List Str := orderF l [sObject] uses
theorem orderF_cons (l : List Class) (out : List Str) (u : Str) (r : List Str) : orderF l out (u :: r) = orderF l (addNew out (lineC (allC l) u).reverse) r := rfl
theorem orderF_drop (l : List Class) (out uses : List Str) (k : Nat) (u : Str) (h : uses[k]? = some u) : orderF l out (uses.drop k) = orderF l (addNew out (lineC (allC l) u).reverse) (uses.drop (k + 1)) := by
  obtain ⟨hk, rfl⟩ := List.getElem?_eq_some_iff.1 h
  rw [List.drop_eq_getElem_cons hk, orderF_cons]
theorem all_drop' {α : Type} (f : α → Bool) (l : List α) (k : Nat) (x : α) (h : l[k]? = some x) : (l.drop k).all f = (f x && (l.drop (k + 1)).all f) := by
  obtain ⟨hk, rfl⟩ := List.getElem?_eq_some_iff.1 h
  rw [List.drop_eq_getElem_cons hk]; rfl
theorem heap_turned {w : World} {g n : Nat} {cur : Array Value} {e : TypeId} {fr : Nat × Nat} (d : Array (List UInt8)) (hb : w.heap[g]? = some (.cells cur e fr)) :
    (putRow encStr (Sort.ahead w n) g 0 d).heap[g]? = some (.cells (putCells encStr 0 d cur) e fr) := by
  simp [putRow, mapBlock, Sort.ahead, Array.getElem?_modify, hb, onCells]
theorem grownBy_turned {w : World} {g n : Nat} (d : Array (List UInt8)) : w.grownBy (putRow encStr (Sort.ahead w n) g 0 d) (some g) := by
  refine ⟨rfl, rfl, rfl, by simp, fun k hk hne => ?_⟩
  have : g ≠ k := fun e => hne (by rw [e])
  simp [putRow, mapBlock, Sort.ahead, Array.getElem?_modify, this]
theorem ownsRow_turned {w : World} {base g cap n : Nat} {e : TypeId} {cur : Array Value} {ss ts : List (List UInt8)} (hl : ts.length = ss.length) (hbase : base ≤ g) (hb : w.heap[g]? = some (.cells cur e (0, 0)))
    (h1 : ss.length ≤ cap) (h2 : cap ≤ maxLen) (h3 : cur.size = cap * 1) :
    (putRow encStr (Sort.ahead w n) g 0 ts.toArray).ownsRow base e 1 (.slice (some ⟨g, 0, none⟩) ss.length cap) ss.length (ts.map encStr) :=
  ⟨by simp [hl], .inr ⟨g, cap, _, rfl, hbase, heap_turned _ hb, h1, h2, by simp [putCells, h3], by rw [Nat.mul_one, ← hl]; exact take_putCells cur ts (by omega)⟩⟩
theorem lineF_length (cs : List Class) : ∀ (f : Nat) (n : Str), (lineF cs f n).length ≤ f + 1
  | 0, _ => by simp [lineF]
  | f + 1, n => by
    rw [lineF]
    split
    · simp
    · have := lineF_length cs f (classC cs n).super
      simp; omega
/-- slices.Reverse on a row of strings that the call owns -/
theorem reverse_own {w : World} {base : Nat} {a : Option Addr} {c : Nat} {l : List Str} (h : w.ownsRow base 9 1 (.slice a l.length c) l.length (l.map Value.string)) (hl : l.length ≤ 9223372036854775807) :
    Calls Tryz.prog 28 #[.slice a l.length c] w fun e w' => e = .returned (.tuple #[]) ∧ w'.ownsRow base 9 1 (.slice a l.reverse.length c) l.reverse.length (l.reverse.map Value.string) ∧ w.grownBy w' (Value.slice a l.length c).ownBlock := by
  rcases h.2 with ⟨h1, h2⟩ | ⟨g, cap, cur, hv, hbase, hb, k1, k2, k3, k4⟩
  · obtain rfl := List.length_eq_zero_iff.1 h2
    injection h1 with h1 _ h3
    subst h1 h3
    refine (Tryz.slices_Reverse_string_empty none 0 w).mono ?_
    rintro e w' ⟨rfl, rfl⟩
    exact ⟨rfl, h, World.grownBy.refl w' _⟩
  · injection hv with hv1 _ hv3
    subst hv1 hv3
    have hm := Lib.map_encStr l
    have hlen : (l.map (·.data.toList)).length = l.length := by simp
    have hH := holds_of_block (ss := l.map (·.data.toList)) hb (by rw [hlen, hm]; simpa using k4)
    have hc := Tryz.slices_Reverse_string g 0 c (l.map (·.data.toList)) w hH (by rw [hlen]; exact hl)
    rw [hlen] at hc
    refine hc.mono ?_
    rintro e w' ⟨rfl, n, rfl⟩
    have ho := ownsRow_turned (n := n) (ts := (l.map (·.data.toList)).reverse) (ss := l.map (·.data.toList)) (by simp) hbase hb (by rw [hlen]; exact k1) k2 k3
    rw [hlen] at ho
    refine ⟨rfl, ?_, grownBy_turned _⟩
    have : ((l.map (·.data.toList)).reverse.map Proofs.encStr) = l.reverse.map Value.string := by
      rw [← List.map_reverse]; exact Lib.map_encStr l.reverse
    rw [this] at ho
    rw [List.length_reverse]
    exact ho
/-- the same with the length as it is told -/
theorem reverse_at {w : World} {base : Nat} {a : Option Addr} {c n : Nat} {l : List Str} (h : w.ownsRow base 9 1 (.slice a n c) n (l.map Value.string)) (hn : n = l.length) (hl : n ≤ 9223372036854775807) :
    Calls Tryz.prog 28 #[.slice a n c] w fun e w' => e = .returned (.tuple #[]) ∧ w'.ownsRow base 9 1 (.slice a n c) n (l.reverse.map Value.string) ∧ w.grownBy w' (Value.slice a n c).ownBlock := by
  subst hn
  have := reverse_own h hl
  rwa [List.length_reverse] at this
set_option maxHeartbeats 4000000 in
set_option maxRecDepth 100000 in
theorem order_any (l : List Class) (lv : Value) (uses : List Str) (uv : Value) (w : World) (hl : Laid w) (ho : ∀ c ∈ l, ClassOk c) (hlv : ClassesAt w lv l) (hu : StrsAt w uv uses) (hus : ∀ u ∈ uses, u.size ≤ maxLen) :
    Calls Tryz.prog 10 #[lv, uv] w (ListPost w (orderFault l uses) (orderC l uses)) := by
  obtain ⟨i0, hi, hz0, hz1, hz2⟩ := info_parts info_string
  have HRd := Lib.hid (read_any l lv w hl ho hlv)
  obtain ⟨pl, capl, rfl, _⟩ := hlv.open
  obtain ⟨pu, capu, rfl, hu1, hu2, huc⟩ := hu.open
  have HU : Hid (∀ (i : Nat) (x : Str), uses[i]? = some x → ∃ b o vs, pu = some ⟨b, o, none⟩ ∧ StrCells x vs ∧ vs.length = 1 ∧ Cells w b (o + i * 1) vs) := huc
  have HUS := Lib.hid hus
  have hul : uses.length ≤ 9223372036854775807 := Nat.le_trans hu1 hu2
  clear hl ho hlv hu huc hus
  by_cases hz : readFault l = 0
  · have HR := Lib.hid (right_of hz)
    have HF : Hid (orderFault l uses = if uses.all (fun u => (findC (allC l) u).isSome) then 0 else 3) := by unfold Hid orderFault; rw [if_neg (by rw [hz]; decide)]
    have HZ := Lib.hid hz
    clear hz
    go_enter Tryz.func10, Tryz.ntmps10
    go_wp2_with (go_at_call 26; (with_reducible refine HRd.out.mono ?_); rintro e w2 ⟨hB2, ⟨_, rfl, hM, hN, hA, hC, hL⟩ | ⟨hz, _⟩⟩; rotate_left; (exact absurd HZ.out hz))
    have HN := Lib.hid hN
    have HA := Lib.hid hA
    clear hN hA hC hL hB2
    go_loopw [28] (fun x wr => ∃ k, k ≤ uses.length ∧ Hid (((uses.drop k).all fun u => (findC (allC l) u).isSome) = uses.all fun u => (findC (allC l) u).isSome) ∧ ClassMap w wr w.heap.size (allC l) ∧ x = .int .i64 k) (fun x _ => uses.length - (intOf x).toNat)
    case atStart => exact ⟨0, by omega, rfl, hM, rfl⟩
    case round =>
      clear hM
      obtain ⟨k, hk, hff, hM, rfl⟩ := hrel
      by_cases hkl : k < uses.length
      · obtain ⟨u, hx⟩ : ∃ x, uses[k]? = some x := ⟨uses[k], by simp [hkl]⟩
        have hun := HUS.out u (List.mem_of_getElem? hx)
        obtain ⟨b, o, vs, rfl, hRc, _, hcells⟩ := HU.out k u hx
        unfold StrCells at hRc; subst hRc
        have c0 := (hcells.mono hM.below hcells.lt).1
        rw [Nat.mul_one] at c0
        have hstep := all_drop' (fun u => (findC (allC l) u).isSome) uses k u hx
        rw [hff.out] at hstep
        obtain ⟨p1, k1, p2, k2, p3, k3, _, _, _, hlk, _⟩ := hM.look2 HN.out u hun
        have HX := Lib.hid hx
        clear hx hun hcells
        cases hfc : (findC (allC l) u).isSome with
        | true =>
          rw [hfc] at hlk hstep
          rw [Bool.true_and] at hstep
          have hst := Lib.hid hstep.symm
          generalize (findC (allC l) u).getD noClass = d at *
          obtain ⟨n2, s2, f2, b2, d2, m2⟩ := d
          unfold classV at hlk
          dsimp only at hlk
          have HM := Lib.hid (hM.step ((Below.refl _ _).alloc (Nat.le_refl _) (.cells #[.string n2, .string s2, .slice p1 f2.length k1, .bool b2, .slice p2 d2.length k2, .slice p3 m2.length k3] 30)))
          clear hM hstep hfc HF hff
          go_wp2_with (first | fail)
          go_roundw
          case rel => exact ⟨k + 1, by omega, hst.out, HM.out, by simp⟩
          case measure => simp [intOf]; omega
        | false =>
          rw [hfc] at hlk hstep
          rw [Bool.false_and] at hstep
          have hfin : Hid (orderFault l uses = 3) := by unfold Hid; rw [HF.out, if_neg (by rw [hstep]; decide)]
          generalize (findC (allC l) u).getD noClass = d at *
          obtain ⟨n2, s2, f2, b2, d2, m2⟩ := d
          unfold classV at hlk
          dsimp only at hlk
          have HM := Lib.hid (hM.step ((Below.refl _ _).alloc (Nat.le_refl _) (.cells #[.string n2, .string s2, .slice p1 f2.length k1, .bool b2, .slice p2 d2.length k2, .slice p3 m2.length k3] 30)))
          clear hM hstep hfc HF hff
          go_wp2_with (first | fail)
          go_ret2
          rw [hfin.out]
          exact list_no HM.out.below (by decide)
      · obtain rfl : k = uses.length := by omega
        have hall : Hid (∀ u ∈ uses, (findC (allC l) u).isSome = true) := by
          have := hff.out
          rw [List.drop_eq_nil_of_le (Nat.le_refl _)] at this
          exact fun u hu => List.all_eq_true.1 this.symm u hu
        have hf0 : Hid (orderFault l uses = 0) := by
          have := hff.out
          rw [List.drop_eq_nil_of_le (Nat.le_refl _)] at this
          unfold Hid
          rw [HF.out, ← this]; rfl
        have h12 : (allC l).length ≤ 12 := HR.out.small
        have hlt : w.heap.size < wr.heap.size := hM.lt
        obtain ⟨b0, hb0⟩ : ∃ b0, b0 = wr.heap.size := ⟨_, rfl⟩
        have hone : (wr.alloc (.cells #[.string sObject] 9)).ownsRow b0 9 1 (.slice (some ⟨wr.heap.size, 0, none⟩) 1 1) 1 [.string sObject] := ownsRow_one wr b0 (.string sObject) (by omega)
        have hM1 := hM.step ((Below.refl _ _).alloc (Nat.le_refl _) (.cells #[.string sObject] 9))
        have hsz1 : b0 ≤ (wr.alloc (.cells #[.string sObject] 9)).heap.size := by simp; omega
        have HO := Lib.hid hone
        rw [← hb0] at hlt
        clear hb0
        have HM1 := Lib.hid hM1
        clear HF hff hM hM1 hone
        go_wp2_with (first | fail)
        go_loopw [12, 45] (fun v x ws => ∃ (k : Nat) (out : List Str), k ≤ uses.length ∧ Hid (orderF l out (uses.drop k) = orderC l uses) ∧ Hid (Good (allC l) out) ∧ ws.ownsRow b0 9 1 v out.length (out.map Value.string) ∧ ClassMap w ws w.heap.size (allC l) ∧ b0 ≤ ws.heap.size ∧ x = .int .i64 k) (fun _ x _ => uses.length - (intOf x).toNat)
        case atStart => exact ⟨0, [sObject], by omega, rfl, Good.one (by rfl), HO.out, HM1.out, hsz1, rfl⟩
        case round =>
          clear HO HM1 hsz1
          obtain ⟨k, out, hk, HD, HG, hown, hM, hge, rfl⟩ := hrel
          obtain ⟨va, vc, rfl⟩ := ownsRow_shape hown
          by_cases hkl : k < uses.length
          · obtain ⟨u, hx⟩ : ∃ x, uses[k]? = some x := ⟨uses[k], by simp [hkl]⟩
            have hun := hall.out u (List.mem_of_getElem? hx)
            obtain ⟨b, o, vs, rfl, hRc, _, hcells⟩ := HU.out k u hx
            unfold StrCells at hRc; subst hRc
            have c0 := (hcells.mono hM.below hcells.lt).1
            rw [Nat.mul_one] at c0
            have hstep := orderF_drop l out uses k u hx
            rw [HD.out] at hstep
            have HS := Lib.hid hstep.symm
            have hL0 := line_any w wr _ l HR.out hM u hun
            rw [← (List.length_reverse : (lineC (allC l) u).reverse.length = _)] at hL0
            have HL := Lib.hid hL0
            have hknow : Hid (∀ a ∈ (lineC (allC l) u).reverse, (findC (allC l) a).isSome = true) := fun a ha => (every_facts HR.out.closed hun).1.known a ((HR.out.line_facts _ u hun (Nat.le_refl _)).1 a (List.mem_reverse.1 ha))
            have hll : (lineC (allC l) u).reverse.length ≤ 13 := by have h1 := lineF_length (allC l) (everyC (allC l) u).length u; have h2 := (every_facts HR.out.closed hun).1.length; rw [List.length_reverse]; unfold lineC; omega
            have HX := Lib.hid hx
            clear hx hun hcells hstep HD hL0
            have hLr : Hid ((lineC (allC l) u).reverse = (lineC (allC l) u).reverse) := rfl
            have hln : Hid ((lineC (allC l) u).reverse.length = (lineC (allC l) u).length) := List.length_reverse
            generalize hLL : lineC (allC l) u = L at *
            clear hLr hLL
            generalize hab : L.reverse = abv at *
            have HAB := Lib.hid hab
            clear hab
            go_upto_region 16 with (go_at_call 27; (with_reducible refine HL.out.mono ?_); rintro e w3 ⟨⟨v3, rfl, hv3⟩, hB3⟩; obtain ⟨pa, ca, rfl⟩ := ownsRow_shape hv3)
            have HRv := Lib.hid (reverse_at hv3 hln.out (by omega))
            have hB4' : ∀ w4, w3.grownBy w4 (Value.slice pa abv.length ca).ownBlock → Below wr.heap.size wr w4 := fun w4 hg => hB3.grown hg hB3.size (fun k hk => (hv3.lt k hk).1)
            rw [HAB.out] at HRv
            have HB4 := Lib.hid hB4'
            clear hB4' hv3 hB3 HL
            go_upto_region 17 with (go_at_call 28; (with_reducible refine HRv.out.mono ?_); rintro e w4 ⟨rfl, hv4, hg4⟩)
            have hB4 := HB4.out w4 hg4
            have hown4 := ownsRow_below hown hB4
            have hM4 := hM.step hB4
            have hge4 : b0 ≤ w4.heap.size := Nat.le_trans hge hB4.size
            have hv5 : StrsAt w4 (.slice pa abv.length ca) abv := strsAt_of_owns hv4
            have hsep : Hid (abv = [] ∨ ∀ g', (Value.slice va out.length vc).ownBlock = some g' → (Value.slice pa abv.length ca).ownBlock ≠ some g') := by
              refine Or.inr fun g' h1 h2 => ?_
              have := (hown.lt g' h1).2
              have := (hv4.lt g' h2).1
              omega
            clear HRv HB4 hown hM hB4 hv4 hg4 c0 hge
            go_wp2_with (first | fail)
            go_loopw [12, 56] (fun v x ws => ∃ (j : Nat) (o2 : List Str), j ≤ abv.length ∧ Hid (addNew o2 (abv.drop j) = addNew out abv) ∧ Hid (Good (allC l) o2) ∧ ws.ownsRow b0 9 1 v o2.length (o2.map Value.string) ∧ ClassMap w ws w.heap.size (allC l) ∧ b0 ≤ ws.heap.size ∧ StrsAt ws (.slice pa abv.length ca) abv ∧ Hid (abv = [] ∨ ∀ g', v.ownBlock = some g' → (Value.slice pa abv.length ca).ownBlock ≠ some g') ∧ x = .int .i64 j) (fun _ x _ => abv.length - (intOf x).toNat)
            case atStart => exact ⟨0, out, by omega, rfl, HG, hown4, hM4, hge4, hv5, hsep, rfl⟩
            case round =>
              clear hown4 hM4 hge4 hv5 hsep
              obtain ⟨j, o2, hj, HA2, HG2, hown, hM, hge, hv, hsep, rfl⟩ := hrel
              obtain ⟨va, vc2, rfl⟩ := ownsRow_shape hown
              by_cases hjl : j < abv.length
              · obtain ⟨a, ha⟩ : ∃ a, abv[j]? = some a := ⟨abv[j], by simp [hjl]⟩
                have hka := hknow.out a (List.mem_of_getElem? ha)
                have hstep := addNew_drop o2 abv j a ha
                rw [HA2.out] at hstep
                obtain ⟨p2, kv2, hp2, _, _, hcc⟩ := hv.open
                obtain ⟨b, o, vs, hpb, hRc, _, hcl⟩ := hcc j a ha
                injection hp2 with hp2 hx1 hx2
                clear hx1 hx2
                rw [← hp2] at hpb
                subst hpb
                unfold StrCells at hRc; subst hRc
                have hc := hcl.1
                rw [Nat.mul_one] at hc
                have hcon := contains_any o2 (.slice va o2.length vc2) a wr (strsAt_of_owns hown)
                clear hcl hcc hp2
                have HX2 := Lib.hid ha; clear ha
                cases hmm : memB o2 a with
                | true =>
                  rw [hmm, if_pos rfl] at hstep
                  rw [hmm] at hcon
                  have HC := Lib.hid hcon
                  have hst := Lib.hid hstep.symm
                  clear hcon hstep hmm
                  go_wp2_with (go_at_call 29; (with_reducible refine HC.out.mono ?_); rintro e w3 ⟨rfl, rfl⟩)
                  go_roundw
                  case rel => exact ⟨j + 1, o2, by omega, hst.out, HG2, hown, hM, hge, hv, hsep, by simp⟩
                  case measure => simp [intOf]; omega
                | false =>
                  rw [hmm, if_neg (by decide)] at hstep
                  rw [hmm] at hcon
                  have HC := Lib.hid hcon
                  have hst := Lib.hid hstep.symm
                  have HG3 : Hid (Good (allC l) (o2 ++ [a])) := HG2.out.add hka hmm
                  have hl3 : (o2 ++ [a]).length ≤ 12 := Nat.le_trans HG3.out.length h12
                  rw [List.length_append, List.length_singleton] at hl3
                  have c2 : ∀ u ∈ [Value.string a], u.oneCell' = true := fun u hu => by simp at hu; subst hu; rfl
                  have c3 : o2.length + 1 ≤ maxLen := Nat.le_trans hl3 (by decide)
                  have c4 : (o2.length + 1) * 16 ≤ 140737488355328 := by omega
                  have c5 : b0 ≤ (wr.alloc (.cells #[.string a] 9)).heap.size := by simp; omega
                  have HV := Lib.hid (hv.mono ((Below.refl _ _).alloc (Nat.le_refl _) (.cells #[.string a] 9)))
                  have HM := Lib.hid (hM.step ((Below.refl _ _).alloc (Nat.le_refl _) (.cells #[.string a] 9)))
                  have HO := Lib.hid hown
                  clear hcon hstep hmm hv hM hka
                  go_wp2_with (first | (go_at_call 29; (with_reducible refine HC.out.mono ?_); rintro e w3 ⟨rfl, rfl⟩) | (at_builtin; (refine wpList_append_own_at _ rfl _ _ 23 rfl b0 9 i0 (.string .empty) 1 16 Tryz.underlying23 hi hz0 hz1 hz2 rfl (by decide) _ _ _ rfl (hown.alloc _) ⟨wr.heap.size, 0, none⟩ 1 1 [.string a] rfl rfl (cell_one_new _ _ _) c2 c3 c4 c5 ?_; intro v3 w3 hown3 hgrow3 _ hat3)))
                  have hown4 : w3.ownsRow b0 9 1 v3 (o2 ++ [a]).length ((o2 ++ [a]).map Value.string) := by simpa using hown3
                  go_roundw
                  case measure => simp [intOf]; omega
                  case rel =>
                  refine ⟨j + 1, o2 ++ [a], by omega, hst.out, HG3, hown4, HM.out.grown hgrow3 (fun k hk => by have := (HO.out.lt k hk).1; omega), Nat.le_trans c5 hgrow3.size, ?_, ?_, by simp⟩
                  · refine HV.out.grown hgrow3 ?_
                    rcases hsep.out with h | h
                    · exact Or.inl h
                    · refine Or.inr fun he => ?_
                      obtain ⟨g2, h1, _⟩ := strsAt_lt HV.out (List.ne_nil_of_length_pos (by omega))
                      rw [h1] at he
                      exact h g2 he.symm h1
                  · refine Or.inr fun g' h1 h2 => ?_
                    obtain ⟨g2, h3, h4⟩ := strsAt_lt HV.out (List.ne_nil_of_length_pos (by omega))
                    rw [h3] at h2
                    injection h2 with h2
                    subst h2
                    rcases hat3 with h | h
                    · rcases hsep.out with h5 | h5
                      · rw [h5] at hjl; simp at hjl
                      · exact h5 _ (h.symm.trans h1) h3
                    · rw [h] at h1; injection h1 with h1; omega
              · have hdone : Hid (o2 = addNew out abv) := by
                  have := HA2.out; rw [List.drop_eq_nil_of_le (by omega)] at this; exact this
                cases hdone.out
                go_wp2_with (first | fail)
                go_roundw
                case rel => exact ⟨k + 1, _, by omega, HS.out, HG2, hown, hM, hge, by simp⟩
                case measure => simp [intOf]; omega
          · obtain rfl : k = uses.length := by omega
            have hfin : Hid (out = orderC l uses) := by
              have := HD.out; rw [List.drop_eq_nil_of_le (Nat.le_refl _)] at this; exact this
            have HW := Lib.hid (strsAt_of_owns hown)
            have HBw := Lib.hid hM.below
            clear HD hown hM
            go_wp2_with (first | fail)
            go_ret2
            rw [← hfin.out]
            exact list_yes HBw.out hf0.out HW.out
  · have hf : Hid (orderFault l uses = readFault l) := by unfold Hid orderFault; rw [if_pos hz]
    have HZ := Lib.hid hz
    clear hz
    go_enter Tryz.func10, Tryz.ntmps10
    go_wp2_with (go_at_call 26; (with_reducible refine HRd.out.mono ?_); rintro e w2 ⟨hB2, ⟨hz, _⟩ | ⟨_, rfl⟩⟩; (exact absurd hz HZ.out))
    go_ret2
    rw [← hf.out]
    exact list_no hB2 (by rw [hf.out]; exact HZ.out)
end Go.Proofs.YtinccnehfalfnaaGreatDoor
