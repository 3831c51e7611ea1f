/-
  WALK over the law MapsWanting. Conditions: as in XRead.
-/
import Derived.Test.YtlmfmioljeppfaaGreatDoorMapsEnough
namespace Go.Proofs.YtlmfmioljeppfaaGreatDoor
open Go.RowKit Go.Shelf Go.Lib
theorem ints_news {w : World} {ad : Addr} {c : Nat} {l : List Int} (h : IntsAt w (.slice (some ad) l.length c) l) : ∀ j u, (l.map fun x : Int => Value.int .i64 x)[j]? = some u → w.cell? (ad.add j) = some u := by
  intro j u hj
  rw [List.getElem?_map] at hj
  cases hx : l[j]? with
  | none => rw [hx] at hj; cases hj
  | some x =>
    rw [hx] at hj
    obtain rfl := Option.some.inj hj
    rcases h with ⟨h, _⟩ | ⟨a, cap, h1, h2, h3, h4⟩
    · cases h
    · injection h1 with h1
      injection h1 with h1
      subst h1
      obtain ⟨vs, r1, _, r3, r4⟩ := h4 j x hx
      unfold IntCells at r1
      subst r1
      have := r4.1
      rw [Nat.mul_one] at this
      rw [add_eq' (by cases ad; simp at r3; subst r3; rfl)]
      exact this
theorem run_append_ints {w : World} (ty : TypeId) (base : Nat) (v : Value) (n : Nat) (xs : List Value) (hown : w.ownsRow base 3 1 v n xs) (y : Value) (l : List Int) (hy : IntsAt w y l) (h63 : n + l.length ≤ maxLen) (hbytes : (n + l.length) * 8 ≤ 140737488355328) (hbase : base ≤ w.heap.size) :
    ∃ v' w', (Builtin.append_ #[69, 69] ty #[v, y]).run Tryz.prog w = .ok v' w' ∧ w'.ownsRow base 3 1 v' (n + l.length) (xs ++ l.map fun x : Int => Value.int .i64 x) ∧ w.grownBy w' v.ownBlock := by
  obtain ⟨i0, hi, hz0, hz1, hz2⟩ := info_parts info_int
  rcases hy with ⟨rfl, rfl⟩ | ⟨ad, cap, rfl, hh⟩
  · exact ⟨v, w, run_append_owned_none w base 69 ty 3 i0 1 Tryz.underlying69 hi v n xs hown, by simpa using hown, World.grownBy.refl w _⟩
  · have hy : IntsAt w (.slice (some ad) l.length cap) l := Or.inr ⟨ad, cap, rfl, hh⟩
    obtain ⟨v', w', hr, h2, h3, _⟩ := run_append_own (P := Tryz.prog) w base 69 ty 3 i0 (.int .i64 0) 1 8 Tryz.underlying69 hi hz0 hz1 hz2 rfl (by decide) v n xs hown ad l.length cap (l.map fun x : Int => Value.int .i64 x) (by simp) (ints_news hy)
      (fun u hu => by obtain ⟨x, _, rfl⟩ := List.mem_map.1 hu; rfl) h63 hbytes hbase
    exact ⟨v', w', hr, h2, h3⟩
theorem step_append_ints {w : World} {ops : Array Oper} {o : Oper} {a : Act} {K : Act → World → Prop} {Q : Exit → Act → World → Prop} {E : Prop} (hgd : o.guard = none) (s x : Operand)
    (ho : o.op = .call { callee := .builtin .append, args := #[s, x], argTypes := #[69, 69] })
    (base : Nat) (v : Value) (n : Nat) (xs : List Value) (hs : a.eval s = v) (hown : w.ownsRow base 3 1 v n xs)
    (y : Value) (l : List Int) (hx : a.eval x = y) (hy : IntsAt w y l) (h63 : n + l.length ≤ maxLen) (hbytes : (n + l.length) * 8 ≤ 140737488355328) (hbase : base ≤ w.heap.size)
    (h : ∀ v' w', w'.ownsRow base 3 1 v' (n + l.length) (xs ++ l.map fun x : Int => Value.int .i64 x) → w.grownBy w' v.ownBlock → K (a.put o.dst v') w') :
    if Region.wanted o (yielded ops a.tmps) = true then Oper.wp Tryz.prog o a w K Q else E := by
  have hw : Region.wanted o (yielded ops a.tmps) = true := by simp [Region.wanted, hgd]
  rw [if_pos hw]
  obtain ⟨v', w', hr, h2, h3⟩ := run_append_ints o.type base v n xs hown y l hy h63 hbytes hbase
  exact Lib.wp_append_run w s x 69 69 ho v y hs hx v' w' hr (h v' w' h2 h3)
theorem ownsInts_none (w : World) (base : Nat) (hb : base ≤ w.heap.size) : (w.alloc (.cells #[] 3)).ownsRow base 3 1 (.slice (some ⟨w.heap.size, 0, none⟩) 0 0) 0 [] :=
  ⟨rfl, Or.inr ⟨w.heap.size, 0, #[], rfl, hb, heap_alloc_new _ _, Nat.le_refl _, by decide, rfl, rfl⟩⟩
theorem ints_of_owns {w : World} {base : Nat} {v : Value} {l : List Int} (h : w.ownsRow base 3 1 v l.length (l.map fun x : Int => Value.int .i64 x)) : IntsAt w v l := by
  rcases h.2 with ⟨h1, h2⟩ | ⟨g, cap, cur, h1, _, hb, k1, k2, _, _⟩
  · exact Or.inl ⟨h1, List.length_eq_zero_iff.1 h2⟩
  · refine Or.inr ⟨⟨g, 0, none⟩, cap, h1, k1, k2, fun i x hx => ⟨[.int .i64 x], rfl, rfl, rfl, ?_, trivial⟩⟩
    subst h1
    have := h.cells (g := g) rfl i (.int .i64 x) (by rw [List.getElem?_map, hx]; rfl)
    rw [Addr.add_lit] at this
    rw [Nat.mul_one]; exact this
theorem wanting_place (i : Int) {n : Nat} (h : n ≤ 40) (h0 : ¬ n = 0) : ∃ kk : Nat, wrap64 ((IntKind.u64.wrap i).tmod (n : Int)) = (kk : Int) ∧ kk < n := by
  have h1 : 0 ≤ IntKind.u64.wrap i := by simp only [IntKind.wrap, IntKind.bits, IntKind.signed]; simp; omega
  rw [Int.tmod_eq_emod_of_nonneg h1]
  have h2 := Int.emod_nonneg (IntKind.u64.wrap i) (b := (n : Int)) (by omega)
  have h3 := Int.emod_lt_of_pos (IntKind.u64.wrap i) (b := (n : Int)) (by omega)
  refine ⟨(IntKind.u64.wrap i % (n : Int)).toNat, ?_, by omega⟩
  rw [Int.toNat_of_nonneg h2]
  unfold wrap64
  omega
theorem ints_parts {w : World} {p : Option Addr} {cap : Nat} {l : List Int} (h : IntsAt w (.slice p l.length cap) l) {k : Nat} (hk : k < l.length) :
    ∃ b o, p = some ⟨b, o, none⟩ ∧ IntsAt w (.slice (some ⟨b, o, none⟩) k cap) (l.take k) ∧ IntsAt w (if k + 1 = cap then .slice (some ⟨b, o, none⟩) 0 0 else .slice (some ⟨b, o + (k + 1), none⟩) (l.length - (k + 1)) (cap - (k + 1))) (l.drop (k + 1)) := by
  rcases h with ⟨h1, h2⟩ | ⟨a, c, h1, h2, h3, h4⟩
  · rw [h2] at hk; exact absurd hk (Nat.not_lt_zero _)
  · injection h1 with e1 _ e2
    subst e1 e2
    obtain ⟨vs, _, _, r3, _⟩ := h4 0 l[0] (List.getElem?_eq_getElem (by omega))
    obtain ⟨b, o, spot⟩ := a
    have hs : spot = none := by simpa using r3
    subst hs
    refine ⟨b, o, rfl, Or.inr ⟨_, cap, by rw [List.length_take, Nat.min_eq_left (by omega)], by rw [List.length_take]; omega, h3, fun i x hi => ?_⟩, ?_⟩
    · rw [List.getElem?_take] at hi
      split at hi
      · exact h4 i x hi
      · cases hi
    · split
      · rename_i hc
        have hd : l.drop (k + 1) = [] := List.drop_eq_nil_of_le (by omega)
        rw [hd]
        exact Or.inr ⟨_, 0, rfl, Nat.le_refl _, by decide, fun i x hi => by simp at hi⟩
      · refine Or.inr ⟨⟨b, o + (k + 1), none⟩, cap - (k + 1), by rw [List.length_drop], by rw [List.length_drop]; omega, by omega, fun i x hi => ?_⟩
        rw [List.getElem?_drop] at hi
        obtain ⟨vs, q1, q2, _, q4⟩ := h4 (k + 1 + i) x hi
        refine ⟨vs, q1, q2, rfl, ?_⟩
        simp only [Nat.mul_one] at q4 ⊢
        rw [show o + (k + 1) + i = o + (k + 1 + i) by omega]
        exact q4
set_option maxHeartbeats 4000000 in
set_option maxRecDepth 100000 in
theorem mapsWanting_any (l : List Class) (lv : Value) (cls : Str) (at' : Int) (i : Int) (w : World) (hl : Laid w) (ho : ∀ c ∈ l, ClassOk c) (hlv : ClassesAt w lv l) :
    Calls Tryz.prog 9 #[lv, .string cls, .int .i64 at', .int .i64 i] w fun e w' => e = .returned (.bool true) ∧ Below w.heap.size w w' := by
  have HMd := Lib.hid (mapped_any w hl)
  have HAc : Hid (∀ (wx : World) (xs : List (Int × Frm)) (mv : Value), Below w.heap.size w wx → MapsAtI wx mv xs → (∀ x ∈ xs, FrmShort x.2) → _) := fun wx xs mv hb hmv hms => accept_any l lv cls at' xs mv wx (hl.mono hb hl.1) ho (hlv.mono hb) hmv hms
  have HMe : Hid (∀ wx, Below w.heap.size w wx → _) := fun wx hb => checkMethod_any l lv cls at' wx (hl.mono hb hl.1) ho (hlv.mono hb)
  have HNe : Hid (∀ wx, Below w.heap.size w wx → _) := fun wx hb => mapsNeeds_any l lv cls at' wx (hl.mono hb hl.1) ho (hlv.mono hb)
  obtain ⟨pl, cap, rfl, hpo⟩ := hlv.open
  clear hpo hl ho hlv
  by_cases hex : ∃ p, CheckIs l cls at' 0 (some p)
  · obtain ⟨⟨m, A⟩, hC⟩ := hex
    replace HMe : Hid (∀ wx, Below w.heap.size w wx → Calls _ _ _ wx fun e w' => Below wx.heap.size wx w' ∧ ∃ v, e = .returned (.tuple #[v, .nilIface]) ∧ MapsAt w' v (mapsL A m.code.length)) := fun wx hb => (HMe.out wx hb).mono fun e w' ⟨hB, n, F, hC', hF⟩ => by
      obtain ⟨_, rfl⟩ := checkIs_one read_faults hC hC'
      exact ⟨hB, hF⟩
    replace HNe : Hid (∀ wx, Below w.heap.size w wx → Calls _ _ _ wx fun e w' => Below wx.heap.size wx w' ∧ ∃ v ns, e = .returned (.tuple #[v, .nilIface]) ∧ IntsAt w' v ns ∧ NeedL m A ns) := fun wx hb => (HNe.out wx hb).mono fun e w' ⟨hB, n, F, hC', hF⟩ => by
      obtain ⟨_, rfl⟩ := checkIs_one read_faults hC hC'
      exact ⟨hB, hF⟩
    have HEn : Hid (∀ ns, NeedL m A ns → _) := fun ns hn => enough_law read_faults hC hn
    obtain ⟨hok, hc40, hnl⟩ := checkIs_closed hC
    have HOk := Lib.hid hok
    have HNl := Lib.hid hnl
    have hml : (mapsL A m.code.length).length ≤ 40 := Nat.le_trans (mapsL_len A _) hc40
    have HNd : Hid (∀ wx xv nv ns, MapsAt wx xv (mapsL A m.code.length) → IntsAt wx nv ns → ns.length ≤ 40 → _) := fun wx xv nv ns h1 h2 h3 => needed_any (mapsL A m.code.length) ns xv nv wx h1 h2 hml h3
    unfold NeededPost at HNd
    clear hC hok hc40 hnl
    go_enter Tryz.func9, Tryz.ntmps9
    go_upto_region 6 with (first
      | (go_at_call 30; (with_reducible refine (HMd.out).mono ?_); rintro e w2 ⟨rfl, hB2⟩)
      | (go_at_call 25; (with_reducible refine (HMe.out _ hB2).mono ?_); rintro e w3 ⟨hB3, v3, rfl, hM3⟩; (have HB3 := Lib.hid (below_call hB2 (Nat.le_refl _) hB3)); (have HM3 := Lib.hid hM3); clear hM3 hB3)
      | (go_at_call 33; (with_reducible refine (HNe.out _ HB3.out).mono ?_); rintro e w4 ⟨hB4, v4, ns, rfl, hN4, hL4⟩; obtain ⟨pn, kn, rfl, hn1, hn2, hn3⟩ := hN4.open; (have HB4 := Lib.hid (below_call HB3.out (Nat.le_refl _) hB4)); (have HM4 := Lib.hid (hM3m hB4 HM3.out)); (have HN4 := Lib.hid hN4); (have HL4 := Lib.hid hL4); clear hN4 hL4 hB4 hn3))
    clear hB2
    by_cases hn0 : ns.length = 0
    · have hn00 : ((ns.length : Int) == 0) = true := by rw [beq_iff_eq]; omega
      have HBe := Lib.hid HB4.out
      go_wp2_with (first | fail)
      go_ret
      exact ⟨rfl, HBe.out⟩
    · have hn00 : ((ns.length : Int) == 0) = false := by rw [beq_eq_false_iff_ne]; omega
      have hns40 : ns.length ≤ 40 := HNl.out ns HL4.out
      go_upto_region 9 with (first | fail)
      obtain ⟨kk, hkk, hkl⟩ := wanting_place i hns40 hn0
      rw [hkk]
      have HEr : Hid (ns.take kk ++ ns.drop (kk + 1) = ns.eraseIdx kk) := (List.eraseIdx_eq_take_drop_succ ns kk).symm
      obtain ⟨b, o, rfl, hS1, hS2⟩ := ints_parts HN4.out hkl
      have HS1 : Hid (∀ wx, Below w4.heap.size w4 wx → _) := fun wx hb => IntsAt.mono hb hS1
      have HS2 : Hid (∀ wx, Below w4.heap.size w4 wx → _) := fun wx hb => IntsAt.mono hb hS2
      have h0 : (0 : Int) ≤ (kk : Int) := Int.natCast_nonneg _
      have h1 : (kk : Int) ≤ (kn : Int) := by omega
      have h2 : (kk : Int) + 1 ≤ (ns.length : Int) := by omega
      have h3 : IntKind.i64.wrap ((kk : Int) + 1) = (kk : Int) + 1 := IntWalk.i64_in _ (by omega)
      have h4 : (0 : Int) ≤ (kk : Int) + 1 := by omega
      have h5 : (ns.length : Int) ≤ (kn : Int) := by omega
      have h6 : ((kk : Int) + 1).toNat = kk + 1 := by omega
      have Bz := ((Below.refl w4.heap.size w4).alloc (Nat.le_refl _) (.cells #[] 3)).drew
      have ho0 : (w4.alloc (.cells #[] 3)).drew.ownsRow w4.heap.size 3 1 (.slice (some ⟨w4.heap.size, 0, none⟩) 0 0) 0 [] := ownsInts_none w4.drew w4.heap.size (Nat.le_refl _)
      have hq1 := HS1.out _ Bz
      have hb63 : 0 + (ns.take kk).length ≤ maxLen := by unfold maxLen; rw [List.length_take]; omega
      have hb16 : (0 + (ns.take kk).length) * 8 ≤ 140737488355328 := by rw [List.length_take]; omega
      have hc63 : 0 + (ns.take kk).length + (ns.drop (kk + 1)).length ≤ maxLen := by unfold maxLen; rw [List.length_take, List.length_drop]; omega
      have hc16 : (0 + (ns.take kk).length + (ns.drop (kk + 1)).length) * 8 ≤ 140737488355328 := by rw [List.length_take, List.length_drop]; omega
      clear hS1 hS2 hkk
      go_cut [15] from 52 to 61 (fun v wx => IntsAt wx v (ns.eraseIdx kk) ∧ Below w4.heap.size w4 wx)
      case first =>
        by_cases hcap : kk + 1 = kn
        · have HS3 : Hid (∀ wx, Below w4.heap.size w4 wx → IntsAt wx (.slice (some ⟨b, o, none⟩) 0 0) (ns.drop (kk + 1))) := fun wx hb => by
            have := HS2.out wx hb
            rw [if_pos hcap] at this
            exact this
          clear HS2
          have hs0 : kn - (kk + 1) = 0 := by omega
          have hs1 : ns.length - (kk + 1) = 0 := by omega
          have hle : kn ≤ kk + 1 := by omega
          have hd : (kn = kk + 1) = True := eq_true hcap.symm
          clear hcap
          go_region_law (first
            | (refine step_append_ints (by rfl) _ _ (by rfl) w4.heap.size _ 0 [] (by rfl) ho0 _ (ns.take kk) (by rfl) hq1 hb63 hb16 (Bz.size) ?_; intro v1 w5 ho1 hg1; (have hB5 := Bz.grown hg1 Bz.size (fun g e => (ho0.lt g e).1)); (have hq2 := HS3.out _ hB5))
            | (refine step_append_ints (by rfl) _ _ (by rfl) w4.heap.size _ _ _ (by rfl) ho1 _ (ns.drop (kk + 1)) (by simp [Act.eval] <;> omega) hq2 hc63 hc16 hB5.size ?_; intro v2 w6 ho2 hg2; (have hB6 := hB5.grown hg2 hB5.size (fun g e => (ho1.lt g e).1))))
          all_goals
            go_wp2_with (first | fail)
            go_meet
            exact ⟨by rw [← HEr.out]; exact ints_of_owns (by simpa using ho2), hB6⟩
        · have HS3 : Hid (∀ wx, Below w4.heap.size w4 wx → IntsAt wx (.slice (some ⟨b, o + (kk + 1), none⟩) (ns.length - (kk + 1)) (kn - (kk + 1))) (ns.drop (kk + 1))) := fun wx hb => by
            have := HS2.out wx hb
            rw [if_neg hcap] at this
            exact this
          clear HS2
          have hs0 : ¬ (kn - (kk + 1) = 0) := by omega
          have hle : ¬ kn ≤ kk + 1 := by omega
          go_region_law (first
            | (refine step_append_ints (by rfl) _ _ (by rfl) w4.heap.size _ 0 [] (by rfl) ho0 _ (ns.take kk) (by rfl) hq1 hb63 hb16 (Bz.size) ?_; intro v1 w5 ho1 hg1; (have hB5 := Bz.grown hg1 Bz.size (fun g e => (ho0.lt g e).1)); (have hq2 := HS3.out _ hB5))
            | (refine step_append_ints (by rfl) _ _ (by rfl) w4.heap.size _ _ _ (by rfl) ho1 _ (ns.drop (kk + 1)) (by simp [Act.eval] <;> omega) hq2 hc63 hc16 hB5.size ?_; intro v2 w6 ho2 hg2; (have hB6 := hB5.grown hg2 hB5.size (fun g e => (ho1.lt g e).1))))
          all_goals
            go_wp2_with (first | fail)
            go_meet
            exact ⟨by rw [← HEr.out]; exact ints_of_owns (by simpa using ho2), hB6⟩
      case rest =>
        obtain ⟨hv9, hB9⟩ := hcut
        have HB9 := Lib.hid hB9
        obtain ⟨pz, cz, rfl, hz⟩ := hv9.open
        have HNd9 := Lib.hid (HNd.out wc v3 _ _ (hM3m hB9 HM4.out) hv9 (by
          have := List.length_eraseIdx_le ns kk
          omega))
        have HAn : Hid (∀ (wx : World) (mv : Value), Below w.heap.size w wx → MapsAt wx mv (neededL (mapsL A m.code.length) (ns.eraseIdx kk)) → Calls Tryz.prog 31 #[.slice pl l.length cap, .string cls, .int .i64 at', mv] wx fun e w' => e = .returned (.iface 29 (.int .i64 7)) ∧ Below wx.heap.size wx w') := fun wx mv hb hm => (HAc.out wx _ mv hb (mapsAt_ints hm) (mapsN_short HOk.out fun y hy => neededL_mem hy)).mono fun e w' ⟨hB, n, hC, he⟩ => by
          obtain rfl := acceptIs_one ((HEn.out ns HL4.out).2.2 kk hkl) hC
          exact ⟨he, hB⟩
        have hsame := fun w => errno_eql 7 7 w
        simp only [beq_self_eq_true] at hsame
        clear hB9 hz hv9 h0 h1 h2 h3 h4 h5 h6 ho0 hq1 hb63 hb16 hc63 hc16 Bz
        go_wp2_with (first
          | (go_at_call 35; (with_reducible refine (HNd9.out).mono ?_); rintro e w5 ⟨hB5, v5, rfl, hM5⟩; (have HB5 := Lib.hid (below_call HB9.out (Nat.le_refl _) hB5)); (have HM5 := Lib.hid hM5); clear hM5 hB5)
          | (go_at_call 31; (with_reducible refine (HAn.out _ _ (below_call HB4.out (Nat.le_refl _) HB5.out) HM5.out).mono ?_); rintro e w6 ⟨rfl, hB6⟩; (have HB6 := Lib.hid (below_call HB4.out (Nat.le_refl _) (below_call HB5.out (Nat.le_refl _) hB6))); clear hB6))
        go_ret
        exact ⟨rfl, HB6.out⟩
  · replace HMe : Hid (∀ wx, Below w.heap.size w wx → Calls _ _ _ wx fun e w' => Below wx.heap.size wx w' ∧ ∃ n : Nat, e = .returned (.tuple #[.slice none 0 0, .iface 29 (.int .i64 n)])) := fun wx hb => (HMe.out wx hb).mono fun e w' ⟨hB, n, F, hC', hF⟩ => by
      cases F with
      | none => exact ⟨hB, n, hF.2⟩
      | some q =>
        obtain rfl := checkIs_zero' hC'
        exact absurd ⟨q, hC'⟩ hex
    replace HNe : Hid (∀ (wx : World), Below w.heap.size w wx → Calls _ _ _ wx fun e w' => Below wx.heap.size wx w' ∧ ∃ n : Nat, e = .returned (.tuple #[.slice none 0 0, .iface 29 (.int .i64 n)])) := fun wx hb => (HNe.out wx hb).mono fun e w' ⟨hB, n', F, hC', hF⟩ => by
      cases F with
      | none => exact ⟨hB, n', hF.2⟩
      | some q =>
        obtain rfl := checkIs_zero' hC'
        exact absurd ⟨q, hC'⟩ hex
    clear hex
    go_enter Tryz.func9, Tryz.ntmps9
    go_wp2_with (first
      | (go_at_call 30; (with_reducible refine (HMd.out).mono ?_); rintro e w2 ⟨rfl, hB2⟩)
      | (go_at_call 25; (with_reducible refine (HMe.out _ hB2).mono ?_); rintro e w3 ⟨hB3, n3, rfl⟩; (have HB3 := Lib.hid (below_call hB2 (Nat.le_refl _) hB3)); clear hB3)
      | (go_at_call 33; (with_reducible refine (HNe.out _ HB3.out).mono ?_); rintro e w4 ⟨hB4, n4, rfl⟩; (have HB4 := Lib.hid (below_call HB3.out (Nat.le_refl _) hB4)); clear hB4))
    go_ret
    exact ⟨rfl, HB4.out⟩
end Go.Proofs.YtlmfmioljeppfaaGreatDoor
