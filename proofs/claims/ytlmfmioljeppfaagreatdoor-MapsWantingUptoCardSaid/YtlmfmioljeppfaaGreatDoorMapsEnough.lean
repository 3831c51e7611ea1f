/-
  WALK over the law MapsEnough. Conditions: as in XRead.
-/
import Derived.Test.YtlmfmioljeppfaaGreatDoorMapped
import Derived.Test.YtlmfmioljeppfaaGreatDoorNeeded
namespace Go.Proofs.YtlmfmioljeppfaaGreatDoor
open Go.RowKit Go.Shelf Go.Lib
theorem ifaceIn_same {P : Program} (w : World) (d : Nat) {ti tn : TypeId} {ms : Array (String × TypeId)} {i : TypeInfo} {k : IntKind} (a b : Int)
    (hi : P.underlying ti = some (.interface ms)) (hn : P.underlying tn = some (.int k)) (hinfo : P.info? tn = some i) (hcomp : i.comparable = true) :
    (Op.equalIn (d + 2) ti (.iface tn (.int k a)) (.iface tn (.int k b))).run P w = .ok (a == b) w := by
  simp [Op.equalIn, run_underlying hi, run_underlying hn, typeInfo, hinfo, hcomp]
theorem iface_same {P : Program} (w : World) {ti tn : TypeId} {ms : Array (String × TypeId)} {i : TypeInfo} {k : IntKind} (a b : Int)
    (hi : P.underlying ti = some (.interface ms)) (hn : P.underlying tn = some (.int k)) (hinfo : P.info? tn = some i) (hcomp : i.comparable = true) :
    (binOp .eql ti (.iface tn (.int k a)) (.iface tn (.int k b))).run P w = .ok (.bool (a == b)) w := by
  simp only [binOp]
  simp [Op.equal, Op.maxDepth, ifaceIn_same w 9998 a b hi hn hinfo hcomp]
set_option maxRecDepth 100000 in
theorem errno_info : ∃ i, Tryz.prog.info? 29 = some i ∧ i.comparable = true := ⟨_, rfl, rfl⟩
theorem errno_eql (a b : Int) (w : World) : (binOp .eql 43 (.iface 29 (.int .i64 a)) (.iface 29 (.int .i64 b))).run Tryz.prog w = .ok (.bool (a == b)) w := by
  obtain ⟨i, h1, h2⟩ := errno_info
  exact iface_same w a b Tryz.underlying43 Tryz.underlying29 h1 h2
theorem mapsAt_ints {w : World} {v : Value} {xs : List (Nat × Frm)} (h : MapsAt w v xs) : MapsAtI w v (mapsN xs) := by
  rcases h with ⟨h1, h2⟩ | ⟨a, cap, h1, h2, h3, h4⟩
  · exact Or.inl ⟨h1, by rw [h2]; rfl⟩
  · refine Or.inr ⟨a, cap, by unfold mapsN; rw [List.length_map]; exact h1, by unfold mapsN; rw [List.length_map]; exact h2, h3, fun i x hi => ?_⟩
    unfold mapsN at hi
    rw [List.getElem?_map] at hi
    cases hx : xs[i]? with
    | none => rw [hx] at hi; cases hi
    | some y =>
      rw [hx] at hi
      obtain rfl := Option.some.inj hi
      obtain ⟨vs, ⟨lv, sv, e, hf⟩, k1, k2⟩ := h4 i y hx
      exact ⟨vs, ⟨lv, sv, e, hf⟩, k1, k2⟩
theorem mapsN_short {l : List Class} {A : Asg Frm} {n : Nat} (h : ∀ i f, A i = some f → frameR (allC l) f = 0) {ys : List (Nat × Frm)} (hs : ∀ y ∈ ys, y ∈ mapsL A n) : ∀ x ∈ mapsN ys, FrmShort x.2 := fun x hx => by
  unfold mapsN at hx
  obtain ⟨y, hy, rfl⟩ := List.mem_map.1 hx
  exact frm_short (h _ _ (mapsL_mem.1 (hs y hy)).2)
theorem neededL_mem {xs : List (Nat × Frm)} {ns : List Int} {p : Nat × Frm} (h : p ∈ neededL xs ns) : p ∈ xs := by
  unfold neededL at h
  obtain ⟨q, hq, h⟩ := List.mem_flatMap.1 h
  obtain ⟨_, _, rfl⟩ := List.mem_map.1 h
  exact hq
theorem checkIs_closed {l : List Class} {cls : Str} {at' : Int} {n : Nat} {m : Method} {A : Asg Frm} (h : CheckIs l cls at' n (some (m, A))) : (∀ i f, A i = some f → frameR (allC l) f = 0) ∧ m.code.length ≤ 40 ∧ ∀ ns, NeedL m A ns → ns.length ≤ 40 := by
  rcases h with ⟨_, _, h⟩ | ⟨h0, m', args, g, many, h1, h2, h3, G, h4, h5⟩
  · cases h
  · cases G with
    | none => cases h5.2
    | some A' =>
      obtain ⟨_, h5⟩ := h5
      injection h5 with h5
      injection h5 with e1 e2
      subst e1 e2
      have hc := codeOk_of h3.code
      exact ⟨fun i f e => (h4.2.1.1 i f e).2, hc.small, fun ns hn => needL_len hc h4.2.1 hn⟩
theorem checkIs_zero' {l : List Class} {cls : Str} {at' : Int} {n : Nat} {p : Method × Asg Frm} (h : CheckIs l cls at' n (some p)) : n = 0 := by
  rcases h with ⟨_, _, h⟩ | ⟨_, m, args, g, many, _, _, _, G, _, h5⟩
  · cases h
  · cases G with
    | none => cases h5.2
    | some A => exact h5.1
theorem hM3m {w w' : World} {v : Value} {xs : List (Nat × Frm)} (hb : Below w.heap.size w w') (h : MapsAt w v xs) : MapsAt w' v xs := SliceOf.mono hb (by decide) (fun _ _ ⟨lv, sv, h1, h2⟩ => ⟨lv, sv, h1, h2.mono hb⟩) h
set_option maxHeartbeats 4000000 in
set_option maxRecDepth 100000 in
theorem mapsEnough_any (l : List Class) (lv : Value) (cls : Str) (at' : Int) (w : World) (hl : Laid w) (ho : ∀ c ∈ l, ClassOk c) (hlv : ClassesAt w lv l) :
    Calls Tryz.prog 8 #[lv, .string cls, .int .i64 at'] w fun e w' => e = .returned (.bool true) ∧ Below w.heap.size w w' := by
  have HMd := Lib.hid (mapped_any w hl)
  have HAc : Hid (∀ (wx : World) (xs : List (Int × Frm)) (mv : Value), Below w.heap.size w wx → MapsAtI wx mv xs → (∀ x ∈ xs, FrmShort x.2) → _) := fun wx xs mv hb hmv hms => accept_any l lv cls at' xs mv wx (hl.mono hb hl.1) ho (hlv.mono hb) hmv hms
  have HMe : Hid (∀ wx, Below w.heap.size w wx → _) := fun wx hb => checkMethod_any l lv cls at' wx (hl.mono hb hl.1) ho (hlv.mono hb)
  have HNe : Hid (∀ wx, Below w.heap.size w wx → _) := fun wx hb => mapsNeeds_any l lv cls at' wx (hl.mono hb hl.1) ho (hlv.mono hb)
  obtain ⟨pl, cap, rfl, hpo⟩ := hlv.open
  clear hpo hl ho hlv
  by_cases hex : ∃ p, CheckIs l cls at' 0 (some p)
  · obtain ⟨⟨m, A⟩, hC⟩ := hex
    replace HMe : Hid (∀ wx, Below w.heap.size w wx → Calls _ _ _ wx fun e w' => Below wx.heap.size wx w' ∧ ∃ v, e = .returned (.tuple #[v, .nilIface]) ∧ MapsAt w' v (mapsL A m.code.length)) := fun wx hb => (HMe.out wx hb).mono fun e w' ⟨hB, n, F, hC', hF⟩ => by
      obtain ⟨_, rfl⟩ := checkIs_one read_faults hC hC'
      exact ⟨hB, hF⟩
    replace HNe : Hid (∀ wx, Below w.heap.size w wx → Calls _ _ _ wx fun e w' => Below wx.heap.size wx w' ∧ ∃ v ns, e = .returned (.tuple #[v, .nilIface]) ∧ IntsAt w' v ns ∧ NeedL m A ns) := fun wx hb => (HNe.out wx hb).mono fun e w' ⟨hB, n, F, hC', hF⟩ => by
      obtain ⟨_, rfl⟩ := checkIs_one read_faults hC hC'
      exact ⟨hB, hF⟩
    have HEn : Hid (∀ ns, NeedL m A ns → _) := fun ns hn => enough_law read_faults hC hn
    obtain ⟨hok, hc40, hnl⟩ := checkIs_closed hC
    have HOk := Lib.hid hok
    have HNl := Lib.hid hnl
    have hml : (mapsL A m.code.length).length ≤ 40 := Nat.le_trans (mapsL_len A _) hc40
    have HNd : Hid (∀ wx xv nv ns, MapsAt wx xv (mapsL A m.code.length) → IntsAt wx nv ns → NeedL m A ns → _) := fun wx xv nv ns h1 h2 h3 => needed_any (mapsL A m.code.length) ns xv nv wx h1 h2 hml (HNl.out ns h3)
    unfold NeededPost at HNd
    clear hC hok hc40 hnl
    go_enter Tryz.func8, Tryz.ntmps8
    go_upto_region 8 with (first
      | (go_at_call 30; (with_reducible refine (HMd.out).mono ?_); rintro e w2 ⟨rfl, hB2⟩)
      | (go_at_call 25; (with_reducible refine (HMe.out _ hB2).mono ?_); rintro e w3 ⟨hB3, v3, rfl, hM3⟩; (have HB3 := Lib.hid (below_call hB2 (Nat.le_refl _) hB3)); (have HM3 := Lib.hid hM3); clear hM3 hB3)
      | (go_at_call 33; (with_reducible refine (HNe.out _ HB3.out).mono ?_); rintro e w4 ⟨hB4, v4, ns, rfl, hN4, hL4⟩; (have HB4 := Lib.hid (below_call HB3.out (Nat.le_refl _) hB4)); (have HM4 := Lib.hid (hM3m hB4 HM3.out)); (have HN4 := Lib.hid hN4); (have HL4 := Lib.hid hL4); clear hN4 hL4 hB4))
    have HAn : Hid (∀ (wx : World) (mv : Value), Below w.heap.size w wx → MapsAt wx mv (neededL (mapsL A m.code.length) ns) → Calls Tryz.prog 31 #[.slice pl l.length cap, .string cls, .int .i64 at', mv] wx fun e w' => e = .returned .nilIface ∧ Below wx.heap.size wx w') := fun wx mv hb hm => (HAc.out wx _ mv hb (mapsAt_ints hm) (mapsN_short HOk.out fun y hy => neededL_mem hy)).mono fun e w' ⟨hB, n, hC, he⟩ => by
      obtain rfl := acceptIs_one (HEn.out ns HL4.out).1 hC
      exact ⟨he, hB⟩
    have HAl : Hid (∀ (wx : World), Below w4.heap.size w4 wx → Calls Tryz.prog 31 #[.slice pl l.length cap, .string cls, .int .i64 at', v3] wx fun e w' => e = .returned .nilIface ∧ Below wx.heap.size wx w') := fun wx hb => (HAc.out wx _ v3 (below_call HB4.out (Nat.le_refl _) hb) (mapsAt_ints (hM3m hb HM4.out)) (mapsN_short HOk.out fun y hy => hy)).mono fun e w' ⟨hB, n, hC, he⟩ => by
      obtain rfl := acceptIs_one (HEn.out ns HL4.out).2.1 hC
      exact ⟨he, hB⟩
    have HNd4 := Lib.hid (HNd.out w4 v3 v4 ns HM4.out HN4.out HL4.out)
    clear hB2
    go_wp2_with (first
      | (go_at_call 35; (with_reducible refine (HNd4.out).mono ?_); rintro e w5 ⟨hB5, v5, rfl, hM5⟩; (have HB5 := Lib.hid hB5); (have HM5 := Lib.hid hM5); clear hM5 hB5)
      | (go_at_call 31; (with_reducible refine (HAn.out _ _ (below_call HB4.out (Nat.le_refl _) HB5.out) HM5.out).mono ?_); rintro e w6 ⟨rfl, hB6⟩; (have HB6 := Lib.hid (below_call HB5.out (Nat.le_refl _) hB6)); clear hB6)
      | (go_at_call 31; (with_reducible refine (HAl.out _ HB6.out).mono ?_); rintro e w7 ⟨rfl, hB7⟩; (have HB7 := Lib.hid (below_call HB4.out (Nat.le_refl _) (below_call HB6.out (Nat.le_refl _) hB7)))))
    go_ret
    exact ⟨rfl, HB7.out⟩
  · replace HMe : Hid (∀ wx, Below w.heap.size w wx → Calls _ _ _ wx fun e w' => Below wx.heap.size wx w' ∧ ∃ n : Nat, CheckIs l cls at' n none ∧ e = .returned (.tuple #[.slice none 0 0, .iface 29 (.int .i64 n)])) := fun wx hb => (HMe.out wx hb).mono fun e w' ⟨hB, n, F, hC', hF⟩ => by
      cases F with
      | none => exact ⟨hB, n, hC', hF.2⟩
      | some q =>
        obtain rfl := checkIs_zero' hC'
        exact absurd ⟨q, hC'⟩ hex
    replace HNe : Hid (∀ (wx : World) (n : Nat), CheckIs l cls at' n none → Below w.heap.size w wx → Calls _ _ _ wx fun e w' => Below wx.heap.size wx w' ∧ e = .returned (.tuple #[.slice none 0 0, .iface 29 (.int .i64 n)])) := fun wx n hC hb => (HNe.out wx hb).mono fun e w' ⟨hB, n', F, hC', hF⟩ => by
      obtain ⟨rfl, rfl⟩ := checkIs_one read_faults hC hC'
      exact ⟨hB, hF.2⟩
    clear hex
    have hsame := fun (n : Nat) w => errno_eql (n : Int) (n : Int) w
    simp only [beq_self_eq_true] at hsame
    go_enter Tryz.func8, Tryz.ntmps8
    go_wp2_with (first
      | (go_at_call 30; (with_reducible refine (HMd.out).mono ?_); rintro e w2 ⟨rfl, hB2⟩)
      | (go_at_call 25; (with_reducible refine (HMe.out _ hB2).mono ?_); rintro e w3 ⟨hB3, n3, hC3, rfl⟩; (have HB3 := Lib.hid (below_call hB2 (Nat.le_refl _) hB3)); (have HC3 := Lib.hid hC3); clear hB3 hC3)
      | (go_at_call 33; (with_reducible refine (HNe.out _ _ HC3.out HB3.out).mono ?_); rintro e w4 ⟨hB4, rfl⟩; (have HB4 := Lib.hid (below_call HB3.out (Nat.le_refl _) hB4)); clear hB4))
    go_ret
    exact ⟨rfl, HB4.out⟩
end Go.Proofs.YtlmfmioljeppfaaGreatDoor
