/-
  WALK over the law CheckLeast. Conditions: as in XRead.
-/
import Derived.Test.YtlmfmioljeppfaaGreatDoorAdder
import Derived.Test.YtlmfmioljeppfaaGreatDoorRefAfter
import Derived.Test.YtlmfmioljeppfaaGreatDoorLeastLaw
namespace Go.Proofs.YtlmfmioljeppfaaGreatDoor
open Go.RowKit Go.Shelf Go.Lib
theorem checkIs_some {l : List Class} (hcf : readFault l = 0 → ∀ c ∈ l, classFault c = 0) {cls : Str} {at' : Int} {n : Nat} {p : Method × Asg Frm} (h : CheckIs l cls at' 0 (some p)) (k : CheckIs l cls at' n none) : False := by
  rcases h with ⟨_, _, h⟩ | ⟨hz, m, args, g, many, h1, _, h3, G, h4, h5⟩
  · cases h
  · rcases k with ⟨k, _⟩ | ⟨_, m', args', g', many', k1, _, k3, G', k4, k5⟩
    · exact k hz
    · rw [h1] at k1
      obtain rfl := Option.some.inj k1
      have e1 := h3.type
      rw [k3.type] at e1
      injection e1 with e1
      injection e1 with e1 e2
      subst e1 e2
      have e3 : (many' : Int) = (many : Int) := k3.locals.symm.trans h3.locals
      obtain rfl : many' = many := by omega
      have hr0 : readFault l = 0 := by
        unfold namedN at hz
        split at hz
        · rename_i h0; exact absurd hz h0
        · rename_i h0; exact Decidable.not_not.1 h0
      have := methodFrames_one (right_of hr0) (hcf hr0) h3.code h3.hands (firstL_len h3) h4 k4
      subst this
      cases G with
      | none => cases h5.2
      | some A => cases k5.2
theorem checkIs_zero {l : List Class} {cls : Str} {at' : Int} {n : Nat} {p : Method × Asg Frm} (h : CheckIs l cls at' n (some p)) : n = 0 := by
  rcases h with ⟨_, _, h⟩ | ⟨_, m, args, g, many, _, _, _, G, _, h5⟩
  · cases h
  · cases G with
    | none => cases h5.2
    | some A => exact h5.1
theorem make_ints (n : Nat) (hn : n ≤ 16777216) (w : World) : (Instr.makeSlice 69 (.int .i64 (n : Int)) (.int .i64 (n : Int))).run Tryz.prog w = .ok (.slice (some ⟨w.heap.size, 0, none⟩) n n) (w.alloc (.cells (Array.replicate n (Value.int .i64 0)) 3)) := by
  rw [run_make_row' 69 3 (.int .i64 0) 8 Tryz.underlying69 info_int rfl .i64 .i64 n (by omega) (by omega) w]
  have h : madeCells #[Value.int .i64 0] n = Array.replicate n (Value.int .i64 0) := by
    apply Array.toList_inj.1
    rw [toList_madeCells_one, Array.toList_replicate]
  rw [h]
theorem nice_method {l : List Class} (ho : ∀ c ∈ l, ClassOk c) {cls : Str} {at' : Int} {m : Method} (h : namedM cls at' l = some m) : MethodOk m ∧ cls.size ≤ 1048576 ∧ (findC (allC l) cls).isSome = true := by
  obtain ⟨c, hc, hcn, hmc⟩ := namedM_mem h
  exact ⟨(ho c hc).methods m hmc, by rw [← hcn]; exact (ho c hc).name, by rw [← hcn]; exact known_of hc⟩
def LeastS (wx : World) (tb lb lo b0 o i : Nat) (cv y z : Value) (x : Ins) : Prop := wx.cell? ⟨tb, 6, none⟩ = some cv ∧ wx.cell? ⟨lb, lo, none⟩ = some (.int .i64 (i : Int)) ∧ wx.cell? ⟨lb, lo + 1, none⟩ = some y ∧ wx.cell? ⟨lb, lo + 1 + 1, none⟩ = some z ∧ wx.cell? ⟨b0, o, none⟩ = some (.int .i64 x.op) ∧ wx.cell? ⟨b0, o + 1, none⟩ = some (.int .i64 x.a) ∧ wx.cell? ⟨b0, o + 1 + 1, none⟩ = some (.int .i64 x.b) ∧ wx.cell? ⟨b0, o + 1 + 1 + 1, none⟩ = some (.string x.type) ∧ wx.cell? ⟨b0, o + 1 + 1 + 1 + 1, none⟩ = some (.string x.cls) ∧ wx.cell? ⟨b0, o + 1 + 1 + 1 + 1 + 1, none⟩ = some (.string x.name)
theorem LeastS.step {w w' : World} {tb lb lo b0 o i : Nat} {cv y z : Value} {x : Ins} (h : LeastS w tb lb lo b0 o i cv y z x) (hb : Below w.heap.size w w') : LeastS w' tb lb lo b0 o i cv y z x := by
  obtain ⟨k0, k1, k2, k3, k4, k5, k6, k7, k8, k9⟩ := h
  exact ⟨(hb.cell (cell_lt k0)).trans k0, (hb.cell (cell_lt k1)).trans k1, (hb.cell (cell_lt k2)).trans k2, (hb.cell (cell_lt k3)).trans k3, (hb.cell (cell_lt k4)).trans k4, (hb.cell (cell_lt k5)).trans k5, (hb.cell (cell_lt k6)).trans k6, (hb.cell (cell_lt k7)).trans k7, (hb.cell (cell_lt k8)).trans k8, (hb.cell (cell_lt k9)).trans k9⟩
theorem LeastS.other {w : World} {tb lb lo b0 o i : Nat} {cv y z : Value} {x : Ins} (h : LeastS w tb lb lo b0 o i cv y z x) {c : Nat} (n1 : tb < c) (n2 : lb < c) (n3 : b0 < c) (u v : Value) : LeastS ((w.setCell ⟨c, 0, none⟩ u).setCell ⟨c, 1, none⟩ v) tb lb lo b0 o i cv y z x := by
  obtain ⟨k0, k1, k2, k3, k4, k5, k6, k7, k8, k9⟩ := h
  have m1 := Nat.ne_of_lt n1
  have m2 := Nat.ne_of_lt n2
  have m3 := Nat.ne_of_lt n3
  exact ⟨(cell2_other (a := ⟨tb, _, none⟩) m1 _ _).trans k0, (cell2_other (a := ⟨lb, _, none⟩) m2 _ _).trans k1, (cell2_other (a := ⟨lb, _, none⟩) m2 _ _).trans k2, (cell2_other (a := ⟨lb, _, none⟩) m2 _ _).trans k3, (cell2_other (a := ⟨b0, _, none⟩) m3 _ _).trans k4, (cell2_other (a := ⟨b0, _, none⟩) m3 _ _).trans k5, (cell2_other (a := ⟨b0, _, none⟩) m3 _ _).trans k6, (cell2_other (a := ⟨b0, _, none⟩) m3 _ _).trans k7, (cell2_other (a := ⟨b0, _, none⟩) m3 _ _).trans k8, (cell2_other (a := ⟨b0, _, none⟩) m3 _ _).trans k9⟩
set_option maxHeartbeats 4000000 in
set_option maxRecDepth 100000 in
theorem checkLeast_any (l : List Class) (lv : Value) (cls : Str) (at' : Int) (w : World) (hl : Laid w) (ho : ∀ c ∈ l, ClassOk c) (hlv : ClassesAt w lv l) :
    Calls Tryz.prog 5 #[lv, .string cls, .int .i64 at'] w fun e w' => e = .returned (.bool true) ∧ Below w.heap.size w w' := by
  have HCd := Lib.hid (checked_any w hl)
  have HMe : Hid (∀ wx, Below w.heap.size w wx → _) := fun wx hb => checkMethod_any l lv cls at' wx (hl.mono hb hl.1) ho (hlv.mono hb)
  have HMf : Hid (∀ wx, Below w.heap.size w wx → _) := fun wx hb => refMethodFault_any l lv cls at' wx ho (hlv.mono hb)
  have HLv := Lib.hid hlv
  have Hl := Lib.hid hl
  have HO := Lib.hid ho
  obtain ⟨pl, cap, rfl, hpo⟩ := hlv.open
  clear hpo
  clear hl ho hlv
  unfold RefMethodFPost zMethod at HMf
  by_cases hex : ∃ p, CheckIs l cls at' 0 (some p)
  · have HEx := Lib.hid hex
    clear hex
    replace HMe : Hid (∀ wx, Below w.heap.size w wx → Calls _ _ _ wx fun e w' => Below wx.heap.size wx w' ∧ ∃ m A v, CheckIs l cls at' 0 (some (m, A)) ∧ e = .returned (.tuple #[v, .nilIface]) ∧ MapsAt w' v (mapsL A m.code.length)) := fun wx hb => (HMe.out wx hb).mono fun e w' ⟨hB, n, F, hC, hF⟩ => by
      cases F with
      | none =>
        obtain ⟨p, hp⟩ := HEx.out
        exact (checkIs_some read_faults hp hC).elim
      | some q =>
        obtain rfl := checkIs_zero hC
        obtain ⟨m, A⟩ := q
        obtain ⟨v, h1, h2⟩ := hF
        exact ⟨hB, m, A, v, hC, h1, h2⟩
    have hz : namedN l cls at' = 0 := by
      obtain ⟨p, hp⟩ := HEx.out
      rcases hp with ⟨_, _, h⟩ | ⟨h, _⟩
      · cases h
      · exact h
    have HZ := Lib.hid hz
    clear hz
    have HA : Hid (∀ (wx : World) (o : Obj), Below wx.heap.size wx (wx.alloc o)) := fun wx o => (Below.refl _ _).alloc (Nat.le_refl _) o
    go_enter Tryz.func5, Tryz.ntmps5
    go_upto_region 6 with (first
      | (go_at_call 20; (with_reducible refine (HCd.out).mono ?_); rintro e w2 ⟨rfl, hB2⟩)
      | (go_at_call 25; (with_reducible refine (HMe.out _ hB2).mono ?_); rintro e w3 ⟨hB3, m, A, v, hC, rfl, hM⟩; (have HB3 := Lib.hid (below_call hB2 (Nat.le_refl _) hB3)))
      | (go_at_call 23; (with_reducible refine (HMf.out _ HB3.out).mono ?_); rintro e w4 ⟨hB4, ⟨_, m', v', hnm, hab, rfl, ⟨pc, kc, ph, kh, rfl, hcv, _⟩⟩ | ⟨hz, _⟩⟩; rotate_left; (exact absurd HZ.out hz)))
    have hC2 := hC
    rcases hC2 with ⟨hz, _⟩ | ⟨_, m1, args, g, many, h1, _, hG, G, hF, h6⟩
    · exact absurd HZ.out hz
    cases G with
    | none => cases h6.2
    | some A' =>
      obtain ⟨_, h6⟩ := h6
      injection h6 with h6
      injection h6 with h61 h62
      subst h61 h62
      rw [hnm] at h1
      obtain rfl := (Option.some.inj h1).symm
      obtain ⟨hmo, hcl, hcc⟩ := nice_method HO.out hnm
      have hr0 : readFault l = 0 := by
        have h := HZ.out
        unfold namedN at h
        split at h
        · rename_i h0; exact absurd h h0
        · rename_i h0; exact Decidable.not_not.1 h0
      have HSp : Hid (∀ (i : Nat) (f : Frm) (x : Ins), A i = some f → m.code[i]? = some x → _) := fun i f x hi hx => least_step (right_of hr0) hr0 hG hcc hF.2.1 hi hx
      have HOk : Hid (∀ (i : Nat) (f : Frm), A i = some f → i < m.code.length ∧ frameR (allC l) f = 0) := fun i f e => hF.2.1.1 i f e
      obtain ⟨f0, hf0, _⟩ := hF.2.1.2.2
      have hco := codeOk_of hG.code
      have HHd := Lib.hid (maps_head hco.pos hf0)
      have hlsl : (mapsL A m.code.length).length ≤ 40 := Nat.le_trans (mapsL_len A _) hco.small
      have hc40 := hco.small
      have HMm := Lib.hid (hM.mono hB4 (by decide) (fun _ _ ⟨lv, sv, h1, h2⟩ => ⟨lv, sv, h1, h2.mono hB4⟩) : MapsAt w4 v (mapsL A m.code.length))
      obtain ⟨pv, cv, rfl, _⟩ := hM.open
      obtain ⟨pv', cv', e, _, _, hmc⟩ := HMm.out.open
      injection e with e1 _ e2
      subst e1 e2
      have HMc := Lib.hid hmc
      clear hmc
      have hlp : 0 < (mapsL A m.code.length).length := (List.getElem?_eq_some_iff.1 HHd.out).1
      have k5 := Blk.new w4 53 [.string m.name, .string m.type, .bool m.static, .bool m.abs, .bool m.priv, .int .i64 m.locals, .slice pc m.code.length kc, .slice ph m.handlers.length kh]
      have B5 := HA.out w4 (.cells #[.string m.name, .string m.type, .bool m.static, .bool m.abs, .bool m.priv, .int .i64 m.locals, .slice pc m.code.length kc, .slice ph m.handlers.length kh] 53)
      have HB4 := Lib.hid (below_call HB3.out (Nat.le_refl _) hB4)
      have HB34 := Lib.hid hB4
      have HG := Lib.hid hG
      have Hmo := Lib.hid hmo
      have Hcl := Lib.hid hcl
      have Hcv := Lib.hid hcv
      have Hco := Lib.hid hco
      clear hM hB4 hF hG hmo hcl hcc hcv hco hC hnm h1 hab hr0 hf0 hB2 hB3 HMe HMf HCd
      generalize w4.alloc (.cells #[.string m.name, .string m.type, .bool m.static, .bool m.abs, .bool m.priv, .int .i64 m.locals, .slice pc m.code.length kc, .slice ph m.handlers.length kh] 53) = w5 at *
      have m1 := k5.cell 1
      have m6 := k5.cell 6
      have Hk5 := Lib.hid k5
      have HB5 := Lib.hid B5
      have HMo : Hid (Calls _ _ _ w5 _) := refMethod_yes_call Hmo.out.type HG.out.type w5
      unfold RefMethodYes at HMo
      have hmk := fun wx => make_ints m.code.length (by omega) wx
      clear k5 B5
      go_upto_region 9 with (go_at_call 27; (with_reducible refine (HMo.out).mono ?_); rintro e w6 ⟨a6, c6, rfl, _, hB6⟩)
      have k6 := Hk5.out.step hB6
      have m66 := k6.cell 6
      go_upto_region 10 with (first | fail)
      have hE : Array.replicate m.code.length (Value.int .i64 0) = (placeL A m.code.length 0).toArray := by
        rw [placeL_zero]
        apply Array.ext'
        simp
      have k7 := Blk.new w6 3 (placeL A m.code.length 0)
      have B7 := HA.out w6 (.cells (placeL A m.code.length 0).toArray 3)
      rw [hE]
      clear hE
      generalize w6.alloc (.cells (placeL A m.code.length 0).toArray 3) = w7 at *
      have HB6 := Lib.hid (below_call HB5.out (Nat.le_refl _) hB6)
      have Hk6 := Lib.hid k6
      have HB7 := Lib.hid B7
      have Hk7 := Lib.hid k7
      clear m1 m6 m66 hmk k6 k7 B7 hB6 HMo
      go_wp2_with (first | fail)
      go_loopw [16] (fun x wr => ∃ j : Nat, j ≤ (mapsL A m.code.length).length ∧ x = .int .i64 j ∧ Hid (Below w6.heap.size w6 wr) ∧ Hid (Blk wr w6.heap.size 3 (placeL A m.code.length j))) (fun x _ => (mapsL A m.code.length).length - (intOf x).toNat)
      case atStart => exact ⟨0, Nat.zero_le _, rfl, HB7.out, Hk7.out⟩
      case round =>
        obtain ⟨j, hj, rfl, hB, hP⟩ := hrel
        have m6 := (Hk6.out.step hB.out).cell 6
        by_cases hjl : j < (mapsL A m.code.length).length
        · obtain ⟨⟨i, f⟩, hx⟩ : ∃ x, (mapsL A m.code.length)[j]? = some x := ⟨(mapsL A m.code.length)[j], by simp [hjl]⟩
          obtain ⟨b, o, vs, rfl, ⟨lv, sv, rfl, hf⟩, _, hcells⟩ := HMc.out j _ hx
          have hcells := hcells.mono (below_call HB6.out (Nat.le_refl _) hB.out) hcells.lt
          obtain ⟨c0, c1, c2, _⟩ := hcells
          replace c0 : wr.cell? ⟨b, o + j * 3, none⟩ = some (.int .i64 (i : Int)) := c0
          obtain ⟨hx1, hx2, hin⟩ := maps_at.1 hx
          have hinI : (i : Int) < (m.code.length : Int) := by omega
          have hge : ¬ (m.code.length : Int) ≤ (i : Int) := by omega
          have hneg : ¬ (i : Int) < 0 := by omega
          have hset := placeL_set hx
          have p0 := hP.out.cell i
          rw [placeL_get A hin] at p0
          have pz := hP.out.frozen i
          have HP2 : Hid (∀ q, Blk ((wr.drewN q).setCell ⟨w6.heap.size, i, none⟩ (.int .i64 ((j : Int) + 1))) w6.heap.size 3 (placeL A m.code.length (j + 1))) := fun q => by
            have := Blk.put (w := wr.drewN q) hP.out i (.int .i64 ((j + 1 : Nat) : Int))
            rw [hset, Int.natCast_add, Int.natCast_one] at this
            exact this
          clear hset hx1 hx2 hx hf
          go_upto_region 13 with (first | fail)
          go_quiet (fail)
          go_wp2_with (first | fail)
          go_roundw
          case rel => exact ⟨j + 1, by omega, by simp, (below_drewN hB.out _).setCell (Nat.le_refl _) _, HP2.out _⟩
          case measure => simp [intOf]; omega
        · obtain rfl : j = (mapsL A m.code.length).length := by omega
          clear m6
          have HB8 := Lib.hid (below_call HB6.out (Nat.le_refl _) hB.out)
          have HP8 := Lib.hid hP.out
          have Hk8 := Lib.hid (Hk6.out.step hB.out)
          have HBw8 := Lib.hid (below_call HB4.out (Nat.le_refl _) (below_call HB6.out (Nat.le_refl _) hB.out))
          clear hB hP
          go_wp2_with (first | fail)
          generalize wr = w8 at *
          go_loopw [17] (fun x wr => ∃ j : Nat, j ≤ (mapsL A m.code.length).length ∧ x = .int .i64 j ∧ Hid (Below w8.heap.size w8 wr)) (fun x _ => (mapsL A m.code.length).length - (intOf x).toNat)
          case atStart => exact ⟨0, Nat.zero_le _, rfl, Below.refl _ _⟩
          case round =>
            obtain ⟨j, hj, rfl, hB⟩ := hrel
            by_cases hjl : j < (mapsL A m.code.length).length
            · obtain ⟨⟨i, f⟩, hx⟩ : ∃ x, (mapsL A m.code.length)[j]? = some x := ⟨(mapsL A m.code.length)[j], by simp [hjl]⟩
              obtain ⟨b, o, vs, rfl, ⟨lv, sv, rfl, hf⟩, _, hcells⟩ := HMc.out j _ hx
              have Bw4 := below_call HB8.out (Nat.le_refl _) hB.out
              have hcells := hcells.mono Bw4 hcells.lt
              obtain ⟨d0, d1, d2, _⟩ := hcells
              have hf := hf.mono Bw4
              have hAi := (maps_at.1 hx).2.1
              have hin := (maps_at.1 hx).2.2
              obtain ⟨x, hxi⟩ : ∃ x, m.code[i]? = some x := ⟨m.code[i], by simp [hin]⟩
              obtain ⟨L, S, hst, hsn, hfr2, hnx⟩ := HSp.out i f x hAi hxi
              obtain ⟨_, hfr⟩ := HOk.out i f hAi
              obtain ⟨b0, o0, cap0, vs0, e0, hxv, hvl, hcc⟩ := Hcv.out.at hin
              injection e0 with e1 _ e2
              subst e1 e2
              rw [show m.code[i] = x from Option.some.inj ((List.getElem?_eq_getElem hin).symm.trans hxi)] at hxv
              unfold InsCells at hxv
              subst hxv
              have Bw := below_call HBw8.out (Nat.le_refl _) hB.out
              have hcc := hcc.mono (below_call HB34.out (Nat.le_refl _) Bw4) hcc.lt
              obtain ⟨c0, c1, c2, c3, c4, c5, _⟩ := hcc
              have hxo := Hmo.out.code x (List.mem_of_getElem? hxi)
              have hgs : g.size ≤ maxLen := Nat.le_trans (Nat.le_trans (methodR_sizes HG.out.type).2 Hmo.out.type) (by decide)
              have Hjm := Lib.hid ((Hco.out).jumps x (List.mem_of_getElem? hxi))
              obtain ⟨⟨p1, n1, rfl, _⟩, ⟨p2, n2, rfl, _⟩⟩ := And.intro hf.1.open hf.2.open
              have HSt0 : Hid (∀ wx, Below wr.heap.size wr wx → _) := fun wx hb => frameStep_any l (.slice pl l.length cap) cls g x f (.slice p1 f.locals.length n1) (.slice p2 f.stack.length n2) wx (Hl.out.mono (below_call Bw (Nat.le_refl _) hb) Hl.out.1) HO.out (HLv.out.mono (below_call Bw (Nat.le_refl _) hb)) (hf.mono hb) (frm_short hfr) hxo (Nat.le_trans Hcl.out (by decide)) hgs
              rw [hsn, hst] at HSt0
              have Hxi := Lib.hid hxi
              obtain ⟨op, xa, xb, type, xcls, name⟩ := x
              unfold insV at HSt0
              dsimp only at HSt0 Hjm
              have HS : Hid (∀ wx, Below wr.heap.size wr wx → LeastS wx w4.heap.size b (o + j * 3) b0 (o0 + i * 6) i (.slice (some ⟨b0, o0, none⟩) m.code.length kc) (.slice p1 f.locals.length n1) (.slice p2 f.stack.length n2) ⟨op, xa, xb, type, xcls, name⟩) := fun wx hb => LeastS.step ⟨(Hk8.out.step hB.out).cell 6, d0, d1, d2, c0, c1, c2, c3, c4, c5⟩ hb
              have HLt : Hid (w4.heap.size < wr.heap.size ∧ b < wr.heap.size ∧ b0 < wr.heap.size) := ⟨(Hk8.out.step hB.out).lt, cell_lt d0, cell_lt c0⟩
              have HSt : Hid (∀ wx, Below wr.heap.size wr wx → Calls Tryz.prog 17 #[.slice pl l.length cap, .string cls, .string g, .agg #[.int .i64 op, .int .i64 xa, .int .i64 xb, .string type, .string xcls, .string name], .agg #[.slice p1 f.locals.length n1, .slice p2 f.stack.length n2]] wx fun e w' => (∃ v1 v2, e = .returned (.tuple #[.agg #[v1, v2], .nilIface]) ∧ FrameAt w' v1 v2 ⟨L, S⟩) ∧ Below wx.heap.size wx w' ∧ LeastS w' w4.heap.size b (o + j * 3) b0 (o0 + i * 6) i (.slice (some ⟨b0, o0, none⟩) m.code.length kc) (.slice p1 f.locals.length n1) (.slice p2 f.stack.length n2) ⟨op, xa, xb, type, xcls, name⟩) := fun wx hb => (HSt0.out wx hb).mono fun e w' ⟨hB', hr⟩ => by
                refine ⟨?_, hB', HS.out w' (below_call hb (Nat.le_refl _) hB')⟩
                rcases hr with ⟨_, L', S', v1, v2, h1, h2, h3⟩ | ⟨h, _⟩
                · injection h1 with h1
                  injection h1 with h1 h1'
                  subst h1 h1'
                  exact ⟨v1, v2, h2, h3⟩
                · exact absurd rfl h
              obtain ⟨k0, k1, k2, k3, k4, k5, k6, k7, k8, k9⟩ := HS.out wr (Below.refl _ _)
              have hicI : (i : Int) < (m.code.length : Int) := by omega
              have Hnx := Lib.hid hnx
              have Hfr2 := Lib.hid hfr2
              have HBwr := Lib.hid Bw
              have HB := Lib.hid hB.out
              clear hx hxi hAi d0 d1 d2 c0 c1 c2 c3 c4 c5 hf hfr hfr2 hnx hst hsn HSt0 hxo hgs Bw Bw4 hB
              go_upto_region 19 with (first | fail)
              go_cut [18, 19] from 110 to 130 (fun p n wx => n = .nilIface ∧ GotAt wr wx ⟨L, S⟩ p)
              case first =>
                go_region_held3 (fun w' => w'.cell? ⟨w4.heap.size, 6, none⟩ = some (.slice (some ⟨b0, o0, none⟩) m.code.length kc) ∧ w'.cell? ⟨b, o + j * 3, none⟩ = some (.int .i64 (i : Int)) ∧ w'.cell? ⟨b, o + j * 3 + 1, none⟩ = some (.slice p1 f.locals.length n1) ∧ w'.cell? ⟨b, o + j * 3 + 1 + 1, none⟩ = some (.slice p2 f.stack.length n2) ∧ w'.cell? ⟨b0, o0 + i * 6, none⟩ = some (.int .i64 op) ∧ w'.cell? ⟨b0, o0 + i * 6 + 1, none⟩ = some (.int .i64 xa) ∧ w'.cell? ⟨b0, o0 + i * 6 + 1 + 1, none⟩ = some (.int .i64 xb) ∧ w'.cell? ⟨b0, o0 + i * 6 + 1 + 1 + 1, none⟩ = some (.string type) ∧ w'.cell? ⟨b0, o0 + i * 6 + 1 + 1 + 1 + 1, none⟩ = some (.string xcls) ∧ w'.cell? ⟨b0, o0 + i * 6 + 1 + 1 + 1 + 1 + 1, none⟩ = some (.string name))
                  (first | go_keep | exact LeastS.other (x := ⟨op, xa, xb, type, xcls, name⟩) ⟨k0, k1, k2, k3, k4, k5, k6, k7, k8, k9⟩ HLt.out.1 HLt.out.2.1 HLt.out.2.2 _ _)
                  (first
                    | (go_at_call 17; (with_reducible refine (HSt.out _ ?_).mono ?_); (first | exact (Below.refl _ _).drew | exact ((Below.refl _ _).alloc (Nat.le_refl _) _).drew); rintro e w3 ⟨⟨lv3, sv3, rfl, hv3⟩, hB3, k0, k1, k2, k3, k4, k5, k6, k7, k8, k9⟩; obtain ⟨⟨p3, n3, rfl, _⟩, ⟨p4, n4, rfl, _⟩⟩ := And.intro hv3.1.open hv3.2.open; (first | (have KB : Blk w3 wr.heap.size 27 [.slice none 0 0, .slice none 0 0] := Blk.step (w := (wr.alloc (.cells #[.slice none 0 0, .slice none 0 0] 27)).drew) (Blk.new wr 27 [.slice none 0 0, .slice none 0 0]) hB3; obtain ⟨x0, x1⟩ := KB.cells2; (have f0 := KB.frozen 0); (have f1 := KB.frozen 1)) | skip)))
                all_goals (go_wp2_with (first | fail); go_meet; first
                  | exact ⟨rfl, GotAt.late (below_call ((Below.refl _ _).drew) (Nat.le_refl _) hB3) hv3⟩
                  | exact ⟨rfl, GotAt.early (below_call ((Below.refl _ _).drew) (Nat.le_refl _) hB3) hv3⟩)
              case rest =>
                obtain ⟨rfl, nb, v1, v2, rfl, hnb, Kb, hBw, hFv⟩ := hcut
                clear k0 k1 k2 k3 k4 k5 k6 k7 k8 k9 HSt
                have HKb := Lib.hid Kb
                have HFv := Lib.hid hFv
                have HBc := Lib.hid hBw
                obtain ⟨k0, k1, _⟩ := HS.out wc hBw
                have HRa : Hid (∀ wx, Below wc.heap.size wc wx → Calls Tryz.prog 28 #[.slice (some ⟨b0, o0, none⟩) m.code.length kc, .int .i64 (i : Int)] wx fun e w' => (∃ v, e = .returned v ∧ Que w' wx.heap.size v (nextL ⟨op, xa, xb, type, xcls, name⟩ i)) ∧ Below wx.heap.size wx w' ∧ w'.cell? ⟨w4.heap.size, 6, none⟩ = some (.slice (some ⟨b0, o0, none⟩) m.code.length kc) ∧ w'.cell? ⟨b, o + j * 3, none⟩ = some (.int .i64 (i : Int))) := fun wx hb =>
                  (refAfter_any m.code (.slice (some ⟨b0, o0, none⟩) m.code.length kc) wx (Hcv.out.mono (below_call HB34.out (Nat.le_refl _) (below_call HB8.out (Nat.le_refl _) (below_call HB.out (Nat.le_refl _) (below_call HBc.out (Nat.le_refl _) hb)))) (by decide) (fun _ _ h => h)) i ⟨op, xa, xb, type, xcls, name⟩ Hxi.out (by omega) (fun hj => (Hjm.out hj).1)).mono fun e w' ⟨v, he, hB', hq⟩ => by
                    obtain ⟨k0', k1', _⟩ := HS.out w' (below_call HBc.out (Nat.le_refl _) (below_call hb (Nat.le_refl _) hB'))
                    exact ⟨⟨v, he, hq⟩, hB', k0', k1'⟩
                clear Kb hFv hBw
                generalize wc = w9 at *
                have hNl := nextL_len ⟨op, xa, xb, type, xcls, name⟩ i
                generalize nextL ⟨op, xa, xb, type, xcls, name⟩ i = N at *
                go_upto_region 22 with (first | fail)
                go_cut [20] from 133 to 140 (fun v wy => Below w9.heap.size w9 wy ∧ ∃ base, w9.heap.size ≤ base ∧ Que wy base v N)
                case first =>
                  go_region_held3 (fun w' => w'.cell? ⟨w4.heap.size, 6, none⟩ = some (.slice (some ⟨b0, o0, none⟩) m.code.length kc) ∧ w'.cell? ⟨b, o + j * 3, none⟩ = some (.int .i64 (i : Int)))
                    (first | go_keep)
                    (first
                      | (go_at_call 28; (with_reducible refine (HRa.out _ ?_).mono ?_); (exact (Below.refl _ _).drew); rintro e w5 ⟨⟨v5, rfl, hq5⟩, hB5, k0, k1⟩))
                  all_goals (go_wp2_with (first | fail); go_meet; exact ⟨below_call ((Below.refl _ _).drew) (Nat.le_refl _) hB5, _, Nat.le_refl _, hq5⟩)
                case rest =>
                  obtain ⟨hBa, base, hba, hq⟩ := hcut
                  obtain ⟨a6', c6', rfl⟩ := que_shape hq
                  obtain ⟨g6, hg1, hg2, g6c⟩ := que_nth hq
                  clear hg1 hg2
                  have HG6 := Lib.hid g6c
                  have HBa := Lib.hid hBa
                  clear k0 k1 HRa hq g6c hBa
                  generalize wc = w10 at *
                  go_wp2_with (first | fail)
                  go_loopw [21] (fun x wr => ∃ k : Nat, k ≤ N.length ∧ x = .int .i64 k ∧ Hid (Below w10.heap.size w10 wr)) (fun x _ => N.length - (intOf x).toNat)
                  case atStart => exact ⟨0, Nat.zero_le _, rfl, Below.refl _ _⟩
                  case round =>
                    obtain ⟨k, hk, rfl, hBk⟩ := hrel
                    by_cases hkl : k < N.length
                    · obtain ⟨q, hqk⟩ : ∃ x, N[k]? = some x := ⟨N[k], by simp [hkl]⟩
                      obtain ⟨off, capq, e, hc⟩ := HG6.out k q hqk
                      injection e with e1 _ e2
                      subst e1 e2
                      obtain ⟨hqn, h, hAq, hfh, hbl, hff⟩ := Hnx.out q (List.mem_of_getElem? hqk)
                      obtain ⟨hpn, hpx⟩ := placeN_all hqn hAq
                      obtain ⟨b', o', vs, e, ⟨lv2, sv2, rfl, hf2⟩, _, hcl⟩ := HMc.out _ _ hpx
                      injection e with e
                      injection e with e1 e2 _
                      subst e1 e2
                      have Bwk := below_call HBc.out (Nat.le_refl _) (below_call HBa.out (Nat.le_refl _) hBk.out)
                      have Bw8k := below_call HB.out (Nat.le_refl _) Bwk
                      have hcl := hcl.mono (below_call HB8.out (Nat.le_refl _) Bw8k) hcl.lt
                      obtain ⟨x0, x1, x2, _⟩ := hcl
                      have hf2 := hf2.mono (below_call HB8.out (Nat.le_refl _) Bw8k)
                      have p0 := (HP8.out.step Bw8k).cell q
                      rw [placeL_get A hqn, hpn, Int.natCast_add, Int.natCast_one] at p0
                      have hc2 : wr.cell? ⟨g6, off + k, none⟩ = some (.int .i64 (q : Int)) := (hBk.out.cell (cell_lt hc)).trans hc
                      have Kb2 := HKb.out.step (below_call HBa.out (Nat.le_refl _) hBk.out)
                      have y0 : wr.cell? ⟨nb, 0, none⟩ = some v1 := Kb2.cell 0
                      have y1 : wr.cell? ⟨nb, 1, none⟩ = some v2 := Kb2.cell 1
                      have hplen : (mapsL A q).length ≤ 40 := Nat.le_trans (mapsL_len A q) (by omega)
                      have hplx := (List.getElem?_eq_some_iff.1 hpx).1
                      have hplI : ((mapsL A q).length : Int) < ((mapsL A m.code.length).length : Int) := by omega
                      have HBl0 : Hid (∀ wx, Below wr.heap.size wr wx → _) := fun wx hb => frameBelow_any l (.slice pl l.length cap) ⟨L, S⟩ h v1 v2 lv2 sv2 wx (Hl.out.mono (below_call HBwr.out (Nat.le_refl _) (below_call Bwk (Nat.le_refl _) hb)) Hl.out.1) HO.out (HLv.out.mono (below_call HBwr.out (Nat.le_refl _) (below_call Bwk (Nat.le_refl _) hb))) (HFv.out.mono (below_call HBa.out (Nat.le_refl _) (below_call hBk.out (Nat.le_refl _) hb))) (hf2.mono hb) (frm_short Hfr2.out) (frm_short hfh)
                      rw [hbl, hff] at HBl0
                      obtain ⟨pl', hpl'⟩ : ∃ n, (mapsL A q).length = n := ⟨_, rfl⟩
                      rw [hpl'] at x1 x2 p0 hplen hplI
                      obtain ⟨pv, hpv⟩ : ∃ n : Int, (pl' : Int) + 1 = n := ⟨_, rfl⟩
                      rw [hpv] at p0
                      have hqI : (q : Int) < (m.code.length : Int) := by omega
                      have hb0 : (pv == 0) = false := by rw [beq_eq_false_iff_ne]; omega
                      have hklI : (k : Int) < (N.length : Int) := by omega
                      have hwr : IntKind.i64.wrap (pv - 1) = (pl' : Int) := by rw [IntWalk.i64_in _ (by omega)]; omega
                      have hp0 : (0 : Int) ≤ (pl' : Int) := Int.natCast_nonneg _
                      have hk0 : (0 : Int) ≤ (k : Int) := Int.natCast_nonneg _
                      have hq0 : (0 : Int) ≤ (q : Int) := Int.natCast_nonneg _
                      clear hpv
                      have hS6 : Hid (∀ wx, Below wr.heap.size wr wx → wx.cell? ⟨nb, 0, none⟩ = some v1 ∧ wx.cell? ⟨nb, 1, none⟩ = some v2 ∧ wx.cell? ⟨g6, off + k, none⟩ = some (.int .i64 (q : Int)) ∧ wx.cell? ⟨w6.heap.size, q, none⟩ = some (.int .i64 pv) ∧ wx.cell? ⟨b, o + pl' * 3 + 1, none⟩ = some lv2 ∧ wx.cell? ⟨b, o + pl' * 3 + 1 + 1, none⟩ = some sv2) := fun wx hb => ⟨(hb.cell (cell_lt y0)).trans y0, (hb.cell (cell_lt y1)).trans y1, (hb.cell (cell_lt hc2)).trans hc2, (hb.cell (cell_lt p0)).trans p0, (hb.cell (cell_lt x1)).trans x1, (hb.cell (cell_lt x2)).trans x2⟩
                      have HBl : Hid (∀ wx, Below wr.heap.size wr wx → Calls Tryz.prog 29 #[.slice pl l.length cap, .agg #[v1, v2], .agg #[lv2, sv2]] wx fun e w' => e = .returned (.tuple #[.bool true, .nilIface]) ∧ Below wx.heap.size wx w' ∧ w'.cell? ⟨nb, 0, none⟩ = some v1 ∧ w'.cell? ⟨nb, 1, none⟩ = some v2 ∧ w'.cell? ⟨g6, off + k, none⟩ = some (.int .i64 (q : Int)) ∧ w'.cell? ⟨w6.heap.size, q, none⟩ = some (.int .i64 pv) ∧ w'.cell? ⟨b, o + pl' * 3 + 1, none⟩ = some lv2 ∧ w'.cell? ⟨b, o + pl' * 3 + 1 + 1, none⟩ = some sv2) := fun wx hb => (HBl0.out wx hb).mono fun e w' ⟨he, hB'⟩ => ⟨he, hB', hS6.out w' (below_call hb (Nat.le_refl _) hB')⟩
                      clear HBl0 x0 Kb2 hf2 hfh hbl hff hAq hpn hpx hc Bwk Bw8k hqk hplx
                      go_upto_region 28 with (first | fail)
                      go_cut [22, 23] from 155 to 172 (fun u v wy => u = .bool true ∧ v = .nilIface ∧ Below wr.heap.size wr wy)
                      case first =>
                        clear hpl' hcl
                        go_region_held3 (fun w' => w'.cell? ⟨nb, 0, none⟩ = some v1 ∧ w'.cell? ⟨nb, 1, none⟩ = some v2 ∧ w'.cell? ⟨g6, off + k, none⟩ = some (.int .i64 (q : Int)) ∧ w'.cell? ⟨w6.heap.size, q, none⟩ = some (.int .i64 pv) ∧ w'.cell? ⟨b, o + pl' * 3 + 1, none⟩ = some lv2 ∧ w'.cell? ⟨b, o + pl' * 3 + 1 + 1, none⟩ = some sv2)
                          (first | go_keep)
                          (first
                            | (go_at_call 29; (with_reducible refine (HBl.out _ ?_).mono ?_); (exact (Below.refl _ _).drew); rintro e w5 ⟨rfl, hB5, y0, y1, hc2, p0, x1, x2⟩))
                        all_goals (go_wp2_with (first | fail); go_meet; exact ⟨rfl, rfl, below_call ((Below.refl _ _).drew) (Nat.le_refl _) hB5⟩)
                      case rest =>
                        obtain ⟨rfl, rfl, hBz⟩ := hcut
                        clear y0 y1 hc2 p0 x1 x2 hS6 HBl
                        go_wp2_with (first | fail)
                        go_roundw
                        case rel => exact ⟨k + 1, by omega, by simp, below_call hBk.out (Nat.le_refl _) hBz⟩
                        case measure => simp [intOf]; omega
                    · obtain rfl : k = N.length := by omega
                      go_wp2_with (first | fail)
                      go_roundw
                      case rel => exact ⟨j + 1, by omega, by simp, below_call HB.out (Nat.le_refl _) (below_call HBc.out (Nat.le_refl _) (below_call HBa.out (Nat.le_refl _) hBk.out))⟩
                      case measure => simp [intOf]; omega
            · obtain rfl : j = (mapsL A m.code.length).length := by omega
              obtain ⟨b, o, vs, rfl, ⟨lv, sv, rfl, hf⟩, _, hcells⟩ := HMc.out 0 _ HHd.out
              have hcells := hcells.mono (below_call HB8.out (Nat.le_refl _) hB.out) hcells.lt
              obtain ⟨c0, c1, c2, _⟩ := hcells
              replace c0 : wr.cell? ⟨b, o, none⟩ = some (.int .i64 0) := by simpa [intV] using c0
              have hlI : 0 < ((mapsL A m.code.length).length : Int) := by omega
              clear hf
              go_wp2_with (first | fail)
              go_ret
              exact ⟨rfl, below_call HBw8.out (Nat.le_refl _) hB.out⟩
  · replace HMe : Hid (∀ wx, Below w.heap.size w wx → Calls _ _ _ wx fun e w' => Below wx.heap.size wx w' ∧ ∃ n : Nat, n ≠ 0 ∧ e = .returned (.tuple #[.slice none 0 0, .iface 29 (.int .i64 n)])) := fun wx hb => (HMe.out wx hb).mono fun e w' ⟨hB, n, F, hC, hF⟩ => by
      cases F with
      | none => exact ⟨hB, n, hF⟩
      | some q =>
        obtain rfl := checkIs_zero hC
        exact absurd ⟨q, hC⟩ hex
    clear hex
    by_cases hz : namedN l cls at' = 0
    · have HZ := Lib.hid hz
      clear hz
      go_enter Tryz.func5, Tryz.ntmps5
      go_wp2_with (first
        | (go_at_call 20; (with_reducible refine (HCd.out).mono ?_); rintro e w2 ⟨rfl, hB2⟩)
        | (go_at_call 25; (with_reducible refine (HMe.out _ hB2).mono ?_); rintro e w3 ⟨hB3, n, hn0, rfl⟩; (have HB3 := Lib.hid (below_call hB2 (Nat.le_refl _) hB3)))
        | (go_at_call 23; (with_reducible refine (HMf.out _ HB3.out).mono ?_); rintro e w4 ⟨hB4, ⟨_, m, v, hnm, _, rfl, ⟨pc, kc, ph, kh, rfl, _⟩⟩ | ⟨hz, _⟩⟩; rotate_left; (exact absurd HZ.out hz)))
      go_ret
      exact ⟨rfl, (below_call HB3.out (Nat.le_refl _) hB4).alloc (Nat.le_trans HB3.out.size hB4.size) _⟩
    · have HZ := Lib.hid hz
      have hzI : ¬ ((namedN l cls at' : Nat) : Int) = 0 := by omega
      clear hz
      generalize namedN l cls at' = nn at *
      go_enter Tryz.func5, Tryz.ntmps5
      go_wp2_with (first
        | (go_at_call 20; (with_reducible refine (HCd.out).mono ?_); rintro e w2 ⟨rfl, hB2⟩)
        | (go_at_call 25; (with_reducible refine (HMe.out _ hB2).mono ?_); rintro e w3 ⟨hB3, n, hn0, rfl⟩; (have HB3 := Lib.hid (below_call hB2 (Nat.le_refl _) hB3)))
        | (go_at_call 23; (with_reducible refine (HMf.out _ HB3.out).mono ?_); rintro e w4 ⟨hB4, ⟨hz, _⟩ | ⟨_, rfl⟩⟩; (exact absurd hz HZ.out)))
      go_ret
      exact ⟨rfl, (below_call HB3.out (Nat.le_refl _) hB4).alloc (Nat.le_trans HB3.out.size hB4.size) _⟩
end Go.Proofs.YtlmfmioljeppfaaGreatDoor
