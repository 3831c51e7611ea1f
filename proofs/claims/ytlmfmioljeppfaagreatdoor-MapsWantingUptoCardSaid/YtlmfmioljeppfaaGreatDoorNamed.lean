/-
  WALK over check.Named. Conditions: as in XRead.
-/
import Derived.Test.YtlmfmioljeppfaaGreatDoorLooked
namespace Go.Proofs.YtlmfmioljeppfaaGreatDoor
open Go.RowKit Go.Shelf Go.Lib
def NamedPost (w : World) (l : List Class) (cls : Str) (at' : Int) (e : Ending) (w' : World) : Prop :=
  Below w.heap.size w w' ∧ ((namedN l cls at' = 0 ∧ ∃ m ws B v, namedM cls at' l = some m ∧ Hid (m.abs = false) ∧ e = .returned (.tuple #[.map (some B), v, .nilIface]) ∧ MethodIs w m v ∧ WorldMap ws w' B l) ∨
    (namedN l cls at' ≠ 0 ∧ e = .returned (.tuple #[.map none, .agg zMethod.toArray, .iface 29 (.int .i64 (namedN l cls at'))])))
theorem classMap_keep {w0 w w' : World} {B : Nat} {cs : List Class} (h : ClassMap w0 w B cs) (hb : Below w0.heap.size w0 w') (hh : w'.heap[B]? = w.heap[B]?) : ClassMap w0 w' B cs := by
  obtain ⟨_, h2, h3, es, clock, h4, h5, h6⟩ := h
  exact ⟨hb, h2, (Array.getElem?_eq_some_iff.1 (hh.trans h4)).1, es, clock, hh.trans h4, h5, h6⟩
theorem set8_other {w : World} {b B : Nat} (h : B ≠ b) (v0 v1 v2 v3 v4 v5 v6 v7 : Value) :
    ((((((((w.setCell ⟨b, 0, none⟩ v0).setCell ⟨b, 1, none⟩ v1).setCell ⟨b, 2, none⟩ v2).setCell ⟨b, 3, none⟩ v3).setCell ⟨b, 4, none⟩ v4).setCell ⟨b, 5, none⟩ v5).setCell ⟨b, 6, none⟩ v6).setCell ⟨b, 7, none⟩ v7).heap[B]? = w.heap[B]? :=
  (heap_setCell_other _ _ _ _ h).trans ((heap_setCell_other _ _ _ _ h).trans ((heap_setCell_other _ _ _ _ h).trans ((heap_setCell_other _ _ _ _ h).trans ((heap_setCell_other _ _ _ _ h).trans ((heap_setCell_other _ _ _ _ h).trans ((heap_setCell_other _ _ _ _ h).trans (heap_setCell_other _ _ _ _ h)))))))
theorem namedM_drop {cls : Str} {at' : Int} {l : List Class} {k : Nat} {c : Class} (hk : l[k]? = some c) : namedM cls at' (l.drop k) = if c.name = cls ∧ 0 ≤ at' ∧ at' < (c.methods.length : Int) then c.methods[at'.toNat]? else namedM cls at' (l.drop (k + 1)) := by
  obtain ⟨hk2, rfl⟩ := List.getElem?_eq_some_iff.1 hk
  rw [List.drop_eq_getElem_cons hk2]; rfl
set_option maxHeartbeats 4000000 in
set_option maxRecDepth 100000 in
theorem named_any (l : List Class) (lv : Value) (cls : Str) (at' : Int) (w : World) (hl : Laid w) (ho : ∀ c ∈ l, ClassOk c) (hlv : ClassesAt w lv l) :
    Calls Tryz.prog 62 #[lv, .string cls, .int .i64 at'] w (NamedPost w l cls at') := by
  have HRd : Hid (∀ wx, Below w.heap.size w wx → _) := fun wx hb => readB_any l lv w wx hb (hl.mono hb hl.1) ho hlv
  obtain ⟨pl, cap, rfl, hn1, hn2, hcc⟩ := hlv.open
  have HC := Lib.hid hcc
  have hlen : l.length ≤ 9223372036854775807 := Nat.le_trans hn1 hn2
  have B0 : Below w.heap.size w (w.alloc (.cells #[.string ⟨#[]⟩, .string ⟨#[]⟩, .bool false, .bool false, .bool false, .int .i64 0, .slice none 0 0, .slice none 0 0] 53)) := (Below.refl _ _).alloc (Nat.le_refl _) _
  have k0 := Blk.new w 53 zMethod
  clear hcc hlv hl ho
  unfold ReadPostB ReadPost at HRd
  by_cases hz : readFault l = 0
  · have HN : Hid (namedN l cls at' = match namedM cls at' l with | none => 3 | some m => if m.abs then 1 else 0) := by
      unfold Hid namedN
      rw [if_neg (by rw [hz]; decide)]
      cases namedM cls at' l <;> rfl
    have HZ := Lib.hid hz
    clear hz
    go_enter Tryz.func62, Tryz.ntmps62
    go_wp2_with (go_at_call 50; (with_reducible refine (HRd.out _ B0).mono ?_); rintro e w2 ⟨⟨hB2, ⟨_, rfl, _, _, hA, _, _⟩ | ⟨hz, _⟩⟩, hMb⟩; rotate_left; (exact absurd HZ.out hz))
    have k2 := k0.step hB2
    have B2 := below_call B0 (Nat.le_refl _) hB2
    have HB2 := Lib.hid B2
    have Hk2 := Lib.hid k2
    have hM := hMb HZ.out
    rw [World.size_alloc] at hM
    have Hm := Lib.hid hM
    have HR := Lib.hid (And.intro (right_of HZ.out) hA)
    clear k0 B0 hB2 B2 k2 hM hMb hA HRd
    go_loopw [24] (fun x wr => ∃ k : Nat, k ≤ l.length ∧ x = .int .i64 k ∧ Hid (Below w2.heap.size w2 wr) ∧ Hid (namedM cls at' (l.drop k) = namedM cls at' l)) (fun x _ => l.length - (intOf x).toNat)
    case atStart => exact ⟨0, Nat.zero_le _, rfl, Below.refl _ _, rfl⟩
    case round =>
      obtain ⟨k, hk, rfl, hB, hN⟩ := hrel
      by_cases hkl : k < l.length
      · obtain ⟨c, hx⟩ : ∃ x, l[k]? = some x := ⟨l[k], by simp [hkl]⟩
        obtain ⟨b, o, vs, rfl, ⟨fv, dv, mv, rfl, q1, q2, q3⟩, _, hcells⟩ := HC.out k c hx
        have hcells := hcells.mono (below_call HB2.out (Nat.le_refl _) hB.out) hcells.lt
        have hstep := namedM_drop (cls := cls) (at' := at') hx
        rw [hN.out] at hstep
        obtain ⟨cn, cs, cf, cb, cd, cm⟩ := c
        dsimp only at hstep hcells q3
        obtain ⟨c0, c1, c2, c3, c4, c5, _⟩ := hcells
        obtain ⟨pm, km, rfl, hm1, hm2, hmc⟩ := q3.open
        obtain ⟨pf, kf, rfl, _⟩ := q1.open
        obtain ⟨pd, kd, rfl, _⟩ := q2.open
        have e1 := strEq cn cls
        have hmlen : cm.length ≤ 9223372036854775807 := Nat.le_trans hm1 hm2
        have HMc := Lib.hid hmc
        have Hx := Lib.hid hx
        clear hx hmc q1 q2 q3
        by_cases hcn : cn = cls
        · rw [decide_eq_true hcn] at e1
          by_cases ha : 0 ≤ at' ∧ at' < (cm.length : Int)
          · obtain ⟨ha0, ha1⟩ := ha
            obtain ⟨a, rfl⟩ := Int.eq_ofNat_of_zero_le ha0
            rw [if_pos ⟨hcn, ha0, ha1⟩] at hstep
            have hal : a < cm.length := by omega
            obtain ⟨mm, hmm⟩ : ∃ x, cm[a]? = some x := ⟨cm[a], by simp [hal]⟩
            have hst : namedM cls (a : Int) l = some mm := by rw [hstep]; exact hmm
            obtain ⟨bb, oo, vs, rfl, ⟨cv, hv, rfl, k1, k2⟩, _, hcl⟩ := HMc.out a mm hmm
            have hcl := hcl.mono (below_call HB2.out (Nat.le_refl _) hB.out) hcl.lt
            obtain ⟨pc, kc, rfl, _⟩ := k1.open
            obtain ⟨ph, kh, rfl, _⟩ := k2.open
            have HMi : Hid (MethodIs w mm (.agg #[.string mm.name, .string mm.type, .bool mm.static, .bool mm.abs, .bool mm.priv, .int .i64 mm.locals, .slice pc mm.code.length kc, .slice ph mm.handlers.length kh])) := ⟨pc, kc, ph, kh, rfl, k1, k2⟩
            have HSt := Lib.hid hst
            have hN1 : Hid (namedN l cls (a : Int) = if mm.abs then 1 else 0) := by
              unfold Hid
              rw [HN.out, hst]
            clear hst hstep hmm k1 k2 HN hN ha0
            subst hcn
            obtain ⟨mn, mt, mst, mab, mpr, mlo, mco, mha⟩ := mm
            dsimp only at hcl hN1 HMi
            have hBa : Below wr.heap.size wr (wr.alloc (.cells #[.string cn, .string cs, .slice pf cf.length kf, .bool cb, .slice pd cd.length kd, .slice (some ⟨bb, oo, none⟩) cm.length km] 36)) := (Below.refl _ _).alloc (Nat.le_refl _) _
            have g5 := (Blk.new wr 36 [.string cn, .string cs, .slice pf cf.length kf, .bool cb, .slice pd cd.length kd, .slice (some ⟨bb, oo, none⟩) cm.length km]).cell 5
            obtain ⟨u0, u1, u2, u3, u4, u5, u6, u7, _⟩ := hcl.mono hBa hcl.lt
            have u3' : (wr.alloc (.cells #[.string cn, .string cs, .slice pf cf.length kf, .bool cb, .slice pd cd.length kd, .slice (some ⟨bb, oo, none⟩) cm.length km] 36)).cell? ⟨bb, oo + a * 8 + 3, none⟩ = some (.bool mab) := u3
            have k3 := (Hk2.out.step hB.out).step hBa
            have B3 := below_call (below_call HB2.out (Nat.le_refl _) hB.out) (Nat.le_refl _) hBa
            have HM3 := Lib.hid ((Hm.out.step hB.out).step hBa)
            clear hBa
            obtain ⟨q0, q1, q2, q3, q4, q5, q6, q7⟩ := k3.method
            have hfz := k3.frozen
            have HSt2 := HSt.out
            cases mab with
            | true =>
              have HN2 : Hid (namedN l cn (a : Int) = 1) := hN1.out
              have HE := Lib.hid (below_set8 B3 (Nat.le_refl _) (.string ⟨#[]⟩) (.string ⟨#[]⟩) (.bool false) (.bool false) (.bool false) (.int .i64 0) (.slice none 0 0) (.slice none 0 0))
              clear B3 k3 HSt2 hN1 HM3
              go_wp2_with (first | fail)
              exact bodyPost_ret (v := .tuple #[.map none, .agg zMethod.toArray, .iface 29 (.int .i64 1)]) (by simp [results, Tryz.results62, go_sem, *, zMethod]) rfl ⟨HE.out, Or.inr ⟨by rw [HN2.out]; decide, by rw [HN2.out]; rfl⟩⟩
            | false =>
              have HN2 : Hid (namedN l cn (a : Int) = 0) := hN1.out
              have hE := below_set8 B3 (Nat.le_refl _) (.string mn) (.string mt) (.bool mst) (.bool false) (.bool mpr) (.int .i64 mlo) (.slice pc mco.length kc) (.slice ph mha.length kh)
              have hM4 := (classMap_keep HM3.out hE (set8_other (Nat.succ_ne_self _) (.string mn) (.string mt) (.bool mst) (.bool false) (.bool mpr) (.int .i64 mlo) (.slice pc mco.length kc) (.slice ph mha.length kh))).step ((Below.refl _ _).drew)
              have HE := Lib.hid hE.drew
              have HM4 : Hid (WorldMap _ _ _ _) := ⟨hM4, HR.out.1, HR.out.2⟩
              have HS2 := Lib.hid HSt2
              clear B3 k3 HSt2 hN1 HM3 hE hM4
              go_upto_region 10 with (first | fail)
              go_region
              clear u0 u1 u2 u3 u4 u5 u6 u7 u3' g5
              all_goals
                go_wp2_with (first | fail)
                exact bodyPost_ret (v := .tuple #[.map (some (w.heap.size + 1)), .agg #[.string mn, .string mt, .bool mst, .bool false, .bool mpr, .int .i64 mlo, .slice pc mco.length kc, .slice ph mha.length kh], .nilIface]) (by simp [results, Tryz.results62, go_sem, *]) rfl ⟨HE.out, Or.inl ⟨HN2.out, _, w, w.heap.size + 1, _, HS2.out, rfl, rfl, HMi.out, HM4.out⟩⟩
          · rw [if_neg (fun h => ha h.2)] at hstep
            have hst := Lib.hid hstep.symm
            have HI := Lib.hid ha
            clear hstep ha
            by_cases h0 : 0 ≤ at'
            · have h1 : ¬ at' < (cm.length : Int) := fun h => HI.out ⟨h0, h⟩
              go_wp2_with (first | fail)
              go_roundw
              case rel => exact ⟨k + 1, by omega, by simp, hB.out.alloc hB.out.size _, hst⟩
              case measure => simp [intOf]; omega
            · go_wp2_with (first | fail)
              go_roundw
              case rel => exact ⟨k + 1, by omega, by simp, hB.out.alloc hB.out.size _, hst⟩
              case measure => simp [intOf]; omega
        · rw [decide_eq_false hcn] at e1
          rw [if_neg (fun h => hcn h.1)] at hstep
          have hst := Lib.hid hstep.symm
          clear hstep hcn
          go_wp2_with (first | fail)
          go_roundw
          case rel => exact ⟨k + 1, by omega, by simp, hB.out.alloc hB.out.size _, hst⟩
          case measure => simp [intOf]; omega
      · obtain rfl : k = l.length := by omega
        have hNo : namedM cls at' l = none := by
          rw [← hN.out, List.drop_length]; rfl
        have HN3 : Hid (namedN l cls at' = 3) := by
          unfold Hid
          rw [HN.out, hNo]
        have k3 := Hk2.out.step hB.out
        obtain ⟨q0, q1, q2, q3, q4, q5, q6, q7⟩ := k3.method
        have hfz := k3.frozen
        have HE := Lib.hid (below_set8 (below_call HB2.out (Nat.le_refl _) hB.out) (Nat.le_refl _) (.string ⟨#[]⟩) (.string ⟨#[]⟩) (.bool false) (.bool false) (.bool false) (.int .i64 0) (.slice none 0 0) (.slice none 0 0))
        clear k3
        go_wp2_with (first | fail)
        exact bodyPost_ret (v := .tuple #[.map none, .agg zMethod.toArray, .iface 29 (.int .i64 3)]) (by simp [results, Tryz.results62, go_sem, *, zMethod]) rfl ⟨HE.out, Or.inr ⟨by rw [HN3.out]; decide, by rw [HN3.out]; rfl⟩⟩
  · have HN : Hid (namedN l cls at' = readFault l) := by
      unfold Hid namedN
      rw [if_pos hz]
    have HZ := Lib.hid hz
    clear hz
    go_enter Tryz.func62, Tryz.ntmps62
    go_upto_region 3 with (go_at_call 50; (with_reducible refine (HRd.out _ B0).mono ?_); rintro e w2 ⟨⟨hB2, ⟨hz, _⟩ | ⟨_, rfl⟩⟩, _⟩; (exact absurd hz HZ.out))
    have k3 := k0.step hB2
    obtain ⟨q0, q1, q2, q3, q4, q5, q6, q7⟩ := k3.method
    have hfz := k3.frozen
    have HE := Lib.hid (below_set8 (below_call B0 (Nat.le_refl _) hB2) (Nat.le_refl _) (.string ⟨#[]⟩) (.string ⟨#[]⟩) (.bool false) (.bool false) (.bool false) (.int .i64 0) (.slice none 0 0) (.slice none 0 0))
    clear k3 k0
    go_wp2_with (first | fail)
    exact bodyPost_ret (v := .tuple #[.map none, .agg zMethod.toArray, .iface 29 (.int .i64 (readFault l))]) (by simp [results, Tryz.results62, go_sem, *, zMethod]) rfl ⟨HE.out, Or.inr ⟨by rw [HN.out]; exact HZ.out, by rw [HN.out]⟩⟩
end Go.Proofs.YtlmfmioljeppfaaGreatDoor
