/-
  WALK over class.Check. Conditions: as in XClassBody, for each part of the class.
-/
import Derived.Test.YtlmfmioljeppfaaGreatDoorClassMethod
namespace Go.Proofs.YtlmfmioljeppfaaGreatDoor
open Go.RowKit Go.Shelf Go.Lib
structure ClassOk (c : Class) : Prop where
  name : c.name.size ≤ 1048576
  super : c.super.size ≤ 1048576
  faces : ∀ x ∈ c.faces, x.size ≤ 1048576
  fields : ∀ x ∈ c.fields, x.name.size ≤ 1048576 ∧ x.type.size ≤ 1048576
  methods : ∀ x ∈ c.methods, MethodOk x
def classV (c : Class) (fv dv mv : Value) : Value := .agg #[.string c.name, .string c.super, fv, .bool c.face, dv, mv]
theorem foldFault_drop {α : Type} (f : α → List α → Nat) (l : List α) (k : Nat) (x : α) (h : l[k]? = some x) :
    foldFault f (l.take k) (l.drop k) = if f x (l.take k) = 0 then foldFault f (l.take (k + 1)) (l.drop (k + 1)) else f x (l.take k) := by
  obtain ⟨hk, rfl⟩ := List.getElem?_eq_some_iff.1 h
  rw [List.drop_eq_getElem_cons hk, foldFault, List.take_succ_eq_append_getElem hk]
theorem boxed6 {w wx : World} {a0 a1 a2 a3 a4 a5 : Value} (h : Boxed w wx [a0, a1, a2, a3, a4, a5]) :
    wx.cell? ⟨w.heap.size, 0, none⟩ = some a0 ∧ wx.cell? ⟨w.heap.size, 1, none⟩ = some a1 ∧ wx.cell? ⟨w.heap.size, 2, none⟩ = some a2 ∧ wx.cell? ⟨w.heap.size, 3, none⟩ = some a3 ∧
    wx.cell? ⟨w.heap.size, 4, none⟩ = some a4 ∧ wx.cell? ⟨w.heap.size, 5, none⟩ = some a5 := by
  obtain ⟨c0, c1, c2, c3, c4, c5, _⟩ := h.cells
  exact ⟨c0, c1, c2, c3, c4, c5⟩
theorem errV_name (s : ByteArray) : errV (nameFault s) = if nameB (lst s) then .nilIface else .iface 29 (.int .i64 1) := by
  unfold nameFault lst; cases nameB s.data.toList <;> simp [errV]
theorem errV_type (s : ByteArray) : errV (typeFault s) = if typeB (lst s) then .nilIface else .iface 29 (.int .i64 1) := by
  unfold typeFault lst; cases typeB s.data.toList <;> simp [errV]
theorem boxed2 {w wx : World} {a0 a1 : Value} (h : Boxed w wx [a0, a1]) : wx.cell? ⟨w.heap.size, 0, none⟩ = some a0 ∧ wx.cell? ⟨w.heap.size, 1, none⟩ = some a1 := by
  obtain ⟨c0, c1, _⟩ := h.cells
  exact ⟨c0, c1⟩
set_option maxHeartbeats 4000000 in
set_option maxRecDepth 100000 in
theorem class_any (c : Class) (fv dv mv : Value) (w : World) (hl : Laid w) (ho : ClassOk c) (hf : StrsAt w fv c.faces) (hd : SliceOf w 2 FieldCells dv c.fields) (hm : SliceOf w 8 (MethodCells w) mv c.methods) (v : Value) (hfv : errV (classFault c) = v) :
    Calls Tryz.prog 87 #[classV c fv dv mv] w fun e w' => e = .returned v ∧ Below w.heap.size w w' := by
  have HNa : Hid (∀ wx, _) := fun wx => nameCheck_any c.name wx (Nat.le_trans ho.name (by decide))
  have HSu : Hid (∀ wx, _) := fun wx => nameCheck_any c.super wx (Nat.le_trans ho.super (by decide))
  rw [errV_name] at HNa HSu
  obtain ⟨pf, capf, rfl, hf1, hf2, hfc⟩ := hf.open
  obtain ⟨pd, capd, rfl, hd1, hd2, hdc⟩ := hd.open
  obtain ⟨pm, capm, rfl, hm1, hm2, hmc⟩ := hm.open
  have hmf : ∀ fn first cap w, (Instr.makeFunc fn first cap).run Tryz.prog w = .ok (.func fn first cap) w := fun _ _ _ _ => rfl
  have HL : Hid (∀ wx, Below w.heap.size w wx → Laid wx) := fun wx hb => hl.mono hb hl.1
  have HO := Lib.hid ho
  have HFS := Lib.hid hf
  have HDS := Lib.hid hd
  have HMS := Lib.hid hm
  have HFC := Lib.hid hfc
  have HDC := Lib.hid hdc
  have HMC := Lib.hid hmc
  clear hf hd hm hfc hdc hmc hl ho
  obtain ⟨name, super, faces, face, fields, methods⟩ := c
  unfold classV
  dsimp only at *
  have HF : Hid (v = errV (if !nameB (lst name) || (super.size != 0 && !nameB (lst super)) then 1
    else if foldFault faceFault [] faces ≠ 0 then foldFault faceFault [] faces
    else if 8 < faces.length ∨ 8 < fields.length ∨ 8 < methods.length then 4
    else if foldFault fieldFault [] fields ≠ 0 then foldFault fieldFault [] fields
    else if foldFault methodFault [] methods ≠ 0 then foldFault methodFault [] methods
    else if face && !fields.isEmpty then 8 else 0)) := hfv.symm
  clear hfv
  have zs : (super.size != 0) = !super.toList.isEmpty := by rw [empty_iff]; rfl
  rw [zs] at HF; clear zs
  obtain ⟨ke, he⟩ : ∃ k, super.toList.isEmpty = k := ⟨_, rfl⟩
  rw [he] at HF
  generalize nameB (lst name) = kn at *
  generalize nameB (lst super) = ks at *
  by_cases hbad : (!kn || (!ke && !ks)) = true
  · have hfin : Hid (v = .iface 29 (.int .i64 1)) := by rw [HF.out, if_pos hbad]; rfl
    clear HF
    go_enter Tryz.func87, Tryz.ntmps87
    cases kn <;> cases ke <;> cases ks <;> first | (exact absurd hbad (by decide)) | skip
    all_goals
      clear hbad
      simp only [if_true, if_false, Bool.false_eq_true] at HNa HSu
      go_wp2_with (first | (go_at_call 97; (with_reducible refine (HNa.out _).mono ?_); rintro e w2 ⟨rfl, hB⟩; obtain ⟨hcl, _⟩ := bcell hB; (have q1 := hcl w.heap.size 1 (by simp))) | (go_at_call 97; (with_reducible refine (HSu.out _).mono ?_); rintro e w3 ⟨rfl, hB3⟩))
      cases hfin.out
      go_ret
      first | exact ⟨rfl, below_call ((Below.refl _ _).alloc (Nat.le_refl _) _) (Nat.le_refl _) hB⟩ | exact ⟨rfl, below_call (below_call ((Below.refl _ _).alloc (Nat.le_refl _) _) (Nat.le_refl _) hB) (Nat.le_refl _) hB3⟩
  · rw [if_neg hbad] at HF
    go_enter Tryz.func87, Tryz.ntmps87
    go_upto_region 1 with (first | fail)
    go_cut [24] (fun s wx => s = .bool false ∧ Boxed w wx [.string name, .string super, .slice pf faces.length capf, .bool face, .slice pd fields.length capd, .slice pm methods.length capm])
    case first =>
      clear HF
      cases kn <;> cases ke <;> cases ks <;> first | (exact absurd (show (!false || _) = true from rfl) hbad) | (exact absurd (show (!true || (!false && !false)) = true from rfl) hbad) | skip
      all_goals
        clear hbad
        simp only [if_true, if_false, Bool.false_eq_true] at HNa HSu
        go_wp2_with (first | (go_at_call 97; (with_reducible refine (HNa.out _).mono ?_); rintro e w2 ⟨rfl, hB⟩; obtain ⟨hcl, _⟩ := bcell hB; (have q1 := hcl w.heap.size 1 (by simp))) | (go_at_call 97; (with_reducible refine (HSu.out _).mono ?_); rintro e w3 ⟨rfl, hB3⟩))
        go_meet
        first | exact ⟨rfl, Boxed.step (wx := w.alloc _) ⟨(Below.refl _ _).alloc (Nat.le_refl _) _, by simp, by simp [Cells]⟩ hB⟩ | exact ⟨rfl, Boxed.step (Boxed.step (wx := w.alloc _) ⟨(Below.refl _ _).alloc (Nat.le_refl _) _, by simp, by simp [Cells]⟩ hB) hB3⟩
    case rest =>
      obtain ⟨rfl, BX⟩ := hcut
      clear hbad HNa HSu he
      obtain ⟨q0, q1, q2, q3, q4, q5⟩ := boxed6 BX
      go_wp2_with (first | fail)
      go_loopw [29] (fun x wr => ∃ k, k ≤ faces.length ∧ Hid (foldFault faceFault (faces.take k) (faces.drop k) = foldFault faceFault [] faces) ∧ Boxed w wr [.string name, .string super, .slice pf faces.length capf, .bool face, .slice pd fields.length capd, .slice pm methods.length capm] ∧ x = .int .i64 k) (fun x _ => faces.length - (intOf x).toNat)
      case atStart => exact ⟨0, by omega, rfl, BX, rfl⟩
      case round =>
        obtain ⟨k, hk, hff, BX, rfl⟩ := hrel
        clear q0 q1 q2 q3 q4 q5
        obtain ⟨q0, q1, q2, q3, q4, q5⟩ := boxed6 BX
        have hlen : faces.length ≤ 9223372036854775807 := Nat.le_trans hf1 hf2
        by_cases hkl : k < faces.length
        · obtain ⟨x, hx⟩ : ∃ x, faces[k]? = some x := ⟨faces[k], by simp [hkl]⟩
          have hxs := HO.out.faces x (List.mem_of_getElem? hx)
          obtain ⟨b, o, vs, rfl, rfl, _, hcells⟩ := HFC.out k x hx
          have hcells := hcells.mono BX.below hcells.lt
          have hstep := foldFault_drop faceFault faces k x hx
          rw [hff.out] at hstep
          have HN : Hid (∀ wx, _) := fun wx => nameCheck_any x wx (Nat.le_trans hxs (by decide))
          rw [errV_name] at HN
          have hct : ∀ wx, Below w.heap.size w wx → _ := fun wx hb => contains_any (faces.take k) (.slice (some ⟨b, o, none⟩) k capf) x wx ((SliceOf.take HFS.out rfl rfl hk).mono hb (by decide) (fun _ _ h => h))
          have HC := Lib.hid hct
          have HX := Lib.hid hx; clear hx hct hxs
          rw [show faceFault x (faces.take k) = if !nameB (lst x) then 1 else if memB (faces.take k) x then 5 else 0 from rfl] at hstep
          obtain ⟨c0, _⟩ := hcells
          rw [Nat.mul_one] at c0
          generalize memB (faces.take k) x = km at *
          generalize nameB (lst x) = kx at *
          cases kx with
          | false =>
            replace hstep : foldFault faceFault [] faces = 1 := hstep
            have hfin : Hid (v = .iface 29 (.int .i64 1)) := by rw [HF.out, if_pos (by rw [hstep]; decide), hstep]; rfl
            simp only [if_false, Bool.false_eq_true] at HN
            clear HF hstep hff HC
            go_wp2_with (first | (go_at_call 97; (with_reducible refine (HN.out _).mono ?_); rintro e w2 ⟨rfl, hB⟩))
            cases hfin.out
            go_ret
            exact ⟨rfl, (BX.step hB).below⟩
          | true =>
            simp only [if_true] at HN
            go_upto_region 8 with (go_at_call 97; (with_reducible refine (HN.out _).mono ?_); rintro e w2 ⟨rfl, hB⟩)
            replace BX := BX.step hB
            clear q0 q1 q2 q3 q4 q5 hB
            obtain ⟨q0, q1, q2, q3, q4, q5⟩ := boxed6 BX
            cases km with
            | true =>
              replace hstep : foldFault faceFault [] faces = 5 := hstep
              have hfin : Hid (v = .iface 29 (.int .i64 5)) := by rw [HF.out, if_pos (by rw [hstep]; decide), hstep]; rfl
              clear HF hstep hff
              go_wp2_with (first | (go_at_call 119; (with_reducible refine (HC.out _ BX.below).mono ?_); rintro e w3 ⟨rfl, rfl⟩))
              cases hfin.out
              go_ret
              exact ⟨rfl, BX.below⟩
            | false =>
              have hst := Lib.hid hstep.symm
              clear HF hstep hff
              go_wp2_with (first | (go_at_call 119; (with_reducible refine (HC.out _ BX.below).mono ?_); rintro e w3 ⟨rfl, rfl⟩))
              exact ⟨⟨k + 1, by omega, hst.out, BX, by simp⟩, by simp [intOf]; omega⟩
        · have hff0 : Hid (foldFault faceFault [] faces = 0) := by
            rw [← hff.out, List.drop_eq_nil_of_le (by omega)]; rfl
          clear hff
          obtain rfl : k = faces.length := by omega
          rw [if_neg (by rw [hff0.out]; decide)] at HF
          clear HFC HFS hff0
          by_cases hmx : 8 < faces.length ∨ 8 < fields.length ∨ 8 < methods.length
          · have hfin : Hid (v = .iface 29 (.int .i64 4)) := by rw [HF.out, if_pos hmx]; rfl
            clear HF
            go_wp2_with (first | fail)
            all_goals first | (exfalso; omega) | skip
            all_goals
              cases hfin.out
              go_ret
              exact ⟨rfl, BX.below⟩
          · rw [if_neg hmx] at HF
            simp only [not_or, Nat.not_lt] at hmx
            obtain ⟨m1, m2, m3⟩ := hmx
            go_upto_region 11 with (first | fail)
            go_cut [56] (fun s wx => s = .bool false ∧ wx = wr)
            case first =>
              clear HF
              go_wp2_with (first | fail)
              all_goals first | (exfalso; omega) | skip
              all_goals
                go_meet
                exact ⟨by simp; omega, rfl⟩
            case rest =>
            obtain ⟨rfl, rfl⟩ := hcut
            go_wp2_with (first | fail)
            go_loopw [61] (fun x wr => ∃ k, k ≤ fields.length ∧ Hid (foldFault fieldFault (fields.take k) (fields.drop k) = foldFault fieldFault [] fields) ∧ Boxed w wr [.string name, .string super, .slice pf faces.length capf, .bool face, .slice pd fields.length capd, .slice pm methods.length capm] ∧ x = .int .i64 k) (fun x _ => fields.length - (intOf x).toNat)
            case atStart => exact ⟨0, by omega, rfl, BX, rfl⟩
            case round =>
              obtain ⟨k, hk, hff, BX, rfl⟩ := hrel
              clear q0 q1 q2 q3 q4 q5
              obtain ⟨q0, q1, q2, q3, q4, q5⟩ := boxed6 BX
              have hlen : fields.length ≤ 9223372036854775807 := Nat.le_trans hd1 hd2
              by_cases hkl : k < fields.length
              · obtain ⟨x, hx⟩ : ∃ x, fields[k]? = some x := ⟨fields[k], by simp [hkl]⟩
                have hxs := HO.out.fields x (List.mem_of_getElem? hx)
                obtain ⟨b, o, vs, rfl, rfl, _, hcells⟩ := HDC.out k x hx
                have hcells := hcells.mono BX.below hcells.lt
                have hstep := foldFault_drop fieldFault fields k x hx
                rw [hff.out, show fieldFault x (fields.take k) = if !nameB (lst x.name) || !typeB (lst x.type) then 1 else if (fields.take k).any fun y => decide (y.name = x.name) then 5 else 0 from rfl] at hstep
                have HN : Hid (∀ wx, _) := fun wx => nameCheck_any x.name wx (Nat.le_trans hxs.1 (by decide))
                have HT : Hid (∀ wx, _) := fun wx => descCheck_any x.type wx (Nat.le_trans hxs.2 (by decide))
                rw [errV_name] at HN
                rw [errV_type] at HT
                have HA : Hid (∀ wx, Boxed wr wx [.string x.name, .string x.type] → Calls Tryz.prog 120 #[.slice (some ⟨b, o, none⟩) k capd, .func (.func 121) #[] #[.pointer (some ⟨wr.heap.size, 0, none⟩)]] wx fun e w' => e = .returned (.bool ((fields.take k).any fun y => decide (y.name = x.name))) ∧ Below wx.heap.size wx w') := by
                  intro wx BY
                  refine anyFunc_field FieldCells (fun y => decide (y.name = x.name)) 121 _ (enters_of Tryz.func121 (by kernel_rfl) rfl) (fields.take k) _ wx ((SliceOf.take HDS.out rfl rfl hk).mono (BX.step BY.below).below (by decide) (fun _ _ h => h)) ?_
                  rintro W y a0 a1 hy hh hW
                  unfold FieldCells at hh
                  simp only [List.cons.injEq] at hh
                  obtain ⟨rfl, rfl, _⟩ := hh
                  show Calls Tryz.prog 121 #[.agg #[.string y.name, .string y.type], .pointer (some ⟨wr.heap.size, 0, none⟩)] W _
                  exact check1_any y _ _ W (Nat.lt_of_lt_of_le BY.size hW.size) ((hW.cell (p := ⟨_, 0, none⟩) BY.size).trans (boxed2 BY).1)
                have HX := Lib.hid hx; clear hx hxs
                obtain ⟨c0, c1, _⟩ := hcells
                have hszw := BX.size
                generalize ((fields.take k).any fun y => decide (y.name = x.name)) = km at *
                generalize nameB (lst x.name) = kx at *
                generalize typeB (lst x.type) = kt at *
                cases kx with
                | false =>
                  replace hstep : foldFault fieldFault [] fields = 1 := hstep
                  have hfin : Hid (v = .iface 29 (.int .i64 1)) := by rw [HF.out, if_pos (by rw [hstep]; decide), hstep]; rfl
                  simp only [if_false, Bool.false_eq_true] at HN
                  clear HF hstep hff HA HT
                  go_wp2_with (first | (go_at_call 97; (with_reducible refine (HN.out _).mono ?_); rintro e w2 ⟨rfl, hB⟩))
                  cases hfin.out
                  go_ret
                  exact ⟨rfl, ((BX.alloc _).step hB).below⟩
                | true =>
                  simp only [if_true] at HN
                  cases kt with
                  | false =>
                    replace hstep : foldFault fieldFault [] fields = 1 := hstep
                    have hfin : Hid (v = .iface 29 (.int .i64 1)) := by rw [HF.out, if_pos (by rw [hstep]; decide), hstep]; rfl
                    simp only [if_false, Bool.false_eq_true] at HT
                    clear HF hstep hff HA
                    go_wp2_with (first | (go_at_call 97; (with_reducible refine (HN.out _).mono ?_); rintro e w2 ⟨rfl, hB⟩; obtain ⟨hcl, _⟩ := bcell hB; (have r1 := hcl wr.heap.size 1 (by simp))) | (go_at_call 53; (with_reducible refine (HT.out _).mono ?_); rintro e w3 ⟨rfl, hB3⟩))
                    cases hfin.out
                    go_ret
                    exact ⟨rfl, (((BX.alloc _).step hB).step hB3).below⟩
                  | true =>
                    simp only [if_true] at HT
                    go_upto_region 18 with (first | (go_at_call 97; (with_reducible refine (HN.out _).mono ?_); rintro e w2 ⟨rfl, hB⟩; obtain ⟨hcl, _⟩ := bcell hB; (have r1 := hcl wr.heap.size 1 (by simp))) | (go_at_call 53; (with_reducible refine (HT.out _).mono ?_); rintro e w3 ⟨rfl, hB3⟩))
                    have BY : Boxed wr w3 [.string x.name, .string x.type] := Boxed.step (Boxed.step (wx := wr.alloc _) ⟨(Below.refl _ _).alloc (Nat.le_refl _) _, by simp, by simp [Cells]⟩ hB) hB3
                    replace BX := BX.step BY.below
                    clear q0 q1 q2 q3 q4 q5 r1 hcl hB hB3
                    obtain ⟨q0, q1, q2, q3, q4, q5⟩ := boxed6 BX
                    cases km with
                    | true =>
                      replace hstep : foldFault fieldFault [] fields = 5 := hstep
                      have hfin : Hid (v = .iface 29 (.int .i64 5)) := by rw [HF.out, if_pos (by rw [hstep]; decide), hstep]; rfl
                      clear HF hstep hff
                      go_wp2_with (first | (go_at_call 120; (with_reducible refine (HA.out _ BY).mono ?_); rintro e w4 ⟨rfl, hB4⟩))
                      cases hfin.out
                      go_ret
                      exact ⟨rfl, (BX.step hB4).below⟩
                    | false =>
                      have hst := Lib.hid hstep.symm
                      clear HF hstep hff
                      go_wp2_with (first | (go_at_call 120; (with_reducible refine (HA.out _ BY).mono ?_); rintro e w4 ⟨rfl, hB4⟩))
                      exact ⟨⟨k + 1, by omega, hst.out, BX.step hB4, by simp⟩, by simp [intOf]; omega⟩
              · have hff0 : Hid (foldFault fieldFault [] fields = 0) := by
                  rw [← hff.out, List.drop_eq_nil_of_le (by omega)]; rfl
                clear hff
                obtain rfl : k = fields.length := by omega
                rw [if_neg (by rw [hff0.out]; decide)] at HF
                clear HDC HDS hff0
                go_wp2_with (first | fail)
                go_loopw [88] (fun x wr => ∃ k, k ≤ methods.length ∧ Hid (foldFault methodFault (methods.take k) (methods.drop k) = foldFault methodFault [] methods) ∧ Boxed w wr [.string name, .string super, .slice pf faces.length capf, .bool face, .slice pd fields.length capd, .slice pm methods.length capm] ∧ x = .int .i64 k) (fun x _ => methods.length - (intOf x).toNat)
                case atStart => exact ⟨0, by omega, rfl, BX, rfl⟩
                case round =>
                  obtain ⟨k, hk, hff, BX, rfl⟩ := hrel
                  clear q0 q1 q2 q3 q4 q5
                  obtain ⟨q0, q1, q2, q3, q4, q5⟩ := boxed6 BX
                  have hlen : methods.length ≤ 9223372036854775807 := Nat.le_trans hm1 hm2
                  by_cases hkl : k < methods.length
                  · obtain ⟨x, hx⟩ : ∃ x, methods[k]? = some x := ⟨methods[k], by simp [hkl]⟩
                    have hxs := HO.out.methods x (List.mem_of_getElem? hx)
                    obtain ⟨b, o, vs, rfl, ⟨cv, hv, rfl, hcv, hhv⟩, _, hcells⟩ := HMC.out k x hx
                    have hcells := hcells.mono BX.below hcells.lt
                    have hstep := foldFault_drop methodFault methods k x hx
                    rw [hff.out] at hstep
                    obtain ⟨pc, cc, rfl, hc1, hc2, _⟩ := hcv.open
                    obtain ⟨ph, ch, rfl, hh1, hh2, _⟩ := hhv.open
                    have hct : ∀ wx, Below w.heap.size w wx → _ := fun wx hb => method_any x _ _ (methods.take k) (.slice (some ⟨b, o, none⟩) k capm) wx (HL.out wx hb) hxs (hcv.mono hb (by decide) (fun _ _ h => h)) (hhv.mono hb (by decide) (fun _ _ h => h)) ((SliceOf.take HMS.out rfl rfl hk).mono hb (by decide) (fun _ _ h => h.mono hb)) _ rfl
                    have HX := Lib.hid hx; clear hx hxs hcv hhv
                    obtain ⟨c0, c1, c2, c3, c4, c5, c6, c7, _⟩ := hcells
                    unfold methodV at hct
                    generalize methodFault x (methods.take k) = fx at *
                    rcases errV_cases fx with ⟨hv0, hz⟩ | ⟨hv0, hz⟩
                    · rw [if_pos hz] at hstep
                      rw [hv0] at hct
                      have hst := Lib.hid hstep.symm
                      have HC := Lib.hid hct
                      clear hct hstep HF hff hv0 hz
                      have hszw := BX.size
                      go_upto_region 24 with (first | fail)
                      have BY : Boxed wr (wr.alloc (.cells #[.string x.name, .string x.type, .bool x.static, .bool x.abs, .bool x.priv, .int .i64 x.locals, .slice pc x.code.length cc, .slice ph x.handlers.length ch] 53)) [.string x.name, .string x.type, .bool x.static, .bool x.abs, .bool x.priv, .int .i64 x.locals, .slice pc x.code.length cc, .slice ph x.handlers.length ch] := ⟨(Below.refl _ _).alloc (Nat.le_refl _) _, by simp, by simp [Cells]⟩
                      generalize wr.alloc (.cells #[.string x.name, .string x.type, .bool x.static, .bool x.abs, .bool x.priv, .int .i64 x.locals, .slice pc x.code.length cc, .slice ph x.handlers.length ch] 53) = w3 at *
                      obtain ⟨r0, r1, r2, r3, r4, r5, r6, r7⟩ := boxed8 BY
                      replace BX := BX.step BY.below
                      clear q0 q1 q2 q3 q4 q5 c0 c1 c2 c3 c4 c5 c6 c7
                      obtain ⟨q0, q1, q2, q3, q4, q5⟩ := boxed6 BX
                      go_cut [9] (fun s wx => s = .nilIface ∧ Boxed w wx [.string name, .string super, .slice pf faces.length capf, .bool face, .slice pd fields.length capd, .slice (some ⟨b, o, none⟩) methods.length capm])
                      case first =>
                        go_region_with (go_at_call 122; (with_reducible refine (HC.out _ BX.drew.below).mono ?_); rintro e w4 ⟨rfl, hB4⟩)
                        all_goals
                          go_wp2
                          go_meet
                          exact ⟨rfl, BX.drew.step hB4⟩
                      case rest =>
                        obtain ⟨rfl, BX⟩ := hcut
                        go_wp2_with (first | fail)
                        exact ⟨⟨k + 1, by omega, hst.out, BX, by simp⟩, by simp [intOf]; omega⟩
                    · rw [if_neg hz] at hstep
                      rw [hv0] at hct
                      have hfin : Hid (v = .iface 29 (.int .i64 fx)) := by rw [HF.out, if_pos (by rw [hstep]; exact hz), hstep]; exact hv0
                      have HC := Lib.hid hct
                      clear hct hstep HF hff hv0 hz
                      have hszw := BX.size
                      go_upto_region 24 with (first | fail)
                      have BY : Boxed wr (wr.alloc (.cells #[.string x.name, .string x.type, .bool x.static, .bool x.abs, .bool x.priv, .int .i64 x.locals, .slice pc x.code.length cc, .slice ph x.handlers.length ch] 53)) [.string x.name, .string x.type, .bool x.static, .bool x.abs, .bool x.priv, .int .i64 x.locals, .slice pc x.code.length cc, .slice ph x.handlers.length ch] := ⟨(Below.refl _ _).alloc (Nat.le_refl _) _, by simp, by simp [Cells]⟩
                      generalize wr.alloc (.cells #[.string x.name, .string x.type, .bool x.static, .bool x.abs, .bool x.priv, .int .i64 x.locals, .slice pc x.code.length cc, .slice ph x.handlers.length ch] 53) = w3 at *
                      obtain ⟨r0, r1, r2, r3, r4, r5, r6, r7⟩ := boxed8 BY
                      replace BX := BX.step BY.below
                      clear q0 q1 q2 q3 q4 q5 c0 c1 c2 c3 c4 c5 c6 c7
                      obtain ⟨q0, q1, q2, q3, q4, q5⟩ := boxed6 BX
                      go_cut [9] (fun s wx => s = .iface 29 (.int .i64 fx) ∧ Boxed w wx [.string name, .string super, .slice pf faces.length capf, .bool face, .slice pd fields.length capd, .slice (some ⟨b, o, none⟩) methods.length capm])
                      case first =>
                        go_region_with (go_at_call 122; (with_reducible refine (HC.out _ BX.drew.below).mono ?_); rintro e w4 ⟨rfl, hB4⟩)
                        all_goals
                          go_wp2
                          go_meet
                          exact ⟨rfl, BX.drew.step hB4⟩
                      case rest =>
                        obtain ⟨rfl, BX⟩ := hcut
                        go_wp2_with (first | fail)
                        cases hfin.out
                        go_ret
                        exact ⟨rfl, BX.below⟩
                  · have hff0 : Hid (foldFault methodFault [] methods = 0) := by
                      rw [← hff.out, List.drop_eq_nil_of_le (by omega)]; rfl
                    clear hff
                    obtain rfl : k = methods.length := by omega
                    rw [if_neg (by rw [hff0.out]; decide)] at HF
                    clear HMC HMS hff0
                    cases face with
                    | false =>
                      have hfin : Hid (v = .nilIface) := by rw [HF.out]; rfl
                      clear HF
                      go_wp2_with (first | fail)
                      cases hfin.out
                      go_ret
                      exact ⟨rfl, BX.below⟩
                    | true =>
                      cases fields with
                      | nil =>
                        have hfin : Hid (v = .nilIface) := by rw [HF.out]; rfl
                        clear HF
                        go_wp2_with (first | fail)
                        cases hfin.out
                        go_ret
                        exact ⟨rfl, BX.below⟩
                      | cons y r =>
                        have hfin : Hid (v = .iface 29 (.int .i64 8)) := by rw [HF.out]; rfl
                        have hl : 0 < (y :: r).length := by simp
                        clear HF
                        generalize (y :: r).length = n at *
                        go_wp2_with (first | fail)
                        all_goals first | (exfalso; omega) | skip
                        cases hfin.out
                        go_ret
                        exact ⟨rfl, BX.below⟩
end Go.Proofs.YtlmfmioljeppfaaGreatDoor
