/-
  WALK over the reference's WorldFault: the same fault as the program's Read. Conditions: numbers of 64 bits, texts of at most 1048576 signs.
  WALKS over the reference's NamedFault, Supers, Every and over same.Error. Conditions: as in XRefWorld; for Supers and Every: a right world and a class that is there.
-/
import Derived.Test.YtlmfmioljeppfaaGreatDoorRefJoined
import Derived.LaidEql
namespace Go.Proofs.YtlmfmioljeppfaaGreatDoor
open Go.RowKit Go.Shelf Go.Lib
theorem below_six {B : Nat} {w w7 : World} {p : Nat} (h : Below B w w7) (hp : B ≤ p) {a0 a1 a2 a3 a4 a5 : Value} :
    Below B w ((((((w7.setCell ⟨p, 0, none⟩ a0).setCell ⟨p, 1, none⟩ a1).setCell ⟨p, 2, none⟩ a2).setCell ⟨p, 3, none⟩ a3).setCell ⟨p, 4, none⟩ a4).setCell ⟨p, 5, none⟩ a5) :=
  (((((h.setCell hp _).setCell hp _).setCell hp _).setCell hp _).setCell hp _).setCell hp _
set_option maxHeartbeats 2000000 in
set_option maxRecDepth 100000 in
theorem refWorld_any (l : List Class) (lv : Value) (w : World) (ho : ∀ c ∈ l, ClassOk c) (hlv : ClassesAt w lv l) :
    Calls Tryz.prog 11 #[lv] w fun e w' => e = .returned (.int .i64 (readFault l)) ∧ Below w.heap.size w w' := by
  have HLV : Hid (∀ wx, Below w.heap.size w wx → ClassesAt wx lv l) := fun wx hb => hlv.mono hb
  obtain ⟨pl, cap, rfl, hc1, hc2, hcc⟩ := hlv.open
  have HCl : Hid (∀ wx c fv dv mv, Below w.heap.size w wx → c ∈ l → StrsAt w fv c.faces → SliceOf w 2 FieldCells dv c.fields → SliceOf w 8 (MethodCells w) mv c.methods → _) := fun wx c fv dv mv hb hc h1 h2 h3 =>
    refClass_any c fv dv mv wx (ho c hc) (h1.mono hb) (h2.mono hb (by decide) (fun _ _ h => h)) (h3.mono hb (by decide) (fun _ _ h => h.mono hb))
  have HC : Hid (∀ (i : Nat) (x : Class), l[i]? = some x → ∃ b o vs, pl = some ⟨b, o, none⟩ ∧ ClassCells w x vs ∧ vs.length = 6 ∧ Cells w b (o + i * 6) vs) := hcc
  clear hcc hlv ho
  by_cases h10 : 10 < l.length
  · have hf : readFault l = 4 := by unfold readFault; rw [if_pos h10]
    have HF := Lib.hid hf
    clear hf HC HCl
    go_enter Tryz.func11, Tryz.ntmps11
    go_wp2_with (first | fail)
    all_goals first | (exfalso; omega) | skip
    go_ret
    exact ⟨by rw [HF.out]; rfl, Below.refl _ _⟩
  · have HF : Hid (readFault l = if foldFault readStep [] l ≠ 0 then foldFault readStep [] l else if firstFault (joinedC (allC l)) l ≠ 0 then firstFault (joinedC (allC l)) l else if l.any (fun c => roundC (allC l) c.name) then 6 else 0) := by
      unfold Hid readFault; rw [if_neg h10]
    have hlen : l.length ≤ 10 := by omega
    clear h10
    generalize readFault l = res at *
    go_enter Tryz.func11, Tryz.ntmps11
    go_wp2_with (first | fail)
    all_goals first | (exfalso; omega) | skip
    go_loopw [3] (fun x wr => ∃ k : Nat, k ≤ l.length ∧ Hid (foldFault readStep (l.take k) (l.drop k) = foldFault readStep [] l) ∧ Hid (∀ c ∈ l.take k, classFault c = 0) ∧ Below w.heap.size w wr ∧ x = .int .i64 k) (fun x _ => l.length - (intOf x).toNat)
    case atStart => exact ⟨0, by omega, rfl, (fun c hc => by simp at hc), Below.refl _ _, rfl⟩
    case round =>
      obtain ⟨k, hk, hff, HA, hB, rfl⟩ := hrel
      by_cases hkl : k < l.length
      · obtain ⟨c, hx⟩ : ∃ x, l[k]? = some x := ⟨l[k], by simp [hkl]⟩
        obtain ⟨b, o, vs, rfl, ⟨fv, dv, mv, rfl, k1, k2, k3⟩, _, hcells⟩ := HC.out k c hx
        have hcells := hcells.mono hB hcells.lt
        have hstep := foldFault_drop readStep l k c hx
        rw [hff.out] at hstep
        obtain ⟨pf, capf, rfl, _⟩ := k1.open
        obtain ⟨pd, capd, rfl, _⟩ := k2.open
        obtain ⟨pm, capm, rfl, _⟩ := k3.open
        have hcla : ∀ wx, Below w.heap.size w wx → _ := fun wx hb => HCl.out wx c _ _ _ hb (List.mem_of_getElem? hx) k1 k2 k3
        unfold classV at hcla
        have HX := Lib.hid hx
        have hcp := hcells
        obtain ⟨c0, c1, c2, c3, c4, c5, _⟩ := hcells
        clear hx k1 k2 k3
        by_cases hz : classFault c = 0
        · rw [hz] at hcla
          have hst1 : readStep c (l.take k) = if (findC (allC (l.take k)) c.name).isSome then 5 else 0 := by unfold readStep; rw [if_neg (by rw [hz]; decide)]
          rw [hst1] at hstep
          have HA2 : Hid (∀ c ∈ l.take (k + 1), classFault c = 0) := fun d hd => by
            rw [List.take_add_one, HX.out] at hd
            rcases List.mem_append.1 hd with h | h
            · exact HA.out d h
            · simp at h; subst h; exact hz
          have HCla := Lib.hid hcla
          have HCP := Lib.hid hcp
          clear hz hcla hst1 hff HA hcp
          go_upto_region 9 with (go_at_call 36; (with_reducible refine (HCla.out _ hB).mono ?_); rintro e w2 ⟨rfl, hB2⟩)
          have hBw := below_call hB (Nat.le_refl _) hB2
          have hcp := HCP.out.mono hB2 HCP.out.lt
          have hlb := hcp.lt
          obtain ⟨n0, _⟩ := hcp
          have hco : ∀ wx, Below w.heap.size w wx → _ := fun wx hb => refClassOf_any (l.take k) (.slice (some ⟨b, o, none⟩) k cap) c.name wx (SliceOf.take (HLV.out wx hb) rfl rfl hk)
          unfold ClassGives at hco
          generalize (findC (allC (l.take k)) c.name).isSome = is at *
          generalize (findC (allC (l.take k)) c.name).getD noClass = d at *
          obtain ⟨n2, s2, f2, b2, d2, m2⟩ := d
          dsimp only at hco
          have HCO := Lib.hid hco
          clear hco c0 c1 c2 c3 c4 c5 HCla HCP hB hB2
          go_cut [6] (fun s wx => s = .bool is ∧ Below w.heap.size w wx)
          case first =>
            clear HF hstep
            go_region_with (first
              | (go_at_call 14; (with_reducible refine (HCO.out _ (below_call hBw (Nat.le_refl _) ((Below.refl _ _).drew))).mono ?_); rintro e w7 ⟨pf2, kf2, pd2, kd2, pm2, km2, rfl, _, _, _, hB7, _⟩; (have hBe := below_call hBw (Nat.le_refl _) (below_call ((Below.refl w2.heap.size w2).drew) (Nat.le_refl _) hB7)))
              | (go_at_call 14; (with_reducible refine (HCO.out _ (below_call hBw (Nat.le_refl _) (((Below.refl _ _).alloc (Nat.le_refl _) _).drew))).mono ?_); rintro e w7 ⟨pf2, kf2, pd2, kd2, pm2, km2, rfl, _, _, _, hB7, _⟩; (have BZ := ((boxed_new w2 #[.string ⟨#[]⟩, .string ⟨#[]⟩, .slice none 0 0, .bool false, .slice none 0 0, .slice none 0 0] 36).drew).step hB7); obtain ⟨z0, z1, z2, z3, z4, z5⟩ := boxed6 BZ; (have hfr : ∀ i, w7.frozen? ⟨w2.heap.size, i, none⟩ = false := fun i => (hB7.frozen (p := ⟨w2.heap.size, i, none⟩) (by simp)).trans (by simp)); (have hlt7 := BZ.size); (have hBe := below_call hBw (Nat.le_refl _) (below_call (((Below.refl w2.heap.size w2).alloc (Nat.le_refl _) _).drew) (Nat.le_refl _) hB7))))
            all_goals
              go_wp2
              go_meet
              first
                | (with_reducible refine ⟨rfl, below_six hBe hBw.size⟩)
                | (with_reducible refine ⟨rfl, hBe.alloc hBe.size _⟩)
          case rest =>
            clear hBw n0 hlb HCO
            obtain ⟨rfl, hB⟩ := hcut
            cases is with
            | true =>
              replace hstep : foldFault readStep [] l = 5 := hstep
              have hfin : Hid (res = 5) := by unfold Hid; rw [HF.out, if_pos (by rw [hstep]; decide), hstep]
              clear HF hstep
              go_wp2_with (first | fail)
              go_ret
              exact ⟨by rw [hfin.out]; rfl, hB⟩
            | false =>
              replace hstep : foldFault readStep [] l = foldFault readStep (l.take (k + 1)) (l.drop (k + 1)) := hstep
              have hst := Lib.hid hstep.symm
              clear HF hstep
              go_wp2_with (first | fail)
              go_roundw
              case rel => exact ⟨k + 1, by omega, hst.out, HA2, hB, by simp⟩
              case measure => simp [intOf]; omega
        · rw [show readStep c (l.take k) = classFault c from by unfold readStep; rw [if_pos hz], if_neg hz] at hstep
          have hfin : Hid (res = classFault c) := by unfold Hid; rw [HF.out, if_pos (by rw [hstep]; exact hz), hstep]
          have hnz := zero_cases (classFault c)
          have HCla := Lib.hid hcla
          rw [decide_eq_true hz] at hnz
          clear hcla hstep HF hff hcp hz HA
          generalize classFault c = fc at *
          go_wp2_with (go_at_call 36; (with_reducible refine (HCla.out _ hB).mono ?_); rintro e w2 ⟨rfl, hB2⟩)
          go_ret
          exact ⟨by rw [hfin.out]; rfl, below_call hB (Nat.le_refl _) hB2⟩
      · have hff0 : Hid (foldFault readStep [] l = 0) := by
          rw [← hff.out, List.drop_eq_nil_of_le (by omega)]; rfl
        obtain rfl : k = l.length := by omega
        have HA2 : Hid (∀ c ∈ l, classFault c = 0) := by have := HA.out; rwa [List.take_length] at this
        rw [if_neg (by rw [hff0.out]; decide)] at HF
        have HJ : Hid (∀ wx c fv dv mv, Below w.heap.size w wx → c ∈ l → StrsAt w fv c.faces → _) := fun wx c fv dv mv hb hc h1 => refJoined_any l _ c fv dv mv wx (HLV.out wx hb) (h1.mono hb) (Nat.le_trans (faces_of (HA2.out c hc)) (by decide))
        clear hff hff0 HA HCl
        go_wp2_with (first | fail)
        go_loopw [7] (fun x wr => ∃ k : Nat, k ≤ l.length ∧ Hid (firstFault (joinedC (allC l)) (l.drop k) = firstFault (joinedC (allC l)) l) ∧ Below w.heap.size w wr ∧ x = .int .i64 k) (fun x _ => l.length - (intOf x).toNat)
        case atStart => exact ⟨0, by omega, rfl, hB, rfl⟩
        case round =>
          clear hB
          obtain ⟨k, hk, hff, hB, rfl⟩ := hrel
          by_cases hkl : k < l.length
          · obtain ⟨c, hx⟩ : ∃ x, l[k]? = some x := ⟨l[k], by simp [hkl]⟩
            obtain ⟨b, o, vs, rfl, ⟨fv, dv, mv, rfl, k1, k2, k3⟩, _, hcells⟩ := HC.out k c hx
            have hcells := hcells.mono hB hcells.lt
            have hstep := firstFault_drop (joinedC (allC l)) l k c hx
            rw [hff.out] at hstep
            obtain ⟨pf, capf, rfl, _⟩ := k1.open
            obtain ⟨pd, capd, rfl, _⟩ := k2.open
            obtain ⟨pm, capm, rfl, _⟩ := k3.open
            have hj := HJ.out wr c _ (.slice pd c.fields.length capd) (.slice pm c.methods.length capm) hB (List.mem_of_getElem? hx) k1
            unfold classV at hj
            have hnz := zero_cases (joinedC (allC l) c)
            have HX := Lib.hid hx
            clear hx k1 k2 k3 hff
            obtain ⟨c0, c1, c2, c3, c4, c5, _⟩ := hcells
            by_cases hz : joinedC (allC l) c = 0
            · rw [if_pos hz] at hstep
              have hst := Lib.hid hstep.symm
              rw [hz] at hj hnz
              have HJc := Lib.hid hj
              clear hj hstep HF hz hnz
              go_wp2_with (go_at_call 37; (with_reducible refine HJc.out.mono ?_); rintro e w2 ⟨rfl, hB2⟩)
              go_roundw
              case rel => exact ⟨k + 1, by omega, hst.out, below_call hB (Nat.le_refl _) hB2, by simp⟩
              case measure => simp [intOf]; omega
            · rw [if_neg hz] at hstep
              rw [decide_eq_true hz] at hnz
              have hfin : Hid (res = joinedC (allC l) c) := by unfold Hid; rw [HF.out, if_pos (by rw [hstep]; exact hz), hstep]
              have HJc := Lib.hid hj
              clear hj hstep HF hz
              generalize joinedC (allC l) c = fc at *
              go_wp2_with (go_at_call 37; (with_reducible refine HJc.out.mono ?_); rintro e w2 ⟨rfl, hB2⟩)
              go_ret
              exact ⟨by rw [hfin.out]; rfl, below_call hB (Nat.le_refl _) hB2⟩
          · have hff0 : Hid (firstFault (joinedC (allC l)) l = 0) := by
              rw [← hff.out, List.drop_eq_nil_of_le (by omega)]; rfl
            obtain rfl : k = l.length := by omega
            rw [if_neg (by rw [hff0.out]; decide)] at HF
            have hja := firstFault_all hff0.out
            have hcl := closed_of hja
            have h12 : (allC l).length ≤ 12 := by unfold allC; simp; omega
            have HU : Hid (∀ wx c, Below w.heap.size w wx → c ∈ l → _) := fun wx c hb hc => refUpward_any l _ c.name wx (HLV.out wx hb) (fun d hd => Nat.le_trans (faces_of (HA2.out d hd)) (by decide)) h12 hcl (known_of hc) (above_nodup HA2.out hja (known_of hc))
            have HRd : Hid (∀ c ∈ l, memB (upC (allC l) c.name) c.name = roundC (allC l) c.name) := fun c hc => any_up HA2.out hja hc
            unfold RowPost at HU
            clear hff hff0 hja hcl h12 HJ
            go_wp2_with (first | fail)
            go_loopw [9] (fun x wr => ∃ k : Nat, k ≤ l.length ∧ Hid (((l.drop k).any fun c => roundC (allC l) c.name) = (l.any fun c => roundC (allC l) c.name)) ∧ Below w.heap.size w wr ∧ x = .int .i64 k) (fun x _ => l.length - (intOf x).toNat)
            case atStart => exact ⟨0, by omega, rfl, hB, rfl⟩
            case round =>
              clear hB
              obtain ⟨k, hk, hff, hB, rfl⟩ := hrel
              by_cases hkl : k < l.length
              · obtain ⟨c, hx⟩ : ∃ x, l[k]? = some x := ⟨l[k], by simp [hkl]⟩
                obtain ⟨b, o, vs, rfl, ⟨fv, dv, mv, rfl, k1, k2, k3⟩, _, hcells⟩ := HC.out k c hx
                have hcells := hcells.mono hB hcells.lt
                have hstep := any_drop (fun c => roundC (allC l) c.name) l k c hx
                rw [hff.out, ← HRd.out c (List.mem_of_getElem? hx)] at hstep
                have hu := HU.out wr.drew c (below_call hB (Nat.le_refl _) ((Below.refl _ _).drew)) (List.mem_of_getElem? hx)
                have HX := Lib.hid hx
                have hlb := hcells.lt
                obtain ⟨n0, _⟩ := hcells
                clear hx k1 k2 k3 hff
                generalize upC (allC l) c.name = U at *
                have hIn : ∀ wx v, StrsAt wx v U → _ := fun wx v h => in_any U v c.name wx h
                generalize memB U c.name = r at *
                have HUc := Lib.hid hu
                have HIn := Lib.hid hIn
                clear hu hIn
                go_upto_region 21 with (first | fail)
                go_cut [73] (fun s wx => s = .bool r ∧ Below w.heap.size w wx)
                case first =>
                  clear HF hstep HRd
                  go_region_with (first
                    | (go_at_call 39; (with_reducible refine HUc.out.mono ?_); rintro e w7 ⟨⟨v7, rfl, hv7⟩, hB7⟩; (have hn7 := (hB7.cell (p := ⟨b, o + k * 6, none⟩) hlb).trans n0); (have hs7 := strsAt_of_owns hv7); (have hBe := below_call hB (Nat.le_refl _) (below_call ((Below.refl wr.heap.size wr).drew) (Nat.le_refl _) hB7)))
                    | (go_at_call 38; (with_reducible refine (HIn.out _ _ hs7).mono ?_); rintro e w8 ⟨rfl, rfl⟩))
                  all_goals
                    go_wp2
                    go_meet
                    exact ⟨rfl, hBe⟩
                case rest =>
                  clear hB n0 hlb HUc HIn
                  obtain ⟨rfl, hB⟩ := hcut
                  cases r with
                  | true =>
                    rw [Bool.true_or] at hstep
                    have hfin : Hid (res = 6) := by unfold Hid; rw [HF.out, if_pos hstep]
                    clear HF hstep
                    go_wp2_with (first | fail)
                    go_ret
                    exact ⟨by rw [hfin.out]; rfl, hB⟩
                  | false =>
                    rw [Bool.false_or] at hstep
                    have hst := Lib.hid hstep.symm
                    clear HF hstep
                    go_wp2_with (first | fail)
                    go_roundw
                    case rel => exact ⟨k + 1, by omega, hst.out, hB, by simp⟩
                    case measure => simp [intOf]; omega
              · have hno : Hid ((l.any fun c => roundC (allC l) c.name) = false) := by
                  rw [← hff.out, List.drop_eq_nil_of_le (by omega)]; rfl
                obtain rfl : k = l.length := by omega
                have hfin : Hid (res = 0) := by unfold Hid; rw [HF.out, if_neg (by rw [hno.out]; decide)]
                clear hff hno HF HU
                go_wp2_with (first | fail)
                go_ret
                exact ⟨by rw [hfin.out]; rfl, hB⟩
end Go.Proofs.YtlmfmioljeppfaaGreatDoor
namespace Go.Proofs.YtlmfmioljeppfaaGreatDoor
open Go.RowKit Go.Shelf Go.Lib
end Go.Proofs.YtlmfmioljeppfaaGreatDoor
