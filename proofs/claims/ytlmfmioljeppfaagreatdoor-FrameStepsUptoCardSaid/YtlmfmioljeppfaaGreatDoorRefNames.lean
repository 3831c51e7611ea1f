/-
  WALK over the reference's WorldFault: the same fault as the program's Read. Conditions: numbers of 64 bits, texts of at most 1048576 signs.
  WALKS over the reference's NamedFault, Supers, Every and over same.Error. Conditions: as in XRefWorld; for Supers and Every: a right world and a class that is there.
-/
import Derived.Test.YtlmfmioljeppfaaGreatDoorRefJoined
import Derived.LaidEql
namespace Go.Proofs.YtlmfmioljeppfaaGreatDoor
open Go.RowKit Go.Shelf Go.Lib
theorem below_six {B : Nat} {w w7 : World} {p : Nat} (h : Below B w w7) (hp : B ≤ p) {a0 a1 a2 a3 a4 a5 : Value} :
    Below B w ((((((w7.setCell ⟨p, 0, none⟩ a0).setCell ⟨p, 1, none⟩ a1).setCell ⟨p, 2, none⟩ a2).setCell ⟨p, 3, none⟩ a3).setCell ⟨p, 4, none⟩ a4).setCell ⟨p, 5, none⟩ a5) :=
  (((((h.setCell hp _).setCell hp _).setCell hp _).setCell hp _).setCell hp _).setCell hp _
set_option maxHeartbeats 2000000 in
set_option maxRecDepth 100000 in
theorem refWorld_any (l : List Class) (lv : Value) (w : World) (ho : ∀ c ∈ l, ClassOk c) (hlv : ClassesAt w lv l) :
    Calls Tryz.prog 11 #[lv] w fun e w' => e = .returned (.int .i64 (readFault l)) ∧ Below w.heap.size w w' := by
  have HLV : Hid (∀ wx, Below w.heap.size w wx → ClassesAt wx lv l) := fun wx hb => hlv.mono hb
  obtain ⟨pl, cap, rfl, hc1, hc2, hcc⟩ := hlv.open
  have HCl : Hid (∀ wx c fv dv mv, Below w.heap.size w wx → c ∈ l → StrsAt w fv c.faces → SliceOf w 2 FieldCells dv c.fields → SliceOf w 8 (MethodCells w) mv c.methods → _) := fun wx c fv dv mv hb hc h1 h2 h3 =>
    refClass_any c fv dv mv wx (ho c hc) (h1.mono hb) (h2.mono hb (by decide) (fun _ _ h => h)) (h3.mono hb (by decide) (fun _ _ h => h.mono hb))
  have HC : Hid (∀ (i : Nat) (x : Class), l[i]? = some x → ∃ b o vs, pl = some ⟨b, o, none⟩ ∧ ClassCells w x vs ∧ vs.length = 6 ∧ Cells w b (o + i * 6) vs) := hcc
  clear hcc hlv ho
  by_cases h10 : 10 < l.length
  · have hf : readFault l = 4 := by unfold readFault; rw [if_pos h10]
    have HF := Lib.hid hf
    clear hf HC HCl
    go_enter Tryz.func11, Tryz.ntmps11
    go_wp2_with (first | fail)
    all_goals first | (exfalso; omega) | skip
    go_ret
    exact ⟨by rw [HF.out]; rfl, Below.refl _ _⟩
  · have HF : Hid (readFault l = if foldFault readStep [] l ≠ 0 then foldFault readStep [] l else if firstFault (joinedC (allC l)) l ≠ 0 then firstFault (joinedC (allC l)) l else if l.any (fun c => roundC (allC l) c.name) then 6 else 0) := by
      unfold Hid readFault; rw [if_neg h10]
    have hlen : l.length ≤ 10 := by omega
    clear h10
    generalize readFault l = res at *
    go_enter Tryz.func11, Tryz.ntmps11
    go_wp2_with (first | fail)
    all_goals first | (exfalso; omega) | skip
    go_loopw [3] (fun x wr => ∃ k : Nat, k ≤ l.length ∧ Hid (foldFault readStep (l.take k) (l.drop k) = foldFault readStep [] l) ∧ Hid (∀ c ∈ l.take k, classFault c = 0) ∧ Below w.heap.size w wr ∧ x = .int .i64 k) (fun x _ => l.length - (intOf x).toNat)
    case atStart => exact ⟨0, by omega, rfl, (fun c hc => by simp at hc), Below.refl _ _, rfl⟩
    case round =>
      obtain ⟨k, hk, hff, HA, hB, rfl⟩ := hrel
      by_cases hkl : k < l.length
      · obtain ⟨c, hx⟩ : ∃ x, l[k]? = some x := ⟨l[k], by simp [hkl]⟩
        obtain ⟨b, o, vs, rfl, ⟨fv, dv, mv, rfl, k1, k2, k3⟩, _, hcells⟩ := HC.out k c hx
        have hcells := hcells.mono hB hcells.lt
        have hstep := foldFault_drop readStep l k c hx
        rw [hff.out] at hstep
        obtain ⟨pf, capf, rfl, _⟩ := k1.open
        obtain ⟨pd, capd, rfl, _⟩ := k2.open
        obtain ⟨pm, capm, rfl, _⟩ := k3.open
        have hcla : ∀ wx, Below w.heap.size w wx → _ := fun wx hb => HCl.out wx c _ _ _ hb (List.mem_of_getElem? hx) k1 k2 k3
        unfold classV at hcla
        have HX := Lib.hid hx
        have hcp := hcells
        obtain ⟨c0, c1, c2, c3, c4, c5, _⟩ := hcells
        clear hx k1 k2 k3
        by_cases hz : classFault c = 0
        · rw [hz] at hcla
          have hst1 : readStep c (l.take k) = if (findC (allC (l.take k)) c.name).isSome then 5 else 0 := by unfold readStep; rw [if_neg (by rw [hz]; decide)]
          rw [hst1] at hstep
          have HA2 : Hid (∀ c ∈ l.take (k + 1), classFault c = 0) := fun d hd => by
            rw [List.take_add_one, HX.out] at hd
            rcases List.mem_append.1 hd with h | h
            · exact HA.out d h
            · simp at h; subst h; exact hz
          have HCla := Lib.hid hcla
          have HCP := Lib.hid hcp
          clear hz hcla hst1 hff HA hcp
          go_upto_region 9 with (go_at_call 36; (with_reducible refine (HCla.out _ hB).mono ?_); rintro e w2 ⟨rfl, hB2⟩)
          have hBw := below_call hB (Nat.le_refl _) hB2
          have hcp := HCP.out.mono hB2 HCP.out.lt
          have hlb := hcp.lt
          obtain ⟨n0, _⟩ := hcp
          have hco : ∀ wx, Below w.heap.size w wx → _ := fun wx hb => refClassOf_any (l.take k) (.slice (some ⟨b, o, none⟩) k cap) c.name wx (SliceOf.take (HLV.out wx hb) rfl rfl hk)
          unfold ClassGives at hco
          generalize (findC (allC (l.take k)) c.name).isSome = is at *
          generalize (findC (allC (l.take k)) c.name).getD noClass = d at *
          obtain ⟨n2, s2, f2, b2, d2, m2⟩ := d
          dsimp only at hco
          have HCO := Lib.hid hco
          clear hco c0 c1 c2 c3 c4 c5 HCla HCP hB hB2
          go_cut [6] (fun s wx => s = .bool is ∧ Below w.heap.size w wx)
          case first =>
            clear HF hstep
            go_region_with (first
              | (go_at_call 14; (with_reducible refine (HCO.out _ (below_call hBw (Nat.le_refl _) ((Below.refl _ _).drew))).mono ?_); rintro e w7 ⟨pf2, kf2, pd2, kd2, pm2, km2, rfl, _, _, _, hB7, _⟩; (have hBe := below_call hBw (Nat.le_refl _) (below_call ((Below.refl w2.heap.size w2).drew) (Nat.le_refl _) hB7)))
              | (go_at_call 14; (with_reducible refine (HCO.out _ (below_call hBw (Nat.le_refl _) (((Below.refl _ _).alloc (Nat.le_refl _) _).drew))).mono ?_); rintro e w7 ⟨pf2, kf2, pd2, kd2, pm2, km2, rfl, _, _, _, hB7, _⟩; (have BZ := ((boxed_new w2 #[.string ⟨#[]⟩, .string ⟨#[]⟩, .slice none 0 0, .bool false, .slice none 0 0, .slice none 0 0] 36).drew).step hB7); obtain ⟨z0, z1, z2, z3, z4, z5⟩ := boxed6 BZ; (have hfr : ∀ i, w7.frozen? ⟨w2.heap.size, i, none⟩ = false := fun i => (hB7.frozen (p := ⟨w2.heap.size, i, none⟩) (by simp)).trans (by simp)); (have hlt7 := BZ.size); (have hBe := below_call hBw (Nat.le_refl _) (below_call (((Below.refl w2.heap.size w2).alloc (Nat.le_refl _) _).drew) (Nat.le_refl _) hB7))))
            all_goals
              go_wp2
              go_meet
              first
                | (with_reducible refine ⟨rfl, below_six hBe hBw.size⟩)
                | (with_reducible refine ⟨rfl, hBe.alloc hBe.size _⟩)
          case rest =>
            clear hBw n0 hlb HCO
            obtain ⟨rfl, hB⟩ := hcut
            cases is with
            | true =>
              replace hstep : foldFault readStep [] l = 5 := hstep
              have hfin : Hid (res = 5) := by unfold Hid; rw [HF.out, if_pos (by rw [hstep]; decide), hstep]
              clear HF hstep
              go_wp2_with (first | fail)
              go_ret
              exact ⟨by rw [hfin.out]; rfl, hB⟩
            | false =>
              replace hstep : foldFault readStep [] l = foldFault readStep (l.take (k + 1)) (l.drop (k + 1)) := hstep
              have hst := Lib.hid hstep.symm
              clear HF hstep
              go_wp2_with (first | fail)
              go_roundw
              case rel => exact ⟨k + 1, by omega, hst.out, HA2, hB, by simp⟩
              case measure => simp [intOf]; omega
        · rw [show readStep c (l.take k) = classFault c from by unfold readStep; rw [if_pos hz], if_neg hz] at hstep
          have hfin : Hid (res = classFault c) := by unfold Hid; rw [HF.out, if_pos (by rw [hstep]; exact hz), hstep]
          have hnz := zero_cases (classFault c)
          have HCla := Lib.hid hcla
          rw [decide_eq_true hz] at hnz
          clear hcla hstep HF hff hcp hz HA
          generalize classFault c = fc at *
          go_wp2_with (go_at_call 36; (with_reducible refine (HCla.out _ hB).mono ?_); rintro e w2 ⟨rfl, hB2⟩)
          go_ret
          exact ⟨by rw [hfin.out]; rfl, below_call hB (Nat.le_refl _) hB2⟩
      · have hff0 : Hid (foldFault readStep [] l = 0) := by
          rw [← hff.out, List.drop_eq_nil_of_le (by omega)]; rfl
        obtain rfl : k = l.length := by omega
        have HA2 : Hid (∀ c ∈ l, classFault c = 0) := by have := HA.out; rwa [List.take_length] at this
        rw [if_neg (by rw [hff0.out]; decide)] at HF
        have HJ : Hid (∀ wx c fv dv mv, Below w.heap.size w wx → c ∈ l → StrsAt w fv c.faces → _) := fun wx c fv dv mv hb hc h1 => refJoined_any l _ c fv dv mv wx (HLV.out wx hb) (h1.mono hb) (Nat.le_trans (faces_of (HA2.out c hc)) (by decide))
        clear hff hff0 HA HCl
        go_wp2_with (first | fail)
        go_loopw [7] (fun x wr => ∃ k : Nat, k ≤ l.length ∧ Hid (firstFault (joinedC (allC l)) (l.drop k) = firstFault (joinedC (allC l)) l) ∧ Below w.heap.size w wr ∧ x = .int .i64 k) (fun x _ => l.length - (intOf x).toNat)
        case atStart => exact ⟨0, by omega, rfl, hB, rfl⟩
        case round =>
          clear hB
          obtain ⟨k, hk, hff, hB, rfl⟩ := hrel
          by_cases hkl : k < l.length
          · obtain ⟨c, hx⟩ : ∃ x, l[k]? = some x := ⟨l[k], by simp [hkl]⟩
            obtain ⟨b, o, vs, rfl, ⟨fv, dv, mv, rfl, k1, k2, k3⟩, _, hcells⟩ := HC.out k c hx
            have hcells := hcells.mono hB hcells.lt
            have hstep := firstFault_drop (joinedC (allC l)) l k c hx
            rw [hff.out] at hstep
            obtain ⟨pf, capf, rfl, _⟩ := k1.open
            obtain ⟨pd, capd, rfl, _⟩ := k2.open
            obtain ⟨pm, capm, rfl, _⟩ := k3.open
            have hj := HJ.out wr c _ (.slice pd c.fields.length capd) (.slice pm c.methods.length capm) hB (List.mem_of_getElem? hx) k1
            unfold classV at hj
            have hnz := zero_cases (joinedC (allC l) c)
            have HX := Lib.hid hx
            clear hx k1 k2 k3 hff
            obtain ⟨c0, c1, c2, c3, c4, c5, _⟩ := hcells
            by_cases hz : joinedC (allC l) c = 0
            · rw [if_pos hz] at hstep
              have hst := Lib.hid hstep.symm
              rw [hz] at hj hnz
              have HJc := Lib.hid hj
              clear hj hstep HF hz hnz
              go_wp2_with (go_at_call 37; (with_reducible refine HJc.out.mono ?_); rintro e w2 ⟨rfl, hB2⟩)
              go_roundw
              case rel => exact ⟨k + 1, by omega, hst.out, below_call hB (Nat.le_refl _) hB2, by simp⟩
              case measure => simp [intOf]; omega
            · rw [if_neg hz] at hstep
              rw [decide_eq_true hz] at hnz
              have hfin : Hid (res = joinedC (allC l) c) := by unfold Hid; rw [HF.out, if_pos (by rw [hstep]; exact hz), hstep]
              have HJc := Lib.hid hj
              clear hj hstep HF hz
              generalize joinedC (allC l) c = fc at *
              go_wp2_with (go_at_call 37; (with_reducible refine HJc.out.mono ?_); rintro e w2 ⟨rfl, hB2⟩)
              go_ret
              exact ⟨by rw [hfin.out]; rfl, below_call hB (Nat.le_refl _) hB2⟩
          · have hff0 : Hid (firstFault (joinedC (allC l)) l = 0) := by
              rw [← hff.out, List.drop_eq_nil_of_le (by omega)]; rfl
            obtain rfl : k = l.length := by omega
            rw [if_neg (by rw [hff0.out]; decide)] at HF
            have hja := firstFault_all hff0.out
            have hcl := closed_of hja
            have h12 : (allC l).length ≤ 12 := by unfold allC; simp; omega
            have HU : Hid (∀ wx c, Below w.heap.size w wx → c ∈ l → _) := fun wx c hb hc => refUpward_any l _ c.name wx (HLV.out wx hb) (fun d hd => Nat.le_trans (faces_of (HA2.out d hd)) (by decide)) h12 hcl (known_of hc) (above_nodup HA2.out hja (known_of hc))
            have HRd : Hid (∀ c ∈ l, memB (upC (allC l) c.name) c.name = roundC (allC l) c.name) := fun c hc => any_up HA2.out hja hc
            unfold RowPost at HU
            clear hff hff0 hja hcl h12 HJ
            go_wp2_with (first | fail)
            go_loopw [9] (fun x wr => ∃ k : Nat, k ≤ l.length ∧ Hid (((l.drop k).any fun c => roundC (allC l) c.name) = (l.any fun c => roundC (allC l) c.name)) ∧ Below w.heap.size w wr ∧ x = .int .i64 k) (fun x _ => l.length - (intOf x).toNat)
            case atStart => exact ⟨0, by omega, rfl, hB, rfl⟩
            case round =>
              clear hB
              obtain ⟨k, hk, hff, hB, rfl⟩ := hrel
              by_cases hkl : k < l.length
              · obtain ⟨c, hx⟩ : ∃ x, l[k]? = some x := ⟨l[k], by simp [hkl]⟩
                obtain ⟨b, o, vs, rfl, ⟨fv, dv, mv, rfl, k1, k2, k3⟩, _, hcells⟩ := HC.out k c hx
                have hcells := hcells.mono hB hcells.lt
                have hstep := any_drop (fun c => roundC (allC l) c.name) l k c hx
                rw [hff.out, ← HRd.out c (List.mem_of_getElem? hx)] at hstep
                have hu := HU.out wr.drew c (below_call hB (Nat.le_refl _) ((Below.refl _ _).drew)) (List.mem_of_getElem? hx)
                have HX := Lib.hid hx
                have hlb := hcells.lt
                obtain ⟨n0, _⟩ := hcells
                clear hx k1 k2 k3 hff
                generalize upC (allC l) c.name = U at *
                have hIn : ∀ wx v, StrsAt wx v U → _ := fun wx v h => in_any U v c.name wx h
                generalize memB U c.name = r at *
                have HUc := Lib.hid hu
                have HIn := Lib.hid hIn
                clear hu hIn
                go_upto_region 21 with (first | fail)
                go_cut [73] (fun s wx => s = .bool r ∧ Below w.heap.size w wx)
                case first =>
                  clear HF hstep HRd
                  go_region_with (first
                    | (go_at_call 39; (with_reducible refine HUc.out.mono ?_); rintro e w7 ⟨⟨v7, rfl, hv7⟩, hB7⟩; (have hn7 := (hB7.cell (p := ⟨b, o + k * 6, none⟩) hlb).trans n0); (have hs7 := strsAt_of_owns hv7); (have hBe := below_call hB (Nat.le_refl _) (below_call ((Below.refl wr.heap.size wr).drew) (Nat.le_refl _) hB7)))
                    | (go_at_call 38; (with_reducible refine (HIn.out _ _ hs7).mono ?_); rintro e w8 ⟨rfl, rfl⟩))
                  all_goals
                    go_wp2
                    go_meet
                    exact ⟨rfl, hBe⟩
                case rest =>
                  clear hB n0 hlb HUc HIn
                  obtain ⟨rfl, hB⟩ := hcut
                  cases r with
                  | true =>
                    rw [Bool.true_or] at hstep
                    have hfin : Hid (res = 6) := by unfold Hid; rw [HF.out, if_pos hstep]
                    clear HF hstep
                    go_wp2_with (first | fail)
                    go_ret
                    exact ⟨by rw [hfin.out]; rfl, hB⟩
                  | false =>
                    rw [Bool.false_or] at hstep
                    have hst := Lib.hid hstep.symm
                    clear HF hstep
                    go_wp2_with (first | fail)
                    go_roundw
                    case rel => exact ⟨k + 1, by omega, hst.out, hB, by simp⟩
                    case measure => simp [intOf]; omega
              · have hno : Hid ((l.any fun c => roundC (allC l) c.name) = false) := by
                  rw [← hff.out, List.drop_eq_nil_of_le (by omega)]; rfl
                obtain rfl : k = l.length := by omega
                have hfin : Hid (res = 0) := by unfold Hid; rw [HF.out, if_neg (by rw [hno.out]; decide)]
                clear hff hno HF HU
                go_wp2_with (first | fail)
                go_ret
                exact ⟨by rw [hfin.out]; rfl, hB⟩
end Go.Proofs.YtlmfmioljeppfaaGreatDoor
namespace Go.Proofs.YtlmfmioljeppfaaGreatDoor
open Go.RowKit Go.Shelf Go.Lib
theorem run_equalIn_iface_int {P : Program} (w : World) (d : Nat) {ti tn : TypeId} {ms : Array (String × TypeId)} {i : TypeInfo} {k : IntKind} (a b : Int)
    (hi : P.underlying ti = some (.interface ms)) (hn : P.underlying tn = some (.int k)) (hinfo : P.info? tn = some i) (hcomp : i.comparable = true) :
    (Op.equalIn (d + 2) ti (.iface tn (.int k a)) (.iface tn (.int k b))).run P w = .ok (a == b) w := by
  simp [Op.equalIn, run_underlying hi, run_underlying hn, typeInfo, hinfo, hcomp]
theorem run_eql_iface_int {P : Program} (w : World) {ti tn : TypeId} {ms : Array (String × TypeId)} {i : TypeInfo} {k : IntKind} (a b : Int)
    (hi : P.underlying ti = some (.interface ms)) (hn : P.underlying tn = some (.int k)) (hinfo : P.info? tn = some i) (hcomp : i.comparable = true) :
    (binOp .eql ti (.iface tn (.int k a)) (.iface tn (.int k b))).run P w = .ok (.bool (a == b)) w := by
  simp only [binOp]
  simp [Op.equal, Op.maxDepth, run_equalIn_iface_int w 9998 a b hi hn hinfo hcomp]
set_option maxRecDepth 100000 in
theorem infoErr : ∃ i, Tryz.prog.info? 29 = some i ∧ i.comparable = true := ⟨_, rfl, rfl⟩
theorem eql_err (a b : Int) (w : World) : (binOp .eql 43 (.iface 29 (.int .i64 a)) (.iface 29 (.int .i64 b))).run Tryz.prog w = .ok (.bool (a == b)) w := by
  obtain ⟨i, h1, h2⟩ := infoErr
  exact run_eql_iface_int w a b Tryz.underlying43 Tryz.underlying29 h1 h2
theorem eql_nil_err (b : Int) (w : World) : (binOp .eql 43 .nilIface (.iface 29 (.int .i64 b))).run Tryz.prog w = .ok (.bool false) w := by kernel_rfl
theorem error_any (a b : Nat) (w : World) : Calls Tryz.prog 18 #[errV a, .int .i64 b] w fun e w' => e = .returned (.bool (decide (a = b))) ∧ w = w' := by
  by_cases hb : b = 0
  · subst hb
    rcases errV_cases a with ⟨hv, rfl⟩ | ⟨hv, hz⟩
    · rw [hv]
      clear hv
      go_enter Tryz.func18, Tryz.ntmps18
      go_wp2
      go_ret
      exact ⟨rfl, rfl⟩
    · rw [hv, decide_eq_false hz]
      clear hv hz
      go_enter Tryz.func18, Tryz.ntmps18
      go_wp2
      go_ret
      exact ⟨rfl, rfl⟩
  · have hb0 : ((b : Int) == 0) = false := by simpa using hb
    rcases errV_cases a with ⟨hv, rfl⟩ | ⟨hv, hz⟩
    · rw [hv, decide_eq_false (fun h => hb h.symm)]
      have hq := eql_nil_err (b : Int)
      clear hv hb
      go_enter Tryz.func18, Tryz.ntmps18
      go_wp2
      go_ret
      exact ⟨rfl, rfl⟩
    · rw [hv]
      have hq := eql_err (a : Int) (b : Int)
      have hd : ((a : Int) == (b : Int)) = decide (a = b) := by rw [Bool.eq_iff_iff, beq_iff_eq, decide_eq_true_eq]; omega
      rw [hd] at hq
      generalize decide (a = b) = r at *
      clear hv hb hz hd
      go_enter Tryz.func18, Tryz.ntmps18
      go_wp2
      go_ret
      exact ⟨rfl, rfl⟩
theorem ownsRow_base {w : World} {base base' : Nat} {e : TypeId} {size : Nat} {v : Value} {n : Nat} {xs : List Value} (h : w.ownsRow base e size v n xs) (hb : base' ≤ base) : w.ownsRow base' e size v n xs := by
  rcases h with ⟨h1, h2 | ⟨g, cap, cur, k1, k2, k3⟩⟩
  · exact ⟨h1, Or.inl h2⟩
  · exact ⟨h1, Or.inr ⟨g, cap, cur, k1, Nat.le_trans hb k2, k3⟩⟩
theorem line_length {l : List Class} (h : Right l) {n : Str} (hk : (findC (allC l) n).isSome = true) : (lineC (allC l) n).length ≤ 13 := by
  have h1 := lineF_length (allC l) (everyC (allC l) n).length n
  have h2 := (every_facts h.closed hk).1.length
  have h3 := h.small
  unfold lineC; omega
set_option maxHeartbeats 1000000 in
set_option maxRecDepth 100000 in
theorem refSupers_fuel (l : List Class) (lv : Value) (hR : Right l) : ∀ (k : Nat) (n : Str) (w : World), ClassesAt w lv l → (findC (allC l) n).isSome = true → (everyC (allC l) n).length ≤ k →
    Calls Tryz.prog 103 #[lv, .string n] w (RowPost w (lineC (allC l) n)) := by
  intro k
  induction k with
  | zero =>
    intro n w _ hk hf
    have := List.length_pos_of_mem (every_facts hR.closed hk).2.1
    omega
  | succ k ih =>
    intro n w hlv hk hf
    have HCO := Lib.hid (refClassOf_any l lv n w hlv)
    unfold ClassGives at HCO
    have HLV : Hid (∀ wx, Below w.heap.size w wx → ClassesAt wx lv l) := fun wx hb => hlv.mono hb
    obtain ⟨pl, cap, rfl, _⟩ := hlv.open
    rw [hk] at HCO
    have ze : (classC (allC l) n).super.toList.isEmpty = decide ((classC (allC l) n).super.size = 0) := empty_iff _
    by_cases h0 : (classC (allC l) n).super.size = 0
    · rw [Right.line_top h0]
      rw [decide_eq_true h0] at ze
      clear ih hlv hk hf h0 HLV hR
      unfold classC at ze
      generalize (findC (allC l) n).getD noClass = d at *
      obtain ⟨n2, s2, f2, b2, d2, m2⟩ := d
      dsimp only at HCO ze
      go_enter Tryz.func103, Tryz.ntmps103
      go_wp2_with (go_at_call 14; (with_reducible refine HCO.out.mono ?_); rintro e w7 ⟨pf2, kf2, pd2, kd2, pm2, km2, rfl, _, _, _, hB7, _⟩)
      go_ret
      have hB8 := hB7.alloc hB7.size (.cells #[.string n2, .string s2, .slice pf2 f2.length kf2, .bool b2, .slice pd2 d2.length kd2, .slice pm2 m2.length km2] 36)
      have := ownsRow_one (w7.alloc (.cells #[.string n2, .string s2, .slice pf2 f2.length kf2, .bool b2, .slice pd2 d2.length kd2, .slice pm2 m2.length km2] 36)) w.heap.size (.string n) hB8.size
      exact ⟨⟨_, rfl, by simpa using this⟩, hB8.alloc hB8.size _⟩
    · obtain ⟨hks, hlt⟩ := hR.up hk h0
      have hll := line_length hR hks
      rw [hR.line_up hk h0]
      rw [decide_eq_false h0] at ze
      have HS : Hid (∀ wx, Below w.heap.size w wx → _) := fun wx hb => ih (classC (allC l) n).super wx (HLV.out wx hb) hks (by omega)
      unfold RowPost at HS
      clear ih hlv hk hf h0 HLV hR hks hlt
      generalize lineC (allC l) (classC (allC l) n).super = L at *
      unfold classC at ze HS
      generalize (findC (allC l) n).getD noClass = d at *
      obtain ⟨n2, s2, f2, b2, d2, m2⟩ := d
      dsimp only at HCO ze HS
      have hc3 : 1 + L.length ≤ maxLen := Nat.le_trans (show 1 + L.length ≤ 14 by omega) (by decide)
      have hc4 : (1 + L.length) * 16 ≤ 140737488355328 := by omega
      have HF3 := Lib.hid hc3
      have HF4 := Lib.hid hc4
      clear hc3 hc4
      go_enter Tryz.func103, Tryz.ntmps103
      go_upto_region 2 with (go_at_call 14; (with_reducible refine HCO.out.mono ?_); rintro e w7 ⟨pf2, kf2, pd2, kd2, pm2, km2, rfl, _, _, _, hB7, _⟩)
      have BX := boxed_new w7 #[.string n2, .string s2, .slice pf2 f2.length kf2, .bool b2, .slice pd2 d2.length kd2, .slice pm2 m2.length km2] 36
      have hB8 := hB7.alloc hB7.size (.cells #[.string n2, .string s2, .slice pf2 f2.length kf2, .bool b2, .slice pd2 d2.length kd2, .slice pm2 m2.length km2] 36)
      generalize w7.alloc (.cells #[.string n2, .string s2, .slice pf2 f2.length kf2, .bool b2, .slice pd2 d2.length kd2, .slice pm2 m2.length km2] 36) = w8 at *
      obtain ⟨q0, q1, q2, q3, q4, q5⟩ := boxed6 BX
      have hone := ownsRow_one w8 w8.heap.size (.string n) (Nat.le_refl _)
      have hBb : Below w8.heap.size w8 (w8.alloc (.cells #[.string n] 9)) := (Below.refl _ _).alloc (Nat.le_refl _) _
      have hlt := BX.size
      have hB9 := below_call hB8 (Nat.le_refl _) hBb
      go_wp2_with (first
        | (go_at_call 103; (with_reducible refine (HS.out _ hB9).mono ?_); rintro e w10 ⟨⟨v10, rfl, hv10⟩, hB10⟩; (have hs10 := strsAt_of_owns hv10); (have hone10 := ownsRow_below hone hB10); (have hB8a := below_call hBb (Nat.le_refl _) hB10))
        | (at_builtin; (refine wpList_append_strs rfl _ _ rfl w8.heap.size _ _ _ rfl hone10 _ L rfl hs10 HF3.out HF4.out hB8a.size ?_); intro v6 w6 hown6 hgrow6 _))
      go_ret
      have hB11 : Below w.heap.size w w6 := below_call hB8 (Nat.le_refl _) (hB8a.grown hgrow6 hB8a.size (fun k hk => (hone10.lt k hk).1))
      have hown7 : w6.ownsRow w8.heap.size 9 1 v6 (n :: L).length ((n :: L).map Value.string) := by simpa [Nat.add_comm] using hown6
      exact ⟨⟨_, rfl, ownsRow_base hown7 hB8.size⟩, hB11⟩
set_option maxHeartbeats 2000000 in
set_option maxRecDepth 100000 in
theorem refEvery_any (l : List Class) (lv : Value) (n : Str) (w : World) (hR : Right l) (hcf : ∀ c ∈ l, classFault c = 0) (hlv : ClassesAt w lv l) (hk : (findC (allC l) n).isSome = true) (hne : ∀ x, (findC (allC l) x).isSome = true → x.size ≠ 0) :
    Calls Tryz.prog 85 #[lv, .string n] w (RowPost w (sortS (everyC (allC l) n))) := by
  have hnd := above_nodup hcf hR.joined hk
  have HU : Hid (∀ wx, Below w.heap.size w wx → _) := fun wx hb => refUpward_any l lv n wx (hlv.mono hb) (fun c hc => Nat.le_trans (faces_of (hcf c hc)) (by decide)) hR.small hR.closed hk hnd
  unfold RowPost at HU
  obtain ⟨hn1, hs1⟩ := every_up hR hcf hk
  obtain ⟨g1, _⟩ := up_facts hR.closed hk hnd
  have hLs := hR.small
  have hLl := g1.length
  rw [← hs1]
  have HLe : Hid (∀ k x, (sortS (n :: upC (allC l) n))[k]? = some x → leastF ((sortS (n :: upC (allC l) n)).take k) (n :: upC (allC l) n) .empty = x) := least_sort hn1 (fun x hx => by
    rcases List.mem_cons.1 hx with rfl | hx
    · exact hne _ hk
    · exact hne x (g1.known x hx))
  have hsl := sortS_length (n :: upC (allC l) n)
  obtain ⟨pl, cap, rfl, _⟩ := hlv.open
  clear hlv hnd hR hcf hk hne hs1 g1 hn1
  generalize upC (allC l) n = U at *
  have hc3 : 1 + U.length ≤ maxLen := Nat.le_trans (show 1 + U.length ≤ 13 by omega) (by decide)
  have hc4 : (1 + U.length) * 16 ≤ 140737488355328 := by omega
  have HF3 := Lib.hid hc3
  have HF4 := Lib.hid hc4
  have hone := ownsRow_one w w.heap.size (.string n) (Nat.le_refl _)
  have hBb : Below w.heap.size w (w.alloc (.cells #[.string n] 9)) := (Below.refl _ _).alloc (Nat.le_refl _) _
  rw [List.length_cons] at hsl
  clear hc3 hc4
  go_enter Tryz.func85, Tryz.ntmps85
  go_upto_region 2 with (first
    | (go_at_call 39; (with_reducible refine (HU.out _ hBb).mono ?_); rintro e w3 ⟨⟨v3, rfl, hv3⟩, hB3⟩; (have hs3 := strsAt_of_owns hv3); (have hone3 := ownsRow_below hone hB3); (have hB4 := below_call hBb (Nat.le_refl _) hB3))
    | (at_builtin; (refine wpList_append_strs rfl _ _ rfl w.heap.size _ _ _ rfl hone3 _ U rfl hs3 HF3.out HF4.out hB4.size ?_); intro v6 w6 hown6 hgrow6 _))
  have hB6 := hB4.grown hgrow6 hB4.size (fun k hk => (hone3.lt k hk).1)
  have hown7 : w6.ownsRow w.heap.size 9 1 v6 (n :: U).length ((n :: U).map Value.string) := by simpa [Nat.add_comm] using hown6
  have hs7 := strsAt_of_owns hown7
  obtain ⟨pL, kL, rfl, hL1, hL2, _⟩ := hs7.open
  have hLb : Hid (∀ g, (Value.slice pL (n :: U).length kL).ownBlock = some g → g < w6.heap.size) := fun g hg => (hown7.lt g hg).2
  have HLc : Hid ((n :: U).length = U.length + 1) := List.length_cons
  clear hone hBb hs3 hone3 hB4 hown6 hgrow6 hown7 HF3 HF4 HU hv3 hB3
  have hL13 : (n :: U).length ≤ 13 := by rw [List.length_cons]; omega
  generalize hL : n :: U = L at *
  have HLL := Lib.hid hL
  clear hL
  have hsl2 : (sortS L).length = L.length := by rw [hsl, HLc.out]
  clear hsl
  generalize sortS L = S at *
  have hlen : L.length ≤ 9223372036854775807 := Nat.le_trans hL1 hL2
  go_wp2_with (first | fail)
  go_loopw [6] (fun v wr => ∃ k : Nat, k ≤ L.length ∧ wr.ownsRow w.heap.size 9 1 v k ((S.take k).map Value.string) ∧ Below w.heap.size w wr ∧ StrsAt wr (.slice pL L.length kL) L ∧ Hid (∀ g, v.ownBlock = some g → (Value.slice pL L.length kL).ownBlock ≠ some g)) (fun v _ => match v with | .slice _ m _ => L.length - m | _ => 0)
  case atStart => exact ⟨0, by omega, ownsRow_nil _ _, hB6, hs7, fun g hg => by cases hg⟩
  case round =>
    clear hB6 hs7
    obtain ⟨k, hk, hown, hB, hS, hsep⟩ := hrel
    obtain ⟨va, vc, rfl⟩ := ownsRow_shape hown
    by_cases hkl : k < L.length
    · obtain ⟨s, hs⟩ : ∃ s, S[k]? = some s := ⟨S[k]'(by omega), by simp [hsl2, hkl]⟩
      have hle := HLe.out k s hs
      have hts : (S.take k).length = k := by rw [List.length_take]; omega
      have hIn : ∀ x, _ := fun x => in_any (S.take k) (.slice va k vc) x wr (strsAt_of_owns (by rw [hts]; exact hown))
      have HIn := Lib.hid hIn
      have HLs := Lib.hid hle
      have HSk := Lib.hid hs
      have HTs := Lib.hid hts
      clear hIn hle hs hts
      generalize hT : S.take k = T at *
      have HT := Lib.hid hT
      clear hT
      obtain ⟨⟨bL, oL, rfl⟩, _⟩ := hS.ptr (by omega)
      go_wp2_with (first | fail)
      go_loopw [7, 8] (fun a x ws => ∃ (j : Nat) (acc : Str), j ≤ L.length ∧ Hid (leastF T (L.drop j) acc = s) ∧ a = .string acc ∧ wr = ws ∧ x = .int .i64 j) (fun _ x _ => L.length - (intOf x).toNat)
      case atStart => exact ⟨0, .empty, by omega, HLs.out, rfl, rfl, rfl⟩
      case round =>
        obtain ⟨j, acc, hj, hff, rfl, rfl, rfl⟩ := hrel
        by_cases hjl : j < L.length
        · obtain ⟨x, hx⟩ : ∃ x, L[j]? = some x := ⟨L[j], by simp [hjl]⟩
          have u0 := hS.cell hx
          have hstep := leastF_drop T L acc j x hx
          rw [hff.out] at hstep
          unfold leastStep at hstep
          have hi := HIn.out x
          have HX := Lib.hid hx
          clear hx hff
          cases hm : memB T x with
          | true =>
            rw [hm] at hi hstep
            replace hstep : s = leastF T (L.drop (j + 1)) acc := hstep
            have hst := Lib.hid hstep.symm
            have HI := Lib.hid hi
            clear hstep hi hm
            go_wp2_with (go_at_call 38; (with_reducible refine HI.out.mono ?_); rintro e w8 ⟨rfl, rfl⟩)
            go_roundw
            case rel => exact ⟨j + 1, acc, by omega, hst.out, by simp, by simp, by simp⟩
            case measure => simp [intOf]; omega
          | false =>
            rw [hm] at hi hstep
            have HI := Lib.hid hi
            clear hi hm
            cases he : acc.toList.isEmpty with
            | true =>
              rw [he] at hstep
              replace hstep : s = leastF T (L.drop (j + 1)) x := hstep
              have hst := Lib.hid hstep.symm
              clear hstep
              go_wp2_with (go_at_call 38; (with_reducible refine HI.out.mono ?_); rintro e w8 ⟨rfl, rfl⟩)
              go_roundw
              case rel => exact ⟨j + 1, x, by omega, hst.out, by simp, by simp, by simp⟩
              case measure => simp [intOf]; omega
            | false =>
              rw [he] at hstep
              cases hb : Op.bytesLess x.toList acc.toList with
              | true =>
                rw [hb] at hstep
                replace hstep : s = leastF T (L.drop (j + 1)) x := hstep
                have hst := Lib.hid hstep.symm
                clear hstep
                go_wp2_with (go_at_call 38; (with_reducible refine HI.out.mono ?_); rintro e w8 ⟨rfl, rfl⟩)
                go_roundw
                case rel => exact ⟨j + 1, x, by omega, hst.out, by simp, by simp, by simp⟩
                case measure => simp [intOf]; omega
              | false =>
                rw [hb] at hstep
                replace hstep : s = leastF T (L.drop (j + 1)) acc := hstep
                have hst := Lib.hid hstep.symm
                clear hstep
                go_wp2_with (go_at_call 38; (with_reducible refine HI.out.mono ?_); rintro e w8 ⟨rfl, rfl⟩)
                go_roundw
                case rel => exact ⟨j + 1, acc, by omega, hst.out, by simp, by simp, by simp⟩
                case measure => simp [intOf]; omega
        · obtain rfl : j = L.length := by omega
          have hdone : Hid (acc = s) := by
            have := hff.out; rw [List.drop_eq_nil_of_le (by omega)] at this; exact this
          cases hdone.out
          clear hdone hff
          have hone := strs_one wr s
          have hBc : Below wr.heap.size wr (wr.alloc (.cells #[.string s] 9)) := (Below.refl _ _).alloc (Nat.le_refl _) _
          have hownA := ownsRow_below hown hBc
          have hSA := hS.mono hBc
          have hBA := below_call hB (Nat.le_refl _) hBc
          have hc3 : k + [s].length ≤ maxLen := Nat.le_trans (show k + 1 ≤ 14 by omega) (by decide)
          have hc4 : (k + [s].length) * 16 ≤ 140737488355328 := by show (k + 1) * 16 ≤ _; omega
          have HF3 := Lib.hid hc3
          have HF4 := Lib.hid hc4
          have HOW := Lib.hid hown
          have HSS := Lib.hid hS
          clear hc3 hc4 hown hS hB
          go_wp2_with (at_builtin; (refine wpList_append_strs rfl _ _ rfl w.heap.size _ _ _ rfl hownA _ [s] rfl hone HF3.out HF4.out hBA.size ?_); intro v6 w7 hown6 hgrow6 hat6)
          have hown7 : w7.ownsRow w.heap.size 9 1 v6 (k + 1) ((S.take (k + 1)).map Value.string) := by
            rw [List.take_add_one, HSk.out, HT.out]; simpa using hown6
          have hB7 : Below w.heap.size w w7 := hBA.grown hgrow6 hBA.size (fun k hk => (hownA.lt k hk).1)
          obtain ⟨gL, hgL, hgLlt⟩ := strsAt_lt HSS.out (List.ne_nil_of_length_pos (by omega))
          have hS7 : StrsAt w7 (.slice (some ⟨bL, oL, none⟩) L.length kL) L := hSA.grown hgrow6 (Or.inr fun he => hsep.out _ (he.symm.trans hgL) hgL)
          have hsep7 : Hid (∀ g, v6.ownBlock = some g → (Value.slice (some ⟨bL, oL, none⟩) L.length kL).ownBlock ≠ some g) := fun g h1 h2 => by
            rcases hat6 with h | h
            · exact hsep.out g (h.symm.trans h1) h2
            · rw [h] at h1; injection h1 with h1
              rw [hgL] at h2; injection h2 with h2
              rw [World.size_alloc] at h1
              omega
          obtain ⟨va6, vc6, rfl⟩ := ownsRow_shape hown7
          clear hown6 hgrow6 hat6 hownA hSA hBA hone hBc
          go_roundw
          case rel => exact ⟨k + 1, by omega, hown7, hB7, hS7, hsep7⟩
          case measure => simp; omega
    · obtain rfl : k = L.length := by omega
      have hall : S.take L.length = S := List.take_of_length_le (by omega)
      rw [hall] at hown
      have HO := Lib.hid hown
      have HBw := Lib.hid hB
      clear hown hB hall hsep hS
      go_wp2_with (first | fail)
      go_ret
      exact ⟨⟨_, rfl, by rw [hsl2]; exact HO.out⟩, HBw.out⟩
end Go.Proofs.YtlmfmioljeppfaaGreatDoor
