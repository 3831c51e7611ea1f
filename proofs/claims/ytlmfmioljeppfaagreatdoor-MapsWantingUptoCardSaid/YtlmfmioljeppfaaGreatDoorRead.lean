/-
  WALK over world.Read. Conditions: numbers of 64 bits, texts of at most 1048576 signs, the table of forms lies as the text lays it.
-/
import Derived.Test.YtlmfmioljeppfaaGreatDoorRound
namespace Go.Proofs.YtlmfmioljeppfaaGreatDoor
open Go.RowKit Go.Shelf Go.Lib
def allC (l : List Class) : List Class := cObject :: cFault :: l
def readStep (c : Class) (ahead : List Class) : Nat := if classFault c ≠ 0 then classFault c else if (findC (allC ahead) c.name).isSome then 5 else 0
def readFault (l : List Class) : Nat :=
  if 10 < l.length then 4
  else if foldFault readStep [] l ≠ 0 then foldFault readStep [] l
  else if firstFault (joinedC (allC l)) l ≠ 0 then firstFault (joinedC (allC l)) l
  else if l.any (fun c => roundC (allC l) c.name) then 6 else 0
theorem allC_snoc (l : List Class) (k : Nat) (c : Class) (h : l[k]? = some c) : allC (l.take (k + 1)) = allC (l.take k) ++ [c] := by
  obtain ⟨hk, rfl⟩ := List.getElem?_eq_some_iff.1 h
  unfold allC
  rw [List.take_succ_eq_append_getElem hk]; rfl
theorem findC_snoc_nodup {cs : List Class} {c : Class} (hn : (cs.map (·.name)).Nodup) (hf : findC cs c.name = none) : ((cs ++ [c]).map (·.name)).Nodup := by
  unfold findC at hf
  rw [List.find?_eq_none] at hf
  rw [List.map_append, List.map_singleton, List.nodup_append]
  refine ⟨hn, by simp, fun x hx y hy => ?_⟩
  simp at hy; subst hy
  obtain ⟨d, hd, rfl⟩ := List.mem_map.1 hx
  simpa using hf d hd
theorem allC_nil_nodup : ((allC []).map (·.name)).Nodup := by decide
theorem faces_of {c : Class} (h : classFault c = 0) : c.faces.length ≤ 8 := by
  unfold classFault at h
  split at h
  · cases h
  · split at h
    · rename_i h1; exact absurd h h1
    · split at h
      · cases h
      · rename_i h1; omega
theorem allC_small {l : List Class} (h : ∀ c ∈ l, classFault c = 0) : ∀ c ∈ allC l, c.faces.length ≤ 8 := by
  intro c hc
  unfold allC at hc
  rcases List.mem_cons.1 hc with rfl | hc
  · decide
  · rcases List.mem_cons.1 hc with rfl | hc
    · decide
    · exact faces_of (h c hc)
theorem joined_known {cs : List Class} {c : Class} (h : joinedC cs c = 0) : (findC cs c.super).isSome = true ∧ ∀ a ∈ c.faces, (findC cs a).isSome = true := by
  unfold joinedC at h
  split at h
  · cases h
  · split at h
    · cases h
    · rename_i h1
      split at h
      · cases h
      · rename_i h2
        rw [Bool.not_eq_true, List.any_eq_false] at h2
        refine ⟨?_, fun a ha => ?_⟩
        · cases hq : (findC cs c.super).isSome with
          | true => rfl
          | false => exact absurd (by rw [hq]; rfl) h1
        · cases hq : (findC cs a).isSome with
          | true => rfl
          | false => exact absurd (by rw [hq]; rfl) (h2 a ha)
theorem firstFault_all {α : Type} {f : α → Nat} {l : List α} (h : firstFault f l = 0) : ∀ x ∈ l, f x = 0 := by
  induction l with
  | nil => intro x hx; cases hx
  | cons a r ih =>
    rw [firstFault] at h
    by_cases ha : f a = 0
    · rw [if_pos ha] at h
      intro x hx
      rcases List.mem_cons.1 hx with rfl | hx
      · exact ha
      · exact ih h x hx
    · rw [if_neg ha] at h; exact absurd h ha
theorem closed_of {l : List Class} (h : ∀ c ∈ l, joinedC (allC l) c = 0) : Closed (allC l) := by
  intro x hx a ha
  rw [Option.isSome_iff_exists] at hx
  obtain ⟨c, hc⟩ := hx
  unfold aboveC at ha
  rw [hc] at ha
  simp only [Option.getD_some] at ha
  have hm : c ∈ allC l := List.mem_of_find?_eq_some hc
  unfold allC at hm
  rcases List.mem_cons.1 hm with rfl | hm
  · simp [cObject, noClass] at ha
  · rcases List.mem_cons.1 hm with rfl | hm
    · simp [cFault, noClass, sObject] at ha
      obtain ⟨_, rfl⟩ := ha
      rfl
    · obtain ⟨h1, h2⟩ := joined_known (h c hm)
      split at ha
      · exact h2 a ha
      · rcases List.mem_cons.1 ha with rfl | ha
        · exact h1
        · exact h2 a ha
theorem known_of {l : List Class} {c : Class} (h : c ∈ l) : (findC (allC l) c.name).isSome = true := by
  unfold findC
  rw [List.find?_isSome]
  exact ⟨c, by simp [allC, h], by simp⟩
def ReadPost (w : World) (l : List Class) (e : Ending) (w' : World) : Prop :=
  Below w.heap.size w w' ∧
  ((readFault l = 0 ∧ e = .returned (.tuple #[.map (some w.heap.size), .nilIface]) ∧ ClassMap w w' w.heap.size (allC l) ∧ ((allC l).map (·.name)).Nodup ∧ (∀ c ∈ l, classFault c = 0) ∧ Closed (allC l) ∧ l.length ≤ 10) ∨
   (readFault l ≠ 0 ∧ e = .returned (.tuple #[.map none, .iface 29 (.int .i64 (readFault l))])))
theorem read_no {w w' : World} {l : List Class} {n : Nat} (hb : Below w.heap.size w w') (h : readFault l = n) (hn : n ≠ 0) : ReadPost w l (.returned (.tuple #[.map none, .iface 29 (.int .i64 n)])) w' := by
  subst h; exact ⟨hb, Or.inr ⟨hn, rfl⟩⟩
theorem sliceOf_empty {α : Type} {w w' : World} {k : Nat} {R R' : α → List Value → Prop} {v : Value} (h : SliceOf w k R v ([] : List α)) : SliceOf w' k R' v ([] : List α) := by
  rcases h with ⟨h, _⟩ | ⟨a, cap, h1, h2, h3, _⟩
  · exact Or.inl ⟨h, rfl⟩
  · exact Or.inr ⟨a, cap, h1, h2, h3, fun i x hx => by simp at hx⟩
def ReadPostB (wb w : World) (l : List Class) (e : Ending) (w' : World) : Prop := ReadPost w l e w' ∧ (readFault l = 0 → ClassMap wb w' w.heap.size (allC l))
theorem read_noB {wb w w' : World} {l : List Class} {n : Nat} (hb : Below w.heap.size w w') (h : readFault l = n) (hn : n ≠ 0) : ReadPostB wb w l (.returned (.tuple #[.map none, .iface 29 (.int .i64 n)])) w' :=
  ⟨read_no hb h hn, fun e => absurd (h.symm.trans e) hn⟩
theorem classMap_base2 {wb w w' : World} {B : Nat} (h : ClassMap w w' B [cObject, cFault]) (hb : Below wb.heap.size wb w) : ClassMap wb w' B [cObject, cFault] := by
  obtain ⟨h1, h2, h3, es, clock, h4, h5, h6⟩ := h
  refine ⟨below_call hb (Nat.le_refl _) h1, Nat.le_trans hb.size h2, h3, es, clock, h4, h5, fun i e c he hc => ?_⟩
  obtain ⟨k1, k2, fv, dv, mv, k3, k4, k5, k6⟩ := h6 i e c he hc
  have hc' : c.faces = [] ∧ c.fields = [] ∧ c.methods = [] := by
    rcases List.mem_cons.1 (List.mem_of_getElem? hc) with rfl | hc
    · exact ⟨rfl, rfl, rfl⟩
    · rw [List.mem_singleton.1 hc]; exact ⟨rfl, rfl, rfl⟩
  obtain ⟨e1, e2, e3⟩ := hc'
  rw [e1] at k4
  rw [e2] at k5
  rw [e3] at k6
  refine ⟨k1, k2, fv, dv, mv, k3, ?_, ?_, ?_⟩
  · rw [e1]; exact sliceOf_empty k4
  · rw [e2]; exact sliceOf_empty k5
  · rw [e3]; exact sliceOf_empty k6
set_option maxHeartbeats 4000000 in
set_option maxRecDepth 100000 in
theorem readB_any (l : List Class) (lv : Value) (wb w : World) (hbw : Below wb.heap.size wb w) (hl : Laid w) (ho : ∀ c ∈ l, ClassOk c) (hlv : ClassesAt wb lv l) :
    Calls Tryz.prog 50 #[lv] w (ReadPostB wb w l) := by
  obtain ⟨pl, cap, rfl, hc1, hc2, hcc⟩ := hlv.open
  have Hbw := Lib.hid hbw
  have HCl : Hid (∀ wx c fv dv mv, Below w.heap.size w wx → c ∈ l → StrsAt w fv c.faces → SliceOf w 2 FieldCells dv c.fields → SliceOf w 8 (MethodCells w) mv c.methods → _) := fun wx c fv dv mv hb hc h1 h2 h3 =>
    class_any c fv dv mv wx (hl.mono hb hl.1) (ho c hc) (h1.mono hb) (h2.mono hb (by decide) (fun _ _ h => h)) (h3.mono hb (by decide) (fun _ _ h => h.mono hb)) _ rfl
  have HC : Hid (∀ (i : Nat) (x : Class), l[i]? = some x → ∃ b o vs, pl = some ⟨b, o, none⟩ ∧ ClassCells wb x vs ∧ vs.length = 6 ∧ Cells wb b (o + i * 6) vs) := hcc
  have HO := Lib.hid ho
  clear hcc hlv hl ho hbw
  by_cases h10 : 10 < l.length
  · have hf : readFault l = 4 := by unfold readFault; rw [if_pos h10]
    have HF := Lib.hid hf
    clear hf HC HCl
    go_enter Tryz.func50, Tryz.ntmps50
    go_wp2_with (first | fail)
    all_goals first | (exfalso; omega) | skip
    go_ret2
    exact read_noB (Below.refl _ _) HF.out (by decide)
  have HF : Hid (readFault l = if foldFault readStep [] l ≠ 0 then foldFault readStep [] l
      else if firstFault (joinedC (allC l)) l ≠ 0 then firstFault (joinedC (allC l)) l
      else if l.any (fun c => roundC (allC l) c.name) then 6 else 0) := by unfold Hid readFault; rw [if_neg h10]
  have hfst := Lib.hid (first_any w)
  go_enter Tryz.func50, Tryz.ntmps50
  go_wp2_with (go_at_call 86; (with_reducible refine hfst.out.mono ?_); rintro e w1 ⟨rfl, hm1⟩)
  all_goals first | (exfalso; omega) | skip
  have hlen : l.length ≤ 10 := by omega
  go_loopw [22] (fun x wr => ∃ k, k ≤ l.length ∧ Hid (foldFault readStep (l.take k) (l.drop k) = foldFault readStep [] l) ∧ Hid (∀ c ∈ l.take k, classFault c = 0) ∧ Hid (((allC (l.take k)).map (·.name)).Nodup) ∧ ClassMap w wr w.heap.size (allC (l.take k)) ∧ x = .int .i64 k ∧ Hid (ClassMap wb wr w.heap.size (allC (l.take k)))) (fun x _ => l.length - (intOf x).toNat)
  case atStart => exact ⟨0, by omega, rfl, fun c hc => by simp at hc, by rw [List.take_zero]; exact allC_nil_nodup, by rw [List.take_zero]; exact hm1, rfl, by unfold Hid; rw [List.take_zero]; exact classMap_base2 hm1 Hbw.out⟩
  case round =>
    obtain ⟨k, hk, hff, HA, HN, hM, rfl, HMb⟩ := hrel
    clear hm1
    by_cases hkl : k < l.length
    · obtain ⟨c, hx⟩ : ∃ x, l[k]? = some x := ⟨l[k], by simp [hkl]⟩
      have hcm := List.mem_of_getElem? hx
      have hco := HO.out c hcm
      obtain ⟨b, o, vs, rfl, ⟨fv, dv, mv, rfl, j1, j2, j3⟩, _, hcells⟩ := HC.out k c hx
      have hcells := hcells.mono (below_call Hbw.out (Nat.le_refl _) hM.below) hcells.lt
      have k1 := j1.mono Hbw.out (by decide) (fun _ _ h => h)
      have k2 := j2.mono Hbw.out (by decide) (fun _ _ h => h)
      have k3 := j3.mono Hbw.out (by decide) (fun _ _ h => h.mono Hbw.out)
      have hstep := foldFault_drop readStep l k c hx
      rw [hff.out] at hstep
      obtain ⟨pf, capf, rfl, _⟩ := k1.open
      obtain ⟨pd, capd, rfl, _⟩ := k2.open
      obtain ⟨pm, capm, rfl, _⟩ := k3.open
      have hcla : ∀ wx, Below w.heap.size w wx → _ := fun wx hb => HCl.out wx c _ _ _ hb hcm k1 k2 k3
      have HK := Lib.hid (And.intro k1 (And.intro k2 k3))
      have HJ := Lib.hid (And.intro j1 (And.intro j2 j3))
      have HX := Lib.hid hx
      have HCM := Lib.hid hcm
      have HCO := Lib.hid hco
      clear hx hcm hco k1 k2 k3 j1 j2 j3
      obtain ⟨c0, c1, c2, c3, c4, c5, _⟩ := hcells
      unfold classV at hcla
      rcases errV_cases (classFault c) with ⟨hv, hz⟩ | ⟨hv, hz⟩
      · rw [hv] at hcla
        have HCla := Lib.hid hcla
        clear hcla hv
        rw [show readStep c (l.take k) = if (findC (allC (l.take k)) c.name).isSome then 5 else 0 from by unfold readStep; rw [if_neg (by rw [hz]; decide)]] at hstep
        have hall : Hid (∀ d ∈ l.take (k + 1), classFault d = 0) := by
          intro d hd
          obtain ⟨hk1, hk2⟩ := List.getElem?_eq_some_iff.1 HX.out
          rw [List.take_succ_eq_append_getElem hk1, List.mem_append] at hd
          rcases hd with hd | hd
          · exact HA.out d hd
          · simp at hd; subst hd; rw [hk2]; exact hz
        clear hz
        go_upto_region 10 with (go_at_call 87; (with_reducible refine (HCla.out _ (hM.below.alloc hM.below.size _)).mono ?_); rintro e w2 ⟨rfl, hB2⟩)
        have hbr := below_call ((Below.refl wr.heap.size wr).alloc (Nat.le_refl _) (.cells #[.string c.name, .string c.super, .slice pf c.faces.length capf, .bool c.face, .slice pd c.fields.length capd, .slice pm c.methods.length capm] 36)) (Nat.le_refl _) hB2
        have BX : Boxed wr w2 [.string c.name, .string c.super, .slice pf c.faces.length capf, .bool c.face, .slice pd c.fields.length capd, .slice pm c.methods.length capm] := ⟨hbr, Nat.lt_of_lt_of_le (by simp) hB2.size, Cells.mono hB2 (by simp) (by simp [Cells])⟩
        have hM2 := hM.step hbr
        have HM2b := Lib.hid (HMb.out.step hbr)
        obtain ⟨q0, q1, q2, q3, q4, q5⟩ := boxed6 BX
        have hsz := BX.size
        obtain ⟨pf2, kf2, pd2, kd2, pm2, km2, _, _, _, hlk, _⟩ := hM2.look2 HN.out c.name (Nat.le_trans HCO.out.name (by decide))
        clear hB2 hbr c0 c1 c2 c3 c4 c5 HCla hM
        cases hfc : (findC (allC (l.take k)) c.name).isSome with
        | true =>
          rw [hfc] at hstep hlk
          replace hstep : foldFault readStep [] l = 5 := hstep
          have hfin : Hid (readFault l = 5) := by rw [HF.out, if_pos (by rw [hstep]; decide), hstep]; rfl
          clear hstep hfc HF hff HA HN
          generalize (findC (allC (l.take k)) c.name).getD noClass = d at *
          obtain ⟨n2, s2, f2, b2, d2, m2⟩ := d
          unfold classV at hlk
          dsimp only at hlk
          have hBw := Lib.hid (hM2.below.alloc hM2.below.size (.cells #[.string n2, .string s2, .slice pf2 f2.length kf2, .bool b2, .slice pd2 d2.length kd2, .slice pm2 m2.length km2] 36))
          clear hM2
          go_wp2_with (first | fail)
          go_ret2
          exact read_noB hBw.out hfin.out (by decide)
        | false =>
          rw [hfc] at hstep hlk
          have hst : Hid (foldFault readStep (l.take (k + 1)) (l.drop (k + 1)) = foldFault readStep [] l) := hstep.symm
          have hnone : findC (allC (l.take k)) c.name = none := by
            cases hq : findC (allC (l.take k)) c.name with
            | none => rfl
            | some _ => rw [hq] at hfc; cases hfc
          have HN2 : Hid (((allC (l.take (k + 1))).map (·.name)).Nodup) := by
            unfold Hid; rw [allC_snoc l k c HX.out]; exact findC_snoc_nodup HN.out hnone
          have HNO := Lib.hid hnone
          clear hstep hfc HF hff HA hnone
          generalize (findC (allC (l.take k)) c.name).getD noClass = d at *
          obtain ⟨n2, s2, f2, b2, d2, m2⟩ := d
          unfold classV at hlk
          dsimp only at hlk
          have hM3 := hM2.step ((Below.refl _ _).alloc (Nat.le_refl _) (.cells #[.string n2, .string s2, .slice pf2 f2.length kf2, .bool b2, .slice pd2 d2.length kd2, .slice pm2 m2.length km2] 36))
          obtain ⟨w4', hup', hM4b, _⟩ := (HM2b.out.step ((Below.refl _ _).alloc (Nat.le_refl _) (.cells #[.string n2, .string s2, .slice pf2 f2.length kf2, .bool b2, .slice pd2 d2.length kd2, .slice pm2 m2.length km2] 36))).put c _ _ _ (Nat.le_trans HCO.out.name (by decide)) HNO.out HJ.out.1 HJ.out.2.1 HJ.out.2.2
          obtain ⟨w4, hup, hM4, hs4, ho4⟩ := hM3.put c _ _ _ (Nat.le_trans HCO.out.name (by decide)) HNO.out HK.out.1 HK.out.2.1 HK.out.2.2
          rw [← allC_snoc l k c HX.out] at hM4 hM4b
          rw [hup] at hup'
          injection hup' with _ hw4
          subst hw4
          have HM4b := Lib.hid hM4b
          clear hM4b
          unfold classV at hup
          have HM4 := Lib.hid hM4
          clear hM4 hM3 hM2 BX
          go_wp2_with (first | fail)
          go_roundw
          case rel => exact ⟨k + 1, by omega, hst, hall, HN2, HM4.out, by simp, HM4b⟩
          case measure => simp [intOf]; omega
      · rw [hv] at hcla
        rw [show readStep c (l.take k) = classFault c from by unfold readStep; rw [if_pos hz], if_neg hz] at hstep
        have hfin : Hid (readFault l = classFault c) := by rw [HF.out, if_pos (by rw [hstep]; exact hz), hstep]; rfl
        have HCla := Lib.hid hcla
        clear hcla hv hstep HF hff
        have HZ := Lib.hid hz
        clear hz
        generalize classFault c = fc at *
        go_wp2_with (go_at_call 87; (with_reducible refine (HCla.out _ (hM.below.alloc hM.below.size _)).mono ?_); rintro e w2 ⟨rfl, hB2⟩)
        go_ret2
        exact read_noB (below_call (hM.below.alloc hM.below.size _) (Nat.le_refl _) hB2) hfin.out HZ.out
    · have hff0 : Hid (foldFault readStep [] l = 0) := by
        rw [← hff.out, List.drop_eq_nil_of_le (by omega)]; rfl
      obtain rfl : k = l.length := by omega
      have HA2 : Hid (∀ c ∈ l, classFault c = 0) := by have := HA.out; rwa [List.take_length] at this
      rw [List.take_length] at HN hM HMb
      have HF2 : Hid (readFault l = if firstFault (joinedC (allC l)) l ≠ 0 then firstFault (joinedC (allC l)) l else if l.any (fun c => roundC (allC l) c.name) then 6 else 0) := by
        rw [HF.out, if_neg (by rw [hff0.out]; decide)]; rfl
      clear hff hff0 HF HA HCl
      go_wp2_with (first | fail)
      go_loopw [47] (fun x wy => ∃ k, k ≤ l.length ∧ Hid (firstFault (joinedC (allC l)) (l.drop k) = firstFault (joinedC (allC l)) l) ∧ ClassMap w wy w.heap.size (allC l) ∧ x = .int .i64 k ∧ Hid (ClassMap wb wy w.heap.size (allC l))) (fun x _ => l.length - (intOf x).toNat)
      case atStart => exact ⟨0, by omega, rfl, hM, rfl, HMb⟩
      case round =>
        clear hM
        obtain ⟨k, hk, hff, hM, rfl, HMb⟩ := hrel
        by_cases hkl : k < l.length
        · obtain ⟨c, hx⟩ : ∃ x, l[k]? = some x := ⟨l[k], by simp [hkl]⟩
          have hco := HO.out c (List.mem_of_getElem? hx)
          obtain ⟨b, o, vs, rfl, ⟨fv, dv, mv, rfl, j1, j2, j3⟩, _, hcells⟩ := HC.out k c hx
          have hcells := hcells.mono (below_call Hbw.out (Nat.le_refl _) hM.below) hcells.lt
          have k1 := j1.mono Hbw.out (by decide) (fun _ _ h => h)
          have k2 := j2.mono Hbw.out (by decide) (fun _ _ h => h)
          have k3 := j3.mono Hbw.out (by decide) (fun _ _ h => h.mono Hbw.out)
          have hstep := firstFault_drop (joinedC (allC l)) l k c hx
          rw [hff.out] at hstep
          obtain ⟨pf, capf, rfl, _⟩ := k1.open
          obtain ⟨pd, capd, rfl, _⟩ := k2.open
          obtain ⟨pm, capm, rfl, _⟩ := k3.open
          have hMa := hM.step ((Below.refl _ _).alloc (Nat.le_refl _) (.cells #[.string c.name, .string c.super, .slice pf c.faces.length capf, .bool c.face, .slice pd c.fields.length capd, .slice pm c.methods.length capm] 36))
          have hj := joined_any w _ w.heap.size (allC l) hMa HN.out c _ (.slice pd c.fields.length capd) (.slice pm c.methods.length capm) (Nat.le_trans hco.super (by decide)) (fun x hx => Nat.le_trans (hco.faces x hx) (by decide)) k1 _ rfl
          have HMa := Lib.hid hMa
          have HX := Lib.hid hx
          have HMab := Lib.hid (HMb.out.step ((Below.refl _ _).alloc (Nat.le_refl _) (.cells #[.string c.name, .string c.super, .slice pf c.faces.length capf, .bool c.face, .slice pd c.fields.length capd, .slice pm c.methods.length capm] 36)))
          clear hx hco k1 k2 k3 j1 j2 j3 hMa
          obtain ⟨c0, c1, c2, c3, c4, c5, _⟩ := hcells
          unfold classV at hj
          rcases errV_cases (joinedC (allC l) c) with ⟨hv, hz⟩ | ⟨hv, hz⟩
          · rw [hv] at hj
            rw [if_pos hz] at hstep
            have hst := Lib.hid hstep.symm
            have HJ := Lib.hid hj
            clear hj hv hz hstep HF2
            go_wp2_with (go_at_call 88; (with_reducible refine HJ.out.mono ?_); rintro e w2 ⟨rfl, hB2⟩)
            go_roundw
            case rel => exact ⟨k + 1, by omega, hst.out, HMa.out.step hB2, by simp, HMab.out.step hB2⟩
            case measure => simp [intOf]; omega
          · rw [hv] at hj
            rw [if_neg hz] at hstep
            have hfin : Hid (readFault l = joinedC (allC l) c) := by rw [HF2.out, if_pos (by rw [hstep]; exact hz), hstep]; rfl
            have HJ := Lib.hid hj
            have HZ := Lib.hid hz
            clear hj hv hz hstep HF2
            generalize joinedC (allC l) c = fc at *
            go_wp2_with (go_at_call 88; (with_reducible refine HJ.out.mono ?_); rintro e w2 ⟨rfl, hB2⟩)
            go_ret2
            exact read_noB (HMa.out.step hB2).below hfin.out HZ.out
        · have hff0 : Hid (firstFault (joinedC (allC l)) l = 0) := by
            rw [← hff.out, List.drop_eq_nil_of_le (by omega)]; rfl
          obtain rfl : k = l.length := by omega
          have hcl := closed_of (firstFault_all hff0.out)
          have h8 := allC_small HA2.out
          have h12 : (allC l).length ≤ 12 := by unfold allC; simp; omega
          have HF3 : Hid (readFault l = if l.any (fun c => roundC (allC l) c.name) then 6 else 0) := by
            rw [HF2.out, if_neg (by rw [hff0.out]; decide)]; rfl
          have HR : Hid (∀ wx c, ClassMap w wx w.heap.size (allC l) → c ∈ l → _) := fun wx c hm hc => round_any w wx w.heap.size (allC l) hm HN.out h8 h12 hcl c.name (known_of hc)
          have HCL := Lib.hid hcl
          clear hff hff0 HF2 hcl h8 h12
          go_wp2_with (first | fail)
          go_loopw [60] (fun x wy => ∃ k, k ≤ l.length ∧ Hid (((l.drop k).any fun c => roundC (allC l) c.name) = (l.any fun c => roundC (allC l) c.name)) ∧ ClassMap w wy w.heap.size (allC l) ∧ x = .int .i64 k ∧ Hid (ClassMap wb wy w.heap.size (allC l))) (fun x _ => l.length - (intOf x).toNat)
          case atStart => exact ⟨0, by omega, rfl, hM, rfl, HMb⟩
          case round =>
            clear hM
            obtain ⟨k, hk, hff, hM, rfl, HMb⟩ := hrel
            by_cases hkl : k < l.length
            · obtain ⟨c, hx⟩ : ∃ x, l[k]? = some x := ⟨l[k], by simp [hkl]⟩
              obtain ⟨b, o, vs, rfl, ⟨fv, dv, mv, rfl, j1, j2, j3⟩, _, hcells⟩ := HC.out k c hx
              have hcells := hcells.mono (below_call Hbw.out (Nat.le_refl _) hM.below) hcells.lt
              have k1 := j1.mono Hbw.out (by decide) (fun _ _ h => h)
              have k2 := j2.mono Hbw.out (by decide) (fun _ _ h => h)
              have k3 := j3.mono Hbw.out (by decide) (fun _ _ h => h.mono Hbw.out)
              have hstep := any_drop (fun c => roundC (allC l) c.name) l k c hx
              rw [hff.out] at hstep
              obtain ⟨pf, capf, rfl, _⟩ := k1.open
              obtain ⟨pd, capd, rfl, _⟩ := k2.open
              obtain ⟨pm, capm, rfl, _⟩ := k3.open
              have hMa := hM.step ((Below.refl _ _).alloc (Nat.le_refl _) (.cells #[.string c.name, .string c.super, .slice pf c.faces.length capf, .bool c.face, .slice pd c.fields.length capd, .slice pm c.methods.length capm] 36))
              have hj := HR.out _ c hMa (List.mem_of_getElem? hx)
              have HMa := Lib.hid hMa
              have HX := Lib.hid hx
              have HMab := Lib.hid (HMb.out.step ((Below.refl _ _).alloc (Nat.le_refl _) (.cells #[.string c.name, .string c.super, .slice pf c.faces.length capf, .bool c.face, .slice pd c.fields.length capd, .slice pm c.methods.length capm] 36)))
              clear hx k1 k2 k3 j1 j2 j3 hMa
              obtain ⟨c0, c1, c2, c3, c4, c5, _⟩ := hcells
              cases hrc : roundC (allC l) c.name with
              | true =>
                rw [hrc] at hj hstep
                rw [Bool.true_or] at hstep
                have hfin : Hid (readFault l = 6) := by rw [HF3.out, if_pos hstep]; rfl
                have HJ := Lib.hid hj
                clear hj hrc hstep HF3 HR
                go_wp2_with (go_at_call 89; (with_reducible refine HJ.out.mono ?_); rintro e w2 ⟨rfl, hB2⟩)
                go_ret2
                exact read_noB (HMa.out.step hB2).below hfin.out (by decide)
              | false =>
                rw [hrc] at hj hstep
                rw [Bool.false_or] at hstep
                have hst := Lib.hid hstep.symm
                have HJ := Lib.hid hj
                clear hj hrc hstep HF3 HR
                go_wp2_with (go_at_call 89; (with_reducible refine HJ.out.mono ?_); rintro e w2 ⟨rfl, hB2⟩)
                go_roundw
                case rel => exact ⟨k + 1, by omega, hst.out, HMa.out.step hB2, by simp, HMab.out.step hB2⟩
                case measure => simp [intOf]; omega
            · have hno : Hid ((l.any fun c => roundC (allC l) c.name) = false) := by
                rw [← hff.out, List.drop_eq_nil_of_le (by omega)]; rfl
              obtain rfl : k = l.length := by omega
              have hfin : Hid (readFault l = 0) := by rw [HF3.out, if_neg (by rw [hno.out]; decide)]; rfl
              clear hff hno HF3 HR
              have HM := Lib.hid hM
              go_wp2_with (first | fail)
              go_ret2
              exact ⟨⟨HM.out.below, Or.inl ⟨hfin.out, rfl, HM.out, HN.out, HA2.out, HCL.out, hlen⟩⟩, fun _ => HMb.out⟩
theorem read_any (l : List Class) (lv : Value) (w : World) (hl : Laid w) (ho : ∀ c ∈ l, ClassOk c) (hlv : ClassesAt w lv l) : Calls Tryz.prog 50 #[lv] w (ReadPost w l) :=
  (readB_any l lv w w (Below.refl _ _) hl ho hlv).mono fun _ _ h => h.1
end Go.Proofs.YtlmfmioljeppfaaGreatDoor
