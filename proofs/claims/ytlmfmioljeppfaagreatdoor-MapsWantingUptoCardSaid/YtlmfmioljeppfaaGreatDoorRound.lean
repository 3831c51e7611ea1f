/-
  WALK over world.joined. Conditions: texts of at most maxLen signs.
  WALK over world.round. Conditions: as in XEvery.
-/
import Derived.Test.YtlmfmioljeppfaaGreatDoorEvery
import Derived.Deep.DeepCutAuto
import Derived.Deep.RegionWith
namespace Go.Proofs.YtlmfmioljeppfaaGreatDoor
open Go.RowKit Go.Shelf Go.Lib
open Go.WideMaps (keyOf_string_mk string_law)
theorem ClassMap.look3 {w0 w : World} {B : Nat} {cs : List Class} (h : ClassMap w0 w B cs) (hn : (cs.map (·.name)).Nodup) (n : Str) (hs : n.size ≤ maxLen) :
    ∃ pf kf pd kd pm km, StrsAt w0 (.slice pf ((findC cs n).getD noClass).faces.length kf) ((findC cs n).getD noClass).faces ∧ SliceOf w0 2 FieldCells (.slice pd ((findC cs n).getD noClass).fields.length kd) ((findC cs n).getD noClass).fields ∧ SliceOf w0 8 (MethodCells w0) (.slice pm ((findC cs n).getD noClass).methods.length km) ((findC cs n).getD noClass).methods ∧
      ∀ wx, Below w.heap.size w wx →
      (Instr.lookup 97 (.map (some B)) (.string n) true).run Tryz.prog wx = .ok (.tuple #[classV ((findC cs n).getD noClass) (.slice pf ((findC cs n).getD noClass).faces.length kf) (.slice pd ((findC cs n).getD noClass).fields.length kd) (.slice pm ((findC cs n).getD noClass).methods.length km), .bool (findC cs n).isSome]) wx ∧
      (Instr.lookup 97 (.map (some B)) (.string n) false).run Tryz.prog wx = .ok (classV ((findC cs n).getD noClass) (.slice pf ((findC cs n).getD noClass).faces.length kf) (.slice pd ((findC cs n).getD noClass).fields.length kd) (.slice pm ((findC cs n).getD noClass).methods.length km)) wx := by
  obtain ⟨_, _, hlt, es, clock, hb, hlen, hget⟩ := h
  have K := string_law (P := Tryz.prog) strType
  have hkey := keyOf_string_mk (P := Tryz.prog) strType hs
  have hks : ∀ e ∈ es.toList, ∃ l, keyOf Tryz.prog 9 e.key = some l := fun e he => by
    obtain ⟨i, hi, rfl⟩ := List.getElem_of_mem he
    obtain ⟨h1, h2, _⟩ := hget i _ (cs[i]'(by omega)) (List.getElem?_eq_getElem hi) (List.getElem?_eq_getElem (by omega))
    exact ⟨_, by rw [h1]; exact keyOf_string_mk strType h2⟩
  have hkn : ∀ i (hi : i < es.toList.length) (hc : i < cs.length), es.toList[i].key = .string cs[i].name := fun i hi hc => (hget i _ _ (List.getElem?_eq_getElem hi) (List.getElem?_eq_getElem hc)).1
  cases hfc : findC cs n with
  | none =>
    have hno := hfc
    unfold findC at hno; rw [List.find?_eq_none] at hno
    refine ⟨none, 0, none, 0, none, 0, Or.inl ⟨rfl, rfl⟩, Or.inl ⟨rfl, rfl⟩, Or.inl ⟨rfl, rfl⟩, fun wx hw => ?_⟩
    have hbx := (hw.block B hlt).trans hb
    rcases K.find wx hkey es.toList hks with ⟨h1, _⟩ | ⟨j, e0, _, h2, h3⟩
    · constructor <;> simp [Instr.lookup, run_underlying mapType, MapKept.run_getObj_map hbx, K.check wx _ hkey, h1, Result.andThen, classV, noClass] <;> rfl
    · exfalso
      obtain ⟨hj, rfl⟩ := List.getElem?_eq_some_iff.1 h2
      rw [hkn j hj (by omega)] at h3
      injection h3 with h3
      exact hno cs[j] (List.getElem_mem _) (by simp [h3])
  | some c =>
    have hyes := hfc
    unfold findC at hyes; rw [List.find?_eq_some_iff_getElem] at hyes
    obtain ⟨hcn, j, hj, hcj, _⟩ := hyes
    obtain ⟨g1, g2, fv, dv, mv, g3, g4, g5, g6⟩ := hget j (es.toList[j]'(by omega)) cs[j] (List.getElem?_eq_getElem (by omega)) (List.getElem?_eq_getElem hj)
    have hname : c.name = n := by simpa using hcn
    rw [hcj] at g3 g4 g5 g6
    obtain ⟨pf, kf, rfl, _⟩ := g4.open
    obtain ⟨pd, kd, rfl, _⟩ := g5.open
    obtain ⟨pm, km, rfl, _⟩ := g6.open
    refine ⟨pf, kf, pd, kd, pm, km, g4, g5, g6, fun wx hw => ?_⟩
    have hbx := (hw.block B hlt).trans hb
    rcases K.find wx hkey es.toList hks with ⟨_, h2⟩ | ⟨i, e0, h1, h2, h3⟩
    · exfalso
      refine h2 _ (List.getElem_mem (show j < es.toList.length by omega)) ?_
      rw [hkn j (by omega) hj, hcj, hname]
    · obtain ⟨hi, rfl⟩ := List.getElem?_eq_some_iff.1 h2
      have hic : i < cs.length := by omega
      rw [hkn i hi hic] at h3
      injection h3 with h3
      have hij : i = j := by
        have hcjn : cs[j].name = n := by rw [hcj, hname]
        rcases Nat.lt_trichotomy i j with hlt' | he | hlt'
        · have := List.pairwise_iff_getElem.1 hn i j (by simpa using hic) (by simpa using hj) hlt'; simp [h3, hcjn] at this
        · exact he
        · have := List.pairwise_iff_getElem.1 hn j i (by simpa using hj) (by simpa using hic) hlt'; simp [h3, hcjn] at this
      subst hij
      rw [g3] at h1
      constructor <;> simp [Instr.lookup, run_underlying mapType, MapKept.run_getObj_map hbx, K.check wx _ hkey, h1, Result.andThen]
def joinedC (cs : List Class) (c : Class) : Nat :=
  if c.super.size = 0 then 1
  else if !(findC cs c.super).isSome then 3
  else if c.faces.any (fun n => !(findC cs n).isSome) then 3
  else if hasFault cs c.super false ≠ 0 then hasFault cs c.super false
  else if firstFault (fun n => hasFault cs n true) c.faces ≠ 0 then firstFault (fun n => hasFault cs n true) c.faces
  else if c.face && decide (c.super ≠ sObject) then 7 else 0
set_option maxHeartbeats 4000000 in
set_option maxRecDepth 100000 in
theorem joined_any (w0 w : World) (B : Nat) (cs : List Class) (hm : ClassMap w0 w B cs) (hn : (cs.map (·.name)).Nodup) (c : Class) (fv dv mv : Value) (hsu : c.super.size ≤ maxLen) (hfs : ∀ x ∈ c.faces, x.size ≤ maxLen) (hf : StrsAt w0 fv c.faces) (v : Value) (hv : errV (joinedC cs c) = v) :
    Calls Tryz.prog 88 #[.map (some B), classV c fv dv mv] w fun e w' => e = .returned v ∧ Below w.heap.size w w' := by
  obtain ⟨ps, ks, pd, kd, pm, km, _, _, _, hlk⟩ := hm.look3 hn c.super hsu
  have HS : Hid (∀ x ∈ c.faces, x.size ≤ maxLen) := hfs
  have HHas : Hid (∀ (wx : World) (n : Str) (f : Bool), Below w.heap.size w wx → n.size ≤ maxLen → _) := fun wx n f hb hs => has_any w0 wx B cs (hm.step hb) hn n hs f
  have HLo : Hid (∀ n : Str, n.size ≤ maxLen → _) := fun n hs => hm.look3 hn n hs
  have HLK := Lib.hid hlk
  have hfw := hf.mono hm.below
  obtain ⟨pf, capf, rfl, hf1, hf2, hfc⟩ := hfw.open
  have HFC := Lib.hid hfc
  have HF : Hid (v = errV (joinedC cs c)) := hv.symm
  clear hlk hfc hfw hf hm hfs hv hn
  obtain ⟨name, super, faces, face, fields, methods⟩ := c
  try unfold classV at *
  dsimp only at *
  have ze : super.toList.isEmpty = decide (super.size = 0) := empty_iff super
  by_cases h0 : super.size = 0
  · have hfin : Hid (v = .iface 29 (.int .i64 1)) := by rw [HF.out]; unfold joinedC; rw [if_pos h0]; rfl
    rw [decide_eq_true h0] at ze
    clear HF h0 HLK HLo HHas
    go_enter Tryz.func88, Tryz.ntmps88
    go_wp2_with (first | fail)
    cases hfin.out
    go_ret
    exact ⟨rfl, (Below.refl _ _).alloc (Nat.le_refl _) _⟩
  · rw [decide_eq_false h0] at ze
    obtain ⟨l1, l2⟩ := HLK.out _ ((Below.refl _ _).alloc (Nat.le_refl _) (.cells #[.string name, .string super, .slice pf faces.length capf, .bool face, dv, mv] 36))
    clear l2
    have hj : Hid (v = errV (if !(findC cs super).isSome then 3 else if faces.any (fun n => !(findC cs n).isSome) then 3 else if hasFault cs super false ≠ 0 then hasFault cs super false else if firstFault (fun n => hasFault cs n true) faces ≠ 0 then firstFault (fun n => hasFault cs n true) faces else if face && decide (super ≠ sObject) then 7 else 0)) := by
      unfold Hid; rw [HF.out]; unfold joinedC; rw [if_neg h0]
    clear HF h0
    have hc := hj
    cases hfc : (findC cs super).isSome with
    | false =>
      rw [hfc] at l1 hj
      have hfin : Hid (v = .iface 29 (.int .i64 3)) := by rw [hj.out]; rfl
      clear hc hj hfc HHas HLo HLK
      generalize (findC cs super).getD noClass = d at *
      obtain ⟨n1, s1, f1, b1, d1, m1⟩ := d
      try unfold classV at *
      dsimp only at *
      go_enter Tryz.func88, Tryz.ntmps88
      go_wp2_with (first | fail)
      cases hfin.out
      go_ret
      exact ⟨rfl, below_alloc2 _ _ _⟩
    | true =>
      rw [hfc] at l1 hj
      have hj2 : Hid (v = errV (if faces.any (fun n => !(findC cs n).isSome) then 3 else if hasFault cs super false ≠ 0 then hasFault cs super false else if firstFault (fun n => hasFault cs n true) faces ≠ 0 then firstFault (fun n => hasFault cs n true) faces else if face && decide (super ≠ sObject) then 7 else 0)) := hj.out
      clear hc hj hfc HLK
      generalize (findC cs super).getD noClass = d at *
      obtain ⟨n1, s1, f1, b1, d1, m1⟩ := d
      try unfold classV at l1
      dsimp only at l1
      go_enter Tryz.func88, Tryz.ntmps88
      go_wp2_with (first | fail)
      go_loopw [32] (fun x wr => ∃ k, k ≤ faces.length ∧ Hid (((faces.drop k).any fun n => !(findC cs n).isSome) = (faces.any fun n => !(findC cs n).isSome)) ∧ Boxed w wr [.string name, .string super, .slice pf faces.length capf, .bool face, dv, mv] ∧ x = .int .i64 k) (fun x _ => faces.length - (intOf x).toNat)
      case atStart => exact ⟨0, by omega, rfl, Boxed.alloc ⟨(Below.refl _ _).alloc (Nat.le_refl _) _, by simp, by simp [Cells]⟩ _, rfl⟩
      case round =>
        obtain ⟨k, hk, hff, BX, rfl⟩ := hrel
        obtain ⟨q0, q1, q2, q3, q4, q5⟩ := boxed6 BX
        have hlen : faces.length ≤ 9223372036854775807 := Nat.le_trans hf1 hf2
        have hszw := BX.size
        by_cases hkl : k < faces.length
        · obtain ⟨x, hx⟩ : ∃ x, faces[k]? = some x := ⟨faces[k], by simp [hkl]⟩
          obtain ⟨b, o, vs, rfl, hR, _, hcells⟩ := HFC.out k x hx
          unfold StrCells at hR; subst hR
          have hcells := hcells.mono BX.below hcells.lt
          have hstep := any_drop (fun n => !(findC cs n).isSome) faces k x hx
          rw [hff.out] at hstep
          obtain ⟨pf2, kf2, pd2, kd2, pm2, km2, _, _, _, hl2⟩ := HLo.out x (HS.out x (List.mem_of_getElem? hx))
          obtain ⟨l3, _⟩ := hl2 wr BX.below
          have HX := Lib.hid hx; clear hx hl2
          have c0 := hcells.1
          rw [Nat.mul_one] at c0
          cases hfx : (findC cs x).isSome with
          | false =>
            rw [hfx] at l3 hstep
            replace hstep : (faces.any fun n => !(findC cs n).isSome) = true := hstep
            have hfin : Hid (v = .iface 29 (.int .i64 3)) := by rw [hj2.out, if_pos hstep]; rfl
            clear hstep hj2 HHas HLo hfx hcells
            generalize (findC cs x).getD noClass = d at *
            obtain ⟨n2, s2, f2, b2, d2, m2⟩ := d
            try unfold classV at l3
            dsimp only at l3
            go_wp2_with (first | fail)
            cases hfin.out
            go_ret
            exact ⟨rfl, (BX.alloc _).below⟩
          | true =>
            rw [hfx] at l3 hstep
            have hst : Hid (((faces.drop (k + 1)).any fun n => !(findC cs n).isSome) = (faces.any fun n => !(findC cs n).isSome)) := by unfold Hid; simpa using hstep.symm
            clear hstep hj2 HHas HLo hfx hcells
            generalize (findC cs x).getD noClass = d at *
            obtain ⟨n2, s2, f2, b2, d2, m2⟩ := d
            try unfold classV at l3
            dsimp only at l3
            go_wp2_with (first | fail)
            go_roundw
            case rel => exact ⟨k + 1, by omega, hst, BX.alloc _, by simp⟩
            case measure => simp [intOf]; omega
        · have hno : Hid ((faces.any fun n => !(findC cs n).isSome) = false) := by
            rw [← hff.out, List.drop_eq_nil_of_le (by omega)]; rfl
          clear hff
          obtain rfl : k = faces.length := by omega
          have hj3 : Hid (v = errV (if hasFault cs super false ≠ 0 then hasFault cs super false else if firstFault (fun n => hasFault cs n true) faces ≠ 0 then firstFault (fun n => hasFault cs n true) faces else if face && decide (super ≠ sObject) then 7 else 0)) := by
            rw [hj2.out, if_neg (by rw [hno.out]; decide)]; rfl
          clear hj2 hno
          have HH1 := Lib.hid (HHas.out wr super false BX.below hsu)
          rcases errV_cases (hasFault cs super false) with ⟨hv1, hz⟩ | ⟨hv1, hz⟩
          · rw [hv1] at HH1
            rw [if_neg (by rw [hz]; decide)] at hj3
            clear hv1 hz HLo
            go_wp2_with (go_at_call 123; (with_reducible refine HH1.out.mono ?_); rintro e w3 ⟨rfl, hB3⟩; obtain ⟨hcl, _⟩ := bcell hB3; (have r2 := (hcl w.heap.size 2 hszw).trans q2))
            go_loopw [56] (fun x wr => ∃ k, k ≤ faces.length ∧ Hid (firstFault (fun n => hasFault cs n true) (faces.drop k) = firstFault (fun n => hasFault cs n true) faces) ∧ Boxed w wr [.string name, .string super, .slice pf faces.length capf, .bool face, dv, mv] ∧ x = .int .i64 k) (fun x _ => faces.length - (intOf x).toNat)
            case atStart => exact ⟨0, by omega, rfl, BX.step hB3, rfl⟩
            case round =>
              clear q0 q1 q2 q3 q4 q5 hcl r2 hB3 HH1 hszw BX
              obtain ⟨k, hk, hff, BX, rfl⟩ := hrel
              obtain ⟨q0, q1, q2, q3, q4, q5⟩ := boxed6 BX
              have hszw := BX.size
              by_cases hkl : k < faces.length
              · obtain ⟨x, hx⟩ : ∃ x, faces[k]? = some x := ⟨faces[k], by simp [hkl]⟩
                obtain ⟨b, o, vs, rfl, hR, _, hcells⟩ := HFC.out k x hx
                unfold StrCells at hR; subst hR
                have hcells := hcells.mono BX.below hcells.lt
                have hstep := firstFault_drop (fun n => hasFault cs n true) faces k x hx
                rw [hff.out] at hstep
                have HH2 := Lib.hid (HHas.out wr x true BX.below (HS.out x (List.mem_of_getElem? hx)))
                have HX := Lib.hid hx; clear hx
                have c0 := hcells.1
                rw [Nat.mul_one] at c0
                clear hcells HHas
                rcases errV_cases (hasFault cs x true) with ⟨hv2, hz⟩ | ⟨hv2, hz⟩
                · rw [hv2] at HH2
                  rw [if_pos hz] at hstep
                  have hst := Lib.hid hstep.symm
                  clear hv2 hz hstep hj3
                  go_wp2_with (go_at_call 123; (with_reducible refine HH2.out.mono ?_); rintro e w4 ⟨rfl, hB4⟩)
                  go_roundw
                  case rel => exact ⟨k + 1, by omega, hst.out, BX.step hB4, by simp⟩
                  case measure => simp [intOf]; omega
                · rw [hv2] at HH2
                  rw [if_neg hz] at hstep
                  have hfin : Hid (v = .iface 29 (.int .i64 (hasFault cs x true))) := by rw [hj3.out, if_pos (by rw [hstep]; exact hz), hstep]; exact hv2
                  clear hv2 hz hstep hj3
                  go_wp2_with (go_at_call 123; (with_reducible refine HH2.out.mono ?_); rintro e w4 ⟨rfl, hB4⟩)
                  cases hfin.out
                  go_ret
                  exact ⟨rfl, (BX.step hB4).below⟩
              · have hno : Hid (firstFault (fun n => hasFault cs n true) faces = 0) := by
                  rw [← hff.out, List.drop_eq_nil_of_le (by omega)]; rfl
                clear hff
                obtain rfl : k = faces.length := by omega
                rw [if_neg (by rw [hno.out]; decide)] at hj3
                have hso : (super.toList == [79, 98, 106, 101, 99, 116]) = decide (super = sObject) := by
                  have := strEq super sObject
                  rwa [show ByteArray.toList sObject = [79, 98, 106, 101, 99, 116] from by rw [ByteArray.toList_eq]; rfl] at this
                cases face with
                | false =>
                  have hfin : Hid (v = .nilIface) := by rw [hj3.out]; rfl
                  clear hj3 hno
                  go_wp2_with (first | fail)
                  cases hfin.out
                  go_ret
                  exact ⟨rfl, BX.below⟩
                | true =>
                  by_cases hs : super = sObject
                  · have hfin : Hid (v = .nilIface) := by rw [hj3.out, hs]; rfl
                    rw [decide_eq_true hs] at hso
                    have HSO := Lib.hid hs
                    clear hj3 hno hs
                    go_wp2_with (first | fail)
                    cases hfin.out
                    go_ret
                    exact ⟨rfl, BX.below⟩
                  · have hfin : Hid (v = .iface 29 (.int .i64 7)) := by rw [hj3.out]; simp [hs, errV, Hid]
                    rw [decide_eq_false hs] at hso
                    have HSO := Lib.hid hs
                    clear hj3 hno hs
                    go_wp2_with (first | fail)
                    cases hfin.out
                    go_ret
                    exact ⟨rfl, BX.below⟩
          · rw [hv1] at HH1
            rw [if_pos hz] at hj3
            have hfin : Hid (v = .iface 29 (.int .i64 (hasFault cs super false))) := by rw [hj3.out]; exact hv1
            clear hv1 hz HLo hj3
            go_wp2_with (go_at_call 123; (with_reducible refine HH1.out.mono ?_); rintro e w3 ⟨rfl, hB3⟩)
            cases hfin.out
            go_ret
            exact ⟨rfl, (BX.step hB3).below⟩
end Go.Proofs.YtlmfmioljeppfaaGreatDoor
namespace Go.Proofs.YtlmfmioljeppfaaGreatDoor
open Go.RowKit Go.Shelf Go.Lib
theorem memB_sort (l : List Str) (x : Str) : memB (sortS l) x = memB l x := by
  rw [Bool.eq_iff_iff, memB_iff, memB_iff]
  unfold sortS
  rw [List.mem_map]
  constructor
  · rintro ⟨y, hy, rfl⟩
    rw [List.mem_mergeSort, List.mem_map] at hy
    obtain ⟨z, hz, rfl⟩ := hy
    exact hz
  · intro hx
    exact ⟨x.data.toList, by rw [List.mem_mergeSort, List.mem_map]; exact ⟨x, hx, rfl⟩, rfl⟩
set_option maxHeartbeats 1000000 in
theorem round1_any (w0 w : World) (B : Nat) (cs : List Class) (hm : ClassMap w0 w B cs) (hn : (cs.map (·.name)).Nodup) (h8 : ∀ c ∈ cs, c.faces.length ≤ 8) (h12 : cs.length ≤ 12) (hcl : Closed cs) (a n : Str) (hk : (findC cs a).isSome = true)
    (b1 b2 : Nat) (h1 : w.cell? ⟨b1, 0, none⟩ = some (.map (some B))) (h2 : w.cell? ⟨b2, 0, none⟩ = some (.string n)) (hb2 : b2 < w.heap.size) :
    Calls Tryz.prog 126 #[.string a, .pointer (some ⟨b1, 0, none⟩), .pointer (some ⟨b2, 0, none⟩)] w fun e w' => e = .returned (.bool (memB (everyC cs a) n)) ∧ Below w.heap.size w w' := by
  have HE := Lib.hid (every_any w0 w.drew B cs (hm.step ((Below.refl _ _).drew)) hn h8 h12 hcl a hk)
  have HC : Hid (∀ v wx, StrsAt wx v (sortS (everyC cs a)) → _) := fun v wx h => contains_any (sortS (everyC cs a)) v n wx h
  rw [memB_sort] at HC
  generalize memB (everyC cs a) n = r at *
  generalize sortS (everyC cs a) = l at *
  clear hm hn h8 hcl hk
  go_enter Tryz.func126, Tryz.ntmps126
  go_upto_region 1 with (first | fail)
  go_region_with (first
    | (go_at_call 127; (with_reducible refine HE.out.mono ?_); rintro e w2 ⟨⟨v, rfl, hv⟩, hB2⟩; obtain ⟨p, k, rfl, _⟩ := hv.open; (have h3 := (hB2.cell (p := ⟨b2, 0, none⟩) hb2).trans h2))
    | (go_at_call 119; (with_reducible refine (HC.out _ _ hv).mono ?_); rintro e w3 ⟨rfl, rfl⟩))
  all_goals
    go_wp2
    go_ret
    exact ⟨rfl, below_call (Below.refl _ _).drew (Nat.le_refl _) hB2⟩
def roundC (cs : List Class) (n : Str) : Bool := (aboveC cs n).any fun a => memB (everyC cs a) n
set_option maxHeartbeats 1000000 in
theorem round_any (w0 w : World) (B : Nat) (cs : List Class) (hm : ClassMap w0 w B cs) (hn : (cs.map (·.name)).Nodup) (h8 : ∀ c ∈ cs, c.faces.length ≤ 8) (h12 : cs.length ≤ 12) (hcl : Closed cs) (n : Str) (hk : (findC cs n).isSome = true) :
    Calls Tryz.prog 89 #[.map (some B), .string n] w fun e w' => e = .returned (.bool (roundC cs n)) ∧ Below w.heap.size w w' := by
  have hmf : ∀ fn first cap w, (Instr.makeFunc fn first cap).run Tryz.prog w = .ok (.func fn first cap) w := fun _ _ _ _ => rfl
  have HB := Lib.hid (below_alloc2 w (.cells #[.map (some B)] 97) (.cells #[.string n] 9))
  have HAb := Lib.hid (above_any w0 _ B cs (hm.step HB.out) hn h8 n (hm.names hk))
  have HAn : Hid (∀ v wx, StrsAt wx v (aboveC cs n) → Below w.heap.size w wx → w.heap.size + 1 < wx.heap.size → wx.cell? ⟨w.heap.size, 0, none⟩ = some (.map (some B)) → wx.cell? ⟨w.heap.size + 1, 0, none⟩ = some (.string n) →
      Calls Tryz.prog 124 #[v, .func (.func 126) #[] #[.pointer (some ⟨w.heap.size, 0, none⟩), .pointer (some ⟨w.heap.size + 1, 0, none⟩)]] wx fun e w' => e = .returned (.bool (roundC cs n)) ∧ Below wx.heap.size wx w') := by
    intro v wx hv hb hs h1 h2
    refine anyFunc_string StrCells (fun a => memB (everyC cs a) n) 126 _ (enters_of Tryz.func126 (by kernel_rfl) rfl) (aboveC cs n) v wx hv ?_
    rintro W x a0 hx hh hW
    unfold StrCells at hh
    simp only [List.cons.injEq, and_true] at hh
    subst hh
    show Calls Tryz.prog 126 #[.string x, .pointer (some ⟨w.heap.size, 0, none⟩), .pointer (some ⟨w.heap.size + 1, 0, none⟩)] W _
    exact round1_any w0 W B cs ((hm.step hb).step hW) hn h8 h12 hcl x n (hcl n hk x hx) _ _ ((hW.cell (p := ⟨_, 0, none⟩) (show w.heap.size < wx.heap.size by omega)).trans h1) ((hW.cell (p := ⟨_, 0, none⟩) hs).trans h2) (Nat.lt_of_lt_of_le (by omega) hW.size)
  clear hm hn h8 hcl hk
  generalize roundC cs n = r at *
  generalize aboveC cs n = abv at *
  go_enter Tryz.func89, Tryz.ntmps89
  go_wp2_with (first
    | (go_at_call 125; (with_reducible refine HAb.out.mono ?_); rintro e w2 ⟨⟨v, rfl, hv, _⟩, hB2⟩; obtain ⟨p, k, rfl, _⟩ := hv.open)
    | (go_at_call 124; (with_reducible refine (HAn.out _ _ hv (below_call HB.out (Nat.le_refl _) hB2) (Nat.lt_of_lt_of_le (by simp) hB2.size) ((hB2.cell (p := ⟨_, 0, none⟩) (by simp; omega)).trans (by simp)) ((hB2.cell (p := ⟨_, 0, none⟩) (by simp)).trans (by simp))).mono ?_); rintro e w3 ⟨rfl, hB3⟩))
  go_ret
  exact ⟨rfl, below_call (below_call HB.out (Nat.le_refl _) hB2) (Nat.le_refl _) hB3⟩
end Go.Proofs.YtlmfmioljeppfaaGreatDoor
