/-
  WALKS over slices.IndexFunc at slots and the closure of vtab.Slots. Conditions: none.
  A STORE of a struct of three texts into a row of the call's own. Plain.
  WALK over vtab.Slots. Conditions: a right world, a class that is there.
  WALKS over vtab.Table. Conditions: as in XRead.
-/
import Derived.Test.YtehhmedjgmbpgaaGreatDoorIdx
import Derived.Test.YtehhmedjgmbpgaaGreatDoorTableLaw
import Derived.Test.YtehhmedjgmbpgaaGreatDoorFind
import Derived.Test.YtehhmedjgmbpgaaGreatDoorRow3
import Derived.Laws.OwnMore
import Derived.Test.YtehhmedjgmbpgaaGreatDoorLay
namespace Go.Proofs.YtehhmedjgmbpgaaGreatDoor
open Go.RowKit Go.Shelf Go.Lib
set_option maxHeartbeats 1000000 in
theorem idxFunc_slot {α : Type} (R : α → List Value → Prop) (f : α → Bool) (g : Nat) (lb : Array Value) (eg : ∀ args w, (callFunc g args).run Tryz.prog w = .ok (.enter g args) w) (l : List α) (v : Value) (w : World) (h : SliceOf w 3 R v l)
    (hp : ∀ W x a0 a1 a2, x ∈ l → R x [a0, a1, a2] → Below w.heap.size w W → Calls Tryz.prog g (#[.agg #[a0, a1, a2]] ++ lb) W fun e w' => e = .returned (.bool (f x)) ∧ Below W.heap.size W w') :
    Calls Tryz.prog 98 #[v, .func (.func g) #[] lb] w fun e w' => e = .returned (.int .i64 (idxR f l)) ∧ Below w.heap.size w w' := by
  obtain ⟨p, cap, rfl, h1, h2, hcc⟩ := h.open
  have HC := Lib.hid hcc; clear hcc h
  have HP := Lib.hid hp; clear hp
  have hlen : l.length ≤ 9223372036854775807 := Nat.le_trans h1 h2
  go_enter Tryz.func98, Tryz.ntmps98
  go_wp2_with (first | fail)
  go_loopw [5, 8] (fun _ x wr => ∃ k, k ≤ l.length ∧ Hid (∀ j y, j < k → l[j]? = some y → f y = false) ∧ Below w.heap.size w wr ∧ x = .int .i64 k) (fun _ x _ => l.length - (intOf x).toNat)
  case atStart => exact ⟨0, by omega, fun j y h => by omega, Below.refl _ _, rfl⟩
  case round =>
    obtain ⟨k, hk, hff, hB, rfl⟩ := hrel
    by_cases hkl : k < l.length
    · obtain ⟨x, hx⟩ : ∃ x, l[k]? = some x := ⟨l[k], by simp [hkl]⟩
      obtain ⟨b, o, vs, rfl, hR, hvl, hcells⟩ := HC.out k x hx
      have hcells := hcells.mono hB (by match vs, hvl with | _ :: _, _ => exact hcells.lt)
      match vs, hvl with
      | [a0, a1, a2], _ =>
      have hcall := HP.out wr x a0 a1 a2 (List.mem_of_getElem? hx) hR hB
      have HX := Lib.hid hx; clear hx hR
      obtain ⟨c0, c1, c2, _⟩ := hcells
      cases hq : f x with
      | true =>
        rw [hq] at hcall
        have HQ := Lib.hid hq
        clear hq HP HC
        go_wp2_with (go_at_fn g; refine hcall.mono ?_; rintro e w' ⟨rfl, hb'⟩)
        go_ret
        exact ⟨by rw [idxR_hit HX.out HQ.out hff.out]; rfl, below_call hB (Nat.le_refl _) hb'⟩
      | false =>
        rw [hq] at hcall
        have HQ := Lib.hid hq
        clear hq HP HC
        go_wp2_with (go_at_fn g; refine hcall.mono ?_; rintro e w' ⟨rfl, hb'⟩)
        refine ⟨⟨k + 1, by omega, fun j y hj hy => ?_, below_call hB (Nat.le_refl _) hb', by simp⟩, by simp [intOf]; omega⟩
        by_cases e : j = k
        · subst e; have := HX.out; rw [hy] at this; injection this with this; rw [this]; exact HQ.out
        · exact hff.out j y (by omega) hy
    · obtain rfl : k = l.length := by omega
      go_wp2_with (first | fail)
      go_ret
      exact ⟨by rw [idxR_miss hff.out]; rfl, hB⟩

def SlotCells (s : Slot) (vs : List Value) : Prop := vs = [.string s.name, .string s.type, .string s.cls]
theorem slotIdx_find (m : Method) : ∀ l : List Slot, l.findIdx? (isSlot m) = slotIdx m l
  | [] => rfl
  | s :: r => by
    rw [List.findIdx?_cons, slotIdx_find m r]
    rfl
theorem slotIs_any (s : Slot) (m : Method) (b : Nat) (w : World) (h0 : w.cell? ⟨b, 0, none⟩ = some (.string m.name)) (h1 : w.cell? ⟨b, 1, none⟩ = some (.string m.type)) (hb : b < w.heap.size) :
    Calls Tryz.prog 99 #[.agg #[.string s.name, .string s.type, .string s.cls], .pointer (some ⟨b, 0, none⟩)] w fun e w' => e = .returned (.bool (isSlot m s)) ∧ Below w.heap.size w w' := by
  have e1 := strEq s.name m.name
  have e2 := strEq s.type m.type
  unfold isSlot
  obtain ⟨q1, g1⟩ : ∃ q, decide (s.name = m.name) = q := ⟨_, rfl⟩
  obtain ⟨q2, g2⟩ : ∃ q, decide (s.type = m.type) = q := ⟨_, rfl⟩
  rw [g1] at e1 ⊢
  rw [g2] at e2 ⊢
  clear g1 g2
  cases q1 <;> cases q2
  all_goals
    go_enter Tryz.func99, Tryz.ntmps99
    go_wp2
    go_ret
    exact ⟨rfl, (Below.refl _ _).alloc (Nat.le_refl _) _⟩
/-- the place of the slot that has a method's name and type, as a number -/
def slotAt (m : Method) (l : List Slot) : Int := match slotIdx m l with | some i => i | none => -1
theorem slotFind_any (l : List Slot) (v : Value) (m : Method) (b : Nat) (w : World) (hs : SliceOf w 3 SlotCells v l) (h0 : w.cell? ⟨b, 0, none⟩ = some (.string m.name)) (h1 : w.cell? ⟨b, 1, none⟩ = some (.string m.type)) (hb : b < w.heap.size) :
    Calls Tryz.prog 98 #[v, .func (.func 99) #[] #[.pointer (some ⟨b, 0, none⟩)]] w fun e w' => e = .returned (.int .i64 (slotAt m l)) ∧ Below w.heap.size w w' := by
  have he : idxR (isSlot m) l = slotAt m l := by unfold idxR slotAt; rw [slotIdx_find]; cases slotIdx m l <;> rfl
  rw [← he]
  refine idxFunc_slot SlotCells (isSlot m) 99 _ (enters_of Tryz.func99 (by kernel_rfl) rfl) l v w hs ?_
  intro W x a0 a1 a2 hx hc hW
  unfold SlotCells at hc
  simp only [List.cons.injEq, and_true] at hc
  obtain ⟨rfl, rfl, rfl⟩ := hc
  exact slotIs_any x m b W ((hW.cell (p := ⟨b, 0, none⟩) hb).trans h0) ((hW.cell (p := ⟨b, 1, none⟩) hb).trans h1) (Nat.lt_of_lt_of_le hb hW.size)
end Go.Proofs.YtehhmedjgmbpgaaGreatDoor
namespace Go.Proofs.YtehhmedjgmbpgaaGreatDoor
open Go.RowKit Go.Shelf Go.Lib
theorem flat_set {α : Type} {f : α → List Value} (h3 : ∀ x, (f x).length = 3) {x : α} {a b c : Value} (hf : f x = [a, b, c]) : ∀ {l : List α} {k : Nat}, k < l.length →
    (((l.flatMap f).set (k * 3) a).set (k * 3 + 1) b).set (k * 3 + 2) c = (l.set k x).flatMap f
  | [], _, h => absurd h (Nat.not_lt_zero _)
  | y :: r, 0, _ => by
    have hy := h3 y
    match hq : f y, hy with
    | [p, q, s], _ => simp [List.flatMap_cons, hq, hf]
  | y :: r, k + 1, h => by
    have hy := h3 y
    have ih := flat_set h3 hf (l := r) (k := k) (by simpa using h)
    match hq : f y, hy with
    | [p, q, s], _ =>
      rw [List.set_cons_succ, List.flatMap_cons, List.flatMap_cons, hq, ← ih, show (k + 1) * 3 = k * 3 + 3 by omega, show k * 3 + 3 + 1 = k * 3 + 1 + 3 by omega, show k * 3 + 3 + 2 = k * 3 + 2 + 3 by omega]
      rfl
/-- a slot's three cells -/
def slotVs (s : Slot) : List Value := trio s.name s.type s.cls
theorem slotVs_3 (s : Slot) : (slotVs s).length = 3 := rfl
theorem stored3 {w : World} {base : Nat} {t : TypeId} {g n cap : Nat} {l : List Slot} (h : w.ownsRow base t 3 (.slice (some ⟨g, 0, none⟩) n cap) n (l.flatMap slotVs)) {k : Nat} (hk : k < l.length) (s : Slot) :
    (((w.setCell ⟨g, k * 3, none⟩ (.string s.name)).setCell ⟨g, k * 3 + 1, none⟩ (.string s.type)).setCell ⟨g, k * 3 + 2, none⟩ (.string s.cls)).ownsRow base t 3 (.slice (some ⟨g, 0, none⟩) n cap) n ((l.set k s).flatMap slotVs) := by
  rw [← flat_set slotVs_3 (x := s) rfl hk]
  exact ((((h.stored (k * 3) (.string s.name)).1.stored (k * 3 + 1) (.string s.type)).1).stored (k * 3 + 2) (.string s.cls)).1
end Go.Proofs.YtehhmedjgmbpgaaGreatDoor
namespace Go.Proofs.YtehhmedjgmbpgaaGreatDoor
open Go.RowKit Go.Shelf Go.Lib
/-- a row of slots, as a list in memory -/
theorem slots_slice {w : World} {base : Nat} {v : Value} {l : List Slot} (h : w.ownsRow base 39 3 v l.length (l.flatMap slotVs)) : SliceOf w 3 SlotCells v l := by
  obtain ⟨p, c, rfl⟩ := ownsRow_shape h
  by_cases h0 : l = []
  · subst h0
    rcases h with ⟨_, ⟨h1, _⟩ | ⟨g, cap, cur, k1, k2, k3, k4, k5, k6, k7⟩⟩
    · exact Or.inl ⟨h1, rfl⟩
    · exact Or.inr ⟨⟨g, 0, none⟩, cap, k1, by simp, by omega, fun i x hi => by simp at hi⟩
  · have hx : l[0]? = some (l.head h0) := by cases l with
      | nil => exact absurd rfl h0
      | cons _ _ => rfl
    have hb := h
    rcases h with ⟨_, ⟨h1, h2⟩ | ⟨g, cap, cur, k1, k2, k3, k4, k5, k6, k7⟩⟩
    · exact absurd (List.length_eq_zero_iff.1 h2) h0
    · injection k1 with e1 e2 e3
      subst e1 e3
      refine Or.inr ⟨⟨g, 0, none⟩, c, rfl, k4, k5, fun i x hi => ?_⟩
      obtain ⟨g', h1, _, _, h4⟩ := ownsRow3_at slotVs_3 hb rfl hi
      injection h1 with h1; injection h1 with h1; subst h1
      refine ⟨[.string x.name, .string x.type, .string x.cls], rfl, rfl, ?_⟩
      have a0 := h4 0 (by omega)
      have a1 := h4 1 (by omega)
      have a2 := h4 2 (by omega)
      rw [← Nat.zero_add (i * 3)] at a0 a1 a2
      exact ⟨rfl, a0, a1, a2, trivial⟩
theorem slots_small {l : List Class} (hR : Right l) (hcf : ∀ c ∈ l, classFault c = 0) {c : Str} (hk : (findC (allC l) c).isSome = true) : (slotsC (allC l) c).length ≤ 4194304 := by
  have h1 := line_length2 hR hk
  have h4 : ∀ (a : Str) (ms : List Method) (out : List Slot), (slotsOf a out ms).length ≤ out.length + ms.length := fun a ms => by
    induction ms with
    | nil => intro out; exact Nat.le_refl _
    | cons m r ih =>
      intro out
      rw [slotsOf_cons]
      have h5 := ih (slotStep a out m)
      have h6 : (slotStep a out m).length ≤ out.length + 1 := by
        unfold slotStep
        split
        · omega
        · exact putSlot_length a m out
      simp only [List.length_cons]; omega
  have h2 : ∀ (line : List Str) (out : List Slot), (slotsF (allC l) out line).length ≤ out.length + 8 * line.length := fun line => by
    induction line with
    | nil => intro out; exact Nat.le_refl _
    | cons a r ih =>
      intro out
      have h5 := ih (slotsOf a out (classC (allC l) a).methods)
      have h6 := h4 a (classC (allC l) a).methods out
      have h7 := (class_counts hcf a).2
      show (slotsF (allC l) (slotsOf a out (classC (allC l) a).methods) r).length ≤ _
      simp only [List.length_cons]; omega
  have h3 := h2 (lineC (allC l) c).reverse []
  rw [List.length_reverse] at h3
  unfold slotsC
  simp only [List.length_nil] at h3
  omega
set_option maxHeartbeats 4000000 in
set_option maxRecDepth 100000 in
theorem vtabSlots_any (w0 w : World) (B : Nat) (l : List Class) (hm : WorldMap w0 w B l) (c : Str) (hk : (findC (allC l) c).isSome = true) :
    Calls Tryz.prog 53 #[.map (some B), .string c] w (TrioPost slotVs 39 w (slotsC (allC l) c)) := by
  have hmf : ∀ fn first cap w, (Instr.makeFunc fn first cap).run Tryz.prog w = .ok (.func fn first cap) w := fun _ _ _ _ => rfl
  have HL := Lib.hid (line_any w0 w B l hm.right hm.map c hk)
  have HKn : Hid (∀ d ∈ (lineC (allC l) c).reverse, (findC (allC l) d).isSome = true) := fun d hd => hm.right.line_known hk (List.mem_reverse.1 hd)
  have HLk : Hid (∀ d : Str, (findC (allC l) d).isSome = true → _) := fun d hd => hm.map.look3 hm.right.nodup d (hm.map.names hd)
  have HB0 := Lib.hid hm.map.below
  have HCt : Hid (∀ d, (classC (allC l) d).methods.length ≤ 8) := fun d => (class_counts hm.faults d).2
  have hl13 := line_length2 hm.right hk
  have hcf := class_methods
  have hRes : Hid (slotsC (allC l) c = slotsF (allC l) [] (lineC (allC l) c).reverse) := rfl
  have hlr : (lineC (allC l) c).reverse.length = (lineC (allC l) c).length := List.length_reverse
  clear hm hk
  generalize slotsC (allC l) c = res at *
  go_enter Tryz.func53, Tryz.ntmps53
  go_wp2_with (first
    | (go_at_call 54; (with_reducible refine HL.out.mono ?_); rintro e w3 ⟨⟨v3, rfl, hv3⟩, hB3⟩; obtain ⟨pv, kv, rfl⟩ := ownsRow_shape hv3; (have HRv := Lib.hid (reverse_own hv3 (by omega))))
    | (go_at_call 97; (with_reducible refine HRv.out.mono ?_); rintro e w4 ⟨rfl, hv4, hg4⟩))
  rw [← hlr]
  have hBw := hB3.grown hg4 hB3.size (fun g hg => (hv3.lt g hg).1)
  have hs4 := strsAt_of_owns hv4
  have hr13 : (lineC (allC l) c).reverse.length ≤ 13 := by omega
  clear HL hv3 hg4 hB3 HRv hlr hv4 hl13
  generalize (lineC (allC l) c).reverse = R at *
  obtain ⟨pv', kv', he, h1, h2, hcc⟩ := hs4.open
  injection he with he1 he2 he3
  subst he1 he3
  clear he2 hs4
  have HC := Lib.hid hcc
  have hlen : R.length ≤ 9223372036854775807 := Nat.le_trans h1 h2
  have HBw := Lib.hid hBw
  clear hcc hBw
  go_loopw [5, 20] (fun v x wr => ∃ (k : Nat) (out : List Slot), k ≤ R.length ∧ Hid (slotsF (allC l) out (R.drop k) = res) ∧ Hid (out.length ≤ 8 * k) ∧ wr.ownsRow w4.heap.size 39 3 v out.length (out.flatMap slotVs) ∧ Below w4.heap.size w4 wr ∧ x = .int .i64 k) (fun _ x _ => R.length - (intOf x).toNat)
  case atStart => exact ⟨0, [], by omega, hRes.symm, Nat.zero_le _, ownsRow3_nil _ _ _, Below.refl _ _, rfl⟩
  case round =>
    obtain ⟨k, out, hk, hout, hol, hown, hB, rfl⟩ := hrel
    obtain ⟨va, vc, rfl⟩ := ownsRow_shape hown
    by_cases hkl : k < R.length
    · obtain ⟨a, ha⟩ : ∃ a, R[k]? = some a := ⟨R[k], by simp [hkl]⟩
      have hka := HKn.out a (List.mem_of_getElem? ha)
      obtain ⟨b, o, vs, rfl, hR, _, hcells⟩ := HC.out k a ha
      unfold StrCells at hR; subst hR
      have c0 := (hcells.mono hB hcells.lt).1
      rw [Nat.mul_one] at c0
      have hstep := slotsF_drop (allC l) out R k a ha
      rw [hout.out] at hstep
      obtain ⟨p1, k1, p2, k2, p3, k3, _, _, hms, hlk⟩ := HLk.out a hka
      have hlk2 := (hlk wr (below_call HBw.out (Nat.le_refl _) hB)).2
      have hc0 : (findC (allC l) a).getD noClass = classC (allC l) a := rfl
      rw [hc0] at hlk2 hms
      have hct := HCt.out a
      have HX := Lib.hid ha
      clear ha hcells hlk hc0 hka hout
      generalize classC (allC l) a = d at *
      obtain ⟨n2, s2, f2, b2, d2, m2⟩ := d
      unfold classV at hlk2
      dsimp only at hlk2 hms hstep hct
      obtain ⟨pd', kd', he, g1, g2, hdd⟩ := hms.open
      injection he with he1 he2 he3
      subst he1 he3
      clear he2 hms
      have HD := Lib.hid hdd
      have hlen2 : m2.length ≤ 9223372036854775807 := Nat.le_trans g1 g2
      clear hdd
      have HS := Lib.hid hstep
      have HO := Lib.hid hown
      have HBr := Lib.hid hB
      clear hstep hown hB
      go_wp2_with (first | fail)
      go_loopw [5, 29] (fun v x wy => ∃ (j : Nat) (o2 : List Slot), j ≤ m2.length ∧ Hid (slotsOf a o2 (m2.drop j) = slotsOf a out m2) ∧ Hid (o2.length ≤ 8 * k + j) ∧ wy.ownsRow w4.heap.size 39 3 v o2.length (o2.flatMap slotVs) ∧ Below w4.heap.size w4 wy ∧ x = .int .i64 j) (fun _ x _ => m2.length - (intOf x).toNat)
      case atStart => exact ⟨0, out, by omega, rfl, hol, HO.out, HBr.out, rfl⟩
      case round =>
        clear c0 hlk2 HO HBr hol
        obtain ⟨j, o2, hj, hout, hol, hown, hB, rfl⟩ := hrel
        obtain ⟨va, vc, rfl⟩ := ownsRow_shape hown
        by_cases hjl : j < m2.length
        · obtain ⟨m, hx⟩ : ∃ a, m2[j]? = some a := ⟨m2[j], by simp [hjl]⟩
          obtain ⟨bb, oo, vs, rfl, ⟨cv, hv, rfl, q1, q2⟩, _, hcells⟩ := HD.out j m hx
          obtain ⟨u0, u1, u2, u3, u4, u5, u6, u7, _⟩ := hcells.mono (below_call HB0.out (Nat.le_refl _) (below_call HBw.out (Nat.le_refl _) hB)) hcells.lt
          have hnext := slotsOf_drop a o2 m2 j m hx
          rw [hout.out] at hnext
          have HXm := Lib.hid hx
          obtain ⟨pc, kc, rfl, _⟩ := q1.open
          obtain ⟨ph, kh, rfl, _⟩ := q2.open
          clear hx hcells q1 q2 hout
          obtain ⟨mn, mt, mst, mab, mpr, mlo, mco, mha⟩ := m
          dsimp only at u0 u1 u2 u3 u4 u5 u6 u7
          have hown5 := hown.alloc (.cells #[.string mn, .string mt, .bool mst, .bool mab, .bool mpr, .int .i64 mlo, .slice pc mco.length kc, .slice ph mha.length kh] 51)
          have hB5 := hB.alloc hB.size (.cells #[.string mn, .string mt, .bool mst, .bool mab, .bool mpr, .int .i64 mlo, .slice pc mco.length kc, .slice ph mha.length kh] 51)
          by_cases hsp : (mst || mpr) = true
          · have hn2 : Hid (slotsOf a o2 (m2.drop (j + 1)) = slotsOf a out m2) := by
              unfold slotStep at hnext
              rw [if_pos hsp] at hnext
              exact hnext.symm
            have hol2 : Hid (o2.length ≤ 8 * k + (j + 1)) := by unfold Hid; have := hol.out; omega
            have HO5 := Lib.hid hown5
            have HB5 := Lib.hid hB5
            clear hnext hown5 hB5 hown hB
            cases mst <;> cases mpr <;> first | (exact absurd hsp (by decide)) | skip
            all_goals
              clear hsp
              go_wp2_with (first | fail)
              go_roundw
              case rel => exact ⟨j + 1, o2, by omega, hn2, hol2, HO5.out, HB5.out, by simp⟩
              case measure => simp [intOf]; omega
          · rw [Bool.not_eq_true, Bool.or_eq_false_iff] at hsp
            obtain ⟨rfl, rfl⟩ := hsp
            have hn2 : slotsOf a (putSlot a o2 ⟨mn, mt, false, mab, false, mlo, mco, mha⟩) (m2.drop (j + 1)) = slotsOf a out m2 := hnext.symm
            have hown6 := hown5.alloc (.cells #[.string mn, .string mt, .string a] 39)
            have hB6 := hB5.alloc hB5.size (.cells #[.string mn, .string mt, .string a] 39)
            have hcm : ∀ q u, #[Value.string mn, .string mt, .bool false, .bool mab, .bool false, .int .i64 mlo, .slice pc mco.length kc, .slice ph mha.length kh][q]? = some u → ((wr.alloc (.cells #[.string mn, .string mt, .bool false, .bool mab, .bool false, .int .i64 mlo, .slice pc mco.length kc, .slice ph mha.length kh] 51)).alloc (.cells #[.string mn, .string mt, .string a] 39)).cell? ⟨wr.heap.size, q, none⟩ = some u := fun q u hq => by simpa using hq
            have HF := Lib.hid (slotFind_any o2 _ ⟨mn, mt, false, mab, false, mlo, mco, mha⟩ wr.heap.size _ (slots_slice hown6) (hcm 0 _ rfl) (hcm 1 _ rfl) (by simp; omega))
            generalize hsa : slotAt ⟨mn, mt, false, mab, false, mlo, mco, mha⟩ o2 = sa at *
            clear hnext hcm
            go_upto_region 13 with (go_at_call 98; (with_reducible refine HF.out.mono ?_); rintro e w7 ⟨rfl, hB7⟩)
            have e0 : w7.cell? ⟨wr.heap.size + 1, 0, none⟩ = some (.string mn) := (hB7.cell (p := ⟨wr.heap.size + 1, 0, none⟩) (by simp)).trans (by simp)
            have e1 : w7.cell? ⟨wr.heap.size + 1, 1, none⟩ = some (.string mt) := (hB7.cell (p := ⟨wr.heap.size + 1, 1, none⟩) (by simp)).trans (by simp)
            have e2 : w7.cell? ⟨wr.heap.size + 1, 2, none⟩ = some (.string a) := (hB7.cell (p := ⟨wr.heap.size + 1, 2, none⟩) (by simp)).trans (by simp)
            have hown7 := ownsRow3_below hown6 hB7
            have hBw7 := below_call hB6 (Nat.le_refl _) hB7
            have hbs := hBw7.size
            have hbd : o2.length ≤ 8388608 := by have := hol.out; omega
            have hol3 := hol.out
            clear hown5 hown6 hB5 hB6 hB7 hown hB HF hol u0 u1 u2 u3 u4 u5 u6 u7
            cases hq : slotIdx ⟨mn, mt, false, mab, false, mlo, mco, mha⟩ o2 with
            | none =>
              have hsn : sa = -1 := by rw [← hsa]; unfold slotAt; rw [hq]
              rw [slotIdx_none hq] at hn2
              have HN := Lib.hid hn2
              have HB7 := Lib.hid hBw7
              subst hsn
              clear hq hsa hn2 hBw7
              go_wp2_with (at_builtin; (refine wpList_append_trio Tryz.underlying33 info_apiSlot rfl _ _ rfl w4.heap.size _ _ _ rfl hown7 _ _ _ _ rfl rfl hbd hbs ?_); intro v3 w8 hown3 hg3)
              have hown4 : w8.ownsRow w4.heap.size 39 3 v3 (o2 ++ [(⟨mn, mt, a⟩ : Slot)]).length ((o2 ++ [(⟨mn, mt, a⟩ : Slot)]).flatMap slotVs) := by
                rw [List.length_append, List.flatMap_append]; simpa [slotVs] using hown3
              have hB8 := (HB7.out.alloc HB7.out.size (.cells (trio mn mt a).toArray 39)).grown hg3 (Nat.le_trans HB7.out.size (by simp)) (fun g hg => (hown7.lt g hg).1)
              have hol2 : Hid ((o2 ++ [(⟨mn, mt, a⟩ : Slot)]).length ≤ 8 * k + (j + 1)) := by unfold Hid; simp; omega
              have HO4 := Lib.hid hown4
              have HB8 := Lib.hid hB8
              clear hown3 hg3 hown7 hown4 hB8 HB7
              go_roundw
              case rel => exact ⟨j + 1, _, by omega, HN.out, hol2, HO4.out, HB8.out, by simp⟩
              case measure => simp [intOf]; omega
            | some i =>
              obtain ⟨hi, hput⟩ := slotIdx_some (c := a) hq
              have hsn : sa = (i : Int) := by rw [← hsa]; unfold slotAt; rw [hq]
              rw [hput] at hn2
              have HN := Lib.hid hn2
              subst hsn
              clear hq hsa hn2 hput
              obtain ⟨g, rfl, hg1, hg2, hg3⟩ := ownsRow3_at slotVs_3 hown7 rfl (List.getElem?_eq_getElem hi)
              have hst := stored3 hown7 hi ⟨mn, mt, a⟩
              have hneg : ((i : Int) < 0) = False := by simp
              have hi2 : (i : Int) < (o2.length : Int) := by omega
              have hB8 := ((hBw7.setCell (p := ⟨g, i * 3, none⟩) hg1 (.string mn)).setCell (p := ⟨g, i * 3 + 1, none⟩) hg1 (.string mt)).setCell (p := ⟨g, i * 3 + 2, none⟩) hg1 (.string a)
              have s1 := (hown7.stored (i * 3) (.string mn)).1
              have s2 := (s1.stored (i * 3 + 1) (.string mt)).1
              have d0 : w7.cell? ⟨g, i * 3, none⟩ = some (.string o2[i].name) := hg3 0 (by omega)
              have d1 : w7.cell? ⟨g, i * 3 + 1, none⟩ = some (.string o2[i].type) := hg3 1 (by omega)
              have d2' : w7.cell? ⟨g, i * 3 + 2, none⟩ = some (.string o2[i].cls) := hg3 2 (by omega)
              have d1a := (s1.cellAt (i * 3 + 1) (by omega)).trans ((List.getElem?_set_ne (by omega)).trans ((hown7.cellAt (i * 3 + 1) (by omega)).symm.trans d1))
              have d2a := (s2.cellAt (i * 3 + 2) (by omega)).trans ((List.getElem?_set_ne (by omega)).trans ((List.getElem?_set_ne (by omega)).trans ((hown7.cellAt (i * 3 + 2) (by omega)).symm.trans d2')))
              have z0 := hown7.frozenAt (i * 3)
              have z1 := s1.frozenAt (i * 3 + 1)
              have z2 := s2.frozenAt (i * 3 + 2)
              clear s1 s2 d1 d2' hg3
              have HO8 := Lib.hid hst
              have HB8 := Lib.hid hB8
              clear hst hB8 hown7
              clear hneg
              go_wp2_with (first | fail)
              go_roundw
              case rel => exact ⟨j + 1, _, by omega, HN.out, by unfold Hid; simp; omega, by rw [List.length_set]; exact HO8.out, HB8.out, by simp⟩
              case measure => simp [intOf]; omega
        · obtain rfl : j = m2.length := by omega
          have hnext : Hid (slotsF (allC l) o2 (R.drop (k + 1)) = res) := by
            have := hout.out
            rw [List.drop_eq_nil_of_le (Nat.le_refl _)] at this
            rw [show slotsOf a o2 [] = o2 from rfl] at this
            unfold Hid; rw [this]; exact HS.out.symm
          have hol2 : Hid (o2.length ≤ 8 * (k + 1)) := by unfold Hid; have := hol.out; omega
          have HO4 := Lib.hid hown
          have HB6 := Lib.hid hB
          clear hout hol hown hB
          go_wp2_with (first | fail)
          go_roundw
          case rel => exact ⟨k + 1, o2, by omega, hnext, hol2, HO4.out, HB6.out, by simp⟩
          case measure => simp [intOf]; omega
    · obtain rfl : k = R.length := by omega
      have hfin : Hid (res = out) := by unfold Hid; rw [← hout.out, List.drop_eq_nil_of_le (Nat.le_refl _)]; rfl
      have HO4 := Lib.hid hown
      have HB6 := Lib.hid hB
      clear hout hol hown hB
      go_wp2_with (first | fail)
      go_ret
      exact ⟨⟨_, rfl, by rw [hfin.out]; exact ownsRow_base HO4.out HBw.out.size⟩, below_call HBw.out (Nat.le_refl _) HB6.out⟩
end Go.Proofs.YtehhmedjgmbpgaaGreatDoor
namespace Go.Proofs.YtehhmedjgmbpgaaGreatDoor
open Go.RowKit Go.Shelf Go.Lib
set_option maxRecDepth 100000 in
theorem table_no (l : List Class) (lv : Value) (c : Str) (w : World) (hl : Laid w) (ho : ∀ c ∈ l, ClassOk c) (hlv : ClassesAt w lv l) (hs : c.size ≤ maxLen) (hf : namedFault l c ≠ 0) :
    Calls Tryz.prog 14 #[lv, .string c] w fun e w' => e = .returned (.tuple #[.slice none 0 0, .iface 42 (.int .i64 (namedFault l c))]) ∧ Below w.heap.size w w' := by
  have HW := Lib.hid (with_any l lv c w hl ho hlv hs)
  obtain ⟨pl, cap, rfl, _⟩ := hlv.open
  have HF := Lib.hid hf
  clear hl ho hlv hs hf
  unfold WithPost at HW
  generalize namedFault l c = f at *
  go_enter Tryz.func14, Tryz.ntmps14
  go_wp2_with (go_at_call 52; (with_reducible refine HW.out.mono ?_); rintro e w2 ⟨hB2, ⟨hz, _⟩ | ⟨_, rfl⟩⟩; (exact absurd hz HF.out))
  go_ret2
  exact ⟨rfl, hB2⟩
/-- a table that is told -/
def TableGives (w : World) (l : List Slot) (e : Ending) (w' : World) : Prop := (∃ v, e = .returned (.tuple #[v, .nilIface]) ∧ w'.ownsRow w.heap.size 39 3 v l.length (l.flatMap slotVs)) ∧ Below w.heap.size w w'
set_option maxRecDepth 100000 in
theorem table_yes (l : List Class) (lv : Value) (c : Str) (w : World) (hl : Laid w) (ho : ∀ c ∈ l, ClassOk c) (hlv : ClassesAt w lv l) (hs : c.size ≤ maxLen) (hf : namedFault l c = 0) :
    Calls Tryz.prog 14 #[lv, .string c] w (TableGives w (slotsC (allC l) c)) := by
  have HW := Lib.hid (with_any l lv c w hl ho hlv hs)
  have HS : Hid (∀ (w0 wx : World) (B : Nat), Named w0 l c wx B → _) := fun w0 wx B hn => vtabSlots_any w0 wx B l hn.world c hn.known
  obtain ⟨pl, cap, rfl, _⟩ := hlv.open
  have HF := Lib.hid hf
  clear hl ho hlv hs hf
  unfold WithPost at HW
  unfold TrioPost at HS
  unfold TableGives
  generalize namedFault l c = f at *
  generalize slotsC (allC l) c = S at *
  go_enter Tryz.func14, Tryz.ntmps14
  go_wp2_with (first
    | (go_at_call 52; (with_reducible refine HW.out.mono ?_); rintro e w2 ⟨hB2, ⟨_, rfl, hN⟩ | ⟨hz, _⟩⟩; rotate_left; (exact absurd HF.out hz))
    | (go_at_call 53; (with_reducible refine (HS.out _ _ _ hN).mono ?_); rintro e w3 ⟨⟨v3, rfl, hv3⟩, hB3⟩; obtain ⟨pv, kv, rfl⟩ := ownsRow_shape hv3))
  go_ret2
  exact ⟨⟨_, rfl, ownsRow_base hv3 hB2.size⟩, below_call hB2 (Nat.le_refl _) hB3⟩
end Go.Proofs.YtehhmedjgmbpgaaGreatDoor
