/-
  WALKS over the reference's FieldOf, ownMethod, FoundMethod. Conditions: a right world, a class that is there.
-/
import Derived.Test.YtbakcdgjibmceaaGreatDoorFind
import Derived.Test.YtbakcdgjibmceaaGreatDoorRefNames
import Derived.Test.YtbakcdgjibmceaaGreatDoorFaults
namespace Go.Proofs.YtbakcdgjibmceaaGreatDoor
open Go.RowKit Go.Shelf Go.Lib
theorem hcells_lt {w : World} {b o : Nat} {v : Value} (h : w.cell? ⟨b, o, none⟩ = some v) : b < w.heap.size := Cells.lt (w := w) (b := b) (o := o) (v := v) (r := []) ⟨h, trivial⟩
set_option maxHeartbeats 4000000 in
set_option maxRecDepth 100000 in
theorem refFieldOf_any (l : List Class) (lv : Value) (c n : Str) (w : World) (hR : Right l) (hlv : ClassesAt w lv l) (hk : (findC (allC l) c).isSome = true) :
    Calls Tryz.prog 93 #[lv, .string c, .string n] w fun e w' => e = .returned (fieldV (fieldC (allC l) c n)) ∧ Below w.heap.size w w' := by
  have HL : Hid (∀ wx, Below w.heap.size w wx → _) := fun wx hb => refSupers_fuel l lv hR _ c wx (hlv.mono hb) hk (Nat.le_refl _)
  unfold RowPost at HL
  have HCO : Hid (∀ (a : Str) wx, Below w.heap.size w wx → _) := fun a wx hb => refClassOf_any l lv a wx (hlv.mono hb)
  unfold ClassGives at HCO
  obtain ⟨pl, cap, rfl, _⟩ := hlv.open
  have hblk : Blk (w.alloc (.cells #[.string ⟨#[]⟩, .string ⟨#[]⟩] 125)) w.heap.size 125 zField := Blk.new w _ zField
  have hB1 : Below w.heap.size w (w.alloc (.cells #[.string ⟨#[]⟩, .string ⟨#[]⟩] 125)) := (Below.refl _ _).alloc (Nat.le_refl _) _
  unfold fieldC
  clear hlv hk hR
  generalize lineC (allC l) c = L at *
  go_enter Tryz.func93, Tryz.ntmps93
  go_wp2_with (go_at_call 125; (with_reducible refine (HL.out _ hB1).mono ?_); rintro e w3 ⟨⟨v3, rfl, hv3⟩, hB3⟩; obtain ⟨pv, kv, rfl⟩ := ownsRow_shape hv3)
  have hs3 := strsAt_of_owns hv3
  obtain ⟨pv', kv', he, h1, h2, hcc⟩ := hs3.open
  injection he with he1 he2 he3
  subst he1 he3
  clear he2
  have HC := Lib.hid hcc
  have hlen : L.length ≤ 9223372036854775807 := Nat.le_trans h1 h2
  have HBl : Hid (Blk w3 w.heap.size 125 zField) := hblk.step hB3
  have HBw := Lib.hid (below_call hB1 (Nat.le_refl _) hB3)
  clear hs3 hcc hv3 hblk hB1 hB3 HL
  go_loopw [10] (fun x wr => ∃ k : Nat, k ≤ L.length ∧ Hid (fieldGo (allC l) n (L.drop k) = fieldGo (allC l) n L) ∧ Below w3.heap.size w3 wr ∧ x = .int .i64 k) (fun x _ => L.length - (intOf x).toNat)
  case atStart => exact ⟨0, by omega, rfl, Below.refl _ _, rfl⟩
  case round =>
    obtain ⟨k, hk, hff, hB, rfl⟩ := hrel
    by_cases hkl : k < L.length
    · obtain ⟨a, ha⟩ : ∃ a, L[k]? = some a := ⟨L[k], by simp [hkl]⟩
      obtain ⟨b, o, vs, rfl, hR, _, hcells⟩ := HC.out k a ha
      unfold StrCells at hR; subst hR
      have HCell : Hid (∀ wx, Below w3.heap.size w3 wx → wx.cell? ⟨b, o + k, none⟩ = some (.string a)) := fun wx hb => by have := (hcells.mono hb hcells.lt).1; rwa [Nat.mul_one] at this
      have c0 := HCell.out wr hB
      have hstep := fieldGo_drop (allC l) n L k a ha
      rw [hff.out] at hstep
      have HCa := Lib.hid (HCO.out a wr (below_call HBw.out (Nat.le_refl _) hB))
      rw [show (findC (allC l) a).getD noClass = classC (allC l) a from rfl] at HCa
      have HX := Lib.hid ha
      clear ha hcells hff
      generalize classC (allC l) a = d at *
      generalize (findC (allC l) a).isSome = is at *
      obtain ⟨n2, s2, f2, b2, d2, m2⟩ := d
      dsimp only at HCa hstep
      have HS := Lib.hid hstep
      have HBr := Lib.hid hB
      clear hstep hB
      go_wp2_with (go_at_call 19; (with_reducible refine HCa.out.mono ?_); rintro e w4 ⟨p1, k1, p2, k2, p3, k3, rfl, _, hfs, _, hB4, _⟩)
      have BX := boxed_new w4 #[.string n2, .string s2, .slice p1 f2.length k1, .bool b2, .slice p2 d2.length k2, .slice p3 m2.length k3] 47
      have hB5 := below_call (below_call HBr.out (Nat.le_refl _) hB4) (Nat.le_refl _) BX.below
      have hfs5 := hfs.mono BX.below (by decide) (fun _ _ h => h)
      generalize w4.alloc (.cells #[.string n2, .string s2, .slice p1 f2.length k1, .bool b2, .slice p2 d2.length k2, .slice p3 m2.length k3] 47) = w5 at *
      obtain ⟨pd', kd', he, g1, g2, hdd⟩ := hfs5.open
      injection he with he1 he2 he3
      subst he1 he3
      clear he2 hfs5 hfs
      have HD := Lib.hid hdd
      have hlen2 : d2.length ≤ 9223372036854775807 := Nat.le_trans g1 g2
      have HBX := Lib.hid BX
      have HB5 := Lib.hid hB5
      clear hdd BX hB5 hB4 c0
      go_loopw [13] (fun x wy => ∃ j : Nat, j ≤ d2.length ∧ Hid (fieldIn n (d2.drop j) = fieldIn n d2) ∧ Below w5.heap.size w5 wy ∧ x = .int .i64 j) (fun x _ => d2.length - (intOf x).toNat)
      case atStart => exact ⟨0, by omega, rfl, Below.refl _ _, rfl⟩
      case round =>
        obtain ⟨j, hj, hgg, hB, rfl⟩ := hrel
        obtain ⟨y0, y1, y2, y3, y4, y5⟩ := boxed6 (HBX.out.step hB)
        clear y0 y1 y2 y3 y5
        by_cases hjl : j < d2.length
        · obtain ⟨f, hf⟩ : ∃ a, d2[j]? = some a := ⟨d2[j], by simp [hjl]⟩
          obtain ⟨bb, oo, vs, rfl, hR, _, hcells⟩ := HD.out j f hf
          unfold FieldCells at hR; subst hR
          obtain ⟨u0, u1, _⟩ := hcells.mono hB hcells.lt
          have hst2 := fieldIn_drop n d2 j f hf
          rw [hgg.out] at hst2
          have HXf := Lib.hid hf
          have e1 := strEq f.name n
          clear hf hcells hgg
          by_cases hyes : f.name = n
          · rw [if_pos hyes] at hst2
            rw [decide_eq_true hyes] at e1
            have hS2 := HS.out
            rw [hst2] at hS2
            have hBe := below_call HB5.out (Nat.le_refl _) hB
            have hBl := HBl.out.step hBe
            obtain ⟨q0, q1⟩ := hBl.field
            have hfz := hBl.frozen
            have hlt := hBl.lt
            have c0 := HCell.out wr hBe
            have HF := Lib.hid hS2
            have HE := Lib.hid (below_set2 (below_call HBw.out (Nat.le_refl _) hBe) (Nat.le_refl w.heap.size) (.string f.name) (.string f.type)).drew
            clear hst2 hS2 hyes hBl hB hBe
            go_upto_region 10 with (first | fail)
            go_region
            all_goals go_wp2
            all_goals exact bodyPost_ret (v := .tuple #[.string a, .agg #[.string f.name, .string f.type], .bool true]) (by simp [results, Tryz.results93, go_sem, *]) rfl ⟨by rw [HF.out]; rfl, HE.out⟩
          · rw [if_neg hyes] at hst2
            rw [decide_eq_false hyes] at e1
            have hst := Lib.hid hst2.symm
            have HBa := Lib.hid hB
            clear hst2 hyes hB
            go_wp2_with (first | fail)
            go_roundw
            case rel => exact ⟨j + 1, by omega, hst.out, HBa.out, by simp⟩
            case measure => simp [intOf]; omega
        · obtain rfl : j = d2.length := by omega
          have hno : fieldIn n d2 = none := by rw [← hgg.out, List.drop_eq_nil_of_le (Nat.le_refl _)]; rfl
          have hS2 := HS.out
          rw [hno] at hS2
          have hst : Hid (fieldGo (allC l) n (L.drop (k + 1)) = fieldGo (allC l) n L) := hS2.symm
          have HBa := Lib.hid (below_call HB5.out (Nat.le_refl _) hB)
          clear hno hS2 hgg hB
          go_wp2_with (first | fail)
          go_roundw
          case rel => exact ⟨k + 1, by omega, hst.out, HBa.out, by simp⟩
          case measure => simp [intOf]; omega
    · obtain rfl : k = L.length := by omega
      have hno : fieldGo (allC l) n L = none := by rw [← hff.out, List.drop_eq_nil_of_le (Nat.le_refl _)]; rfl
      have hBl := HBl.out.step hB
      obtain ⟨q0, q1⟩ := hBl.field
      have hfz := hBl.frozen
      have hlt := hBl.lt
      have HS := Lib.hid hno
      have HE := Lib.hid (below_set2 (below_call HBw.out (Nat.le_refl _) hB) (Nat.le_refl w.heap.size) (.string ⟨#[]⟩) (.string ⟨#[]⟩))
      clear hno hff hBl hB
      go_wp2_with (first | fail)
      exact bodyPost_ret (v := .tuple #[.string ⟨#[]⟩, .agg #[.string ⟨#[]⟩, .string ⟨#[]⟩], .bool false]) (by simp [results, Tryz.results93, go_sem, *]) rfl ⟨by rw [HS.out]; rfl, HE.out⟩
/-- a method as a value, wherever its parts lie -/
def MethodForm (m : Method) (v : Value) : Prop := ∃ pc kc ph kh, v = .agg #[.string m.name, .string m.type, .bool m.static, .bool m.abs, .bool m.priv, .int .i64 m.locals, .slice pc m.code.length kc, .slice ph m.handlers.length kh]
theorem MethodForm.none : MethodForm noMethod (.agg zMethod.toArray) := ⟨.none, 0, .none, 0, rfl⟩
def RefOwnPost (w : World) (o : Option Method) (e : Ending) (w' : World) : Prop := (∃ v, e = .returned (.tuple #[v, .bool o.isSome]) ∧ MethodForm (o.getD noMethod) v) ∧ Below w.heap.size w w'
set_option maxHeartbeats 4000000 in
set_option maxRecDepth 100000 in
theorem refOwn_any (l : List Class) (lv : Value) (c n t : Str) (w : World) (hlv : ClassesAt w lv l) :
    Calls Tryz.prog 184 #[lv, .string c, .string n, .string t] w (RefOwnPost w (ownIn n t (classC (allC l) c).methods)) := by
  have HCO : Hid (∀ wx, Below w.heap.size w wx → _) := fun wx hb => refClassOf_any l lv c wx (hlv.mono hb)
  unfold ClassGives at HCO
  obtain ⟨pl, cap, rfl, _⟩ := hlv.open
  have hblk : Blk (w.alloc (.cells #[.string ⟨#[]⟩, .string ⟨#[]⟩, .bool false, .bool false, .bool false, .int .i64 0, .slice none 0 0, .slice none 0 0] 130)) w.heap.size 130 zMethod := Blk.new w _ zMethod
  have hB1 : Below w.heap.size w (w.alloc (.cells #[.string ⟨#[]⟩, .string ⟨#[]⟩, .bool false, .bool false, .bool false, .int .i64 0, .slice none 0 0, .slice none 0 0] 130)) := (Below.refl _ _).alloc (Nat.le_refl _) _
  rw [show (findC (allC l) c).getD noClass = classC (allC l) c from rfl] at HCO
  clear hlv
  generalize classC (allC l) c = d at *
  generalize (findC (allC l) c).isSome = is at *
  obtain ⟨n2, s2, f2, b2, d2, ms⟩ := d
  dsimp only at *
  go_enter Tryz.func184, Tryz.ntmps184
  go_wp2_with (go_at_call 19; (with_reducible refine (HCO.out _ hB1).mono ?_); rintro e w4 ⟨p1, k1, p2, k2, p3, k3, rfl, _, _, hms, hB4, _⟩)
  have BX := boxed_new w4 #[.string n2, .string s2, .slice p1 f2.length k1, .bool b2, .slice p2 d2.length k2, .slice p3 ms.length k3] 47
  have HB5 := Lib.hid (below_call (below_call hB1 (Nat.le_refl _) hB4) (Nat.le_refl _) BX.below)
  have hms5 : SliceOf (w4.alloc (.cells #[.string n2, .string s2, .slice p1 f2.length k1, .bool b2, .slice p2 d2.length k2, .slice p3 ms.length k3] 47)) 8 (MethodCells _) _ _ := hms.mono BX.below (by decide) (fun _ _ h => h.mono BX.below)
  have HBl : Hid (Blk (w4.alloc (.cells #[.string n2, .string s2, .slice p1 f2.length k1, .bool b2, .slice p2 d2.length k2, .slice p3 ms.length k3] 47)) w.heap.size 130 zMethod) := (hblk.step hB4).step BX.below
  generalize w4.alloc (.cells #[.string n2, .string s2, .slice p1 f2.length k1, .bool b2, .slice p2 d2.length k2, .slice p3 ms.length k3] 47) = w5 at *
  obtain ⟨pd', kd', he, g1, g2, hdd⟩ := hms5.open
  injection he with he1 he2 he3
  subst he1 he3
  clear he2 hms5 hms
  have HD := Lib.hid hdd
  have hlen2 : ms.length ≤ 9223372036854775807 := Nat.le_trans g1 g2
  have HBX := Lib.hid BX
  clear hdd BX hB4 hB1 hblk
  go_loopw [12] (fun x wy => ∃ j : Nat, j ≤ ms.length ∧ Hid (ownIn n t (ms.drop j) = ownIn n t ms) ∧ Below w5.heap.size w5 wy ∧ x = .int .i64 j) (fun x _ => ms.length - (intOf x).toNat)
  case atStart => exact ⟨0, by omega, rfl, Below.refl _ _, rfl⟩
  case round =>
    obtain ⟨k, hk, hff, hB, rfl⟩ := hrel
    obtain ⟨y0, y1, y2, y3, y4, y5⟩ := boxed6 (HBX.out.step hB)
    clear y0 y1 y2 y3 y4
    by_cases hkl : k < ms.length
    · obtain ⟨m, hx⟩ : ∃ a, ms[k]? = some a := ⟨ms[k], by simp [hkl]⟩
      obtain ⟨b, o, vs, rfl, ⟨cv, hv, rfl, k1, k2⟩, _, hcells⟩ := HD.out k m hx
      obtain ⟨c0, c1, c2, c3, c4, c5, c6, c7, _⟩ := hcells.mono hB hcells.lt
      have hstep := ownIn_drop n t ms k m hx
      rw [hff.out] at hstep
      obtain ⟨pc, kc, rfl, _⟩ := k1.open
      obtain ⟨ph, kh, rfl, _⟩ := k2.open
      have e1 := strEq m.name n
      have e2 := strEq m.type t
      have HX := Lib.hid hx
      clear k1 k2 hcells hff hx
      by_cases hyes : m.name = n ∧ m.type = t
      · rw [if_pos hyes] at hstep
        rw [decide_eq_true hyes.1] at e1
        rw [decide_eq_true hyes.2] at e2
        have hBl := HBl.out.step hB
        obtain ⟨q0, q1, q2, q3, q4, q5, q6, q7⟩ := hBl.method
        have hfz := hBl.frozen
        have hlt := hBl.lt
        have HS := Lib.hid hstep
        have HE := Lib.hid (below_set8 (below_call HB5.out (Nat.le_refl _) hB) (Nat.le_refl w.heap.size) (.string m.name) (.string m.type) (.bool m.static) (.bool m.abs) (.bool m.priv) (.int .i64 m.locals) (.slice pc m.code.length kc) (.slice ph m.handlers.length kh))
        clear hstep hyes hBl hB
        go_wp2_with (first | fail)
        exact bodyPost_ret (v := .tuple #[.agg #[.string m.name, .string m.type, .bool m.static, .bool m.abs, .bool m.priv, .int .i64 m.locals, .slice pc m.code.length kc, .slice ph m.handlers.length kh], .bool true]) (by simp [results, Tryz.results184, go_sem, *]) rfl (by rw [HS.out]; exact ⟨⟨_, rfl, pc, kc, ph, kh, rfl⟩, HE.out⟩)
      · rw [if_neg hyes] at hstep
        have hst := Lib.hid hstep.symm
        have hno : (decide (m.name = n) && decide (m.type = t)) = false := by
          rw [Bool.and_eq_false_iff, decide_eq_false_iff_not, decide_eq_false_iff_not]
          by_cases h1 : m.name = n
          · exact Or.inr fun h2 => hyes ⟨h1, h2⟩
          · exact Or.inl h1
        rw [← e1, ← e2] at hno
        have HBa := Lib.hid hB
        clear hstep hyes hB e1 e2
        obtain ⟨b1, g1⟩ : ∃ q, (m.name.toList == n.toList) = q := ⟨_, rfl⟩
        obtain ⟨b2, g2⟩ : ∃ q, (m.type.toList == t.toList) = q := ⟨_, rfl⟩
        rw [g1, g2] at hno
        cases b1 <;> cases b2
        all_goals first
          | (exact absurd hno (by decide))
          | (clear hno
             go_wp2_with (first | fail)
             go_roundw
             case rel => exact ⟨k + 1, by omega, hst.out, HBa.out, by simp⟩
             case measure => simp [intOf]; omega)
    · obtain rfl : k = ms.length := by omega
      have hno : ownIn n t ms = none := by rw [← hff.out, List.drop_eq_nil_of_le (Nat.le_refl _)]; rfl
      have hBl := HBl.out.step hB
      obtain ⟨q0, q1, q2, q3, q4, q5, q6, q7⟩ := hBl.method
      have hfz := hBl.frozen
      have hlt := hBl.lt
      have HS := Lib.hid hno
      have HE := Lib.hid (below_set8 (below_call HB5.out (Nat.le_refl _) hB) (Nat.le_refl w.heap.size) (.string ⟨#[]⟩) (.string ⟨#[]⟩) (.bool false) (.bool false) (.bool false) (.int .i64 0) (.slice none 0 0) (.slice none 0 0))
      clear hno hff hBl hB
      go_wp2_with (first | fail)
      exact bodyPost_ret (v := .tuple #[.agg zMethod.toArray, .bool false]) (by simp [results, Tryz.results184, go_sem, *, zMethod]) rfl (by rw [HS.out]; exact ⟨⟨_, rfl, MethodForm.none⟩, HE.out⟩)
def RefFoundPost (w : World) (o : Option (Str × Method)) (e : Ending) (w' : World) : Prop := (∃ v, e = .returned (methodV3 v o) ∧ MethodForm ((o.map (·.2)).getD noMethod) v) ∧ Below w.heap.size w w'
set_option maxHeartbeats 4000000 in
set_option maxRecDepth 100000 in
theorem refFound_any (l : List Class) (lv : Value) (c n t : Str) (w : World) (hR : Right l) (hcf : ∀ c ∈ l, classFault c = 0) (hlv : ClassesAt w lv l) (hk : (findC (allC l) c).isSome = true) :
    Calls Tryz.prog 163 #[lv, .string c, .string n, .string t] w (RefFoundPost w (methodC (allC l) c n t)) := by
  have HL : Hid (∀ wx, Below w.heap.size w wx → _) := fun wx hb => refSupers_fuel l lv hR _ c wx (hlv.mono hb) hk (Nat.le_refl _)
  have HEv : Hid (∀ wx, Below w.heap.size w wx → _) := fun wx hb => refEvery_any l lv c wx hR hcf (hlv.mono hb) hk (fun x hx => known_ne hcf x hx)
  unfold RowPost at HL HEv
  have HCO : Hid (∀ (a : Str) wx, Below w.heap.size w wx → _) := fun a wx hb => refClassOf_any l lv a wx (hlv.mono hb)
  have HOwn : Hid (∀ (a : Str) wx, Below w.heap.size w wx → _) := fun a wx hb => refOwn_any l lv a n t wx (hlv.mono hb)
  unfold ClassGives at HCO
  unfold RefOwnPost at HOwn
  obtain ⟨pl, cap, rfl, _⟩ := hlv.open
  have hblk : Blk (w.alloc (.cells #[.string ⟨#[]⟩, .string ⟨#[]⟩, .bool false, .bool false, .bool false, .int .i64 0, .slice none 0 0, .slice none 0 0] 130)) w.heap.size 130 zMethod := Blk.new w _ zMethod
  have hB1 : Below w.heap.size w (w.alloc (.cells #[.string ⟨#[]⟩, .string ⟨#[]⟩, .bool false, .bool false, .bool false, .int .i64 0, .slice none 0 0, .slice none 0 0] 130)) := (Below.refl _ _).alloc (Nat.le_refl _) _
  have HMC : Hid (methodC (allC l) c n t = match methodGo (allC l) n t (lineC (allC l) c) with
    | some x => some x
    | none => turnGo (allC l) n t (sortS (everyC (allC l) c)) [false, true]) := by
      unfold Hid; rw [← turnGo_two]; rfl
  clear hlv hk hR hcf
  generalize methodC (allC l) c n t = res at *
  generalize lineC (allC l) c = L at *
  generalize sortS (everyC (allC l) c) = E at *
  go_enter Tryz.func163, Tryz.ntmps163
  go_wp2_with (go_at_call 125; (with_reducible refine (HL.out _ hB1).mono ?_); rintro e w3 ⟨⟨v3, rfl, hv3⟩, hB3⟩; obtain ⟨pv, kv, rfl⟩ := ownsRow_shape hv3)
  have hs3 := strsAt_of_owns hv3
  obtain ⟨pv', kv', he, h1, h2, hcc⟩ := hs3.open
  injection he with he1 he2 he3
  subst he1 he3
  clear he2
  have HC := Lib.hid hcc
  have hlen : L.length ≤ 9223372036854775807 := Nat.le_trans h1 h2
  have HBl : Hid (Blk w3 w.heap.size 130 zMethod) := hblk.step hB3
  have HBw := Lib.hid (below_call hB1 (Nat.le_refl _) hB3)
  clear hs3 hcc hv3 hblk hB1 hB3 HL
  go_loopw [12] (fun x wr => ∃ k : Nat, k ≤ L.length ∧ Hid (methodGo (allC l) n t (L.drop k) = methodGo (allC l) n t L) ∧ Below w3.heap.size w3 wr ∧ x = .int .i64 k) (fun x _ => L.length - (intOf x).toNat)
  case atStart => exact ⟨0, by omega, rfl, Below.refl _ _, rfl⟩
  case round =>
    obtain ⟨k, hk, hff, hB, rfl⟩ := hrel
    by_cases hkl : k < L.length
    · obtain ⟨a, ha⟩ : ∃ a, L[k]? = some a := ⟨L[k], by simp [hkl]⟩
      obtain ⟨b, o, vs, rfl, hR, _, hcells⟩ := HC.out k a ha
      unfold StrCells at hR; subst hR
      have HCell : Hid (∀ wx, Below w3.heap.size w3 wx → wx.cell? ⟨b, o + k, none⟩ = some (.string a)) := fun wx hb => by have := (hcells.mono hb hcells.lt).1; rwa [Nat.mul_one] at this
      have c0 := HCell.out wr hB
      have hstep := methodGo_drop (allC l) n t L k a ha
      rw [hff.out] at hstep
      have HO := Lib.hid (HOwn.out a wr (below_call HBw.out (Nat.le_refl _) hB))
      have HX := Lib.hid ha
      clear ha hcells hff
      generalize (classC (allC l) a).methods = m2 at *
      cases hq : ownIn n t m2 with
      | some m =>
        rw [hq] at hstep HO
        simp only [Option.isSome_some, Option.getD_some] at HO
        have hres : Hid (res = some (a, m)) := by unfold Hid; rw [HMC.out, hstep]
        have HBr := Lib.hid hB
        clear hstep hq HMC hB
        go_upto_region 7 with (go_at_call 184; (with_reducible refine HO.out.mono ?_); rintro e w5 ⟨⟨v5, rfl, pc, kc, ph, kh, rfl⟩, hB5⟩)
        have hB5r := below_call HBr.out (Nat.le_refl _) hB5
        have hBl5 := HBl.out.step hB5r
        obtain ⟨q0, q1, q2, q3, q4, q5, q6, q7⟩ := hBl5.method
        have hfz := hBl5.frozen
        have hlt := hBl5.lt
        have c1 := HCell.out w5 hB5r
        have hbl := hcells_lt (HCell.out w3 (Below.refl _ _))
        have hblt : b < w5.heap.size := Nat.lt_of_lt_of_le hbl hB5r.size
        have hBe := below_call HBw.out (Nat.le_refl _) hB5r
        have HE := Lib.hid ((below_set8 hBe (Nat.le_refl w.heap.size) (.string m.name) (.string m.type) (.bool m.static) (.bool m.abs) (.bool m.priv) (.int .i64 m.locals) (.slice pc m.code.length kc) (.slice ph m.handlers.length kh)).alloc (Nat.le_trans hBe.size (by simp)) (.cells #[.string m.name, .string m.type, .bool m.static, .bool m.abs, .bool m.priv, .int .i64 m.locals, .slice pc m.code.length kc, .slice ph m.handlers.length kh] 130)).drew
        clear hBl5 hBe hB5 hB5r
        go_region
        all_goals go_wp2
        all_goals exact bodyPost_ret (v := .tuple #[.string a, .agg #[.string m.name, .string m.type, .bool m.static, .bool m.abs, .bool m.priv, .int .i64 m.locals, .slice pc m.code.length kc, .slice ph m.handlers.length kh], .bool true]) (by simp [results, Tryz.results163, go_sem, *]) rfl (by rw [hres.out]; exact ⟨⟨_, rfl, pc, kc, ph, kh, rfl⟩, HE.out⟩)
      | none =>
        rw [hq] at hstep HO
        simp only [Option.isSome_none, Option.getD_none] at HO
        have hst : Hid (methodGo (allC l) n t (L.drop (k + 1)) = methodGo (allC l) n t L) := hstep.symm
        have HBr := Lib.hid hB
        clear hstep hq hB
        go_wp2_with (go_at_call 184; (with_reducible refine HO.out.mono ?_); rintro e w5 ⟨⟨v5, rfl, pc, kc, ph, kh, rfl⟩, hB5⟩)
        go_roundw
        case rel => exact ⟨k + 1, by omega, hst.out, (below_call HBr.out (Nat.le_refl _) hB5).alloc (below_call HBr.out (Nat.le_refl _) hB5).size _, by simp⟩
        case measure => simp [intOf]; omega
    · obtain rfl : k = L.length := by omega
      have hno : methodGo (allC l) n t L = none := by rw [← hff.out, List.drop_eq_nil_of_le (Nat.le_refl _)]; rfl
      have HM2 : Hid (res = turnGo (allC l) n t E [false, true]) := by unfold Hid; rw [HMC.out, hno]
      have HBr := Lib.hid (below_call HBw.out (Nat.le_refl _) hB)
      have HEw := Lib.hid (HEv.out wr (below_call HBw.out (Nat.le_refl _) hB))
      have HBl4 : Hid (Blk wr w.heap.size 130 zMethod) := HBl.out.step hB
      clear hno hff HMC hB HBw HBl HC
      go_wp2_with (go_at_call 44; (with_reducible refine HEw.out.mono ?_); rintro e w6 ⟨⟨v6, rfl, hv6⟩, hB6⟩; obtain ⟨pe, ke, rfl⟩ := ownsRow_shape hv6)
      have hs6 := strsAt_of_owns hv6
      obtain ⟨pe', ke', he, h3, h4, hee⟩ := hs6.open
      injection he with he1 he2 he3
      subst he1 he3
      clear he2
      have HCe := Lib.hid hee
      have hlenE : E.length ≤ 9223372036854775807 := Nat.le_trans h3 h4
      have HB6 := Lib.hid (below_call HBr.out (Nat.le_refl _) hB6)
      have HBl6 : Hid (Blk w6 w.heap.size 130 zMethod) := HBl4.out.step hB6
      clear hee hs6 hv6 hB6 HEw HBl4 HBr
      go_loopw [16] (fun x wx => ∃ j : Nat, j ≤ 2 ∧ Hid (res = turnGo (allC l) n t E ([false, true].drop j)) ∧ Below w6.heap.size w6 wx ∧ x = .int .i64 j) (fun x _ => 2 - (intOf x).toNat)
      case atStart => exact ⟨0, by omega, HM2, Below.refl _ _, rfl⟩
      case round =>
        obtain ⟨j, hj, hgg, hB, rfl⟩ := hrel
        by_cases hjl : j < 2
        · obtain ⟨a, ha⟩ : ∃ a, [false, true][j]? = some a := ⟨[false, true][j]'(by simp; omega), by simp⟩
          have hja : (((j : Int)) == 1) = a := by
            match j, ha with
            | 0, ha => simp at ha; subst ha; rfl
            | 1, ha => simp at ha; subst ha; rfl
          have hstep := turnGo_drop (allC l) n t E [false, true] j a ha
          have HG : Hid (res = match faceGo (allC l) n t a E with
            | some x => some x
            | none => turnGo (allC l) n t E ([false, true].drop (j + 1))) := hgg.out.trans hstep
          have hji : (j : Int) < 2 := by omega
          have HBj := Lib.hid hB
          clear ha hstep hgg
          go_wp2_with (first | fail)
          go_loopw [17] (fun x wy => ∃ i : Nat, i ≤ E.length ∧ Hid (faceGo (allC l) n t a (E.drop i) = faceGo (allC l) n t a E) ∧ Below w6.heap.size w6 wy ∧ x = .int .i64 i) (fun x _ => E.length - (intOf x).toNat)
          case atStart => exact ⟨0, by omega, rfl, hB, rfl⟩
          case round =>
            clear hB
            obtain ⟨i, hi, hff, hB, rfl⟩ := hrel
            by_cases hil : i < E.length
            · obtain ⟨z, hz⟩ : ∃ a, E[i]? = some a := ⟨E[i], by simp [hil]⟩
              obtain ⟨be, oe, vs, rfl, hR, _, hcells⟩ := HCe.out i z hz
              unfold StrCells at hR; subst hR
              have HCell : Hid (∀ wx, Below w6.heap.size w6 wx → wx.cell? ⟨be, oe + i, none⟩ = some (.string z)) := fun wx hb => by have := (hcells.mono hb hcells.lt).1; rwa [Nat.mul_one] at this
              have c0 := HCell.out wr hB
              have hstep := faceGo_drop (allC l) n t a E i z hz
              rw [hff.out] at hstep
              have hBwr := below_call HB6.out (Nat.le_refl _) hB
              have HCz := Lib.hid (HCO.out z wr hBwr)
              have HOz : Hid (∀ wx, Below wr.heap.size wr wx → _) := fun wx hb => HOwn.out z wx (below_call hBwr (Nat.le_refl _) hb)
              rw [show (findC (allC l) z).getD noClass = classC (allC l) z from rfl] at HCz
              have HZ := Lib.hid hz
              have HBwr := Lib.hid hBwr
              clear hz hcells hff hBwr
              generalize classC (allC l) z = d at *
              generalize (findC (allC l) z).isSome = is at *
              obtain ⟨n2, s2, f2, b2, d2, m2⟩ := d
              dsimp only at hstep HCz HOz
              have HBr2 := Lib.hid hB
              clear hB
              go_upto_region 16 with (go_at_call 19; (with_reducible refine HCz.out.mono ?_); rintro e w4 ⟨p1, k1, p2, k2, p3, k3, rfl, _, _, _, hB4, _⟩)
              have BX := boxed_new w4 #[.string n2, .string s2, .slice p1 f2.length k1, .bool b2, .slice p2 d2.length k2, .slice p3 m2.length k3] 47
              have hB5 := below_call hB4 (Nat.le_refl _) BX.below
              generalize w4.alloc (.cells #[.string n2, .string s2, .slice p1 f2.length k1, .bool b2, .slice p2 d2.length k2, .slice p3 m2.length k3] 47) = w5 at *
              have c1 := HCell.out w5 (below_call HBr2.out (Nat.le_refl _) hB5)
              have HO5 := Lib.hid (HOz.out w5 hB5)
              have HBX := Lib.hid BX
              have HB5 := Lib.hid hB5
              clear BX hB5 hB4 HCz HOz c0
              cases hq : ownIn n t m2 with
              | none =>
                rw [hq] at hstep HO5
                simp only [Option.isSome_none, Option.getD_none] at HO5
                have hst : Hid (faceGo (allC l) n t a (E.drop (i + 1)) = faceGo (allC l) n t a E) := hstep.symm
                clear hstep hq
                go_wp2_with (go_at_call 184; (with_reducible refine HO5.out.mono ?_); rintro e w7 ⟨⟨v7, rfl, pc, kc, ph, kh, rfl⟩, hB7⟩)
                go_roundw
                case rel =>
                  have hBq := below_call (below_call HBr2.out (Nat.le_refl _) HB5.out) (Nat.le_refl _) hB7
                  exact ⟨i + 1, by omega, hst.out, hBq.alloc hBq.size _, by simp⟩
                case measure => simp [intOf]; omega
              | some m =>
                rw [hq] at hstep HO5
                simp only [Option.isSome_some, Option.getD_some] at HO5
                clear hq
                go_upto_region 17 with (go_at_call 184; (with_reducible refine HO5.out.mono ?_); rintro e w7 ⟨⟨v7, rfl, pc, kc, ph, kh, rfl⟩, hB7⟩)
                have hBx7 := HBX.out.step hB7
                obtain ⟨y0, y1, y2, y3, y4, y5⟩ := boxed6 hBx7
                have hlt7 := hBx7.size
                have hB7w := below_call (below_call HBr2.out (Nat.le_refl _) HB5.out) (Nat.le_refl _) hB7
                have hBa7 := hB7w.alloc hB7w.size (.cells #[.string m.name, .string m.type, .bool m.static, .bool m.abs, .bool m.priv, .int .i64 m.locals, .slice pc m.code.length kc, .slice ph m.handlers.length kh] 130)
                obtain ⟨yes, hy⟩ : ∃ q, (m.abs == a) = q := ⟨_, rfl⟩
                rw [hy] at hstep
                have HBa7 := Lib.hid hBa7
                have HB7w := Lib.hid hB7w
                have HS := Lib.hid hstep
                clear hstep hBa7 hB7w hB7 hBx7 y0 y1 y2 y4 y5
                by_cases hbb : (b2 && yes) = true
                · rw [Bool.and_eq_true] at hbb
                  obtain ⟨rfl, rfl⟩ := hbb
                  have hres : Hid (res = some (z, m)) := by
                    unfold Hid; rw [HG.out, HS.out]; rfl
                  have hBl7 := HBl6.out.step HB7w.out
                  obtain ⟨q0, q1, q2, q3, q4, q5, q6, q7⟩ := hBl7.method
                  have hfz := hBl7.frozen
                  have hlt := hBl7.lt
                  have c7 := HCell.out w7 HB7w.out
                  have hblt : be < w7.heap.size := Nat.lt_of_lt_of_le (hcells_lt (HCell.out w6 (Below.refl _ _))) HB7w.out.size
                  have hBe := below_call HB6.out (Nat.le_refl _) HB7w.out
                  have HE := Lib.hid ((below_set8 hBe (Nat.le_refl w.heap.size) (.string m.name) (.string m.type) (.bool m.static) (.bool m.abs) (.bool m.priv) (.int .i64 m.locals) (.slice pc m.code.length kc) (.slice ph m.handlers.length kh)).alloc (Nat.le_trans hBe.size (by simp)) (.cells #[.string m.name, .string m.type, .bool m.static, .bool m.abs, .bool m.priv, .int .i64 m.locals, .slice pc m.code.length kc, .slice ph m.handlers.length kh] 130)).drew
                  clear hBl7 hBe
                  go_upto_region 18 with (first | fail)
                  go_region
                  all_goals go_wp2
                  all_goals exact bodyPost_ret (v := .tuple #[.string z, .agg #[.string m.name, .string m.type, .bool m.static, .bool m.abs, .bool m.priv, .int .i64 m.locals, .slice pc m.code.length kc, .slice ph m.handlers.length kh], .bool true]) (by simp [results, Tryz.results163, go_sem, *]) rfl (by rw [hres.out]; exact ⟨⟨_, rfl, pc, kc, ph, kh, rfl⟩, HE.out⟩)
                · have hst : Hid (faceGo (allC l) n t a (E.drop (i + 1)) = faceGo (allC l) n t a E) := by
                    unfold Hid; rw [HS.out, if_neg hbb]
                  cases b2 <;> cases yes <;> first | (exact absurd rfl hbb) | skip
                  all_goals
                    clear hbb
                    go_wp2_with (first | fail)
                    go_roundw
                    case rel => exact ⟨i + 1, by omega, hst.out, HBa7.out, by simp⟩
                    case measure => simp [intOf]; omega
            · obtain rfl : i = E.length := by omega
              have hno : faceGo (allC l) n t a E = none := by rw [← hff.out, List.drop_eq_nil_of_le (Nat.le_refl _)]; rfl
              have hst : Hid (res = turnGo (allC l) n t E ([false, true].drop (j + 1))) := by unfold Hid; rw [HG.out, hno]
              have HBe := Lib.hid hB
              clear hno hff hB HG
              go_wp2_with (first | fail)
              go_roundw
              case rel => exact ⟨j + 1, by omega, hst.out, HBe.out, by simp⟩
              case measure => simp [intOf]; omega
        · obtain rfl : j = 2 := by omega
          have hres : Hid (res = none) := hgg.out
          have hBl := HBl6.out.step hB
          obtain ⟨q0, q1, q2, q3, q4, q5, q6, q7⟩ := hBl.method
          have hfz := hBl.frozen
          have hlt := hBl.lt
          have HE := Lib.hid (below_set8 (below_call HB6.out (Nat.le_refl _) hB) (Nat.le_refl w.heap.size) (.string ⟨#[]⟩) (.string ⟨#[]⟩) (.bool false) (.bool false) (.bool false) (.int .i64 0) (.slice none 0 0) (.slice none 0 0))
          clear hgg hBl hB
          go_wp2_with (first | fail)
          exact bodyPost_ret (v := .tuple #[.string ⟨#[]⟩, .agg zMethod.toArray, .bool false]) (by simp [results, Tryz.results163, go_sem, *, zMethod]) rfl (by rw [hres.out]; exact ⟨⟨_, rfl, MethodForm.none⟩, HE.out⟩)
end Go.Proofs.YtbakcdgjibmceaaGreatDoor
