/-
  WALKS over right.Found, Call, the reference's CallFault, the law's rightful and the law RightTells. Conditions: as in XRead; texts of at most maxLen signs.
-/
import Derived.Test.YtlmfmioljeppfaaGreatDoorRefFind
import Derived.Test.YtlmfmioljeppfaaGreatDoorFrameOps
import Derived.Test.YtlmfmioljeppfaaGreatDoorCall
import Derived.Test.YtlmfmioljeppfaaGreatDoorFind
import Derived.Test.YtlmfmioljeppfaaGreatDoorRefNames
import Derived.Test.YtlmfmioljeppfaaGreatDoorLayLaw
namespace Go.Proofs.YtlmfmioljeppfaaGreatDoor
open Go.RowKit Go.Shelf Go.Lib
set_option maxHeartbeats 4000000 in
set_option maxRecDepth 100000 in
theorem refCall_any (l : List Class) (lv : Value) (src c n t : Str) (static : Bool) (w : World) (hR : Right l) (hcf : ∀ c ∈ l, classFault c = 0) (hlv : ClassesAt w lv l) :
    Calls Tryz.prog 118 #[lv, .string src, .string c, .string n, .string t, .bool static] w fun e w' => e = .returned (.int .i64 (callFault (allC l) src c n t static)) ∧ Below w.heap.size w w' := by
  have HC1 := Lib.hid (refClassOf_any l lv c w hlv)
  have HC2 : Hid (∀ wx, Below w.heap.size w wx → _) := fun wx hb => refClassOf_any l lv src wx (hlv.mono hb)
  have HRM : Hid ((findC (allC l) c).isSome = true → ∀ wx, Below w.heap.size w wx → _) := fun hk wx hb => refFound_any l lv c n t wx hR hcf (hlv.mono hb) hk
  unfold ClassGives at HC1 HC2
  unfold RefFoundPost at HRM
  obtain ⟨pl, capl, rfl, _⟩ := hlv.open
  have HCF := Lib.hid (callFault_is (allC l) src c n t static)
  clear hlv hR hcf
  generalize callFault (allC l) src c n t static = f at *
  generalize (findC (allC l) c).isSome = isc at *
  generalize (findC (allC l) src).isSome = iss at *
  generalize (findC (allC l) c).getD noClass = dc at *
  generalize (findC (allC l) src).getD noClass = ds at *
  generalize methodC (allC l) c n t = o at *
  obtain ⟨n2, s2, f2, b2, d2, m2⟩ := dc
  obtain ⟨n3, s3, f3, b3, d3, m3⟩ := ds
  dsimp only at *
  cases isc with
  | false =>
    have hf : f = 3 := HCF.out
    subst hf
    clear HCF HRM HC2
    go_enter Tryz.func118, Tryz.ntmps118
    go_wp2_with (go_at_call 14; (with_reducible refine HC1.out.mono ?_); rintro e w4 ⟨p1, k1, p2, k2, p3, k3, rfl, _, _, _, hB4, _⟩)
    go_ret
    exact ⟨rfl, hB4.alloc hB4.size _⟩
  | true =>
    have HRm : Hid (∀ wx, Below w.heap.size w wx → _) := fun wx hb => HRM.out rfl wx hb
    replace HCF : Hid (f = rightF o iss src static) := HCF.out
    clear HRM
    cases o with
    | none =>
      simp only [methodV3, Option.map_none, Option.getD_none] at HRm
      have hf : f = 3 := HCF.out
      subst hf
      clear HCF
      go_enter Tryz.func118, Tryz.ntmps118
      go_wp2_with (first
        | (go_at_call 166; (with_reducible refine (HRm.out _ hB4a).mono ?_); rintro e w5 ⟨⟨v5, rfl, pc, kc, ph, kh, rfl⟩, hB5⟩; (have hB5a := (below_call hB4a (Nat.le_refl _) hB5).alloc (below_call hB4a (Nat.le_refl _) hB5).size (.cells #[.string noMethod.name, .string noMethod.type, .bool noMethod.static, .bool noMethod.abs, .bool noMethod.priv, .int .i64 noMethod.locals, .slice pc noMethod.code.length kc, .slice ph noMethod.handlers.length kh] 53)))
        | (go_at_call 14; (have hB5b := hB5a); (with_reducible refine (HC2.out _ hB5b).mono ?_); rintro e w6 ⟨p4, k4, p5, k5, p6, k6, rfl, _, _, _, hB6, _⟩)
        | (go_at_call 14; (with_reducible refine HC1.out.mono ?_); rintro e w4 ⟨p1, k1, p2, k2, p3, k3, rfl, _, _, _, hB4, _⟩; (have hB4a := hB4.alloc hB4.size (.cells #[.string n2, .string s2, .slice p1 f2.length k1, .bool b2, .slice p2 d2.length k2, .slice p3 m2.length k3] 36))))
      go_ret
      exact ⟨rfl, (below_call hB5a (Nat.le_refl _) hB6).alloc (below_call hB5a (Nat.le_refl _) hB6).size _⟩
    | some x =>
      obtain ⟨d, m⟩ := x
      simp only [methodV3, Option.map_some, Option.getD_some] at HRm
      have hst := strEq d src
      obtain ⟨st, hs1⟩ : ∃ q, (m.static == static) = q := ⟨_, rfl⟩
      have hs1n : (m.static != static) = !st := by rw [← hs1]; rfl
      obtain ⟨ne, hs2⟩ : ∃ q, (d.toList == src.toList) = q := ⟨_, rfl⟩
      obtain ⟨pv, hpv⟩ : ∃ q, m.priv = q := ⟨_, rfl⟩
      have HFin : Hid (f = if iss = false then 3 else if st = false then 7 else if (pv && !ne) = true then 9 else 0) := by
        unfold Hid
        rw [HCF.out, rightF_some, ← hs1, ← hs2, hst, hpv]
      clear HCF hst
      go_enter Tryz.func118, Tryz.ntmps118
      go_upto_region 6 with (first
        | (go_at_call 166; (with_reducible refine (HRm.out _ hB4a).mono ?_); rintro e w5 ⟨⟨v5, rfl, pc, kc, ph, kh, rfl⟩, hB5⟩; (have hB5a := (below_call hB4a (Nat.le_refl _) hB5).alloc (below_call hB4a (Nat.le_refl _) hB5).size (.cells #[.string m.name, .string m.type, .bool m.static, .bool m.abs, .bool pv, .int .i64 m.locals, .slice pc m.code.length kc, .slice ph m.handlers.length kh] 53)))
        | (go_at_call 14; (have hB5b := hB5a); (with_reducible refine (HC2.out _ hB5b).mono ?_); rintro e w6 ⟨p4, k4, p5, k5, p6, k6, rfl, _, _, _, hB6, _⟩)
        | (go_at_call 14; (with_reducible refine HC1.out.mono ?_); rintro e w4 ⟨p1, k1, p2, k2, p3, k3, rfl, _, _, _, hB4, _⟩; (have hB4a := hB4.alloc hB4.size (.cells #[.string n2, .string s2, .slice p1 f2.length k1, .bool b2, .slice p2 d2.length k2, .slice p3 m2.length k3] 36))))
      have B16 := (Blk.new w5 53 [.string m.name, .string m.type, .bool m.static, .bool m.abs, .bool pv, .int .i64 m.locals, .slice pc m.code.length kc, .slice ph m.handlers.length kh]).step hB6
      obtain ⟨t0, t1, t2, t3, t4, t5, t6, t7⟩ := B16.cells8
      have hlt := B16.lt
      have HB7 := Lib.hid ((below_call hB5a (Nat.le_refl _) hB6).alloc (below_call hB5a (Nat.le_refl _) hB6).size (.cells #[.string n3, .string s3, .slice p4 f3.length k4, .bool b3, .slice p5 d3.length k5, .slice p6 m3.length k6] 36))
      clear B16 hB6 hB5a hB5 hB4a hB4
      cases iss with
      | false =>
        have hf : f = 3 := HFin.out
        subst hf
        go_wp2_with (first | fail)
        go_ret
        exact ⟨rfl, HB7.out⟩
      | true =>
        cases st with
        | false =>
          have hf : f = 7 := HFin.out
          subst hf
          go_wp2_with (first | fail)
          go_ret
          exact ⟨rfl, HB7.out⟩
        | true =>
          cases pv <;> cases ne
          case true.false =>
            have hf : f = 9 := HFin.out
            subst hf
            go_wp2_with (first | fail)
            go_ret
            exact ⟨rfl, HB7.out⟩
          all_goals
            have hf : f = 0 := HFin.out
            subst hf
            go_wp2_with (first | fail)
            go_ret
            exact ⟨rfl, HB7.out⟩
end Go.Proofs.YtlmfmioljeppfaaGreatDoor
