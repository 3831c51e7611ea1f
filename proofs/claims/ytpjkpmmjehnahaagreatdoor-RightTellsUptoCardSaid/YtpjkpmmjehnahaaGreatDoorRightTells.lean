/-
  WALKS over right.Found, Call, the reference's CallFault, the law's rightful and the law RightTells. Conditions: as in XRead; texts of at most maxLen signs.
-/
import Derived.Test.YtpjkpmmjehnahaaGreatDoorRefFind
import Derived.Test.YtpjkpmmjehnahaaGreatDoorSameMethod
import Derived.Test.YtpjkpmmjehnahaaGreatDoorTableLaw
import Derived.Test.YtpjkpmmjehnahaaGreatDoorWalks
import Derived.Test.YtpjkpmmjehnahaaGreatDoorFaults
namespace Go.Proofs.YtpjkpmmjehnahaaGreatDoor
open Go.RowKit Go.Shelf Go.Lib
def RightPost (w : World) (f : Nat) (e : Ending) (w' : World) : Prop := (∃ s v, e = .returned (.tuple #[.string s, v, errV f])) ∧ Below w.heap.size w w'
def rightF (o : Option (Str × Method)) (iss : Bool) (src : Str) (static : Bool) : Nat :=
  match o with
  | none => 3
  | some (d, m) => if (!iss) = true then 3 else if m.static ≠ static then 7 else if m.priv && decide (d ≠ src) then 9 else 0
theorem rightF_some (d : Str) (m : Method) (iss : Bool) (src : Str) (static : Bool) : rightF (some (d, m)) iss src static = if iss = false then 3 else if (m.static == static) = false then 7 else if (m.priv && !decide (d = src)) = true then 9 else 0 := by
  unfold rightF
  cases iss with
  | false => rfl
  | true =>
    obtain ⟨p, hp⟩ : ∃ p, m.priv = p := ⟨_, rfl⟩
    cases p <;> by_cases h1 : m.static = static <;> by_cases h2 : d = src <;> simp [h1, h2, hp]
theorem callFault_is (cs : List Class) (src c n t : Str) (static : Bool) : callFault cs src c n t static = if (!(findC cs c).isSome) = true then 3 else rightF (methodC cs c n t) (findC cs src).isSome src static := by
  unfold callFault rightF
  cases findC cs c <;> cases findC cs src <;> cases methodC cs c n t <;> rfl
theorem err3 : errV 3 = .iface 24 (.int .i64 3) := rfl
theorem err7 : errV 7 = .iface 24 (.int .i64 7) := rfl
theorem err9 : errV 9 = .iface 24 (.int .i64 9) := rfl
set_option maxHeartbeats 4000000 in
set_option maxRecDepth 100000 in
theorem rightFound_any (w0 w : World) (B : Nat) (l : List Class) (hm : WorldMap w0 w B l) (src c n t : Str) (static : Bool) (hsc : c.size ≤ maxLen) (hss : src.size ≤ maxLen) :
    Calls Tryz.prog 56 #[.map (some B), .string src, .string c, .string n, .string t, .bool static] w (RightPost w (callFault (allC l) src c n t static)) := by
  obtain ⟨p1, k1, p2, k2, p3, k3, _, _, _, hlk⟩ := hm.map.look3 hm.right.nodup c hsc
  obtain ⟨p4, k4, p5, k5, p6, k6, _, _, _, hls⟩ := hm.map.look3 hm.right.nodup src hss
  have hB1 : Below w.heap.size w (w.alloc (.cells #[.string ⟨#[]⟩, .string ⟨#[]⟩, .bool false, .bool false, .bool false, .int .i64 0, .slice none 0 0, .slice none 0 0] 56)) := (Below.refl _ _).alloc (Nat.le_refl _) _
  have hlk1 := (hlk _ hB1).1
  have HMO : Hid ((findC (allC l) c).isSome = true → ∀ wx, Below w.heap.size w wx → _) := fun hk wx hb => methodOf_any w0 wx B l (hm.step hb) c n t hk
  unfold MethodPost3 at HMO
  have HLs := Lib.hid hls
  have hblk : Blk (w.alloc (.cells #[.string ⟨#[]⟩, .string ⟨#[]⟩, .bool false, .bool false, .bool false, .int .i64 0, .slice none 0 0, .slice none 0 0] 56)) w.heap.size 56 zMethod := Blk.new w _ zMethod
  have HCF := Lib.hid (callFault_is (allC l) src c n t static)
  unfold RightPost
  clear hm hsc hss hlk hls
  generalize callFault (allC l) src c n t static = f at *
  generalize (findC (allC l) c).isSome = isc at *
  generalize (findC (allC l) src).isSome = iss at *
  generalize (findC (allC l) c).getD noClass = dc at *
  generalize (findC (allC l) src).getD noClass = ds at *
  generalize methodC (allC l) c n t = o at *
  obtain ⟨n2, s2, f2, b2, d2, m2⟩ := dc
  obtain ⟨n3, s3, f3, b3, d3, m3⟩ := ds
  unfold classV at hlk1 HLs
  dsimp only at hlk1 HLs
  have hBc := (hB1.alloc hB1.size (.cells #[.string n2, .string s2, .slice p1 f2.length k1, .bool b2, .slice p2 d2.length k2, .slice p3 m2.length k3] 37))
  have hblc := hblk.step ((Below.refl _ _).alloc (Nat.le_refl _) (.cells #[.string n2, .string s2, .slice p1 f2.length k1, .bool b2, .slice p2 d2.length k2, .slice p3 m2.length k3] 37))
  cases isc with
  | false =>
    have hf : f = 3 := HCF.out
    subst hf
    obtain ⟨q0, q1, q2, q3, q4, q5, q6, q7⟩ := hblk.method
    have hfz := hblk.frozen
    have HB1 := Lib.hid hB1
    have hlt := hblk.lt
    clear HCF hblc hblk hBc HMO HLs hB1
    go_enter Tryz.func56, Tryz.ntmps56
    go_wp2_with (first | fail)
    exact bodyPost_ret (v := .tuple #[.string ⟨#[]⟩, .agg zMethod.toArray, .iface 24 (.int .i64 3)]) (by simp [results, Tryz.results56, go_sem, *, zMethod]) rfl ⟨⟨_, _, rfl⟩, HB1.out.alloc HB1.out.size _⟩
  | true =>
    have HMo : Hid (∀ wx, Below w.heap.size w wx → _) := fun wx hb => HMO.out rfl wx hb
    replace HCF : Hid (f = rightF o iss src static) := HCF.out
    clear HMO hblk hB1
    cases o with
    | none =>
      simp only [methodV3, Option.map_none, Option.getD_none] at HMo
      have hf : f = 3 := HCF.out
      subst hf
      clear HCF HLs
      go_enter Tryz.func56, Tryz.ntmps56
      go_upto_region 6 with (go_at_call 61; (with_reducible refine (HMo.out _ hBc).mono ?_); rintro e w3 ⟨⟨v3, rfl, pc, kc, ph, kh, rfl, _, _⟩, hB3⟩)
      have hBl := hblc.step hB3
      obtain ⟨q0, q1, q2, q3, q4, q5, q6, q7⟩ := hBl.method
      have hfz := hBl.frozen
      have hlt := hBl.lt
      have hBe := below_call hBc (Nat.le_refl _) hB3
      have HE := Lib.hid ((below_set8 hBe (Nat.le_refl w.heap.size) (.string ⟨#[]⟩) (.string ⟨#[]⟩) (.bool false) (.bool false) (.bool false) (.int .i64 0) (.slice none 0 0) (.slice none 0 0)).alloc (Nat.le_trans hBe.size (by simp)) (.cells #[.string noMethod.name, .string noMethod.type, .bool noMethod.static, .bool noMethod.abs, .bool noMethod.priv, .int .i64 noMethod.locals, .slice pc noMethod.code.length kc, .slice ph noMethod.handlers.length kh] 56))
      clear hBl hBe hblc hBc hB3
      go_wp2_with (first | fail)
      exact bodyPost_ret (v := .tuple #[.string ⟨#[]⟩, .agg zMethod.toArray, .iface 24 (.int .i64 3)]) (by simp [results, Tryz.results56, go_sem, *, zMethod]) rfl ⟨⟨_, _, rfl⟩, HE.out⟩
    | some x =>
      obtain ⟨d, m⟩ := x
      simp only [methodV3, Option.map_some, Option.getD_some] at HMo
      go_enter Tryz.func56, Tryz.ntmps56
      go_upto_region 7 with (go_at_call 61; (with_reducible refine (HMo.out _ hBc).mono ?_); rintro e w3 ⟨⟨v3, rfl, pc, kc, ph, kh, rfl, _, _⟩, hB3⟩)
      have hBe := below_call hBc (Nat.le_refl _) hB3
      have B18 := Blk.new w3 56 [.string m.name, .string m.type, .bool m.static, .bool m.abs, .bool m.priv, .int .i64 m.locals, .slice pc m.code.length kc, .slice ph m.handlers.length kh]
      have hBa := (Below.refl w3.heap.size w3).alloc (Nat.le_refl _) (.cells #[.string m.name, .string m.type, .bool m.static, .bool m.abs, .bool m.priv, .int .i64 m.locals, .slice pc m.code.length kc, .slice ph m.handlers.length kh] 56)
      have B13 := (hblc.step hB3).step hBa
      have hB4 := below_call hBe (Nat.le_refl _) hBa
      have hne : w.heap.size < w3.heap.size := (hblc.step hB3).lt
      have B18 : Blk (w3.alloc (.cells #[.string m.name, .string m.type, .bool m.static, .bool m.abs, .bool m.priv, .int .i64 m.locals, .slice pc m.code.length kc, .slice ph m.handlers.length kh] 56)) w3.heap.size 56 [.string m.name, .string m.type, .bool m.static, .bool m.abs, .bool m.priv, .int .i64 m.locals, .slice pc m.code.length kc, .slice ph m.handlers.length kh] := B18
      clear hblc hBc hB3 hBe hBa
      generalize w3.alloc (.cells #[.string m.name, .string m.type, .bool m.static, .bool m.abs, .bool m.priv, .int .i64 m.locals, .slice pc m.code.length kc, .slice ph m.handlers.length kh] 56) = w4 at *
      generalize w3.heap.size = x18 at *
      have hls := (HLs.out w4 hB4).1
      obtain ⟨q0, q1, q2, q3, q4, q5, q6, q7⟩ := B13.method
      have hfz := B13.frozen
      have hlt := B13.lt
      obtain ⟨t0, t1, t2, t3, t4, t5, t6, t7⟩ := B18.cells8
      have hl18 := B18.lt
      have HBz := Lib.hid ((below_set8 hB4 (Nat.le_refl w.heap.size) (.string ⟨#[]⟩) (.string ⟨#[]⟩) (.bool false) (.bool false) (.bool false) (.int .i64 0) (.slice none 0 0) (.slice none 0 0)).alloc (Nat.le_trans hB4.size (by simp)) (.cells #[.string n3, .string s3, .slice p4 f3.length k4, .bool b3, .slice p5 d3.length k5, .slice p6 m3.length k6] 37))
      have HBm := Lib.hid (((below_set8 hB4 (Nat.le_refl w.heap.size) (.string m.name) (.string m.type) (.bool m.static) (.bool m.abs) (.bool m.priv) (.int .i64 m.locals) (.slice pc m.code.length kc) (.slice ph m.handlers.length kh)).alloc (Nat.le_trans hB4.size (by simp)) (.cells #[.string n3, .string s3, .slice p4 f3.length k4, .bool b3, .slice p5 d3.length k5, .slice p6 m3.length k6] 37)).drew)
      clear B13 B18 hB4 HLs
      have hst := strEq d src
      obtain ⟨st, hs1⟩ : ∃ q, (m.static == static) = q := ⟨_, rfl⟩
      have hs1n : (m.static != static) = !st := by rw [← hs1]; rfl
      obtain ⟨ne, hs2⟩ : ∃ q, (d.toList == src.toList) = q := ⟨_, rfl⟩
      have HFin : Hid (f = if iss = false then 3 else if st = false then 7 else if (m.priv && !ne) = true then 9 else 0) := by
        unfold Hid
        rw [HCF.out, rightF_some, ← hs1, ← hs2, hst]
      clear HCF hst
      obtain ⟨pv, hpv⟩ : ∃ q, m.priv = q := ⟨_, rfl⟩
      rw [hpv] at HFin t4 HBm
      cases iss with
      | false =>
        have hf : f = 3 := HFin.out
        subst hf
        go_wp2_with (first | fail)
        exact bodyPost_ret (v := .tuple #[.string ⟨#[]⟩, .agg zMethod.toArray, .iface 24 (.int .i64 3)]) (by simp [results, Tryz.results56, go_sem, *, zMethod]) rfl ⟨⟨_, _, rfl⟩, HBz.out⟩
      | true =>
        cases st with
        | false =>
          have hf : f = 7 := HFin.out
          subst hf
          go_wp2_with (first | fail)
          exact bodyPost_ret (v := .tuple #[.string ⟨#[]⟩, .agg zMethod.toArray, .iface 24 (.int .i64 7)]) (by simp [results, Tryz.results56, go_sem, *, zMethod]) rfl ⟨⟨_, _, rfl⟩, HBz.out⟩
        | true =>
          cases pv <;> cases ne
          case true.false =>
            have hf : f = 9 := HFin.out
            subst hf
            go_wp2_with (first | fail)
            exact bodyPost_ret (v := .tuple #[.string ⟨#[]⟩, .agg zMethod.toArray, .iface 24 (.int .i64 9)]) (by simp [results, Tryz.results56, go_sem, *, zMethod]) rfl ⟨⟨_, _, rfl⟩, HBz.out⟩
          all_goals
            have hf : f = 0 := HFin.out
            subst hf
            go_upto_region 14 with (first | fail)
            go_region
            all_goals go_wp2
            all_goals exact bodyPost_ret (v := .tuple #[.string d, .agg #[.string m.name, .string m.type, .bool m.static, .bool m.abs, .bool _, .int .i64 m.locals, .slice pc m.code.length kc, .slice ph m.handlers.length kh], .nilIface]) (by simp [results, Tryz.results56, go_sem, *]; rfl) rfl ⟨⟨_, _, rfl⟩, HBm.out⟩
def rightFault (l : List Class) (src c n t : Str) (static : Bool) : Nat := if readFault l = 0 then callFault (allC l) src c n t static else readFault l
set_option maxHeartbeats 1000000 in
set_option maxRecDepth 100000 in
theorem rightCall_any (l : List Class) (lv : Value) (src c n t : Str) (static : Bool) (w : World) (hl : Laid w) (ho : ∀ c ∈ l, ClassOk c) (hlv : ClassesAt w lv l) (hsc : c.size ≤ maxLen) (hss : src.size ≤ maxLen) :
    Calls Tryz.prog 17 #[lv, .string src, .string c, .string n, .string t, .bool static] w fun e w' => e = .returned (errV (rightFault l src c n t static)) ∧ Below w.heap.size w w' := by
  have HRd := Lib.hid (read_any l lv w hl ho hlv)
  have HF : Hid (∀ w0 wx B, WorldMap w0 wx B l → _) := fun w0 wx B hm => rightFound_any w0 wx B l hm src c n t static hsc hss
  unfold RightPost at HF
  obtain ⟨pl, capl, rfl, _⟩ := hlv.open
  clear hl ho hlv hsc hss
  by_cases hz : readFault l = 0
  · have HR := Lib.hid (right_of hz)
    have HZ := Lib.hid hz
    have h1 : rightFault l src c n t static = callFault (allC l) src c n t static := by unfold rightFault; rw [if_pos hz]
    rw [h1]
    clear hz h1
    generalize errV (callFault (allC l) src c n t static) = f at *
    go_enter Tryz.func17, Tryz.ntmps17
    go_wp2_with (first
      | (go_at_call 55; (with_reducible refine HRd.out.mono ?_); rintro e w2 ⟨hB2, ⟨_, rfl, hM, hN, hA, hC, hL⟩ | ⟨hz, _⟩⟩; rotate_left; (exact absurd HZ.out hz); (have HW : WorldMap w w2 w.heap.size l := ⟨hM, HR.out, hA⟩); clear hM hN hA hC hL)
      | (go_at_call 56; (with_reducible refine (HF.out _ _ _ HW).mono ?_); rintro e w3 ⟨⟨s, v, rfl⟩, hB3⟩))
    go_ret
    exact ⟨rfl, below_call hB2 (Nat.le_refl _) hB3⟩
  · have HZ := Lib.hid hz
    have h1 : rightFault l src c n t static = readFault l := by unfold rightFault; rw [if_neg hz]
    rcases errV_cases (readFault l) with ⟨_, h0⟩ | ⟨hv, _⟩
    · exact absurd h0 hz
    rw [h1, hv]
    clear hz h1 hv HF
    go_enter Tryz.func17, Tryz.ntmps17
    go_wp2_with (go_at_call 55; (with_reducible refine HRd.out.mono ?_); rintro e w2 ⟨hB2, ⟨hz, _⟩ | ⟨_, rfl⟩⟩; (exact absurd hz HZ.out))
    go_ret
    exact ⟨rfl, hB2⟩
set_option maxHeartbeats 4000000 in
set_option maxRecDepth 100000 in
theorem refCall_any (l : List Class) (lv : Value) (src c n t : Str) (static : Bool) (w : World) (hR : Right l) (hcf : ∀ c ∈ l, classFault c = 0) (hlv : ClassesAt w lv l) :
    Calls Tryz.prog 15 #[lv, .string src, .string c, .string n, .string t, .bool static] w fun e w' => e = .returned (.int .i64 (callFault (allC l) src c n t static)) ∧ Below w.heap.size w w' := by
  have HC1 := Lib.hid (refClassOf_any l lv c w hlv)
  have HC2 : Hid (∀ wx, Below w.heap.size w wx → _) := fun wx hb => refClassOf_any l lv src wx (hlv.mono hb)
  have HRM : Hid ((findC (allC l) c).isSome = true → ∀ wx, Below w.heap.size w wx → _) := fun hk wx hb => refFound_any l lv c n t wx hR hcf (hlv.mono hb) hk
  unfold ClassGives at HC1 HC2
  unfold RefFoundPost at HRM
  obtain ⟨pl, capl, rfl, _⟩ := hlv.open
  have HCF := Lib.hid (callFault_is (allC l) src c n t static)
  clear hlv hR hcf
  generalize callFault (allC l) src c n t static = f at *
  generalize (findC (allC l) c).isSome = isc at *
  generalize (findC (allC l) src).isSome = iss at *
  generalize (findC (allC l) c).getD noClass = dc at *
  generalize (findC (allC l) src).getD noClass = ds at *
  generalize methodC (allC l) c n t = o at *
  obtain ⟨n2, s2, f2, b2, d2, m2⟩ := dc
  obtain ⟨n3, s3, f3, b3, d3, m3⟩ := ds
  dsimp only at *
  cases isc with
  | false =>
    have hf : f = 3 := HCF.out
    subst hf
    clear HCF HRM HC2
    go_enter Tryz.func15, Tryz.ntmps15
    go_wp2_with (go_at_call 52; (with_reducible refine HC1.out.mono ?_); rintro e w4 ⟨p1, k1, p2, k2, p3, k3, rfl, _, _, _, hB4, _⟩)
    go_ret
    exact ⟨rfl, hB4.alloc hB4.size _⟩
  | true =>
    have HRm : Hid (∀ wx, Below w.heap.size w wx → _) := fun wx hb => HRM.out rfl wx hb
    replace HCF : Hid (f = rightF o iss src static) := HCF.out
    clear HRM
    cases o with
    | none =>
      simp only [methodV3, Option.map_none, Option.getD_none] at HRm
      have hf : f = 3 := HCF.out
      subst hf
      clear HCF
      go_enter Tryz.func15, Tryz.ntmps15
      go_wp2_with (first
        | (go_at_call 28; (with_reducible refine (HRm.out _ hB4a).mono ?_); rintro e w5 ⟨⟨v5, rfl, pc, kc, ph, kh, rfl⟩, hB5⟩; (have hB5a := (below_call hB4a (Nat.le_refl _) hB5).alloc (below_call hB4a (Nat.le_refl _) hB5).size (.cells #[.string noMethod.name, .string noMethod.type, .bool noMethod.static, .bool noMethod.abs, .bool noMethod.priv, .int .i64 noMethod.locals, .slice pc noMethod.code.length kc, .slice ph noMethod.handlers.length kh] 56)))
        | (go_at_call 52; (have hB5b := hB5a); (with_reducible refine (HC2.out _ hB5b).mono ?_); rintro e w6 ⟨p4, k4, p5, k5, p6, k6, rfl, _, _, _, hB6, _⟩)
        | (go_at_call 52; (with_reducible refine HC1.out.mono ?_); rintro e w4 ⟨p1, k1, p2, k2, p3, k3, rfl, _, _, _, hB4, _⟩; (have hB4a := hB4.alloc hB4.size (.cells #[.string n2, .string s2, .slice p1 f2.length k1, .bool b2, .slice p2 d2.length k2, .slice p3 m2.length k3] 37))))
      go_ret
      exact ⟨rfl, (below_call hB5a (Nat.le_refl _) hB6).alloc (below_call hB5a (Nat.le_refl _) hB6).size _⟩
    | some x =>
      obtain ⟨d, m⟩ := x
      simp only [methodV3, Option.map_some, Option.getD_some] at HRm
      have hst := strEq d src
      obtain ⟨st, hs1⟩ : ∃ q, (m.static == static) = q := ⟨_, rfl⟩
      have hs1n : (m.static != static) = !st := by rw [← hs1]; rfl
      obtain ⟨ne, hs2⟩ : ∃ q, (d.toList == src.toList) = q := ⟨_, rfl⟩
      obtain ⟨pv, hpv⟩ : ∃ q, m.priv = q := ⟨_, rfl⟩
      have HFin : Hid (f = if iss = false then 3 else if st = false then 7 else if (pv && !ne) = true then 9 else 0) := by
        unfold Hid
        rw [HCF.out, rightF_some, ← hs1, ← hs2, hst, hpv]
      clear HCF hst
      go_enter Tryz.func15, Tryz.ntmps15
      go_upto_region 6 with (first
        | (go_at_call 28; (with_reducible refine (HRm.out _ hB4a).mono ?_); rintro e w5 ⟨⟨v5, rfl, pc, kc, ph, kh, rfl⟩, hB5⟩; (have hB5a := (below_call hB4a (Nat.le_refl _) hB5).alloc (below_call hB4a (Nat.le_refl _) hB5).size (.cells #[.string m.name, .string m.type, .bool m.static, .bool m.abs, .bool pv, .int .i64 m.locals, .slice pc m.code.length kc, .slice ph m.handlers.length kh] 56)))
        | (go_at_call 52; (have hB5b := hB5a); (with_reducible refine (HC2.out _ hB5b).mono ?_); rintro e w6 ⟨p4, k4, p5, k5, p6, k6, rfl, _, _, _, hB6, _⟩)
        | (go_at_call 52; (with_reducible refine HC1.out.mono ?_); rintro e w4 ⟨p1, k1, p2, k2, p3, k3, rfl, _, _, _, hB4, _⟩; (have hB4a := hB4.alloc hB4.size (.cells #[.string n2, .string s2, .slice p1 f2.length k1, .bool b2, .slice p2 d2.length k2, .slice p3 m2.length k3] 37))))
      have B16 := (Blk.new w5 56 [.string m.name, .string m.type, .bool m.static, .bool m.abs, .bool pv, .int .i64 m.locals, .slice pc m.code.length kc, .slice ph m.handlers.length kh]).step hB6
      obtain ⟨t0, t1, t2, t3, t4, t5, t6, t7⟩ := B16.cells8
      have hlt := B16.lt
      have HB7 := Lib.hid ((below_call hB5a (Nat.le_refl _) hB6).alloc (below_call hB5a (Nat.le_refl _) hB6).size (.cells #[.string n3, .string s3, .slice p4 f3.length k4, .bool b3, .slice p5 d3.length k5, .slice p6 m3.length k6] 37))
      clear B16 hB6 hB5a hB5 hB4a hB4
      cases iss with
      | false =>
        have hf : f = 3 := HFin.out
        subst hf
        go_wp2_with (first | fail)
        go_ret
        exact ⟨rfl, HB7.out⟩
      | true =>
        cases st with
        | false =>
          have hf : f = 7 := HFin.out
          subst hf
          go_wp2_with (first | fail)
          go_ret
          exact ⟨rfl, HB7.out⟩
        | true =>
          cases pv <;> cases ne
          case true.false =>
            have hf : f = 9 := HFin.out
            subst hf
            go_wp2_with (first | fail)
            go_ret
            exact ⟨rfl, HB7.out⟩
          all_goals
            have hf : f = 0 := HFin.out
            subst hf
            go_wp2_with (first | fail)
            go_ret
            exact ⟨rfl, HB7.out⟩
theorem walks_right : rightFault walksL sObject sCat sWalk sUnitV false = 0 ∧ rightFault walksL sObject sCat sWalk sUnitV true = 7 := by decide +kernel
set_option maxRecDepth 100000 in
theorem rightful_any (w : World) (hl : Laid w) : Calls Tryz.prog 13 #[] w fun e w' => e = .returned (.bool true) ∧ Below w.heap.size w w' := by
  have HP : Hid (∀ wx lv, Below w.heap.size w wx → ClassesAt wx lv walksL → _) := fun wx lv hb h => rightCall_any walksL lv sObject sCat sWalk sUnitV false wx (hl.mono hb hl.1) walks_ok h (by decide) (by decide)
  have HP2 : Hid (∀ wx lv, Below w.heap.size w wx → ClassesAt wx lv walksL → _) := fun wx lv hb h => rightCall_any walksL lv sObject sCat sWalk sUnitV true wx (hl.mono hb hl.1) walks_ok h (by decide) (by decide)
  rw [walks_right.1, show errV 0 = .nilIface from rfl] at HP
  rw [walks_right.2, err7] at HP2
  have HB : Hid (∀ wx, _) := fun wx => walks_any wx
  simp only [sCat, sObject, sWalk, sUnitV] at HP HP2
  go_enter Tryz.func13, Tryz.ntmps13
  go_wp2_with (first
    | (go_at_call 50; (have hB4' := hB4); (with_reducible refine (HB.out _).mono ?_); rintro e w5 ⟨⟨v5, rfl, hv5⟩, hB5⟩; obtain ⟨pb5, kb5, rfl, _⟩ := hv5.open; (have hB6 := below_call hB4 (Nat.le_refl _) hB5))
    | (go_at_call 50; (with_reducible refine (HB.out _).mono ?_); rintro e w2 ⟨⟨v, rfl, hv⟩, hB2⟩; obtain ⟨pb, kb, rfl, _⟩ := hv.open)
    | (go_at_call 17; (with_reducible refine (HP2.out _ _ hB6 hv5).mono ?_); rintro e w7 ⟨rfl, hB7⟩)
    | (go_at_call 17; (with_reducible refine (HP.out _ _ hB2 hv).mono ?_); rintro e w3 ⟨rfl, hB3⟩; (have hB4 := below_call hB2 (Nat.le_refl _) hB3)))
  go_ret
  exact ⟨rfl, below_call hB6 (Nat.le_refl _) hB7⟩
set_option maxHeartbeats 2000000 in
set_option maxRecDepth 100000 in
theorem rightTells_any (l : List Class) (lv : Value) (src c n t : Str) (static : Bool) (w : World) (hl : Laid w) (ho : ∀ c ∈ l, ClassOk c) (hlv : ClassesAt w lv l) (hss : src.size ≤ maxLen) (hsc : c.size ≤ maxLen) :
    Calls Tryz.prog 3 #[lv, .string src, .string c, .string n, .string t, .bool static] w fun e w' => e = .returned (.bool true) ∧ Below w.heap.size w w' := by
  have HLi : Hid (∀ wx, Below w.heap.size w wx → _) := fun wx hb => rightful_any wx (hl.mono hb hl.1)
  have HRW : Hid (∀ wx, Below w.heap.size w wx → _) := fun wx hb => refWorld_any l lv wx ho (hlv.mono hb)
  have HRC : Hid (∀ wx, Below w.heap.size w wx → _) := fun wx hb => rightCall_any l lv src c n t static wx (hl.mono hb hl.1) ho (hlv.mono hb) hsc hss
  have HLV : Hid (∀ wx, Below w.heap.size w wx → ClassesAt wx lv l) := fun wx hb => hlv.mono hb
  have HE : Hid (∀ (k : Nat) wx, Calls Tryz.prog 16 #[errV k, .int .i64 k] wx fun e w' => e = .returned (.bool true) ∧ wx = w') := fun k wx => by
    have := error_any k k wx
    rwa [decide_eq_true rfl] at this
  by_cases hz : readFault l = 0
  · have hR := right_of hz
    have hcf := read_faults hz
    have HRR : Hid (∀ wx, Below w.heap.size w wx → _) := fun wx hb => refCall_any l lv src c n t static wx hR hcf (HLV.out wx hb)
    have h1 : rightFault l src c n t static = callFault (allC l) src c n t static := by unfold rightFault; rw [if_pos hz]
    rw [h1] at HRC
    rw [hz] at HRW
    obtain ⟨pl, cap, rfl, _⟩ := hlv.open
    have HE1 := Lib.hid (HE.out (callFault (allC l) src c n t static))
    clear hl ho hlv hR hcf hz hsc hss HLV h1 HE
    generalize errV (callFault (allC l) src c n t static) = ev at *
    generalize callFault (allC l) src c n t static = f at *
    go_enter Tryz.func3, Tryz.ntmps3
    go_wp2_with (first
      | (go_at_call 13; (with_reducible refine (HLi.out _ (Below.refl _ _)).mono ?_); rintro e w2 ⟨rfl, hB2⟩)
      | (go_at_call 14; (with_reducible refine (HRW.out _ hB2).mono ?_); rintro e w3 ⟨rfl, hB3'⟩; (have hB3 := below_call hB2 (Nat.le_refl _) hB3'); clear hB3')
      | (go_at_call 15; (with_reducible refine (HRR.out _ hB3).mono ?_); rintro e w4 ⟨rfl, hB4'⟩; (have hB4 := below_call hB3 (Nat.le_refl _) hB4'); clear hB4')
      | (go_at_call 17; (with_reducible refine (HRC.out _ hB4).mono ?_); rintro e w5 ⟨rfl, hB5'⟩; (have hB5 := below_call hB4 (Nat.le_refl _) hB5'); clear hB5')
      | (go_at_call 16; (with_reducible refine (HE1.out _).mono ?_); rintro e w6 ⟨rfl, rfl⟩))
    go_ret
    exact ⟨rfl, hB5⟩
  · have hf0 : ((readFault l : Int) == 0) = false := by simpa using hz
    have h1 : rightFault l src c n t static = readFault l := by unfold rightFault; rw [if_neg hz]
    rw [h1] at HRC
    obtain ⟨pl, cap, rfl, _⟩ := hlv.open
    have HE1 := Lib.hid (HE.out (readFault l))
    clear hl ho hlv hz hsc hss HLV h1 HE
    generalize errV (readFault l) = ev at *
    generalize readFault l = f at *
    go_enter Tryz.func3, Tryz.ntmps3
    go_wp2_with (first
      | (go_at_call 13; (with_reducible refine (HLi.out _ (Below.refl _ _)).mono ?_); rintro e w2 ⟨rfl, hB2⟩)
      | (go_at_call 14; (with_reducible refine (HRW.out _ hB2).mono ?_); rintro e w3 ⟨rfl, hB3'⟩; (have hB3 := below_call hB2 (Nat.le_refl _) hB3'); clear hB3')
      | (go_at_call 17; (with_reducible refine (HRC.out _ hB3).mono ?_); rintro e w5 ⟨rfl, hB5'⟩; (have hB5 := below_call hB3 (Nat.le_refl _) hB5'); clear hB5')
      | (go_at_call 16; (with_reducible refine (HE1.out _).mono ?_); rintro e w6 ⟨rfl, rfl⟩))
    go_ret
    exact ⟨rfl, hB5⟩
end Go.Proofs.YtpjkpmmjehnahaaGreatDoor
