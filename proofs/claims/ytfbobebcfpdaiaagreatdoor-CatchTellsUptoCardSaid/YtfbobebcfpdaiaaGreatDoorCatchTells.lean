/-
  WALK over the law CatchTells. Conditions: as in XRead, for the method's code and handlers too; a text of at most maxLen signs.
-/
import Derived.Test.YtfbobebcfpdaiaaGreatDoorRefCatcher
import Derived.Test.YtfbobebcfpdaiaaGreatDoorCaught
import Derived.Test.YtfbobebcfpdaiaaGreatDoorFaults
namespace Go.Proofs.YtfbobebcfpdaiaaGreatDoor
open Go.RowKit Go.Shelf Go.Lib
theorem whichR_zero {l : List Class} {hs : List Handler} {pos : Int} {n : Str} (h1 : readFault l = 0) (h2 : ¬ 8 < hs.length) (h3 : (findC (allC l) n).isSome = true) (r : Int) (b : Bool) (h : catchGo (allC l) (everyC (allC l) n) pos hs = (r, b)) : whichR l hs pos n = if b = true then (r, 0) else (0, 3) := by
  unfold whichR
  rw [if_neg (by rw [h1]; decide), if_neg h2, if_neg (by rw [h3]; decide)]
  unfold catchGo at h
  by_cases hb : (firstGo (allC l) (everyC (allC l) n) pos hs).2 = true
  · rw [if_pos hb] at h ⊢
    cases h; rfl
  · rw [if_neg hb] at h ⊢
    cases h; rfl
set_option maxHeartbeats 2000000 in
set_option maxRecDepth 100000 in
theorem catchTells_any (l : List Class) (lv : Value) (m : Method) (cv hv : Value) (pos : Int) (n : Str) (w : World) (hl : Laid w) (ho : ∀ c ∈ l, ClassOk c) (hlv : ClassesAt w lv l) (hho : ∀ h ∈ m.handlers, HandlerOk h) (hcv : SliceOf w 6 InsCells cv m.code) (hhv : SliceOf w 4 HandlerCells hv m.handlers) (hn : n.size ≤ maxLen) :
    Calls Tryz.prog 3 #[lv, methodV m cv hv, .int .i64 pos, .string n] w fun e w' => e = .returned (.bool true) ∧ Below w.heap.size w w' := by
  obtain ⟨pc, capc, rfl, _⟩ := hcv.open
  obtain ⟨ph, caph, rfl, hc1, hc2, _⟩ := hhv.open
  have HB1 := Lib.hid (boxed_new w #[.string m.name, .string m.type, .bool m.static, .bool m.abs, .bool m.priv, .int .i64 m.locals, .slice pc m.code.length capc, .slice ph m.handlers.length caph] 26)
  have HCa : Hid (∀ wx, Below w.heap.size w wx → _) := fun wx hb => caught_any wx (hl.mono hb hl.1)
  have HRW : Hid (∀ wx, Below w.heap.size w wx → _) := fun wx hb => refWorld_any l lv wx ho (hlv.mono hb)
  have HCO : Hid (∀ wx, Below w.heap.size w wx → _) := fun wx hb => refClassOf_any l lv n wx (hlv.mono hb)
  unfold ClassGives at HCO
  obtain ⟨r, hwr⟩ : ∃ r, whichR l m.handlers pos n = r := ⟨_, rfl⟩
  obtain ⟨r, f⟩ := r
  have HWh : Hid (∀ wx, Below w.heap.size w wx → _) := fun wx hb => which_any l lv m (.slice pc m.code.length capc) (.slice ph m.handlers.length caph) pos n wx (hl.mono hb hl.1) ho (hlv.mono hb) hho (hhv.mono hb (by decide) (fun _ _ h => h)) hn r f hwr
  have HE : Hid (∀ wx, Calls Tryz.prog 20 #[errV f, .int .i64 f] wx fun e w' => e = .returned (.bool true) ∧ wx = w') := fun wx => by
    have := error_any f f wx
    rwa [decide_eq_true rfl] at this
  have hlen : m.handlers.length ≤ 9223372036854775807 := Nat.le_trans hc1 hc2
  have HLV := Lib.hid hlv
  have HHV := Lib.hid hhv
  obtain ⟨pl, cap, rfl, _⟩ := hlv.open
  unfold methodV at *
  generalize hd : (findC (allC l) n).getD noClass = d at *
  clear hd
  obtain ⟨n2, s2, f2, b2, d2, m2⟩ := d
  dsimp only at HCO
  by_cases hz : readFault l = 0
  · have hR := right_of hz
    have hcf := read_faults hz
    rw [hz] at HRW
    by_cases h8 : 8 < m.handlers.length
    · have hw2 : whichR l m.handlers pos n = (0, 4) := by unfold whichR; rw [if_neg (by rw [hz]; decide), if_pos h8]
      rw [hwr] at hw2
      clear hl ho hlv hho hcv hhv hwr hz hR hcf hc1 hc2
      generalize (findC (allC l) n).isSome = is at *
      cases hw2
      rw [show errV 4 = .iface 28 (.int .i64 4) from rfl] at HWh HE
      rw [show ((4 : Nat) : Int) = 4 from rfl] at HE
      go_enter Tryz.func3, Tryz.ntmps3
      go_wp2_with (first
            | (go_at_call 15; (with_reducible refine (HCa.out _ HB1.out.below).mono ?_); rintro e w2 ⟨rfl, hB2⟩; (have BX2 := HB1.out.step hB2); clear hB2)
            | (go_at_call 16; (with_reducible refine (HRW.out _ BX2.below).mono ?_); rintro e w3 ⟨rfl, hB3⟩; (have BX3 := BX2.step hB3); clear hB3 BX2; obtain ⟨q0, q1, q2, q3, q4, q5, q6, q7⟩ := boxed8 BX3)
            | (go_at_call 17; (with_reducible refine (HCO.out _ BX3.below).mono ?_); rintro e w4 ⟨pf2, kf2, pd2, kd2, pm2, km2, rfl, _, _, _, hB4, _⟩; (have BX4 := (BX3.step hB4).alloc (.cells #[.string n2, .string s2, .slice pf2 f2.length kf2, .bool b2, .slice pd2 d2.length kd2, .slice pm2 m2.length km2] 34)); clear hB4 BX3 q0 q1 q2 q3 q4 q5 q6 q7; obtain ⟨q0, q1, q2, q3, q4, q5, q6, q7⟩ := boxed8 BX4)
            | (go_at_call 19; (with_reducible refine (HWh.out _ BX4.below).mono ?_); rintro e w6 ⟨rfl, hB6⟩; (have BX6 := BX4.step hB6); clear hB6)
            | (go_at_call 20; (with_reducible refine (HE.out _).mono ?_); rintro e w7 ⟨rfl, rfl⟩))
      all_goals first | (exfalso; omega) | skip
      all_goals
        go_ret
        exact ⟨rfl, BX6.below⟩
    · cases hk : (findC (allC l) n).isSome with
      | false =>
        have hw2 : whichR l m.handlers pos n = (0, 3) := by unfold whichR; rw [if_neg (by rw [hz]; decide), if_neg h8, hk]; rfl
        rw [hwr] at hw2
        rw [hk] at HCO
        clear hl ho hlv hho hcv hhv hwr hz hR hcf hc1 hc2 hk
        cases hw2
        rw [show errV 3 = .iface 28 (.int .i64 3) from rfl] at HWh HE
        rw [show ((3 : Nat) : Int) = 3 from rfl] at HE
        go_enter Tryz.func3, Tryz.ntmps3
        go_wp2_with (first
            | (go_at_call 15; (with_reducible refine (HCa.out _ HB1.out.below).mono ?_); rintro e w2 ⟨rfl, hB2⟩; (have BX2 := HB1.out.step hB2); clear hB2)
            | (go_at_call 16; (with_reducible refine (HRW.out _ BX2.below).mono ?_); rintro e w3 ⟨rfl, hB3⟩; (have BX3 := BX2.step hB3); clear hB3 BX2; obtain ⟨q0, q1, q2, q3, q4, q5, q6, q7⟩ := boxed8 BX3)
            | (go_at_call 17; (with_reducible refine (HCO.out _ BX3.below).mono ?_); rintro e w4 ⟨pf2, kf2, pd2, kd2, pm2, km2, rfl, _, _, _, hB4, _⟩; (have BX4 := (BX3.step hB4).alloc (.cells #[.string n2, .string s2, .slice pf2 f2.length kf2, .bool b2, .slice pd2 d2.length kd2, .slice pm2 m2.length km2] 34)); clear hB4 BX3 q0 q1 q2 q3 q4 q5 q6 q7; obtain ⟨q0, q1, q2, q3, q4, q5, q6, q7⟩ := boxed8 BX4)
            | (go_at_call 19; (with_reducible refine (HWh.out _ BX4.below).mono ?_); rintro e w6 ⟨rfl, hB6⟩; (have BX6 := BX4.step hB6); clear hB6)
            | (go_at_call 20; (with_reducible refine (HE.out _).mono ?_); rintro e w7 ⟨rfl, rfl⟩))
        all_goals first | (exfalso; omega) | skip
        all_goals
          go_ret
          exact ⟨rfl, BX6.below⟩
      | true =>
        obtain ⟨g, hgr⟩ : ∃ g, catchGo (allC l) (everyC (allC l) n) pos m.handlers = g := ⟨_, rfl⟩
        obtain ⟨r2, b⟩ := g
        have hw2 := whichR_zero hz h8 hk r2 b hgr
        rw [hwr] at hw2
        have HG : Hid (∀ wx, Below w.heap.size w wx → _) := fun wx hb => refCatcher_any l _ m (.slice pc m.code.length capc) (.slice ph m.handlers.length caph) pos n wx hR hcf (known_ne hcf) (HLV.out.mono hb) hk (HHV.out.mono hb (by decide) (fun _ _ h => h)) r2 b hgr
        unfold methodV at HG
        rw [hk] at HCO
        clear hl ho hlv hho hcv hhv hwr hz hR hcf hc1 hc2 hk hgr
        cases b with
        | true =>
          replace hw2 : (r, f) = (r2, 0) := hw2
          cases hw2
          rw [show errV 0 = .nilIface from rfl] at HWh HE
          rw [show ((0 : Nat) : Int) = 0 from rfl] at HE
          go_enter Tryz.func3, Tryz.ntmps3
          go_wp2_with (first
            | (go_at_call 15; (with_reducible refine (HCa.out _ HB1.out.below).mono ?_); rintro e w2 ⟨rfl, hB2⟩; (have BX2 := HB1.out.step hB2); clear hB2)
            | (go_at_call 16; (with_reducible refine (HRW.out _ BX2.below).mono ?_); rintro e w3 ⟨rfl, hB3⟩; (have BX3 := BX2.step hB3); clear hB3 BX2; obtain ⟨q0, q1, q2, q3, q4, q5, q6, q7⟩ := boxed8 BX3)
            | (go_at_call 17; (with_reducible refine (HCO.out _ BX3.below).mono ?_); rintro e w4 ⟨pf2, kf2, pd2, kd2, pm2, km2, rfl, _, _, _, hB4, _⟩; (have BX4 := (BX3.step hB4).alloc (.cells #[.string n2, .string s2, .slice pf2 f2.length kf2, .bool b2, .slice pd2 d2.length kd2, .slice pm2 m2.length km2] 34)); clear hB4 BX3 q0 q1 q2 q3 q4 q5 q6 q7; obtain ⟨q0, q1, q2, q3, q4, q5, q6, q7⟩ := boxed8 BX4)
            | (go_at_call 18; (with_reducible refine (HG.out _ BX4.below).mono ?_); rintro e w5 ⟨rfl, hB5⟩; (have BX5 := BX4.step hB5); clear hB5 BX4 q0 q1 q2 q3 q4 q5 q6 q7; obtain ⟨q0, q1, q2, q3, q4, q5, q6, q7⟩ := boxed8 BX5)
            | (go_at_call 19; (with_reducible refine (HWh.out _ BX5.below).mono ?_); rintro e w6 ⟨rfl, hB6⟩; (have BX6 := BX5.step hB6); clear hB6)
            | (go_at_call 20; (with_reducible refine (HE.out _).mono ?_); rintro e w7 ⟨rfl, rfl⟩))
          all_goals first | (exfalso; omega) | skip
          all_goals
            go_ret
            exact ⟨rfl, BX6.below⟩
        | false =>
          replace hw2 : (r, f) = (0, 3) := hw2
          cases hw2
          rw [show errV 3 = .iface 28 (.int .i64 3) from rfl] at HWh HE
          rw [show ((3 : Nat) : Int) = 3 from rfl] at HE
          go_enter Tryz.func3, Tryz.ntmps3
          go_wp2_with (first
            | (go_at_call 15; (with_reducible refine (HCa.out _ HB1.out.below).mono ?_); rintro e w2 ⟨rfl, hB2⟩; (have BX2 := HB1.out.step hB2); clear hB2)
            | (go_at_call 16; (with_reducible refine (HRW.out _ BX2.below).mono ?_); rintro e w3 ⟨rfl, hB3⟩; (have BX3 := BX2.step hB3); clear hB3 BX2; obtain ⟨q0, q1, q2, q3, q4, q5, q6, q7⟩ := boxed8 BX3)
            | (go_at_call 17; (with_reducible refine (HCO.out _ BX3.below).mono ?_); rintro e w4 ⟨pf2, kf2, pd2, kd2, pm2, km2, rfl, _, _, _, hB4, _⟩; (have BX4 := (BX3.step hB4).alloc (.cells #[.string n2, .string s2, .slice pf2 f2.length kf2, .bool b2, .slice pd2 d2.length kd2, .slice pm2 m2.length km2] 34)); clear hB4 BX3 q0 q1 q2 q3 q4 q5 q6 q7; obtain ⟨q0, q1, q2, q3, q4, q5, q6, q7⟩ := boxed8 BX4)
            | (go_at_call 18; (with_reducible refine (HG.out _ BX4.below).mono ?_); rintro e w5 ⟨rfl, hB5⟩; (have BX5 := BX4.step hB5); clear hB5 BX4 q0 q1 q2 q3 q4 q5 q6 q7; obtain ⟨q0, q1, q2, q3, q4, q5, q6, q7⟩ := boxed8 BX5)
            | (go_at_call 19; (with_reducible refine (HWh.out _ BX5.below).mono ?_); rintro e w6 ⟨rfl, hB6⟩; (have BX6 := BX5.step hB6); clear hB6)
            | (go_at_call 20; (with_reducible refine (HE.out _).mono ?_); rintro e w7 ⟨rfl, rfl⟩))
          all_goals first | (exfalso; omega) | skip
          all_goals
            go_ret
            exact ⟨rfl, BX6.below⟩
  · have hw2 : whichR l m.handlers pos n = (0, readFault l) := by unfold whichR; rw [if_pos hz]
    rw [hwr] at hw2
    have hf0 : ((readFault l : Int) == 0) = false := by simpa using hz
    rw [Prod.mk.injEq] at hw2
    obtain ⟨h1, h2⟩ := hw2
    rw [h2] at HWh HE
    rw [h1] at HWh
    rcases errV_cases (readFault l) with ⟨_, h⟩ | ⟨h, _⟩
    · exact absurd h hz
    rw [h] at HWh HE
    clear hl ho hlv hho hcv hhv hwr hz hc1 hc2 h h1 h2
    generalize (findC (allC l) n).isSome = is at *
    generalize readFault l = f0 at *
    go_enter Tryz.func3, Tryz.ntmps3
    go_wp2_with (first
            | (go_at_call 15; (with_reducible refine (HCa.out _ HB1.out.below).mono ?_); rintro e w2 ⟨rfl, hB2⟩; (have BX2 := HB1.out.step hB2); clear hB2)
            | (go_at_call 16; (with_reducible refine (HRW.out _ BX2.below).mono ?_); rintro e w3 ⟨rfl, hB3⟩; (have BX3 := BX2.step hB3); clear hB3 BX2; obtain ⟨q0, q1, q2, q3, q4, q5, q6, q7⟩ := boxed8 BX3)
            | (go_at_call 17; (with_reducible refine (HCO.out _ BX3.below).mono ?_); rintro e w4 ⟨pf2, kf2, pd2, kd2, pm2, km2, rfl, _, _, _, hB4, _⟩; (have BX4 := (BX3.step hB4).alloc (.cells #[.string n2, .string s2, .slice pf2 f2.length kf2, .bool b2, .slice pd2 d2.length kd2, .slice pm2 m2.length km2] 34)); clear hB4 BX3 q0 q1 q2 q3 q4 q5 q6 q7; obtain ⟨q0, q1, q2, q3, q4, q5, q6, q7⟩ := boxed8 BX4)
            | (go_at_call 19; (with_reducible refine (HWh.out _ BX4.below).mono ?_); rintro e w6 ⟨rfl, hB6⟩; (have BX6 := BX4.step hB6); clear hB6)
            | (go_at_call 20; (with_reducible refine (HE.out _).mono ?_); rintro e w7 ⟨rfl, rfl⟩))
    all_goals first | (exfalso; omega) | skip
    all_goals
      go_ret
      exact ⟨rfl, BX6.below⟩
end Go.Proofs.YtfbobebcfpdaiaaGreatDoor
