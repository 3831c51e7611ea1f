/-
  WALK over catch.Which. Conditions: as in XCatcher.
-/
import Derived.Test.YtfbobebcfpdaiaaGreatDoorCatcher
namespace Go.Proofs.YtfbobebcfpdaiaaGreatDoor
open Go.RowKit Go.Shelf Go.Lib
/-- catch.Which: the index, and the number of the fault -/
def whichR (l : List Class) (hs : List Handler) (pos : Int) (n : Str) : Int × Nat :=
  if readFault l ≠ 0 then (0, readFault l)
  else if 8 < hs.length then (0, 4)
  else if !(findC (allC l) n).isSome then (0, 3)
  else if (firstGo (allC l) (everyC (allC l) n) pos hs).2 then ((firstGo (allC l) (everyC (allC l) n) pos hs).1, 0) else (0, 3)
set_option maxHeartbeats 4000000 in
set_option maxRecDepth 100000 in
theorem which_any (l : List Class) (lv : Value) (m : Method) (cv hv : Value) (pos : Int) (n : Str) (w : World) (hl : Laid w) (ho : ∀ c ∈ l, ClassOk c) (hlv : ClassesAt w lv l) (hho : ∀ h ∈ m.handlers, HandlerOk h) (hhv : SliceOf w 4 HandlerCells hv m.handlers) (hn : n.size ≤ maxLen)
    (r : Int) (f : Nat) (hr : whichR l m.handlers pos n = (r, f)) :
    Calls Tryz.prog 19 #[lv, methodV m cv hv, .int .i64 pos, .string n] w fun e w' => e = .returned (.tuple #[.int .i64 r, errV f]) ∧ Below w.heap.size w w' := by
  obtain ⟨ph, caph, rfl, hc1, hc2, _⟩ := hhv.open
  obtain ⟨pl, capl, rfl, hd1, hd2, _⟩ := hlv.open
  have HB1 := Lib.hid ((Below.refl w.heap.size w).alloc (Nat.le_refl _) (.cells #[.string m.name, .string m.type, .bool m.static, .bool m.abs, .bool m.priv, .int .i64 m.locals, cv, .slice ph m.handlers.length caph] 26))
  have HRd := Lib.hid (read_any l _ _ (hl.mono HB1.out hl.1) ho (hlv.mono HB1.out))
  have HFi : Hid (∀ w0 wx B, ClassMap w0 wx B (allC l) → ((allC l).map (·.name)).Nodup → (∀ c ∈ allC l, c.faces.length ≤ 8) → (allC l).length ≤ 12 → Closed (allC l) → (findC (allC l) n).isSome = true → Below w.heap.size w wx → _) := fun w0 wx B hm hn h8 h12 hcl hk hb =>
    first2_any w0 wx B (allC l) hm hn h8 h12 hcl m cv (.slice ph m.handlers.length caph) pos n hk hho (hhv.mono hb (by decide) (fun _ _ h => h)) _ _ rfl
  have HR : Hid ((r, f) = whichR l m.handlers pos n) := hr.symm
  clear hl ho hlv hho hhv hr
  unfold methodV at *
  by_cases hz : readFault l = 0
  · have HR2 : Hid ((r, f) = if 8 < m.handlers.length then (0, 4) else if !(findC (allC l) n).isSome then (0, 3) else if (firstGo (allC l) (everyC (allC l) n) pos m.handlers).2 then ((firstGo (allC l) (everyC (allC l) n) pos m.handlers).1, 0) else (0, 3)) := by
      rw [HR.out]; unfold whichR; rw [if_neg (by rw [hz]; decide)]; rfl
    have HZ := Lib.hid hz
    have e3 : errV 3 = .iface 28 (.int .i64 3) := rfl
    have e4 : errV 4 = .iface 28 (.int .i64 4) := rfl
    have e0 : errV 0 = .nilIface := rfl
    clear HR hz
    go_enter Tryz.func19, Tryz.ntmps19
    go_upto_region 4 with (go_at_call 60; (with_reducible refine HRd.out.mono ?_); rintro e w2 ⟨hB2, ⟨_, rfl, hM, hN, hA, hC, hL⟩ | ⟨hz, _⟩⟩; rotate_left; (exact absurd HZ.out hz))
    have BX : Boxed w w2 [.string m.name, .string m.type, .bool m.static, .bool m.abs, .bool m.priv, .int .i64 m.locals, cv, .slice ph m.handlers.length caph] := ⟨below_call HB1.out (Nat.le_refl _) hB2, Nat.lt_of_lt_of_le (by simp) hB2.size, Cells.mono hB2 (by simp) (by simp [Cells])⟩
    obtain ⟨q0, q1, q2, q3, q4, q5, q6, q7⟩ := boxed8 BX
    have hszw := BX.size
    have h8' := allC_small hA
    have h12 : (allC l).length ≤ 12 := by unfold allC; simp; omega
    clear hB2 HRd
    simp only [World.size_alloc] at hM
    by_cases h8 : 8 < m.handlers.length
    · have hfin : Hid ((r, f) = (0, 4)) := by rw [HR2.out, if_pos h8]; rfl
      clear HR2 HFi
      go_wp2_with (first | fail)
      all_goals first | (exfalso; omega) | skip
      cases hfin.out
      rw [e4]
      go_ret2
      exact ⟨rfl, BX.below⟩
    · rw [if_neg h8] at HR2
      obtain ⟨p1, k1, p2, k2, p3, k3, _, _, _, hlk, _⟩ := hM.look2 hN n hn
      cases hfc : (findC (allC l) n).isSome with
      | false =>
        rw [hfc] at hlk HR2
        have hfin : Hid ((r, f) = (0, 3)) := HR2.out
        clear HR2 HFi hfc
        generalize (findC (allC l) n).getD noClass = d at *
        obtain ⟨n2, s2, f2, b2, d2, m2⟩ := d
        unfold classV at hlk
        dsimp only at hlk
        go_wp2_with (first | fail)
        all_goals first | (exfalso; omega) | skip
        cases hfin.out
        rw [e3]
        go_ret2
        exact ⟨rfl, (BX.alloc _).below⟩
      | true =>
        rw [hfc] at hlk HR2
        replace HR2 : Hid ((r, f) = if (firstGo (allC l) (everyC (allC l) n) pos m.handlers).2 then ((firstGo (allC l) (everyC (allC l) n) pos m.handlers).1, 0) else (0, 3)) := HR2.out
        generalize (findC (allC l) n).getD noClass = d at *
        obtain ⟨n2, s2, f2, b2, d2, m2⟩ := d
        unfold classV at hlk
        dsimp only at hlk
        have hM2 := hM.step ((Below.refl _ _).alloc (Nat.le_refl _) (.cells #[.string n2, .string s2, .slice p1 f2.length k1, .bool b2, .slice p2 d2.length k2, .slice p3 m2.length k3] 34))
        have HF := Lib.hid (HFi.out _ _ _ hM2 hN h8' h12 hC hfc (BX.alloc _).below)
        have HBX := Lib.hid (BX.alloc (.cells #[.string n2, .string s2, .slice p1 f2.length k1, .bool b2, .slice p2 d2.length k2, .slice p3 m2.length k3] 34))
        clear HFi hM2 hM hC hA h8' hN
        generalize (firstGo (allC l) (everyC (allC l) n) pos m.handlers).1 = r1 at *
        cases hb : (firstGo (allC l) (everyC (allC l) n) pos m.handlers).2 with
        | true =>
          rw [hb] at HF HR2
          have hfin : Hid ((r, f) = (r1, 0)) := HR2.out
          clear HR2 hb hfc
          go_wp2_with (go_at_call 61; (with_reducible refine HF.out.mono ?_); rintro e w3 ⟨rfl, hB3⟩)
          all_goals first | (exfalso; omega) | skip
          cases hfin.out
          rw [e0]
          go_ret2
          exact ⟨rfl, (HBX.out.step hB3).below⟩
        | false =>
          rw [hb] at HF HR2
          have hfin : Hid ((r, f) = (0, 3)) := HR2.out
          clear HR2 hb hfc
          go_wp2_with (go_at_call 61; (with_reducible refine HF.out.mono ?_); rintro e w3 ⟨rfl, hB3⟩)
          all_goals first | (exfalso; omega) | skip
          cases hfin.out
          rw [e3]
          go_ret2
          exact ⟨rfl, (HBX.out.step hB3).below⟩
  · have hfin : Hid ((r, f) = (0, readFault l)) := by rw [HR.out]; unfold whichR; rw [if_pos hz]; rfl
    have HZ := Lib.hid hz
    clear HR HFi hz
    go_enter Tryz.func19, Tryz.ntmps19
    go_wp2_with (go_at_call 60; (with_reducible refine HRd.out.mono ?_); rintro e w2 ⟨hB2, ⟨hz, _⟩ | ⟨_, rfl⟩⟩; (exact absurd hz HZ.out))
    cases hfin.out
    have he : errV (readFault l) = .iface 28 (.int .i64 (readFault l)) := by unfold errV; rw [if_neg HZ.out]
    rw [he]
    go_ret2
    exact ⟨rfl, below_call HB1.out (Nat.le_refl _) hB2⟩
end Go.Proofs.YtfbobebcfpdaiaaGreatDoor
