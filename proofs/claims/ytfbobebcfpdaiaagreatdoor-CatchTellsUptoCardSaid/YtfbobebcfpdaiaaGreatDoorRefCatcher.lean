/-
  WALK over the reference's Catcher. Conditions: a right world, a class that is there; numbers of 64 bits, texts of at most 1048576 signs.
-/
import Derived.Test.YtfbobebcfpdaiaaGreatDoorRefNames
import Derived.Test.YtfbobebcfpdaiaaGreatDoorCatcher
import Derived.Deep.DeepCutAuto
import Derived.Deep.RegionWith
namespace Go.Proofs.YtfbobebcfpdaiaaGreatDoor
open Go.RowKit Go.Shelf Go.Lib
/-- .. in the reference's way: 0 where a class is not there -/
def catchGo (cs : List Class) (every : List Str) (pos : Int) (hs : List Handler) : Int × Bool :=
  if (firstGo cs every pos hs).2 = true then ((firstGo cs every pos hs).1, true) else (0, false)
theorem catchGo_bad {cs : List Class} {every : List Str} {pos r : Int} {hs : List Handler} (h : firstGo cs every pos hs = (r, false)) : catchGo cs every pos hs = (0, false) := by
  unfold catchGo; rw [h]; rfl
theorem catchGo_good {cs : List Class} {every : List Str} {pos r : Int} {hs : List Handler} (h : firstGo cs every pos hs = (r, true)) : catchGo cs every pos hs = (r, true) := by
  unfold catchGo; rw [h]; rfl
theorem boxedH {w wx : World} {a0 a1 a2 a3 : Value} (h : Boxed w wx [a0, a1, a2, a3]) :
    wx.cell? ⟨w.heap.size, 0, none⟩ = some a0 ∧ wx.cell? ⟨w.heap.size, 1, none⟩ = some a1 ∧ wx.cell? ⟨w.heap.size, 2, none⟩ = some a2 ∧ wx.cell? ⟨w.heap.size, 3, none⟩ = some a3 := by
  obtain ⟨c0, c1, c2, c3, _⟩ := h.cells
  exact ⟨c0, c1, c2, c3⟩
set_option maxHeartbeats 2000000 in
set_option maxRecDepth 100000 in
theorem refCatcher_any (l : List Class) (lv : Value) (m : Method) (cv hv : Value) (pos : Int) (n : Str) (w : World) (hR : Right l) (hcf : ∀ c ∈ l, classFault c = 0) (hne : ∀ x, (findC (allC l) x).isSome = true → x.size ≠ 0) (hlv : ClassesAt w lv l) (hk : (findC (allC l) n).isSome = true)
    (hhv : SliceOf w 4 HandlerCells hv m.handlers) (r : Int) (b : Bool) (hr : catchGo (allC l) (everyC (allC l) n) pos m.handlers = (r, b)) :
    Calls Tryz.prog 18 #[lv, methodV m cv hv, .int .i64 pos, .string n] w fun e w' => e = .returned (.tuple #[.int .i64 r, .bool b]) ∧ Below w.heap.size w w' := by
  have HE : Hid (∀ wx, Below w.heap.size w wx → _) := fun wx hb => refEvery_any l lv n wx hR hcf (hlv.mono hb) hk hne
  unfold RowPost at HE
  have HCO : Hid (∀ wx x, Below w.heap.size w wx → _) := fun wx x hb => refClassOf_any l lv x wx (hlv.mono hb)
  unfold ClassGives at HCO
  have HIn : Hid (∀ wx v x, StrsAt wx v (sortS (everyC (allC l) n)) → _) := fun wx v x h => in_any (sortS (everyC (allC l) n)) v x wx h
  obtain ⟨pl, cap, rfl, _⟩ := hlv.open
  obtain ⟨ph, caph, rfl, hc1, hc2, hcc⟩ := hhv.open
  have HC : Hid (∀ (i : Nat) (x : Handler), m.handlers[i]? = some x → ∃ b o vs, ph = some ⟨b, o, none⟩ ∧ HandlerCells x vs ∧ vs.length = 4 ∧ Cells w b (o + i * 4) vs) := hcc
  have HR : Hid ((r, b) = catchGo (allC l) (everyC (allC l) n) pos m.handlers) := hr.symm
  have hlen : m.handlers.length ≤ 9223372036854775807 := Nat.le_trans hc1 hc2
  have HB0 := Lib.hid (boxed_new w #[.string m.name, .string m.type, .bool m.static, .bool m.abs, .bool m.priv, .int .i64 m.locals, cv, .slice ph m.handlers.length caph] 26)
  unfold methodV
  obtain ⟨name, type, static, abs, priv, locals, code, handlers⟩ := m
  dsimp only at *
  clear hlv hcc hhv hr hR hcf hne hk
  generalize allC l = cs at *
  go_enter Tryz.func18, Tryz.ntmps18
  go_wp2_with (first | fail)
  go_loopw [10] (fun x wr => ∃ k : Nat, k ≤ handlers.length ∧ Hid (firstGo cs (everyC cs n) pos (handlers.drop k) = firstGo cs (everyC cs n) pos handlers) ∧ Boxed w wr [.string name, .string type, .bool static, .bool abs, .bool priv, .int .i64 locals, cv, .slice ph handlers.length caph] ∧ x = .int .i64 k) (fun x _ => handlers.length - (intOf x).toNat)
  case atStart => exact ⟨0, by omega, rfl, HB0.out, rfl⟩
  case round =>
    clear HB0
    obtain ⟨k, hk, hff, BX, rfl⟩ := hrel
    obtain ⟨q0, q1, q2, q3, q4, q5, q6, q7⟩ := boxed8 BX
    by_cases hkl : k < handlers.length
    · obtain ⟨h, hx⟩ : ∃ x, handlers[k]? = some x := ⟨handlers[k], by simp [hkl]⟩
      obtain ⟨b1, o1, vs, rfl, rfl, _, hcells⟩ := HC.out k h hx
      have hcells := hcells.mono BX.below hcells.lt
      have hstep := firstGo_drop cs (everyC cs n) pos handlers k h hx
      rw [hff.out] at hstep
      have HX := Lib.hid hx
      clear hx hff
      obtain ⟨c0, c1, c2, c3, _⟩ := hcells
      have BH := boxed_new wr #[.int .i64 h.lo, .int .i64 h.hi, .int .i64 h.dest, .string h.cls] 88
      have BXa := BX.alloc (.cells #[.int .i64 h.lo, .int .i64 h.hi, .int .i64 h.dest, .string h.cls] 88)
      by_cases hout : pos < h.lo ∨ h.hi ≤ pos
      · rw [if_pos hout] at hstep
        have hst := Lib.hid hstep.symm
        clear hstep
        by_cases h1 : pos < h.lo
        · go_wp2_with (first | fail)
          go_roundw
          case rel => exact ⟨k + 1, by omega, hst.out, BXa, by simp⟩
          case measure => simp [intOf]; omega
        · have h2 : h.hi ≤ pos := by omega
          go_wp2_with (first | fail)
          go_roundw
          case rel => exact ⟨k + 1, by omega, hst.out, BXa, by simp⟩
          case measure => simp [intOf]; omega
      · rw [if_neg hout] at hstep
        have h1 : ¬ pos < h.lo := by omega
        have h2 : ¬ h.hi ≤ pos := by omega
        clear hout
        go_upto_region 6 with (first | fail)
        have hco := HCO.out _ h.cls BXa.below
        clear q0 q1 q2 q3 q4 q5 q6 q7 c0 c1 c2 c3
        generalize wr.alloc (.cells #[.int .i64 h.lo, .int .i64 h.hi, .int .i64 h.dest, .string h.cls] 88) = w3 at *
        obtain ⟨z0, z1, z2, z3⟩ := boxedH BH
        generalize (findC cs h.cls).getD noClass = d at *
        obtain ⟨n2, s2, f2, b2, d2, m2⟩ := d
        dsimp only at hco
        cases hfc : (findC cs h.cls).isSome with
        | false =>
          rw [hfc] at hco hstep
          have hfin : Hid ((r, b) = (0, false)) := by unfold Hid; rw [HR.out]; exact catchGo_bad (r := -1) (by rw [hstep]; rfl)
          have HC1 := Lib.hid hco
          clear hco hstep hfc HR
          go_wp2_with (go_at_call 17; (with_reducible refine HC1.out.mono ?_); rintro e w7 ⟨pf2, kf2, pd2, kd2, pm2, km2, rfl, _, _, _, hB7, _⟩)
          cases hfin.out
          go_ret2
          exact ⟨rfl, ((BXa.step hB7).alloc _).below⟩
        | true =>
          rw [hfc] at hco hstep
          replace hstep : firstGo cs (everyC cs n) pos handlers = if memB (everyC cs n) h.cls then (h.dest, true) else firstGo cs (everyC cs n) pos (handlers.drop (k + 1)) := hstep
          have HC1 := Lib.hid hco
          clear hco hfc
          go_upto_region 9 with (go_at_call 17; (with_reducible refine HC1.out.mono ?_); rintro e w7 ⟨pf2, kf2, pd2, kd2, pm2, km2, rfl, _, _, _, hB7, _⟩)
          have BX8 := (BXa.step hB7).alloc (.cells #[.string n2, .string s2, .slice pf2 f2.length kf2, .bool b2, .slice pd2 d2.length kd2, .slice pm2 m2.length km2] 34)
          have BH8 := (BH.step hB7).alloc (.cells #[.string n2, .string s2, .slice pf2 f2.length kf2, .bool b2, .slice pd2 d2.length kd2, .slice pm2 m2.length km2] 34)
          clear HC1 BX BXa BH hB7 z0 z1 z2 z3
          generalize w7.alloc (.cells #[.string n2, .string s2, .slice pf2 f2.length kf2, .bool b2, .slice pd2 d2.length kd2, .slice pm2 m2.length km2] 34) = w8 at *
          obtain ⟨z0, z1, z2, z3⟩ := boxedH BH8
          have hlt := BH8.size
          have he := HE.out _ (BX8.drew).below
          have hin : ∀ wx v, StrsAt wx v (sortS (everyC cs n)) → _ := fun wx v hv => HIn.out wx v h.cls hv
          rw [memB_sort] at hin
          generalize memB (everyC cs n) h.cls = mb at *
          have HEc := Lib.hid he
          have HInc := Lib.hid hin
          clear he hin
          go_cut [50] (fun s wx => s = .bool mb ∧ Boxed w wx [.string name, .string type, .bool static, .bool abs, .bool priv, .int .i64 locals, cv, .slice (some ⟨b1, o1, none⟩) handlers.length caph] ∧ Boxed wr wx [.int .i64 h.lo, .int .i64 h.hi, .int .i64 h.dest, .string h.cls])
          case first =>
            clear HR hstep
            go_region_with (first
              | (go_at_call 47; (with_reducible refine HEc.out.mono ?_); rintro e w9 ⟨⟨v9, rfl, hv9⟩, hB9⟩; (have BX9 := BX8.drew.step hB9); (have BH9 := BH8.drew.step hB9); obtain ⟨y0, y1, y2, y3⟩ := boxedH BH9; (have hs9 := strsAt_of_owns hv9))
              | (go_at_call 28; (with_reducible refine (HInc.out _ _ hs9).mono ?_); rintro e w10 ⟨rfl, rfl⟩))
            all_goals
              go_wp2
              go_meet
              exact ⟨rfl, BX9, BH9⟩
          case rest =>
            clear BX8 BH8 z0 z1 z2 z3 HEc HInc hlt
            obtain ⟨rfl, BX, BH⟩ := hcut
            obtain ⟨z0, z1, z2, z3⟩ := boxedH BH
            cases mb with
            | true =>
              have hfin : Hid ((r, b) = (h.dest, true)) := by unfold Hid; rw [HR.out]; exact catchGo_good (by rw [hstep]; rfl)
              clear HR hstep
              go_wp2_with (first | fail)
              cases hfin.out
              go_ret2
              exact ⟨rfl, BX.below⟩
            | false =>
              replace hstep : firstGo cs (everyC cs n) pos handlers = firstGo cs (everyC cs n) pos (handlers.drop (k + 1)) := hstep
              have hst := Lib.hid hstep.symm
              clear hstep
              go_wp2_with (first | fail)
              go_roundw
              case rel => exact ⟨k + 1, by omega, hst.out, BX, by simp⟩
              case measure => simp [intOf]; omega
    · obtain rfl : k = handlers.length := by omega
      have hno : firstGo cs (everyC cs n) pos handlers = (-1, true) := by rw [← hff.out, List.drop_eq_nil_of_le (by omega)]; rfl
      have hfin : Hid ((r, b) = (-1, true)) := by unfold Hid; rw [HR.out]; exact catchGo_good hno
      clear hno hff HR
      go_wp2_with (first | fail)
      cases hfin.out
      go_ret2
      exact ⟨rfl, BX.below⟩
end Go.Proofs.YtfbobebcfpdaiaaGreatDoor
