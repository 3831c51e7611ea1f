/-
  WALK over check.Read, check.World. Conditions: as in XRead.
-/
import Derived.Test.YtlmfmioljeppfaaGreatDoorLooked
namespace Go.Proofs.YtlmfmioljeppfaaGreatDoor
open Go.RowKit Go.Shelf Go.Lib
def FramesYes (l : List Class) (cls : Str) (m : Method) : Prop := m.abs = true ∨ ∃ args g many A, MethGood m args g many ∧ MethodFrames (allC l) cls g m (firstL cls m.static args many) (some A)
def FramesNo (l : List Class) (cls : Str) (m : Method) : Prop := m.abs = false ∧ ∃ args g many, MethGood m args g many ∧ MethodFrames (allC l) cls g m (firstL cls m.static args many) none
def CheckAll (l : List Class) (n : Nat) : Prop := (readFault l ≠ 0 ∧ n = readFault l) ∨ (readFault l = 0 ∧ n = 0 ∧ ∀ c ∈ l, ∀ m ∈ c.methods, FramesYes l c.name m) ∨ (readFault l = 0 ∧ n = 7 ∧ ∃ c ∈ l, ∃ m ∈ c.methods, FramesNo l c.name m)
def CheckReadPost (w : World) (l : List Class) (e : Ending) (w' : World) : Prop := Below w.heap.size w w' ∧ ∃ n, CheckAll l n ∧ ((n = 0 ∧ ∃ ws B, e = .returned (.tuple #[.map (some B), .nilIface]) ∧ WorldMap ws w' B l) ∨ (n ≠ 0 ∧ e = .returned (.tuple #[.map none, .iface 29 (.int .i64 n)])))
set_option maxHeartbeats 4000000 in
set_option maxRecDepth 100000 in
theorem checkRead_any (l : List Class) (lv : Value) (w : World) (hl : Laid w) (ho : ∀ c ∈ l, ClassOk c) (hlv : ClassesAt w lv l) :
    Calls Tryz.prog 57 #[lv] w (CheckReadPost w l) := by
  have HRd := Lib.hid (readW_any l lv w hl ho hlv)
  have HA : Hid (∀ (wx : World) (o : Obj), Below wx.heap.size wx (wx.alloc o)) := fun wx o => (Below.refl _ _).alloc (Nat.le_refl _) o
  obtain ⟨pl, cap, rfl, hn1, hn2, hcc⟩ := hlv.open
  have hlen : l.length ≤ 9223372036854775807 := Nat.le_trans hn1 hn2
  have HC := Lib.hid hcc
  have HO := Lib.hid ho
  clear hcc hlv hl ho
  unfold ReadW at HRd
  by_cases hz : readFault l = 0
  · have HZ := Lib.hid hz
    clear hz
    go_enter Tryz.func57, Tryz.ntmps57
    go_wp2_with (go_at_call 50; (with_reducible refine (HRd.out).mono ?_); rintro e w2 ⟨hB2, ⟨_, ws, B, rfl, hm⟩ | ⟨hz, _⟩⟩; rotate_left; (exact absurd HZ.out hz))
    have HB2 := Lib.hid hB2
    have Hm := Lib.hid hm
    clear hB2 hm HRd
    go_loopw [22] (fun x wr => ∃ k : Nat, k ≤ l.length ∧ x = .int .i64 k ∧ Hid (Below w2.heap.size w2 wr) ∧ Hid (∀ c ∈ l.take k, ∀ m ∈ c.methods, FramesYes l c.name m)) (fun x _ => l.length - (intOf x).toNat)
    case atStart => exact ⟨0, Nat.zero_le _, rfl, Below.refl _ _, fun c hc => by simp at hc⟩
    case round =>
      obtain ⟨k, hk, rfl, hB, hY⟩ := hrel
      by_cases hkl : k < l.length
      · obtain ⟨c, hx⟩ : ∃ x, l[k]? = some x := ⟨l[k], by simp [hkl]⟩
        have hcm := List.mem_of_getElem? hx
        obtain ⟨b, o, vs, rfl, ⟨fv, dv, mv, rfl, q1, q2, q3⟩, _, hcells⟩ := HC.out k c hx
        have hcells := hcells.mono (below_call HB2.out (Nat.le_refl _) hB.out) hcells.lt
        have hok := HO.out c hcm
        have hcf := Hm.out.faults c hcm
        have hYc : Hid ((∀ m ∈ c.methods, FramesYes l c.name m) → ∀ d ∈ l.take (k + 1), ∀ m ∈ d.methods, FramesYes l d.name m) := fun h d hd => by
          rw [List.take_add_one, hx] at hd
          rcases List.mem_append.1 hd with hd | hd
          · exact hY.out d hd
          · rw [show d = c by simpa using hd]; exact h
        obtain ⟨cn, cs, cf, cb, cd, cm⟩ := c
        dsimp only at hcells q3 hYc
        obtain ⟨c0, c1, c2, c3, c4, c5, _⟩ := hcells
        obtain ⟨pm, km, rfl, hm1, hm2, hmc⟩ := q3.open
        obtain ⟨pf, kf, rfl, _⟩ := q1.open
        obtain ⟨pd, kd, rfl, _⟩ := q2.open
        have hmlen : cm.length ≤ 9223372036854775807 := Nat.le_trans hm1 hm2
        have HMc := Lib.hid hmc
        have Hcm := Lib.hid hcm
        have Hok := Lib.hid hok
        have Hcf := Lib.hid hcf
        have B3 := HA.out wr (.cells #[.string cn, .string cs, .slice pf cf.length kf, .bool cb, .slice pd cd.length kd, .slice pm cm.length km] 36)
        have k3 := Blk.new wr 36 [.string cn, .string cs, .slice pf cf.length kf, .bool cb, .slice pd cd.length kd, .slice pm cm.length km]
        have g5 := k3.cell 5
        have HB3 := Lib.hid (below_call hB.out (Nat.le_refl _) B3)
        have Hk3 := Lib.hid k3
        clear hx hmc q1 q2 q3 hcm hok hcf B3 k3
        go_upto_region 7 with (first | fail)
        generalize wr.alloc (.cells #[.string cn, .string cs, .slice pf cf.length kf, .bool cb, .slice pd cd.length kd, .slice pm cm.length km] 36) = w3 at *
        clear c0 c1 c2 c3 c4 c5
        go_wp2_with (first | fail)
        clear g5
        go_loopw [29] (fun x wy => ∃ j : Nat, j ≤ cm.length ∧ x = .int .i64 j ∧ Hid (Below w3.heap.size w3 wy) ∧ Hid (∀ m ∈ cm.take j, FramesYes l cn m)) (fun x _ => cm.length - (intOf x).toNat)
        case atStart => exact ⟨0, Nat.zero_le _, rfl, Below.refl _ _, fun m hm => by simp at hm⟩
        case round =>
          obtain ⟨j, hj, rfl, hBj, hYj⟩ := hrel
          by_cases hjl : j < cm.length
          · obtain ⟨m, hmx⟩ : ∃ x, cm[j]? = some x := ⟨cm[j], by simp [hjl]⟩
            have hmm := List.mem_of_getElem? hmx
            obtain ⟨bb, oo, vs, rfl, ⟨cv, hv, rfl, k1, k2⟩, _, hcl⟩ := HMc.out j m hmx
            have Bw3 := below_call HB2.out (Nat.le_refl _) HB3.out
            have hcl := hcl.mono (below_call Bw3 (Nat.le_refl _) hBj.out) hcl.lt
            obtain ⟨pc, kc, rfl, _⟩ := k1.open
            obtain ⟨ph, kh, rfl, _⟩ := k2.open
            obtain ⟨u0, u1, u2, u3, u4, u5, u6, u7, _⟩ := hcl
            have hYm : Hid (FramesYes l cn m → ∀ d ∈ cm.take (j + 1), FramesYes l cn d) := fun h d hd => by
              rw [List.take_add_one, hmx] at hd
              rcases List.mem_append.1 hd with hd | hd
              · exact hYj.out d hd
              · rw [show d = m by simpa using hd]; exact h
            cases hab : m.abs with
            | true =>
              have hY2 := Lib.hid (hYm.out (Or.inl hab))
              have HB4 := Lib.hid (below_call hBj.out (Nat.le_refl _) (HA.out wr (.cells #[.string m.name, .string m.type, .bool m.static, .bool true, .bool m.priv, .int .i64 m.locals, .slice pc m.code.length kc, .slice ph m.handlers.length kh] 53)))
              rw [hab] at u3
              clear hmx hmm k1 k2 Bw3 hab
              go_wp2_with (first | fail)
              go_roundw
              case rel => exact ⟨j + 1, by omega, by simp, HB4.out, hY2.out⟩
              case measure => simp [intOf]; omega
            | false =>
              have B4 := HA.out wr (.cells #[.string m.name, .string m.type, .bool m.static, .bool false, .bool m.priv, .int .i64 m.locals, .slice pc m.code.length kc, .slice ph m.handlers.length kh] 53)
              have k4 := Blk.new wr 53 [.string m.name, .string m.type, .bool m.static, .bool false, .bool m.priv, .int .i64 m.locals, .slice pc m.code.length kc, .slice ph m.handlers.length kh]
              have g0 := ((Hk3.out.step hBj.out).step B4).cell 0
              have m0 := k4.cell 0
              have m1 := k4.cell 1
              have m2 := k4.cell 2
              have m3 := k4.cell 3
              have m4 := k4.cell 4
              have m5 := k4.cell 5
              have m6 := k4.cell 6
              have m7 := k4.cell 7
              have HB4 := Lib.hid (below_call hBj.out (Nat.le_refl _) B4)
              obtain ⟨args, g, many, hG⟩ := meth_good Hcf.out hmm hab
              have Bw4 := below_call Bw3 (Nat.le_refl _) HB4.out
              have hLo := looked_any l B ws (wr.alloc (.cells #[.string m.name, .string m.type, .bool m.static, .bool false, .bool m.priv, .int .i64 m.locals, .slice pc m.code.length kc, .slice ph m.handlers.length kh] 53)) ((Hm.out.step (below_call (Below.mono HB3.out (Nat.le_refl _)) (Nat.le_refl _) hBj.out)).step B4) m cn g args many pc ph kc kh hG (Hok.out.methods m hmm) Hok.out.name (k1.mono Bw4 (by decide) (fun _ _ h => h)) (k2.mono Bw4 (by decide) (fun _ _ h => h))
              rw [hab] at u3 hLo
              unfold LookedPost at hLo
              have HLo := Lib.hid hLo
              have HG := Lib.hid hG
              have Hab := Lib.hid hab
              have Hmm := Lib.hid hmm
              clear hmx hmm k1 k2 k4 B4 Bw3 Bw4 hab hLo hG
              go_upto_region 11 with (first | fail)
              generalize wr.alloc (.cells #[.string m.name, .string m.type, .bool m.static, .bool false, .bool m.priv, .int .i64 m.locals, .slice pc m.code.length kc, .slice ph m.handlers.length kh] 53) = w4 at *
              clear u0 u1 u2 u3 u4 u5 u6 u7
              by_cases hex : ∃ A, MethodFrames (allC l) cn g m (firstL cn m.static args many) (some A)
              · have HEx := Lib.hid hex
                obtain ⟨A, hA⟩ := hex
                have hY2 := Lib.hid (hYm.out (Or.inr ⟨args, g, many, A, HG.out, hA⟩))
                clear hA
                go_wp2_with (go_at_call 63; (with_reducible refine (HLo.out).mono ?_); rintro e w5 ⟨hB5, ⟨F, mb, hF, rfl, hFm⟩ | ⟨hF, _⟩⟩; rotate_left; (exact absurd HEx.out (fun ⟨A, k1, k2⟩ => hF k1 A k2.1)))
                go_roundw
                case rel => exact ⟨j + 1, by omega, by simp, below_call HB4.out (Nat.le_refl _) hB5, hY2.out⟩
                case measure => simp [intOf]; omega
              · have HEx := Lib.hid hex
                clear hex
                go_wp2_with (go_at_call 63; (with_reducible refine (HLo.out).mono ?_); rintro e w5 ⟨hB5, ⟨F, mb, hF, _⟩ | ⟨hF, rfl⟩⟩; (exact absurd ⟨F, hF⟩ HEx.out))
                go_ret2
                exact ⟨below_call (below_call HB2.out (Nat.le_refl _) HB3.out) (Nat.le_refl _) (below_call HB4.out (Nat.le_refl _) hB5), 7, Or.inr (Or.inr ⟨HZ.out, rfl, _, Hcm.out, m, Hmm.out, Hab.out, args, g, many, HG.out, hF⟩), Or.inr ⟨by decide, rfl⟩⟩
          · obtain rfl : j = cm.length := by omega
            have hY2 := Lib.hid (hYc.out (by have := hYj.out; rwa [List.take_length] at this))
            go_wp2_with (first | fail)
            go_roundw
            case rel => exact ⟨k + 1, by omega, by simp, below_call HB3.out (Nat.le_refl _) hBj.out, hY2⟩
            case measure => simp [intOf]; omega
      · obtain rfl : k = l.length := by omega
        have hY2 : Hid (∀ c ∈ l, ∀ m ∈ c.methods, FramesYes l c.name m) := by have := hY.out; rwa [List.take_length] at this
        go_wp2_with (first | fail)
        go_ret2
        exact ⟨below_call HB2.out (Nat.le_refl _) hB.out, 0, Or.inr (Or.inl ⟨HZ.out, rfl, hY2.out⟩), Or.inl ⟨rfl, ws, B, rfl, Hm.out.step hB.out⟩⟩
  · have HZ := Lib.hid hz
    clear hz
    go_enter Tryz.func57, Tryz.ntmps57
    go_wp2_with (go_at_call 50; (with_reducible refine (HRd.out).mono ?_); rintro e w2 ⟨hB2, ⟨hz, _⟩ | ⟨_, rfl⟩⟩; (exact absurd hz HZ.out))
    go_ret2
    exact ⟨hB2, _, Or.inl ⟨HZ.out, rfl⟩, Or.inr ⟨HZ.out, rfl⟩⟩
set_option maxRecDepth 100000 in
theorem checkWorld_any (l : List Class) (lv : Value) (w : World) (hl : Laid w) (ho : ∀ c ∈ l, ClassOk c) (hlv : ClassesAt w lv l) :
    Calls Tryz.prog 21 #[lv] w fun e w' => Below w.heap.size w w' ∧ ∃ n, CheckAll l n ∧ e = .returned (errV n) := by
  have HRd : Hid (Calls Tryz.prog 57 #[lv] w fun e w' => Below w.heap.size w w' ∧ ∃ n v u, CheckAll l n ∧ u = errV n ∧ e = .returned (.tuple #[v, u])) := (checkRead_any l lv w hl ho hlv).mono fun e w' ⟨hB, n, hn, hr⟩ => by
    rcases hr with ⟨rfl, ws, B, rfl, _⟩ | ⟨hn0, rfl⟩
    · exact ⟨hB, 0, _, _, hn, rfl, rfl⟩
    · rcases errV_cases n with ⟨_, h0⟩ | ⟨h1, _⟩
      · exact absurd h0 hn0
      · exact ⟨hB, n, _, _, hn, h1.symm, rfl⟩
  clear hl ho hlv
  go_enter Tryz.func21, Tryz.ntmps21
  go_wp2_with (go_at_call 57; (with_reducible refine (HRd.out).mono ?_); rintro e w2 ⟨hB2, n, v, u, hn, hu, rfl⟩; (have Hu := Lib.hid hu); clear hu)
  go_ret
  exact ⟨hB2, n, hn, by rw [← Hu.out]; rfl⟩
end Go.Proofs.YtlmfmioljeppfaaGreatDoor
