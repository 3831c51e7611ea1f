/-
  WALK over the law MapsSound. Conditions: as in XRead; the maps' texts are short.
-/
import Derived.Test.YtlmfmioljeppfaaGreatDoorMapped
import Derived.Test.YtlmfmioljeppfaaGreatDoorSoundLaw
namespace Go.Proofs.YtlmfmioljeppfaaGreatDoor
open Go.RowKit Go.Shelf Go.Lib
def SoundS (wx : World) (b1 o1 b2 o2 : Nat) (u1 u2 v1 v2 : Value) : Prop := wx.cell? ⟨b1, o1 + 1, none⟩ = some u1 ∧ wx.cell? ⟨b1, o1 + 1 + 1, none⟩ = some u2 ∧ wx.cell? ⟨b2, o2 + 1, none⟩ = some v1 ∧ wx.cell? ⟨b2, o2 + 1 + 1, none⟩ = some v2
theorem SoundS.step {w w' : World} {b1 o1 b2 o2 : Nat} {u1 u2 v1 v2 : Value} (h : SoundS w b1 o1 b2 o2 u1 u2 v1 v2) (hb : Below w.heap.size w w') : SoundS w' b1 o1 b2 o2 u1 u2 v1 v2 := by
  obtain ⟨k0, k1, k2, k3⟩ := h
  exact ⟨(hb.cell (cell_lt k0)).trans k0, (hb.cell (cell_lt k1)).trans k1, (hb.cell (cell_lt k2)).trans k2, (hb.cell (cell_lt k3)).trans k3⟩
set_option maxHeartbeats 4000000 in
set_option maxRecDepth 100000 in
theorem mapsSound_any (l : List Class) (lv : Value) (cls : Str) (at' : Int) (xs : List (Int × Frm)) (mv : Value) (w : World) (hl : Laid w) (ho : ∀ c ∈ l, ClassOk c) (hlv : ClassesAt w lv l) (hmv : MapsAtI w mv xs) (hms : ∀ x ∈ xs, FrmShort x.2) :
    Calls Tryz.prog 6 #[lv, .string cls, .int .i64 at', mv] w fun e w' => e = .returned (.bool true) ∧ Below w.heap.size w w' := by
  have HMd := Lib.hid (mapped_any w hl)
  have HAc : Hid (∀ wx, Below w.heap.size w wx → _) := fun wx hb => accept_any l lv cls at' xs mv wx (hl.mono hb hl.1) ho (hlv.mono hb) (hmv.mono hb) hms
  have HMe : Hid (∀ wx, Below w.heap.size w wx → _) := fun wx hb => checkMethod_any l lv cls at' wx (hl.mono hb hl.1) ho (hlv.mono hb)
  have HLv := Lib.hid hlv
  have Hl := Lib.hid hl
  have HO := Lib.hid ho
  obtain ⟨pl, cap, rfl, hpo⟩ := hlv.open
  obtain ⟨px, capx, rfl, hx1, hx2, hxc⟩ := hmv.open
  have HXc := Lib.hid hxc
  have hxl : xs.length ≤ 9223372036854775807 := Nat.le_trans hx1 hx2
  clear hl ho hlv hpo hx1 hx2 hxc hmv hms
  by_cases hex : AcceptIs l cls at' xs 0
  · replace HAc : Hid (∀ wx, Below w.heap.size w wx → Calls _ _ _ wx fun e w' => Below wx.heap.size wx w' ∧ e = .returned .nilIface) := fun wx hb => (HAc.out wx hb).mono fun e w' ⟨hB, n, hC, he⟩ => by
      obtain rfl := acceptIs_one hex hC
      exact ⟨hB, he⟩
    replace HMe : Hid (∀ wx, Below w.heap.size w wx → Calls _ _ _ wx fun e w' => Below wx.heap.size wx w' ∧ ∃ (m : Method) (A : Asg Frm) (v : Value), m.code.length ≤ 40 ∧ Hid (∀ (i : Nat) f, A i = some f → frameR (allC l) f = 0) ∧ Hid (∀ (i : Nat) f g, A i = some f → ((i : Int), g) ∈ xs → belowF l f g = true ∧ framesFault l f g = 0 ∧ frameR (allC l) g = 0) ∧ e = .returned (.tuple #[v, .nilIface]) ∧ MapsAt w' v (mapsL A m.code.length)) := fun wx hb => (HMe.out wx hb).mono fun e w' ⟨hB, n, F, hC, hF⟩ => by
      obtain ⟨m, A, rfl, rfl, h1, h2, h3⟩ := sound_law read_faults hex hC
      obtain ⟨v, h4, h5⟩ := hF
      exact ⟨hB, m, A, v, h1, h2, h3, h4, h5⟩
    clear hex
    go_enter Tryz.func6, Tryz.ntmps6
    go_upto_region 9 with (first
      | (go_at_call 30; (with_reducible refine (HMd.out).mono ?_); rintro e w2 ⟨rfl, hB2⟩)
      | (go_at_call 31; (with_reducible refine (HAc.out _ hB2).mono ?_); rintro e w3 ⟨hB3, rfl⟩; (have HB3 := Lib.hid (below_call hB2 (Nat.le_refl _) hB3)))
      | (go_at_call 25; (with_reducible refine (HMe.out _ HB3.out).mono ?_); rintro e w4 ⟨hB4, m, A, v, hc40, HOk, HSp, rfl, hM⟩; obtain ⟨pv, cv, rfl, hv1, hv2, hmc⟩ := hM.open))
    have HB4 := Lib.hid (below_call HB3.out (Nat.le_refl _) hB4)
    have HMc := Lib.hid hmc
    have hml : (mapsL A m.code.length).length ≤ 40 := Nat.le_trans (mapsL_len A _) hc40
    clear hB2 hB3 hB4 hM hmc hv1 hv2 HMe HAc HMd
    go_wp2_with (first | fail)
    go_loopw [12] (fun x wr => ∃ j : Nat, j ≤ xs.length ∧ x = .int .i64 j ∧ Hid (Below w4.heap.size w4 wr)) (fun x _ => xs.length - (intOf x).toNat)
    case atStart => exact ⟨0, Nat.zero_le _, rfl, Below.refl _ _⟩
    case round =>
      obtain ⟨j, hj, rfl, hB⟩ := hrel
      by_cases hjl : j < xs.length
      · obtain ⟨⟨i, f⟩, hx⟩ : ∃ x, xs[j]? = some x := ⟨xs[j], by simp [hjl]⟩
        obtain ⟨b, o, vs, rfl, ⟨lv, sv, rfl, hf⟩, _, hcells⟩ := HXc.out j _ hx
        have HCe := Lib.hid hcells
        have HFe := Lib.hid hf
        have hxm : Hid ((i, f) ∈ xs) := List.mem_of_getElem? hx
        have hjI : (j : Int) < (xs.length : Int) := by omega
        have HBj := Lib.hid hB.out
        clear hcells hf hx hB
        go_wp2_with (first | fail)
        generalize wr = w5 at *
        go_loopw [13] (fun x wr => ∃ k : Nat, k ≤ (mapsL A m.code.length).length ∧ x = .int .i64 k ∧ Hid (Below w4.heap.size w4 wr)) (fun x _ => (mapsL A m.code.length).length - (intOf x).toNat)
        case atStart => exact ⟨0, Nat.zero_le _, rfl, HBj.out⟩
        case round =>
          obtain ⟨k, hk, rfl, hBk⟩ := hrel
          by_cases hkl : k < (mapsL A m.code.length).length
          · obtain ⟨⟨a, f0⟩, hy⟩ : ∃ x, (mapsL A m.code.length)[k]? = some x := ⟨(mapsL A m.code.length)[k], by simp [hkl]⟩
            obtain ⟨b2, o2, vs, rfl, ⟨lv2, sv2, rfl, hf2⟩, _, hc2⟩ := HMc.out k _ hy
            have Bw := below_call HB4.out (Nat.le_refl _) hBk.out
            have hcells := HCe.out.mono Bw HCe.out.lt
            have hc2 := hc2.mono hBk.out hc2.lt
            obtain ⟨c0, c1, c2, _⟩ := hcells
            obtain ⟨d0, d1, d2, _⟩ := hc2
            replace d0 : wr.cell? ⟨b2, o2 + k * 3, none⟩ = some (.int .i64 (a : Int)) := d0
            have hAa := (maps_at.1 hy).2.1
            have hkI : (k : Int) < ((mapsL A m.code.length).length : Int) := by omega
            have Hf := Lib.hid (HFe.out.mono Bw)
            have Hf2 := Lib.hid (hf2.mono hBk.out)
            dsimp only at Hf Hf2
            have hk0 : (0 : Int) ≤ (k : Int) := Int.natCast_nonneg _
            have hj0 : (0 : Int) ≤ (j : Int) := Int.natCast_nonneg _
            by_cases hai : (a : Int) = i
            · subst hai
              obtain ⟨hbl, hff, hfr⟩ := HSp.out a f0 f hAa hxm.out
              have hfr0 := HOk.out a f0 hAa
              have HBl0 : Hid (∀ wx, Below wr.heap.size wr wx → _) := fun wx hb => frameBelow_any l (.slice pl l.length cap) f0 f lv2 sv2 lv sv wx (Hl.out.mono (below_call Bw (Nat.le_refl _) hb) Hl.out.1) HO.out (HLv.out.mono (below_call Bw (Nat.le_refl _) hb)) (Hf2.out.mono hb) (Hf.out.mono hb) (frm_short hfr0) (frm_short hfr)
              rw [hbl, hff] at HBl0
              have hS6 : Hid (∀ wx, Below wr.heap.size wr wx → SoundS wx b2 (o2 + k * 3) b (o + j * 3) lv2 sv2 lv sv) := fun wx hb => SoundS.step ⟨d1, d2, c1, c2⟩ hb
              have HBl : Hid (∀ wx, Below wr.heap.size wr wx → Calls Tryz.prog 29 #[.slice pl l.length cap, .agg #[lv2, sv2], .agg #[lv, sv]] wx fun e w' => e = .returned (.tuple #[.bool true, .nilIface]) ∧ Below wx.heap.size wx w' ∧ SoundS w' b2 (o2 + k * 3) b (o + j * 3) lv2 sv2 lv sv) := fun wx hb => (HBl0.out wx hb).mono fun e w' ⟨he, hB'⟩ => ⟨he, hB', hS6.out w' (below_call hb (Nat.le_refl _) hB')⟩
              obtain ⟨⟨p1, n1, rfl, hz1⟩, ⟨p2, n2, rfl, hz2⟩⟩ := And.intro Hf.out.1.open Hf.out.2.open
              obtain ⟨⟨p3, n3, rfl, hz3⟩, ⟨p4, n4, rfl, hz4⟩⟩ := And.intro Hf2.out.1.open Hf2.out.2.open
              clear hbl hff hfr hfr0 HBl0 hz1 hz2 hz3 hz4 hy hAa Bw hf2
              go_upto_region 15 with (first | fail)
              go_quiet (fail)
              go_upto_region 16 with (first | fail)
              have HBq : Hid (∀ q, Below wr.heap.size wr ((wr.drewN q).drew)) := fun q => (below_drewN (Below.refl _ _) q).drew
              clear c0 d0
              go_cut [14, 15] from 58 to 72 (fun u v wy => u = .bool true ∧ v = .nilIface ∧ Below wr.heap.size wr wy)
              case first =>
                go_region_held3 (fun w' => w'.cell? ⟨b2, o2 + k * 3 + 1, none⟩ = some (.slice p3 f0.locals.length n3) ∧ w'.cell? ⟨b2, o2 + k * 3 + 1 + 1, none⟩ = some (.slice p4 f0.stack.length n4) ∧ w'.cell? ⟨b, o + j * 3 + 1, none⟩ = some (.slice p1 f.locals.length n1) ∧ w'.cell? ⟨b, o + j * 3 + 1 + 1, none⟩ = some (.slice p2 f.stack.length n2))
                  (first | go_keep)
                  (first
                    | (go_at_call 29; (with_reducible refine (HBl.out _ ?_).mono ?_); (exact HBq.out _); rintro e w5 ⟨rfl, hB5, d1, d2, c1, c2⟩))
                all_goals (go_wp2_with (first | fail); go_meet; exact ⟨rfl, rfl, below_call (HBq.out _) (Nat.le_refl _) hB5⟩)
              case rest =>
                obtain ⟨rfl, rfl, hBz⟩ := hcut
                clear hS6 HBl c1 c2 d1 d2
                go_wp2_with (first | fail)
                go_roundw
                case rel => exact ⟨k + 1, by omega, by simp, below_call hBk.out (Nat.le_refl _) hBz⟩
                case measure => simp [intOf]; omega
            · have hne : ((a : Int) == i) = false := by simpa using hai
              have hne2 : ((a : Int) != i) = true := by simpa using hai
              clear hai hAa hy Bw hf2 HFe
              go_upto_region 15 with (first | fail)
              go_quiet (fail)
              go_wp2_with (first | fail)
              go_roundw
              case rel => exact ⟨k + 1, by omega, by simp, below_drewN hBk.out _⟩
              case measure => simp [intOf]; omega
          · obtain rfl : k = (mapsL A m.code.length).length := by omega
            go_wp2_with (first | fail)
            go_roundw
            case rel => exact ⟨j + 1, by omega, by simp, hBk.out⟩
            case measure => simp [intOf]; omega
      · obtain rfl : j = xs.length := by omega
        go_wp2_with (first | fail)
        go_ret
        exact ⟨rfl, below_call HB4.out (Nat.le_refl _) hB.out⟩
  · replace HAc : Hid (∀ wx, Below w.heap.size w wx → Calls _ _ _ wx fun e w' => Below wx.heap.size wx w' ∧ ∃ v, e = .returned (.iface 29 v)) := fun wx hb => (HAc.out wx hb).mono fun e w' ⟨hB, n, hC, he⟩ => by
      have hn : n ≠ 0 := fun e => hex (by rw [e] at hC; exact hC)
      unfold errV at he
      rw [if_neg hn] at he
      exact ⟨hB, _, he⟩
    clear hex
    go_enter Tryz.func6, Tryz.ntmps6
    go_wp2_with (first
      | (go_at_call 30; (with_reducible refine (HMd.out).mono ?_); rintro e w2 ⟨rfl, hB2⟩)
      | (go_at_call 31; (with_reducible refine (HAc.out _ hB2).mono ?_); rintro e w3 ⟨hB3, v3, rfl⟩; (have HB3 := Lib.hid (below_call hB2 (Nat.le_refl _) hB3))))
    go_ret
    exact ⟨rfl, HB3.out⟩
end Go.Proofs.YtlmfmioljeppfaaGreatDoor
