/-
  WALK over check.Method. Conditions: as in XRead.
-/
import Derived.Test.YtlmfmioljeppfaaGreatDoorNamed
import Derived.Test.YtlmfmioljeppfaaGreatDoorMapRow
namespace Go.Proofs.YtlmfmioljeppfaaGreatDoor
open Go.RowKit Go.Shelf Go.Lib
def CheckIs (l : List Class) (cls : Str) (at' : Int) (n : Nat) (F : Option (Method × Asg Frm)) : Prop :=
  (namedN l cls at' ≠ 0 ∧ n = namedN l cls at' ∧ F = none) ∨ (namedN l cls at' = 0 ∧ ∃ m args g many, namedM cls at' l = some m ∧ m.abs = false ∧ MethGood m args g many ∧ ∃ G, MethodFrames (allC l) cls g m (firstL cls m.static args many) G ∧ match G with
    | none => n = 7 ∧ F = none
    | some A => n = 0 ∧ F = some (m, A))
def CheckPost (w : World) (l : List Class) (cls : Str) (at' : Int) (e : Ending) (w' : World) : Prop := Below w.heap.size w w' ∧ ∃ n F, CheckIs l cls at' n F ∧ match F with
  | none => n ≠ 0 ∧ e = .returned (.tuple #[.slice none 0 0, .iface 29 (.int .i64 n)])
  | some (m, A) => ∃ v, e = .returned (.tuple #[v, .nilIface]) ∧ MapsAt w' v (mapsL A m.code.length)
theorem both_self {l : List Class} {cls g : Str} {m : Method} {start : Frm} (H : (checkW (allC l) cls g m start).Good) {f : Frm} (hf : frameR (allC l) f = 0) : shapedB f f = true ∧ bothF (allC l) f f = f := by
  obtain ⟨h1, h2⟩ := H.lub f f f hf hf hf (H.refl f hf) (H.refl f hf)
  obtain ⟨u1, u2, _⟩ := H.up f f hf hf h1
  exact ⟨h1, (H.anti f _ hf u1 u2 h2).symm⟩
set_option maxHeartbeats 4000000 in
set_option maxRecDepth 100000 in
theorem checkMethod_any (l : List Class) (lv : Value) (cls : Str) (at' : Int) (w : World) (hl : Laid w) (ho : ∀ c ∈ l, ClassOk c) (hlv : ClassesAt w lv l) :
    Calls Tryz.prog 25 #[lv, .string cls, .int .i64 at'] w (CheckPost w l cls at') := by
  have HNm := Lib.hid (named_any l lv cls at' w hl ho hlv)
  obtain ⟨pl, cap, rfl, _⟩ := hlv.open
  have HO := Lib.hid ho
  have HA : Hid (∀ (wx : World) (o : Obj), Below wx.heap.size wx (wx.alloc o)) := fun wx o => (Below.refl _ _).alloc (Nat.le_refl _) o
  clear hl ho hlv
  unfold NamedPost zMethod at HNm
  by_cases hz : namedN l cls at' = 0
  · have HZ := Lib.hid hz
    clear hz
    go_enter Tryz.func25, Tryz.ntmps25
    go_upto_region 2 with (go_at_call 62; (with_reducible refine (HNm.out).mono ?_); rintro e w2 ⟨hB2, ⟨_, m, ws, B, v, hnm, hab, rfl, ⟨pc, kc, ph, kh, rfl, hcv, hhv⟩, hM⟩ | ⟨hz, _⟩⟩; rotate_left; (exact absurd HZ.out hz))
    obtain ⟨c, hc, hcn, hmc⟩ := namedM_mem hnm
    have hmo := (HO.out c hc).methods m hmc
    have hcl : cls.size ≤ 1048576 := by rw [← hcn]; exact (HO.out c hc).name
    obtain ⟨args, g, many, hG⟩ := meth_good (hM.faults c hc) hmc hab.out
    have k3 := Blk.new w2 53 [.string m.name, .string m.type, .bool m.static, .bool m.abs, .bool m.priv, .int .i64 m.locals, .slice pc m.code.length kc, .slice ph m.handlers.length kh]
    have B3 : Below w.heap.size w (w2.alloc (.cells #[.string m.name, .string m.type, .bool m.static, .bool m.abs, .bool m.priv, .int .i64 m.locals, .slice pc m.code.length kc, .slice ph m.handlers.length kh] 53)) := hB2.alloc hB2.size _
    have M3 := hM.step (HA.out w2 (.cells #[.string m.name, .string m.type, .bool m.static, .bool m.abs, .bool m.priv, .int .i64 m.locals, .slice pc m.code.length kc, .slice ph m.handlers.length kh] 53))
    generalize w2.alloc (.cells #[.string m.name, .string m.type, .bool m.static, .bool m.abs, .bool m.priv, .int .i64 m.locals, .slice pc m.code.length kc, .slice ph m.handlers.length kh] 53) = w3 at *
    have HLo := Lib.hid (looked_any l B ws w3 M3 m cls g args many pc ph kc kh hG hmo hcl (hcv.mono B3 (by decide) (fun _ _ h => h)) (hhv.mono B3 (by decide) (fun _ _ h => h)))
    have HG := Lib.hid hG
    have HNm2 := Lib.hid (And.intro hnm hab.out)
    have HM3 := Lib.hid M3
    have HB3 := Lib.hid B3
    have Hk3 := Lib.hid k3
    have m0 := k3.cell 0
    have m1 := k3.cell 1
    have m2 := k3.cell 2
    have m3 := k3.cell 3
    have m4 := k3.cell 4
    have m5 := k3.cell 5
    have m6 := k3.cell 6
    have m7 := k3.cell 7
    unfold LookedPost at HLo
    clear hnm hab hM hcv hhv hB2 hc hcn hmc hmo hcl hG k3 B3 M3 HO HNm
    by_cases hex : ∃ A, MethodFrames (allC l) cls g m (firstL cls m.static args many) (some A)
    · have HEx := Lib.hid hex
      clear hex
      go_upto_region 5 with (go_at_call 63; (with_reducible refine (HLo.out).mono ?_); rintro e w4 ⟨hB4, ⟨F, mb, hF, rfl, hFm⟩ | ⟨hF, _⟩⟩; rotate_left; (exact absurd HEx.out (fun ⟨A, k1, k2⟩ => hF k1 A k2.1)))
      have k4 := (Hk3.out.step hB4)
      have c6 := k4.cell 6
      have HB4 := Lib.hid (below_call HB3.out (Nat.le_refl _) hB4)
      have HM4 := Lib.hid (HM3.out.step hB4)
      have HFm := Lib.hid hFm
      have HFF := Lib.hid hF
      have hlen40 := (codeOk_of HG.out.code).small
      have hGd := check_good HM3.out.right HM3.out.faults (cls := cls) (gives := g) HG.out.code HG.out.hands (startB_frame (firstL_len HG.out) hF.1)
      have Hoks : Hid (∀ i f, F i = some f → i < m.code.length ∧ frameR (allC l) f = 0) := fun i f e => hF.2.1.1 i f e
      have HSf : Hid (∀ f, frameR (allC l) f = 0 → _) := fun f hf => both_self hGd hf
      clear hB4 hF hFm k4 m0 m1 m2 m3 m4 m5 m6 m7 hGd HLo
      go_wp2_with (first | fail)
      go_loopw [13, 43] (fun v x wr => ∃ (j : Nat) (xs : List Value), j ≤ m.code.length ∧ x = .int .i64 j ∧ Hid (Below w4.heap.size w4 wr) ∧ Hid (MRow wr w4.heap.size v (mapsL F j).length xs) ∧ Hid (MapVals wr (mapsL F j) xs)) (fun _ x _ => m.code.length - (intOf x).toNat)
      case atStart => exact ⟨0, [], Nat.zero_le _, rfl, Below.refl _ _, MRow.empty _ _, rfl⟩
      case round =>
        obtain ⟨j, xs, hj, rfl, hB, hR, hV⟩ := hrel
        obtain ⟨va, vc, rfl⟩ := hR.out.shape
        by_cases hjl : j < m.code.length
        · obtain ⟨lv, sv, hlv, hlk⟩ := (HFm.out.keep (R' := FrameAt wr) (hB.out.block mb HFm.out.lt) fun _ _ _ k => k.mono hB.out).look (i := j) (by omega)
          have L1 := hlk wr true rfl
          rw [intV] at L1
          clear hlk
          cases hFj : F j with
          | none =>
            rw [hFj] at L1 hlv
            dsimp only at hlv
            obtain ⟨rfl, rfl⟩ := hlv
            have hmn := mapsL_none hFj
            have HMn := Lib.hid hmn
            clear hFj hmn
            go_wp2_with (first | fail)
            go_roundw
            case rel => exact ⟨j + 1, xs, by omega, by simp, hB.out.alloc hB.out.size _, by unfold Hid; rw [HMn.out]; exact hR.out.below (HA.out _ _), by unfold Hid; rw [HMn.out]; exact hV.out.keepS (KeepS.below (HA.out _ _))⟩
            case measure => simp [intOf]; omega
          | some f =>
            rw [hFj] at L1 hlv
            dsimp only at hlv
            obtain ⟨hfn, hfr⟩ := Hoks.out j f hFj
            obtain ⟨hs1, hs2⟩ := HSf.out f hfr
            obtain ⟨⟨p1, n1, rfl, _⟩, ⟨p2, n2, rfl, _⟩⟩ := And.intro hlv.1.open hlv.2.open
            have hmn := Lib.hid (mapsL_some hFj)
            have Ba := HA.out wr (.cells #[.slice p1 f.locals.length n1, .slice p2 f.stack.length n2] 27)
            have k5 := Blk.new wr 27 [.slice p1 f.locals.length n1, .slice p2 f.stack.length n2]
            have a0 := k5.cell 0
            have a1 := k5.cell 1
            have HBo := Lib.hid (both_any ws (wr.alloc (.cells #[.slice p1 f.locals.length n1, .slice p2 f.stack.length n2] 27)) B l ((HM4.out.step hB.out).step Ba) f f _ _ _ _ (hlv.mono Ba) (hlv.mono Ba) (frm_short hfr) (frm_short hfr) hfr hfr)
            unfold BothPost at HBo
            rw [hs1, hs2] at HBo
            have HBa := Lib.hid (below_call hB.out (Nat.le_refl _) Ba)
            have HRa := Lib.hid (hR.out.below Ba)
            have HVa := Lib.hid (hV.out.keepS (KeepS.below Ba))
            have hml := mapsL_len F j
            have HFj := Lib.hid hFj
            clear hFj hfr hfn hs1 hs2 hlv Ba k5
            go_upto_region 13 with (first | fail)
            generalize wr.alloc (.cells #[.slice p1 f.locals.length n1, .slice p2 f.stack.length n2] 27) = w5 at *
            go_upto_region 14 with (go_at_call 64; (with_reducible refine (HBo.out).mono ?_); rintro e w6 ⟨hB6, ⟨_, v1, v2, rfl, hv6⟩ | ⟨hz, _⟩⟩; rotate_left; (exact absurd hz (by decide)); obtain ⟨⟨p3, n3, rfl, _⟩, ⟨p4, n4, rfl, _⟩⟩ := And.intro hv6.1.open hv6.2.open)
            have B7 := hB6.alloc hB6.size (.cells #[.slice p3 f.locals.length n3, .slice p4 f.stack.length n4] 27)
            have k7 := Blk.new w6 27 [.slice p3 f.locals.length n3, .slice p4 f.stack.length n4]
            have b0 := k7.cell 0
            have b1 := k7.cell 1
            have hv7 := hv6.mono (HA.out w6 (.cells #[.slice p3 f.locals.length n3, .slice p4 f.stack.length n4] 27))
            generalize w6.alloc (.cells #[.slice p3 f.locals.length n3, .slice p4 f.stack.length n4] 27) = w7 at *
            have B8 := B7.alloc B7.size (.cells #[.int .i64 (j : Int), .slice p3 f.locals.length n3, .slice p4 f.stack.length n4] 62)
            have hv8 := hv7.mono (HA.out w7 (.cells #[.int .i64 (j : Int), .slice p3 f.locals.length n3, .slice p4 f.stack.length n4] 62))
            have R8 := HRa.out.below B8
            have V8 := HVa.out.keepS (KeepS.below B8)
            have B8' := below_call HBa.out (Nat.le_refl _) B8
            have k8 := Blk.new w7 62 [.int .i64 (j : Int), .slice p3 f.locals.length n3, .slice p4 f.stack.length n4]
            have HV8 := Lib.hid V8
            have Hv8 := Lib.hid hv8
            have HB8 := Lib.hid B8'
            have h63 : (mapsL F j).length + 1 ≤ maxLen := by unfold maxLen; omega
            have h56 : ((mapsL F j).length + 1) * 56 ≤ 140737488355328 := by omega
            have hbs : w4.heap.size ≤ (w7.alloc (.cells #[.int .i64 (j : Int), .slice p3 f.locals.length n3, .slice p4 f.stack.length n4] 62)).heap.size := B8'.size
            have hone : ∀ u ∈ [Value.int .i64 (j : Int), .slice p3 f.locals.length n3, .slice p4 f.stack.length n4], u.oneCell' = true := fun u hu => by
              simp at hu
              rcases hu with rfl | rfl | rfl <;> rfl
            have hcel : ∀ (i : Nat) (u : Value), [Value.int .i64 (j : Int), .slice p3 f.locals.length n3, .slice p4 f.stack.length n4][i]? = some u → (w7.alloc (.cells #[.int .i64 (j : Int), .slice p3 f.locals.length n3, .slice p4 f.stack.length n4] 62)).cell? ((⟨w7.heap.size, 0, none⟩ : Addr).add i) = some u := fun i u hu => by
              rw [add_eq' rfl, Nat.zero_add, k8.cell]
              exact hu
            clear hB6 hv6 hv7 hv8 V8 B7 k7 B8 B8' k8
            go_wp2_with (at_builtin; go_must (refine wpList_append_mrow rfl _ _ rfl w4.heap.size _ (mapsL F j).length xs rfl R8 hbs (.int .i64 (j : Int)) (.slice p3 f.locals.length n3) (.slice p4 f.stack.length n4) ⟨w7.heap.size, 0, none⟩ 1 rfl hcel hone (by simp [NoText]) h63 h56 ?_); intro v9 w9 hR9 hg9 _; (have HR9 := Lib.hid hR9); (have Hg9 := Lib.hid hg9); (have HS9 := Lib.hid (R8.keepS hg9)); obtain ⟨a9, c9, rfl⟩ := hR9.shape)
            go_roundw
            case rel =>
              refine ⟨j + 1, xs ++ [.int .i64 (j : Int), .slice p3 f.locals.length n3, .slice p4 f.stack.length n4], by omega, by simp, HB8.out.grown Hg9.out HB8.out.size (fun g e => (MRow.lt R8 g e).1), ?_, ?_⟩
              · unfold Hid
                rw [hmn.out, List.length_append]
                exact HR9.out
              · unfold Hid
                rw [hmn.out]
                exact MapVals.snoc (Hv8.out.keepS HS9.out) (HV8.out.keepS HS9.out)
            case measure => simp [intOf]; omega
        · obtain rfl : j = m.code.length := by omega
          go_wp2_with (first | fail)
          go_ret2
          exact ⟨below_call HB4.out (Nat.le_refl _) hB.out, 0, some (m, F), Or.inr ⟨HZ.out, m, args, g, many, HNm2.out.1, HNm2.out.2, HG.out, some F, HFF.out, rfl, rfl⟩, _, rfl, hR.out.maps hV.out⟩
    · have HEx := Lib.hid hex
      clear hex
      go_upto_region 5 with (go_at_call 63; (with_reducible refine (HLo.out).mono ?_); rintro e w4 ⟨hB4, ⟨F, mb, hF, _⟩ | ⟨hF, rfl⟩⟩; (exact absurd ⟨F, hF⟩ HEx.out))
      have HFF := Lib.hid hF
      have HB4 := Lib.hid (below_call HB3.out (Nat.le_refl _) hB4)
      clear hF hB4 m0 m1 m2 m3 m4 m5 m6 m7 HLo
      go_wp2_with (first | fail)
      go_ret2
      exact ⟨HB4.out, 7, none, Or.inr ⟨HZ.out, m, args, g, many, HNm2.out.1, HNm2.out.2, HG.out, none, HFF.out, rfl, rfl⟩, by decide, rfl⟩
  · have HZ := Lib.hid hz
    clear hz
    go_enter Tryz.func25, Tryz.ntmps25
    go_wp2_with (go_at_call 62; (with_reducible refine (HNm.out).mono ?_); rintro e w2 ⟨hB2, ⟨hz, _⟩ | ⟨_, rfl⟩⟩; (exact absurd hz HZ.out))
    go_ret2
    exact ⟨hB2.alloc hB2.size _, _, none, Or.inl ⟨HZ.out, rfl, rfl⟩, HZ.out, rfl⟩
end Go.Proofs.YtlmfmioljeppfaaGreatDoor
