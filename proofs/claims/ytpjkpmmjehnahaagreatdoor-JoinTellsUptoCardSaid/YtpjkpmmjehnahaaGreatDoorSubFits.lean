/-
  WALKS over sub.Read, Fits, Is and the law's catIs. Conditions: as in XRead; texts of at most maxLen signs.
-/
import Derived.Test.YtpjkpmmjehnahaaGreatDoorSub
import Derived.Test.YtpjkpmmjehnahaaGreatDoorBeasts
import Derived.Test.YtpjkpmmjehnahaaGreatDoorRow
import Derived.Test.YtpjkpmmjehnahaaGreatDoorFaults
namespace Go.Proofs.YtpjkpmmjehnahaaGreatDoor
open Go.RowKit Go.Shelf Go.Lib
theorem cmp01 (w : World) : (binOp .eql 29 .nilIface (.iface 24 (.int .i64 1))).run Tryz.prog w = .ok (.bool false) w := by kernel_rfl
theorem cmp11 (w : World) : (binOp .eql 29 (.iface 24 (.int .i64 1)) (.iface 24 (.int .i64 1))).run Tryz.prog w = .ok (.bool true) w := by kernel_rfl
theorem cmp31 (w : World) : (binOp .eql 29 (.iface 24 (.int .i64 3)) (.iface 24 (.int .i64 1))).run Tryz.prog w = .ok (.bool false) w := by kernel_rfl
def SubPost (w : World) (l : List Class) (a b : Str) (e : Ending) (w' : World) : Prop :=
  Below w.heap.size w w' ∧
  ((kindsFault l a b = 0 ∧ e = .returned (.tuple #[.map (some w.heap.size), .nilIface]) ∧ WorldMap w w' w.heap.size l) ∨
   (kindsFault l a b ≠ 0 ∧ e = .returned (.tuple #[.map none, .iface 24 (.int .i64 (kindsFault l a b))])))
theorem sub_no {w w' : World} {l : List Class} {a b : Str} {k : Nat} (hb : Below w.heap.size w w') (h : kindsFault l a b = k) (hn : k ≠ 0) : SubPost w l a b (.returned (.tuple #[.map none, .iface 24 (.int .i64 k)])) w' := by
  subst h; exact ⟨hb, Or.inr ⟨hn, rfl⟩⟩
set_option maxHeartbeats 1000000 in
set_option maxRecDepth 100000 in
theorem subRead_any (l : List Class) (lv : Value) (a b : Str) (w : World) (hl : Laid w) (ho : ∀ c ∈ l, ClassOk c) (hlv : ClassesAt w lv l) (ha : a.size ≤ maxLen) (hb : b.size ≤ maxLen) :
    Calls Tryz.prog 70 #[lv, .string a, .string b] w (SubPost w l a b) := by
  have HRd := Lib.hid (read_any l lv w hl ho hlv)
  obtain ⟨pl, cap, rfl, _⟩ := hlv.open
  clear hl ho hlv
  by_cases hz : readFault l = 0
  · have HR := Lib.hid (right_of hz)
    have HF : Hid (kindsFault l a b = if kindR (allC l) a = 1 ∨ kindR (allC l) b = 1 then 1 else if kindR (allC l) a ≠ 0 ∨ kindR (allC l) b ≠ 0 then 3 else 0) := by unfold Hid kindsFault; rw [if_neg (by rw [hz]; decide)]
    have HZ := Lib.hid hz
    have HK : Hid (∀ (wx : World) (k : Str), k.size ≤ maxLen → ClassMap w wx w.heap.size (allC l) → ((allC l).map (·.name)).Nodup → _) := fun wx k hs hm hn => kind_any w wx w.heap.size (allC l) hm hn k hs
    have hca := kindR_cases (allC l) a
    have hcb := kindR_cases (allC l) b
    have k1 := cmp01
    have k2 := cmp11
    have k3 := cmp31
    have e0 : errV 0 = .nilIface := rfl
    have e1 : errV 1 = .iface 24 (.int .i64 1) := rfl
    have e3 : errV 3 = .iface 24 (.int .i64 3) := rfl
    have HKa : Hid (∀ wx, ClassMap w wx w.heap.size (allC l) → ((allC l).map (·.name)).Nodup → _) := fun wx hm hn => HK.out wx a ha hm hn
    have HKb : Hid (∀ wx, ClassMap w wx w.heap.size (allC l) → ((allC l).map (·.name)).Nodup → _) := fun wx hm hn => HK.out wx b hb hm hn
    clear hz HK ha hb
    generalize kindR (allC l) a = x at *
    generalize kindR (allC l) b = y at *
    rcases hca with rfl | rfl | rfl <;> rcases hcb with rfl | rfl | rfl
    all_goals
      have hf := HF.out
      simp only [e0, e1, e3] at HKa HKb
      clear HF e0 e1 e3
      simp at hf
      have HF := Lib.hid hf
      clear hf
      go_enter Tryz.func70, Tryz.ntmps70
      go_upto_region 4 with (go_at_call 55; (with_reducible refine HRd.out.mono ?_); rintro e w2 ⟨hB2, ⟨_, rfl, hM, hN, hA, hC, hL⟩ | ⟨hz, _⟩⟩; rotate_left; (exact absurd HZ.out hz))
      have HM := Lib.hid hM
      have HN := Lib.hid hN
      have HA := Lib.hid hA
      clear hM hN hA hC hL
      go_wp2_with (first
        | (go_at_call 92; (have hB3' := hB3); (with_reducible refine (HKb.out _ (HM.out.step hB3) HN.out).mono ?_); rintro e w4 ⟨rfl, hB4⟩; (have hB5 := below_call hB3 (Nat.le_refl _) hB4))
        | (go_at_call 92; (with_reducible refine (HKa.out _ HM.out HN.out).mono ?_); rintro e w3 ⟨rfl, hB3⟩))
      go_ret2
      first
        | exact sub_no (below_call hB2 (Nat.le_refl _) hB5) HF.out (by decide)
        | exact ⟨below_call hB2 (Nat.le_refl _) hB5, Or.inl ⟨HF.out, rfl, HM.out.step hB5, HR.out, HA.out⟩⟩
  · have HF : Hid (kindsFault l a b = readFault l) := by unfold Hid kindsFault; rw [if_pos hz]
    have HZ := Lib.hid hz
    clear hz ha hb
    go_enter Tryz.func70, Tryz.ntmps70
    go_wp2_with (go_at_call 55; (with_reducible refine HRd.out.mono ?_); rintro e w2 ⟨hB2, ⟨hz, _⟩ | ⟨_, rfl⟩⟩; (exact absurd hz HZ.out))
    go_ret2
    exact sub_no hB2 HF.out HZ.out
set_option maxRecDepth 100000 in
theorem fits_no (l : List Class) (lv : Value) (a b : Str) (w : World) (hl : Laid w) (ho : ∀ c ∈ l, ClassOk c) (hlv : ClassesAt w lv l) (ha : a.size ≤ maxLen) (hb : b.size ≤ maxLen) (hf : kindsFault l a b ≠ 0) :
    Calls Tryz.prog 38 #[lv, .string a, .string b] w fun e w' => e = .returned (.tuple #[.bool false, .iface 24 (.int .i64 (kindsFault l a b))]) ∧ Below w.heap.size w w' := by
  have HRd := Lib.hid (subRead_any l lv a b w hl ho hlv ha hb)
  obtain ⟨pl, cap, rfl, _⟩ := hlv.open
  have HF := Lib.hid hf
  clear hl ho hlv ha hb hf
  unfold SubPost at HRd
  generalize kindsFault l a b = f at *
  go_enter Tryz.func38, Tryz.ntmps38
  go_wp2_with (go_at_call 70; (with_reducible refine HRd.out.mono ?_); rintro e w2 ⟨hB2, ⟨hz, _⟩ | ⟨_, rfl⟩⟩; (exact absurd hz HF.out))
  go_ret2
  exact ⟨rfl, hB2⟩
set_option maxRecDepth 100000 in
theorem fits_yes (l : List Class) (lv : Value) (a b : Str) (w : World) (hl : Laid w) (ho : ∀ c ∈ l, ClassOk c) (hlv : ClassesAt w lv l) (ha : a.size ≤ maxLen) (hb : b.size ≤ maxLen) (hf : kindsFault l a b = 0) (x y : Kd) (hx : IsKd (allC l) a x) (hy : IsKd (allC l) b y) :
    Calls Tryz.prog 38 #[lv, .string a, .string b] w fun e w' => e = .returned (.tuple #[.bool (fitsKd (allC l) x y), .nilIface]) ∧ Below w.heap.size w w' := by
  have HRd := Lib.hid (subRead_any l lv a b w hl ho hlv ha hb)
  obtain ⟨pl, cap, rfl, _⟩ := hlv.open
  have HF := Lib.hid hf
  have HD : Hid (∀ (w0 wx : World) B, WorldMap w0 wx B l → _) := fun w0 wx B hm => does_any w0 wx B l hm a b x y hx hy ha hb
  clear hl ho hlv ha hb hf hx hy
  unfold SubPost at HRd
  generalize kindsFault l a b = f at *
  generalize fitsKd (allC l) x y = r at *
  go_enter Tryz.func38, Tryz.ntmps38
  go_wp2_with (first
    | (go_at_call 70; (with_reducible refine HRd.out.mono ?_); rintro e w2 ⟨hB2, ⟨_, rfl, hm⟩ | ⟨hz, _⟩⟩; rotate_left; (exact absurd HF.out hz))
    | (go_at_call 71; (with_reducible refine (HD.out _ _ _ hm).mono ?_); rintro e w3 ⟨rfl, hB3⟩))
  go_ret2
  exact ⟨rfl, below_call hB2 (Nat.le_refl _) hB3⟩
/-- .. whatever the kinds are -/
def FitsSome (w : World) (e : Ending) (w' : World) : Prop := ∃ r v, e = .returned (.tuple #[.bool r, v]) ∧ Below w.heap.size w w'
theorem fits_some (l : List Class) (lv : Value) (a b : Str) (w : World) (hl : Laid w) (ho : ∀ c ∈ l, ClassOk c) (hlv : ClassesAt w lv l) (ha : a.size ≤ maxLen) (hb : b.size ≤ maxLen) :
    Calls Tryz.prog 38 #[lv, .string a, .string b] w (FitsSome w) := by
  by_cases hf : kindsFault l a b = 0
  · obtain ⟨_, _, ⟨x, hx⟩, y, hy⟩ := kinds_of hf
    exact (fits_yes l lv a b w hl ho hlv ha hb hf x y hx hy).mono fun e w' ⟨h1, h2⟩ => ⟨_, _, h1, h2⟩
  · exact (fits_no l lv a b w hl ho hlv ha hb hf).mono fun e w' ⟨h1, h2⟩ => ⟨_, _, h1, h2⟩
set_option maxRecDepth 100000 in
theorem is_yes (l : List Class) (lv : Value) (a b : Str) (w : World) (hl : Laid w) (ho : ∀ c ∈ l, ClassOk c) (hlv : ClassesAt w lv l) (ha : a.size ≤ maxLen) (hb : b.size ≤ maxLen) (hf : namedFault l a = 0) (hk : (findC (allC l) b).isSome = true) :
    Calls Tryz.prog 40 #[lv, .string a, .string b] w fun e w' => e = .returned (.tuple #[.bool (memB (everyC (allC l) a) b), .nilIface]) ∧ Below w.heap.size w w' := by
  have HW := Lib.hid (with_any l lv a w hl ho hlv ha)
  obtain ⟨pl, cap, rfl, _⟩ := hlv.open
  have HF := Lib.hid hf
  have HCon : Hid (∀ v wx, StrsAt wx v (sortS (everyC (allC l) a)) → _) := fun v wx h => contains_any (sortS (everyC (allC l) a)) v b wx h
  rw [memB_sort] at HCon
  have HK := Lib.hid hk
  have HB := Lib.hid hb
  clear hl ho hlv ha hb hf hk
  unfold WithPost at HW
  generalize namedFault l a = f at *
  generalize hr : memB (everyC (allC l) a) b = r at *
  have HR := Lib.hid hr
  clear hr
  go_enter Tryz.func40, Tryz.ntmps40
  go_upto_region 4 with (go_at_call 57; (with_reducible refine HW.out.mono ?_); rintro e w2 ⟨hB2, ⟨_, rfl, hN⟩ | ⟨hz, _⟩⟩; rotate_left; (exact absurd HF.out hz))
  obtain ⟨p1, k1, p2, k2, p3, k3, _, _, _, hlk, _⟩ := hN.map.look2 hN.right.nodup b HB.out
  rw [HK.out] at hlk
  generalize (findC (allC l) b).getD noClass = d at *
  obtain ⟨n2, s2, f2, b2, d2, m2⟩ := d
  unfold classV at hlk
  dsimp only at hlk
  have hBa : Below w2.heap.size w2 (w2.alloc (.cells #[.string n2, .string s2, .slice p1 f2.length k1, .bool b2, .slice p2 d2.length k2, .slice p3 m2.length k3] 37)) := (Below.refl _ _).alloc (Nat.le_refl _) _
  have HEv := Lib.hid (every_any w _ _ (allC l) (hN.map.step hBa) hN.right.nodup (allC_small hN.faults) hN.right.small hN.right.closed a hN.known)
  have HBa := Lib.hid (below_call hB2 (Nat.le_refl _) hBa)
  clear hN hB2 hBa
  go_wp2_with (first
    | (go_at_call 75; (with_reducible refine HEv.out.mono ?_); rintro e w4 ⟨⟨v, rfl, hv⟩, hB4⟩)
    | (go_at_call 74; (with_reducible refine (HCon.out _ _ hv).mono ?_); rintro e w5 ⟨rfl, rfl⟩))
  go_ret2
  exact ⟨rfl, below_call HBa.out (Nat.le_refl _) hB4⟩
theorem cats_beast : namedFault beastsL sBeast = 0 ∧ memB (everyC (allC beastsL) sCat) sBeast = true ∧ memB (everyC (allC beastsL) sBeast) sCat = false := by decide +kernel
set_option maxRecDepth 100000 in
theorem catIs_any (w : World) (hl : Laid w) : Calls Tryz.prog 36 #[] w fun e w' => e = .returned (.bool true) ∧ Below w.heap.size w w' := by
  have HS : Hid (∀ wx lv, Below w.heap.size w wx → ClassesAt wx lv beastsL → _) := fun wx lv hb h => is_yes beastsL lv sCat sBeast wx (hl.mono hb hl.1) beasts_ok h (by decide) (by decide) beasts_fault (by decide)
  have HS2 : Hid (∀ wx lv, Below w.heap.size w wx → ClassesAt wx lv beastsL → _) := fun wx lv hb h => is_yes beastsL lv sBeast sCat wx (hl.mono hb hl.1) beasts_ok h (by decide) (by decide) cats_beast.1 (by decide)
  rw [cats_beast.2.1] at HS
  rw [cats_beast.2.2] at HS2
  have HB : Hid (∀ wx, _) := fun wx => beasts_any wx
  simp only [sCat, sBeast] at HS HS2
  go_enter Tryz.func36, Tryz.ntmps36
  go_wp2_with (first
    | (go_at_call 68; (have hB4' := hB4); (with_reducible refine (HB.out _).mono ?_); rintro e w5 ⟨⟨v5, rfl, hv5⟩, hB5⟩; obtain ⟨pb5, kb5, rfl, _⟩ := hv5.open; (have hB6 := below_call hB4 (Nat.le_refl _) hB5))
    | (go_at_call 68; (with_reducible refine (HB.out _).mono ?_); rintro e w2 ⟨⟨v, rfl, hv⟩, hB2⟩; obtain ⟨pb, kb, rfl, _⟩ := hv.open)
    | (go_at_call 40; (with_reducible refine (HS2.out _ _ hB6 hv5).mono ?_); rintro e w7 ⟨rfl, hB7⟩)
    | (go_at_call 40; (with_reducible refine (HS.out _ _ hB2 hv).mono ?_); rintro e w3 ⟨rfl, hB3⟩; (have hB4 := below_call hB2 (Nat.le_refl _) hB3)))
  go_ret
  exact ⟨rfl, below_call hB6 (Nat.le_refl _) hB7⟩
end Go.Proofs.YtpjkpmmjehnahaaGreatDoor
