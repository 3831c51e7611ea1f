/-
  WALK over the law JoinTells. Conditions: as in XRead; texts of at most 4194304 signs.
-/
import Derived.Test.YtpjkpmmjehnahaaGreatDoorRefJoin
import Derived.Test.YtpjkpmmjehnahaaGreatDoorJoinLattice
namespace Go.Proofs.YtpjkpmmjehnahaaGreatDoor
open Go.RowKit Go.Shelf Go.Lib
theorem kindsZero {l : List Class} {a b : Str} (h : kindsFault l a b = 0) : kindR (allC l) a = 0 ∧ kindR (allC l) b = 0 := by
  unfold kindsFault at h
  by_cases h0 : readFault l = 0
  · rw [if_neg (by simpa using h0)] at h
    rcases kindR_cases (allC l) a with g | g | g <;> rcases kindR_cases (allC l) b with k | k | k <;> simp [g, k] at h ⊢
  · rw [if_pos h0] at h; exact absurd h h0
set_option maxHeartbeats 4000000 in
set_option maxRecDepth 100000 in
theorem joinTells_any (l : List Class) (lv : Value) (a b : Str) (w : World) (hl : Laid w) (ho : ∀ c ∈ l, ClassOk c) (hlv : ClassesAt w lv l) (ha : a.size ≤ 4194304) (hb : b.size ≤ 4194304) :
    Calls Tryz.prog 10 #[lv, .string a, .string b] w fun e w' => e = .returned (.bool true) ∧ Below w.heap.size w w' := by
  have HCat : Hid (∀ wx, Below w.heap.size w wx → _) := fun wx hb => catJoins_any wx (hl.mono hb hl.1)
  have ma : a.size ≤ maxLen := Nat.le_trans ha (by decide)
  have mb : b.size ≤ maxLen := Nat.le_trans hb (by decide)
  have HK : Hid (∀ wx, Below w.heap.size w wx → _) := fun wx h => refKinds_any l lv a b wx ho (hlv.mono h) ma mb
  have HE : Hid (∀ wx, _) := fun wx => error_any (kindsFault l a b) (kindsFault l a b) wx
  rw [decide_eq_true rfl] at HE
  by_cases hf : kindsFault l a b = 0
  · obtain ⟨hR, h0, ⟨x, hx⟩, y, hy⟩ := kinds_of hf
    obtain ⟨hka, hkb⟩ := kindsZero hf
    have HJ : Hid (∀ wx, Below w.heap.size w wx → _) := fun wx h => join_yes l lv a b wx (hl.mono h hl.1) ho (hlv.mono h) ha hb hf x y hx hy
    have HBe : Hid (∀ wx, Below w.heap.size w wx → _) := fun wx h => below_yes l lv a b wx (hl.mono h hl.1) ho (hlv.mono h) ha hb hf x y hx hy
    have HRJ : Hid (∀ wx, Below w.heap.size w wx → _) := fun wx h => refJoin_any l lv hR (read_faults h0) wx (hlv.mono h) a b x y hx hy (kindR_deep hx hka) (kindR_deep hy hkb) ha hb
    unfold JoinGives at HJ
    unfold OfPost at HRJ
    replace HE : Hid (∀ wx, Calls Tryz.prog 16 #[.nilIface, .int .i64 0] wx fun e w' => e = .returned (.bool true) ∧ wx = w') := fun wx => error_any 0 0 wx
    replace HK : Hid (∀ wx, Below w.heap.size w wx → Calls Tryz.prog 37 #[lv, .string a, .string b] wx fun e w' => e = .returned (.int .i64 0) ∧ Below wx.heap.size wx w') := fun wx h => by
      have := HK.out wx h
      rw [hf] at this
      exact this
    have hsame : Hid (∀ z z2 : Str, IsKd (allC l) z (joinKd (allC l) x y) → kdText (joinKd (allC l) x y) = lst z2 → z2 = z) := fun z z2 h1 h2 => ByteArray.ext (Array.toList_inj.1 (h2.symm.trans h1.1))
    have hbel : Hid (∀ z : Str, IsKd (allC l) z (joinKd (allC l) x y) → (z.toList == b.toList) = decide (joinKd (allC l) x y = y)) := fun z h => kd_same h.1 hy.1
    obtain ⟨pl, cap, rfl, _⟩ := hlv.open
    clear hl ho hlv ha hb ma mb hf hR h0 hka hkb hx hy
    generalize decide (joinKd (allC l) x y = y) = q at *
    generalize joinKd (allC l) x y = r at *
    cases q
    all_goals
      go_enter Tryz.func10, Tryz.ntmps10
      go_wp2_with (first
        | (go_at_call 42; (with_reducible refine (HCat.out _ (Below.refl _ _)).mono ?_); rintro e w2 ⟨rfl, hB2⟩)
        | (go_at_call 37; (with_reducible refine (HK.out _ hB2).mono ?_); rintro e w3 ⟨rfl, hB3'⟩; (have hB3 := below_call hB2 (Nat.le_refl _) hB3'); clear hB3')
        | (go_at_call 43; (with_reducible refine (HJ.out _ hB3).mono ?_); rintro e w4 ⟨z, rfl, hz, _, hB4'⟩; (have hB4 := below_call hB3 (Nat.le_refl _) hB4'); clear hB4'; (have hzb := hbel.out z hz))
        | (go_at_call 16; (with_reducible refine (HE.out _).mono ?_); rintro e w5 ⟨rfl, rfl⟩)
        | (go_at_call 44; (with_reducible refine (HBe.out _ hB4).mono ?_); rintro e w6 ⟨rfl, hB6'⟩; (have hB6 := below_call hB4 (Nat.le_refl _) hB6'); clear hB6')
        | (go_at_call 45; (with_reducible refine (HRJ.out _ hB6).mono ?_); rintro e w7 ⟨⟨z2, rfl, hz2, _⟩, hB7'⟩; (have hB7 := below_call hB6 (Nat.le_refl _) hB7'); clear hB7'; obtain rfl := hsame.out z z2 hz hz2; (have hzz := str_same z2)))
      go_ret
      exact ⟨by simp, hB7⟩
  · have HJ : Hid (∀ wx, Below w.heap.size w wx → _) := fun wx h => join_no l lv a b wx (hl.mono h hl.1) ho (hlv.mono h) ma mb hf
    have HBe : Hid (∀ wx, Below w.heap.size w wx → _) := fun wx h => below_no l lv a b wx (hl.mono h hl.1) ho (hlv.mono h) ma mb hf
    rcases errV_cases (kindsFault l a b) with ⟨_, hz⟩ | ⟨hv, _⟩
    · exact absurd hz hf
    rw [hv] at HE
    have hz2 : (((kindsFault l a b : Nat) : Int) == 0) = false := by simp; omega
    obtain ⟨pl, cap, rfl, _⟩ := hlv.open
    clear hl ho hlv ha hb ma mb hf hv
    generalize kindsFault l a b = f at *
    go_enter Tryz.func10, Tryz.ntmps10
    go_wp2_with (first
      | (go_at_call 42; (with_reducible refine (HCat.out _ (Below.refl _ _)).mono ?_); rintro e w2 ⟨rfl, hB2⟩)
      | (go_at_call 37; (with_reducible refine (HK.out _ hB2).mono ?_); rintro e w3 ⟨rfl, hB3'⟩; (have hB3 := below_call hB2 (Nat.le_refl _) hB3'); clear hB3')
      | (go_at_call 43; (with_reducible refine (HJ.out _ hB3).mono ?_); rintro e w4 ⟨rfl, hB4'⟩; (have hB4 := below_call hB3 (Nat.le_refl _) hB4'); clear hB4')
      | (go_at_call 16; (with_reducible refine (HE.out _).mono ?_); rintro e w5 ⟨rfl, rfl⟩)
      | (go_at_call 44; (with_reducible refine (HBe.out _ hB4).mono ?_); rintro e w6 ⟨rfl, hB6'⟩; (have hB6 := below_call hB4 (Nat.le_refl _) hB6'); clear hB6'))
    go_ret
    exact ⟨by simp, hB6⟩
end Go.Proofs.YtpjkpmmjehnahaaGreatDoor
