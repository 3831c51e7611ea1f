/-
  WALKS over lay.At, Fields, Place. Conditions: as in XRead; names of at most maxLen signs.
-/
import Derived.Test.YtpjkpmmjehnahaaGreatDoorLay
import Derived.Test.YtpjkpmmjehnahaaGreatDoorFindOne
namespace Go.Proofs.YtpjkpmmjehnahaaGreatDoor
open Go.RowKit Go.Shelf Go.Lib
set_option maxHeartbeats 4000000 in
set_option maxRecDepth 100000 in
theorem layAt_any (w0 w : World) (B : Nat) (l : List Class) (hm : WorldMap w0 w B l) (c n : Str) (hk : (findC (allC l) c).isSome = true) :
    Calls Tryz.prog 67 #[.map (some B), .string c, .string n] w fun e w' => e = .returned (.int .i64 (idxV (placeC (allC l) c n))) ∧ Below w.heap.size w w' := by
  have HF := Lib.hid (fieldOf_any w0 w B l hm c n hk)
  have HSl : Hid (∀ wx, Below w.heap.size w wx → _) := fun wx hb => laySlots_any w0 wx B l (hm.step hb) c hk
  unfold TrioPost at HSl
  have hsm := lay_small hm.right hm.faults hk
  have hpl := place_of hm.right (n := n) hk
  clear hm hk
  generalize placeC (allC l) c n = pl at *
  generalize layC (allC l) c = S at *
  cases hq : fieldC (allC l) c n with
  | none =>
    rw [hq] at hpl HF
    simp only [fieldV] at HF
    replace hpl : pl = none := hpl
    subst hpl
    clear hq
    go_enter Tryz.func67, Tryz.ntmps67
    go_wp2_with (go_at_call 60; (with_reducible refine HF.out.mono ?_); rintro e w3 ⟨rfl, hB3⟩)
    go_ret
    exact ⟨rfl, hB3.alloc hB3.size _⟩
  | some x =>
    rw [hq] at hpl HF
    obtain ⟨a, f⟩ := x
    obtain ⟨k, hp, hi⟩ : ∃ k, pl = some k ∧ idxIn (a, f) S = some k := hpl
    subst hp
    simp only [fieldV] at HF
    have HI := Lib.hid hi
    have HIx : Hid (∀ (base : Nat) (p : Option Addr) (cap : Nat) (wx : World), wx.ownsRow base 121 3 (.slice p S.length cap) S.length (S.flatMap laySlotV) → _) := fun base p cap wx h => indexSlot_any S base p cap (a, f) wx h hsm
    rw [hi] at HIx
    dsimp only at HIx
    clear hq hi
    go_enter Tryz.func67, Tryz.ntmps67
    go_upto_region 4 with (go_at_call 60; (with_reducible refine HF.out.mono ?_); rintro e w3 ⟨rfl, hB3⟩)
    have BX := boxed_new w3 #[.string f.name, .string f.type] 50
    have hB4 := below_call hB3 (Nat.le_refl _) BX.below
    generalize w3.alloc (.cells #[.string f.name, .string f.type] 50) = w4 at *
    obtain ⟨z0, z1, _⟩ := BX.cells
    have hlt := BX.size
    have HB4 := Lib.hid hB4
    clear BX hB4 hB3
    go_region_with (first
      | (go_at_call 90; (with_reducible refine (HSl.out _ HB4.out.drew).mono ?_); rintro e w5 ⟨⟨v5, rfl, hv5⟩, hB5⟩; obtain ⟨p5, k5, rfl⟩ := ownsRow_shape hv5; (have y0 := (hB5.cell (p := ⟨w3.heap.size, 0, none⟩) hlt).trans z0); (have y1 := (hB5.cell (p := ⟨w3.heap.size, 1, none⟩) hlt).trans z1); (have HIx5 := Lib.hid (HIx.out _ _ _ _ hv5)); (have HB5 := Lib.hid (below_call HB4.out.drew (Nat.le_refl _) hB5)))
      | (go_at_call 91; (with_reducible refine HIx5.out.mono ?_); rintro e w6 ⟨rfl, hB6⟩))
    all_goals
      go_wp2
      go_ret
      exact ⟨rfl, below_call HB5.out (Nat.le_refl _) hB6⟩
set_option maxHeartbeats 1000000 in
set_option maxRecDepth 100000 in
theorem layFields_any (l : List Class) (lv : Value) (c : Str) (w : World) (hl : Laid w) (ho : ∀ c ∈ l, ClassOk c) (hlv : ClassesAt w lv l) (hn : c.size ≤ maxLen) :
    Calls Tryz.prog 31 #[lv, .string c] w (ListPost w (namedFault l c) (typesOf (layC (allC l) c))) := by
  have HW := Lib.hid (with_any l lv c w hl ho hlv hn)
  have HT : Hid (∀ w0 wx B, WorldMap w0 wx B l → (findC (allC l) c).isSome = true → _) := fun w0 wx B hm hk => layTypes_any w0 wx B l hm c hk
  unfold RowPost at HT
  unfold WithPost at HW
  obtain ⟨pl, capl, rfl, _⟩ := hlv.open
  clear hl ho hlv hn
  by_cases hz : namedFault l c = 0
  · have HZ := Lib.hid hz
    clear hz
    go_enter Tryz.func31, Tryz.ntmps31
    go_wp2_with (first
      | (go_at_call 57; (with_reducible refine HW.out.mono ?_); rintro e w2 ⟨hB2, ⟨_, rfl, hN⟩ | ⟨hz, _⟩⟩; rotate_left; (exact absurd HZ.out hz))
      | (go_at_call 66; (with_reducible refine (HT.out _ _ _ hN.world hN.known).mono ?_); rintro e w3 ⟨⟨v, rfl, hv⟩, hB3⟩))
    go_ret2
    exact list_yes (below_call hB2 (Nat.le_refl _) hB3) HZ.out (strsAt_of_owns hv)
  · have HZ := Lib.hid hz
    clear hz HT
    go_enter Tryz.func31, Tryz.ntmps31
    go_wp2_with (go_at_call 57; (with_reducible refine HW.out.mono ?_); rintro e w2 ⟨hB2, ⟨hz, _⟩ | ⟨_, rfl⟩⟩; (exact absurd hz HZ.out))
    go_ret2
    exact list_no hB2 HZ.out
def placeN (l : List Class) (c n : Str) : Nat := if namedFault l c = 0 then (placeC (allC l) c n).getD 0 else 0
def placeFaultN (l : List Class) (c n : Str) : Nat := if namedFault l c = 0 then (if (placeC (allC l) c n).isSome then 0 else 3) else namedFault l c
set_option maxHeartbeats 1000000 in
set_option maxRecDepth 100000 in
theorem layPlace_any (l : List Class) (lv : Value) (c n : Str) (w : World) (hl : Laid w) (ho : ∀ c ∈ l, ClassOk c) (hlv : ClassesAt w lv l) (hn : c.size ≤ maxLen) :
    Calls Tryz.prog 32 #[lv, .string c, .string n] w fun e w' => e = .returned (.tuple #[.int .i64 (placeN l c n), errV (placeFaultN l c n)]) ∧ Below w.heap.size w w' := by
  have HW := Lib.hid (with_any l lv c w hl ho hlv hn)
  have HT : Hid (∀ w0 wx B, WorldMap w0 wx B l → (findC (allC l) c).isSome = true → _) := fun w0 wx B hm hk => layAt_any w0 wx B l hm c n hk
  unfold WithPost at HW
  obtain ⟨pl, capl, rfl, _⟩ := hlv.open
  clear hl ho hlv hn
  by_cases hz : namedFault l c = 0
  · have HZ := Lib.hid hz
    have h1 : placeN l c n = (placeC (allC l) c n).getD 0 := by unfold placeN; rw [if_pos hz]
    have h2 : placeFaultN l c n = if (placeC (allC l) c n).isSome then 0 else 3 := by unfold placeFaultN; rw [if_pos hz]
    rw [h1, h2]
    clear hz h1 h2
    generalize placeC (allC l) c n = o at *
    cases o with
    | none =>
      simp only [idxV] at HT
      go_enter Tryz.func32, Tryz.ntmps32
      go_wp2_with (first
        | (go_at_call 57; (with_reducible refine HW.out.mono ?_); rintro e w2 ⟨hB2, ⟨_, rfl, hN⟩ | ⟨hz, _⟩⟩; rotate_left; (exact absurd HZ.out hz))
        | (go_at_call 67; (with_reducible refine (HT.out _ _ _ hN.world hN.known).mono ?_); rintro e w3 ⟨rfl, hB3⟩))
      go_ret2
      exact ⟨rfl, below_call hB2 (Nat.le_refl _) hB3⟩
    | some k =>
      simp only [idxV] at HT
      have hk0 : decide ((k : Int) < 0) = false := by simp
      go_enter Tryz.func32, Tryz.ntmps32
      go_wp2_with (first
        | (go_at_call 57; (with_reducible refine HW.out.mono ?_); rintro e w2 ⟨hB2, ⟨_, rfl, hN⟩ | ⟨hz, _⟩⟩; rotate_left; (exact absurd HZ.out hz))
        | (go_at_call 67; (with_reducible refine (HT.out _ _ _ hN.world hN.known).mono ?_); rintro e w3 ⟨rfl, hB3⟩))
      go_ret2
      exact ⟨rfl, below_call hB2 (Nat.le_refl _) hB3⟩
  · have HZ := Lib.hid hz
    have h1 : placeN l c n = 0 := by unfold placeN; rw [if_neg hz]
    have h2 : placeFaultN l c n = namedFault l c := by unfold placeFaultN; rw [if_neg hz]
    rw [h1, h2]
    rcases errV_cases (namedFault l c) with ⟨_, h0⟩ | ⟨hv, _⟩
    · exact absurd h0 hz
    rw [hv]
    clear hz HT h1 h2 hv
    generalize namedFault l c = f at *
    go_enter Tryz.func32, Tryz.ntmps32
    go_wp2_with (go_at_call 57; (with_reducible refine HW.out.mono ?_); rintro e w2 ⟨hB2, ⟨hz, _⟩ | ⟨_, rfl⟩⟩; (exact absurd hz HZ.out))
    go_ret2
    exact ⟨rfl, hB2⟩
end Go.Proofs.YtpjkpmmjehnahaaGreatDoor
