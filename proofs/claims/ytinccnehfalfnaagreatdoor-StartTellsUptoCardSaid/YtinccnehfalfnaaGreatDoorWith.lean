/-
  WALK over world.With: a right world and a class that is there. Conditions: as in XRead.
-/
import Derived.Test.YtinccnehfalfnaaGreatDoorLine
namespace Go.Proofs.YtinccnehfalfnaaGreatDoor
open Go.RowKit Go.Shelf Go.Lib
def namedFault (l : List Class) (n : Str) : Nat := if readFault l ≠ 0 then readFault l else if (findC (allC l) n).isSome then 0 else 3
structure Named (w0 : World) (l : List Class) (n : Str) (w : World) (B : Nat) : Prop where
  map : ClassMap w0 w B (allC l)
  right : Right l
  faults : ∀ c ∈ l, classFault c = 0
  known : (findC (allC l) n).isSome = true
def WithPost (w : World) (l : List Class) (n : Str) (e : Ending) (w' : World) : Prop :=
  Below w.heap.size w w' ∧
  ((namedFault l n = 0 ∧ e = .returned (.tuple #[.map (some w.heap.size), .nilIface]) ∧ Named w l n w' w.heap.size) ∨
   (namedFault l n ≠ 0 ∧ e = .returned (.tuple #[.map none, .iface 25 (.int .i64 (namedFault l n))])))
theorem with_no {w w' : World} {l : List Class} {n : Str} {k : Nat} (hb : Below w.heap.size w w') (h : namedFault l n = k) (hn : k ≠ 0) : WithPost w l n (.returned (.tuple #[.map none, .iface 25 (.int .i64 k)])) w' := by
  subst h; exact ⟨hb, Or.inr ⟨hn, rfl⟩⟩
set_option maxHeartbeats 1000000 in
set_option maxRecDepth 100000 in
theorem with_any (l : List Class) (lv : Value) (n : Str) (w : World) (hl : Laid w) (ho : ∀ c ∈ l, ClassOk c) (hlv : ClassesAt w lv l) (hn : n.size ≤ maxLen) :
    Calls Tryz.prog 30 #[lv, .string n] w (WithPost w l n) := by
  have HRd := Lib.hid (read_any l lv w hl ho hlv)
  clear hl ho
  obtain ⟨pl, capl, rfl, _⟩ := hlv.open
  clear hlv
  by_cases hz : readFault l = 0
  · have HR := Lib.hid (right_of hz)
    cases hk : (findC (allC l) n).isSome with
    | true =>
      have hf : Hid (namedFault l n = 0) := by unfold Hid namedFault; rw [if_neg (by rw [hz]; decide), hk]; rfl
      have HK := Lib.hid hk
      have HZ := Lib.hid hz
      clear hk hz
      go_enter Tryz.func30, Tryz.ntmps30
      go_upto_region 4 with (go_at_call 26; (with_reducible refine HRd.out.mono ?_); rintro e w2 ⟨hB2, ⟨_, rfl, hM, hN, hA, hC, hL⟩ | ⟨hz, _⟩⟩; rotate_left; (exact absurd HZ.out hz))
      obtain ⟨p1, k1, p2, k2, p3, k3, _, _, _, hlk, _⟩ := hM.look2 hN n hn
      rw [HK.out] at hlk
      generalize (findC (allC l) n).getD noClass = d at *
      obtain ⟨n2, s2, f2, b2, d2, m2⟩ := d
      unfold classV at hlk
      dsimp only at hlk
      have HM := Lib.hid (hM.step ((Below.refl _ _).alloc (Nat.le_refl _) (.cells #[.string n2, .string s2, .slice p1 f2.length k1, .bool b2, .slice p2 d2.length k2, .slice p3 m2.length k3] 30)))
      have HA := Lib.hid hA
      clear hM hA hN hC hB2
      go_wp2_with (first | fail)
      go_ret2
      exact ⟨HM.out.below, Or.inl ⟨hf.out, rfl, HM.out, HR.out, HA.out, HK.out⟩⟩
    | false =>
      have hf : Hid (namedFault l n = 3) := by unfold Hid namedFault; rw [if_neg (by rw [hz]; decide), hk]; rfl
      have HK := Lib.hid hk
      have HZ := Lib.hid hz
      clear hk hz
      go_enter Tryz.func30, Tryz.ntmps30
      go_upto_region 4 with (go_at_call 26; (with_reducible refine HRd.out.mono ?_); rintro e w2 ⟨hB2, ⟨_, rfl, hM, hN, hA, hC, hL⟩ | ⟨hz, _⟩⟩; rotate_left; (exact absurd HZ.out hz))
      obtain ⟨p1, k1, p2, k2, p3, k3, _, _, _, hlk, _⟩ := hM.look2 hN n hn
      rw [HK.out] at hlk
      generalize (findC (allC l) n).getD noClass = d at *
      obtain ⟨n2, s2, f2, b2, d2, m2⟩ := d
      unfold classV at hlk
      dsimp only at hlk
      have HM := Lib.hid (hM.step ((Below.refl _ _).alloc (Nat.le_refl _) (.cells #[.string n2, .string s2, .slice p1 f2.length k1, .bool b2, .slice p2 d2.length k2, .slice p3 m2.length k3] 30)))
      clear hM hA hN hC hB2
      go_wp2_with (first | fail)
      go_ret2
      exact with_no HM.out.below hf.out (by decide)
  · have hf : Hid (namedFault l n = readFault l) := by unfold Hid namedFault; rw [if_pos hz]
    have HZ := Lib.hid hz
    clear hz
    go_enter Tryz.func30, Tryz.ntmps30
    go_wp2_with (go_at_call 26; (with_reducible refine HRd.out.mono ?_); rintro e w2 ⟨hB2, ⟨hz, _⟩ | ⟨_, rfl⟩⟩; (exact absurd hz HZ.out))
    go_ret2
    exact with_no hB2 hf.out HZ.out
end Go.Proofs.YtinccnehfalfnaaGreatDoor
