/-
  WALKS over world.Supers, All, Check. Conditions: as in XRead.
-/
import Derived.Test.YtinccnehfalfnaaGreatDoorWith
namespace Go.Proofs.YtinccnehfalfnaaGreatDoor
open Go.RowKit Go.Shelf Go.Lib
/-- what a function hands back that lists texts of a class, or a fault -/
def ListPost (w : World) (k : Nat) (l : List Str) (e : Ending) (w' : World) : Prop :=
  Below w.heap.size w w' ∧ ((k = 0 ∧ ∃ v, e = .returned (.tuple #[v, .nilIface]) ∧ StrsAt w' v l) ∨ (k ≠ 0 ∧ e = .returned (.tuple #[.slice none 0 0, .iface 25 (.int .i64 k)])))
theorem list_no {w w' : World} {k : Nat} {l : List Str} (hb : Below w.heap.size w w') (hn : k ≠ 0) : ListPost w k l (.returned (.tuple #[.slice none 0 0, .iface 25 (.int .i64 k)])) w' := ⟨hb, Or.inr ⟨hn, rfl⟩⟩
theorem list_yes {w w' : World} {k : Nat} {l : List Str} {v : Value} (hb : Below w.heap.size w w') (hn : k = 0) (hv : StrsAt w' v l) : ListPost w k l (.returned (.tuple #[v, .nilIface])) w' := ⟨hb, Or.inl ⟨hn, v, rfl, hv⟩⟩
theorem Right.small {l : List Class} (h : Right l) : (allC l).length ≤ 12 := by have := h.length; unfold allC; simp; omega
set_option maxHeartbeats 1000000 in
set_option maxRecDepth 100000 in
theorem supers_any (l : List Class) (lv : Value) (n : Str) (w : World) (hl : Laid w) (ho : ∀ c ∈ l, ClassOk c) (hlv : ClassesAt w lv l) (hn : n.size ≤ maxLen) :
    Calls Tryz.prog 17 #[lv, .string n] w (ListPost w (namedFault l n) (lineC (allC l) n)) := by
  have HW := Lib.hid (with_any l lv n w hl ho hlv hn)
  obtain ⟨pl, capl, rfl, _⟩ := hlv.open
  clear hl ho hlv
  by_cases hz : namedFault l n = 0
  · have HZ := Lib.hid hz
    clear hz
    go_enter Tryz.func17, Tryz.ntmps17
    go_upto_region 4 with (go_at_call 30; (with_reducible refine HW.out.mono ?_); rintro e w2 ⟨hB2, ⟨_, rfl, hN⟩ | ⟨hz, _⟩⟩; rotate_left; (exact absurd HZ.out hz))
    have HL := Lib.hid (line_any w w2 _ l hN.right hN.map n hN.known)
    have HB := Lib.hid hB2
    clear hN hB2
    go_wp2_with (go_at_call 27; (with_reducible refine HL.out.mono ?_); rintro e w3 ⟨⟨v, rfl, hv⟩, hB3⟩)
    go_ret2
    exact list_yes (below_call HB.out (Nat.le_refl _) hB3) HZ.out (strsAt_of_owns hv)
  · have HZ := Lib.hid hz
    clear hz
    go_enter Tryz.func17, Tryz.ntmps17
    go_wp2_with (go_at_call 30; (with_reducible refine HW.out.mono ?_); rintro e w2 ⟨hB2, ⟨hz, _⟩ | ⟨_, rfl⟩⟩; (exact absurd hz HZ.out))
    go_ret2
    exact list_no hB2 HZ.out
set_option maxHeartbeats 1000000 in
set_option maxRecDepth 100000 in
theorem all_any (l : List Class) (lv : Value) (n : Str) (w : World) (hl : Laid w) (ho : ∀ c ∈ l, ClassOk c) (hlv : ClassesAt w lv l) (hn : n.size ≤ maxLen) :
    Calls Tryz.prog 18 #[lv, .string n] w (ListPost w (namedFault l n) (sortS (everyC (allC l) n))) := by
  have HW := Lib.hid (with_any l lv n w hl ho hlv hn)
  obtain ⟨pl, capl, rfl, _⟩ := hlv.open
  clear hl ho hlv
  by_cases hz : namedFault l n = 0
  · have HZ := Lib.hid hz
    clear hz
    go_enter Tryz.func18, Tryz.ntmps18
    go_upto_region 4 with (go_at_call 30; (with_reducible refine HW.out.mono ?_); rintro e w2 ⟨hB2, ⟨_, rfl, hN⟩ | ⟨hz, _⟩⟩; rotate_left; (exact absurd HZ.out hz))
    have HL := Lib.hid (every_any w w2 _ (allC l) hN.map hN.right.nodup (allC_small hN.faults) hN.right.small hN.right.closed n hN.known)
    have HB := Lib.hid hB2
    clear hN hB2
    go_wp2_with (go_at_call 31; (with_reducible refine HL.out.mono ?_); rintro e w3 ⟨⟨v, rfl, hv⟩, hB3⟩)
    go_ret2
    exact list_yes (below_call HB.out (Nat.le_refl _) hB3) HZ.out hv
  · have HZ := Lib.hid hz
    clear hz
    go_enter Tryz.func18, Tryz.ntmps18
    go_wp2_with (go_at_call 30; (with_reducible refine HW.out.mono ?_); rintro e w2 ⟨hB2, ⟨hz, _⟩ | ⟨_, rfl⟩⟩; (exact absurd hz HZ.out))
    go_ret2
    exact list_no hB2 HZ.out
set_option maxHeartbeats 1000000 in
set_option maxRecDepth 100000 in
theorem worldCheck_any (l : List Class) (lv : Value) (w : World) (hl : Laid w) (ho : ∀ c ∈ l, ClassOk c) (hlv : ClassesAt w lv l) :
    Calls Tryz.prog 15 #[lv] w fun e w' => e = .returned (errV (readFault l)) ∧ Below w.heap.size w w' := by
  have HRd := Lib.hid (read_any l lv w hl ho hlv)
  obtain ⟨pl, capl, rfl, _⟩ := hlv.open
  clear hl ho hlv
  rcases errV_cases (readFault l) with ⟨hv, hz⟩ | ⟨hv, hz⟩
  · rw [hv]
    have HZ := Lib.hid hz
    clear hv hz
    go_enter Tryz.func15, Tryz.ntmps15
    go_wp2_with (go_at_call 26; (with_reducible refine HRd.out.mono ?_); rintro e w2 ⟨hB2, ⟨_, rfl, _⟩ | ⟨hz, _⟩⟩; rotate_left; (exact absurd HZ.out hz))
    go_ret
    exact ⟨rfl, hB2⟩
  · rw [hv]
    have HZ := Lib.hid hz
    clear hv hz
    go_enter Tryz.func15, Tryz.ntmps15
    go_wp2_with (go_at_call 26; (with_reducible refine HRd.out.mono ?_); rintro e w2 ⟨hB2, ⟨hz, _⟩ | ⟨_, rfl⟩⟩; (exact absurd hz HZ.out))
    go_ret
    exact ⟨rfl, hB2⟩
end Go.Proofs.YtinccnehfalfnaaGreatDoor
