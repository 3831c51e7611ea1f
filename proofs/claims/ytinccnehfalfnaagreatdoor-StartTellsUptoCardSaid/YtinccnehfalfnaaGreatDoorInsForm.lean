/-
  WALKS over package ins: of (the table of forms) and the question that Check asks of a form. Conditions: the table lies as the program's text lays it.
-/
import Derived.Test.YtinccnehfalfnaaGreatDoorInsTyped
namespace Go.Proofs.YtinccnehfalfnaaGreatDoor
open Go.RowKit Go.Shelf Go.Lib
/-- the table of forms: each operation's word, and the parts that it needs -/
def formWords : List (List UInt8) := [[], [110,111,112], [112,117,115,104], [110,117,108,108], [108,111,97,100], [115,116,111,114,101], [112,111,112], [100,117,112], [115,119,97,112], [109,97,116,104], [99,111,110,118], [111,114,100,101,114], [105,102], [105,102,110,117,108,108], [103,111,116,111], [110,101,119], [103,101,116], [112,117,116], [110,101,119,97,114,114,97,121], [108,101,110,103,116,104], [97,108,111,97,100], [97,115,116,111,114,101], [99,97,115,116], [105,115], [99,97,108,108], [99,97,108,108,115], [114,101,116,117,114,110], [103,105,118,101], [116,104,114,111,119]]
def formNeeds : List (List UInt8) := [[], [], [65,84], [], [65], [65], [], [], [], [65,84], [84], [], [65,66], [65], [65], [67], [67,78], [67,78], [84], [], [84], [84], [84], [84], [84,67,78], [84,67,78], [], [], []]
def wordOf (op : Nat) : ByteArray := ⟨(formWords.getD op []).toArray⟩
def needsOf (op : Nat) : ByteArray := ⟨(formNeeds.getD op []).toArray⟩
/-- the table lies as the text lays it -/
def Laid (w : World) : Prop := 3 < w.heap.size ∧ ∀ i, i < 29 → w.cell? ⟨3, i * 2, none⟩ = some (.string (wordOf i)) ∧ w.cell? ⟨3, i * 2 + 1, none⟩ = some (.string (needsOf i))
theorem Laid.mono {B : Nat} {w w' : World} (h : Laid w) (hb : Below B w w') (hB : 3 < B) : Laid w' :=
  ⟨Nat.lt_of_lt_of_le h.1 hb.size, fun i hi => ⟨(hb.cell (p := ⟨_, _, none⟩) hB).trans (h.2 i hi).1, (hb.cell (p := ⟨_, _, none⟩) hB).trans (h.2 i hi).2⟩⟩
set_option maxHeartbeats 400000 in
theorem of_bad (op : Int) (w : World) (h : op < 1 ∨ 28 < op) : Calls Tryz.prog 125 #[.int .i64 op] w fun e w' => e = .returned (.tuple #[.agg #[.string .empty, .string .empty], .bool false]) ∧ Below w.heap.size w w' := by
  rcases h with h | h
  all_goals
    go_enter Tryz.func125, Tryz.ntmps125
    go_wp2
    exact bodyPost_ret (v := .tuple #[.agg #[.string .empty, .string .empty], .bool false]) (by simp [results, Tryz.results125, go_sem]; rfl) rfl ⟨rfl, (Below.refl _ _).alloc (Nat.le_refl _) _⟩
set_option maxHeartbeats 400000 in
theorem of_good (op : Nat) (w : World) (h1 : 1 ≤ op) (h2 : op ≤ 28) (hl : Laid w) : Calls Tryz.prog 125 #[.int .i64 op] w fun e w' => e = .returned (.tuple #[.agg #[.string (wordOf op), .string (needsOf op)], .bool true]) ∧ Below w.heap.size w w' := by
  obtain ⟨c1, c2⟩ := hl.2 op (by omega)
  have hg := hl.1
  generalize wordOf op = wd at *
  generalize needsOf op = nd at *
  clear hl
  go_enter Tryz.func125, Tryz.ntmps125
  go_wp2
  exact bodyPost_ret (v := .tuple #[.agg #[.string wd, .string nd], .bool true]) (by simp [results, Tryz.results125, go_sem]) rfl ⟨rfl, (Below.refl _ _).alloc (Nat.le_refl _) _⟩
/-- what the closure in Check answers: does a form need a part? -/
def needB' (nd : ByteArray) (c : UInt8) : Bool := decide (0 ≤ Lib.indexByte nd.data.toList c)
set_option maxHeartbeats 400000 in
theorem needs_any (wd nd : ByteArray) (c : UInt8) (B : Nat) (w : World) (_h0 : w.cell? ⟨B, 0, none⟩ = some (.string wd)) (h1 : w.cell? ⟨B, 1, none⟩ = some (.string nd)) :
    Calls Tryz.prog 126 #[.string ⟨#[c]⟩, .pointer (some ⟨B, 0, none⟩)] w fun e w' => e = .returned (.bool (needB' nd c)) ∧ w = w' := by
  have hC : Hid (∀ w, Calls Tryz.prog 127 #[.string nd, .string ⟨#[c]⟩] w fun e w' => e = .returned (.bool (needB' nd c)) ∧ w = w') := fun w => (Tryz.strings_Contains_one nd c w).mono fun _ _ h => ⟨h.1, h.2.symm⟩
  go_enter Tryz.func126, Tryz.ntmps126
  go_wp2_with (go_at_call 127; (with_reducible refine (hC.out _).mono ?_); rintro e w' ⟨rfl, rfl⟩)
  go_ret
  exact ⟨rfl, rfl⟩
end Go.Proofs.YtinccnehfalfnaaGreatDoor
