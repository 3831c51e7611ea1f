/-
  WALKS over package desc: Check, Number, Word. Conditions: a text as long as a string can be.
-/
import Derived.Test.YtbakcdgjibmceaaGreatDoorCut
namespace Go.Proofs.YtbakcdgjibmceaaGreatDoor
open Go.RowKit Go.Shelf Go.Lib
theorem cut_bad {s : ByteArray} (hs : s.size ≤ maxLen) (h : typeLen s.data.toList = 0) (w : World) :
    Calls Tryz.prog 76 #[.string s] w fun e w' => e = .returned (.tuple #[.string .empty, .string s, .bool false]) ∧ Below w.heap.size w w' := by
  have := cut_any s w hs
  unfold cutV at this
  rwa [if_pos h] at this
theorem cut_good {s : ByteArray} {n : Nat} (hs : s.size ≤ maxLen) (h : typeLen s.data.toList = n + 1) (w : World) :
    Calls Tryz.prog 76 #[.string s] w fun e w' => e = .returned (.tuple #[.string (s.extract 0 (n + 1)), .string (s.extract (n + 1) s.size), .bool true]) ∧ Below w.heap.size w w' := by
  have := cut_any s w hs
  unfold cutV at this
  rw [if_neg (by omega), h] at this
  exact this
theorem coreLen_le (l : List UInt8) : coreLen l ≤ l.length := by
  unfold coreLen
  cases l with
  | nil => simp
  | cons c q =>
    simp only [List.length_cons]
    split
    · omega
    · split
      · split
        · rename_i h; omega
        · omega
      · omega
theorem typeLen_le (l : List UInt8) : typeLen l ≤ l.length := by
  unfold typeLen
  split
  · have := coreLen_le (l.drop (deepOf l)); simp at this; have := deepOf_le l; omega
  · omega
def typeFault (s : ByteArray) : Nat := if typeB s.data.toList = true then 0 else 1
theorem typeB_iff (s : ByteArray) : typeB s.data.toList = true ↔ 0 < s.size ∧ typeLen s.data.toList = s.size := by
  have := length_eq s
  unfold typeB
  cases h : s.data.toList with
  | nil => rw [h] at this; simp at this; simp [← this]
  | cons c r => rw [h] at this; rw [← this]; simp
set_option maxHeartbeats 400000 in
theorem descCheck_any (s : ByteArray) (w : World) (hs : s.size ≤ maxLen) :
    Calls Tryz.prog 39 #[.string s] w fun e w' => e = .returned (errV (typeFault s)) ∧ Below w.heap.size w w' := by
  have hle := typeLen_le s.data.toList
  rw [length_eq] at hle
  have hT := typeB_iff s
  cases hn : typeLen s.data.toList with
  | zero =>
    have hf : typeFault s = 1 := by unfold typeFault; rw [if_neg]; rw [hT]; omega
    rw [hf]
    have H := Lib.hid hn
    clear hn hf hT hle
    go_enter Tryz.func39, Tryz.ntmps39
    go_wp2_with (go_at_call 76; (with_reducible refine (cut_bad hs H.out _).mono ?_); rintro e w' ⟨rfl, hB⟩)
    go_ret
    exact ⟨rfl, hB⟩
  | succ n =>
    have H := Lib.hid hn
    by_cases hf : n + 1 = s.size
    · have hf2 : typeFault s = 0 := by unfold typeFault; rw [if_pos]; rw [hT]; omega
      have he : (s.extract (n + 1) s.size).toList.isEmpty = true := by rw [empty_iff]; simp; omega
      rw [hf2]
      clear hn hf hT hle hf2
      go_enter Tryz.func39, Tryz.ntmps39
      go_wp2_with (go_at_call 76; (with_reducible refine (cut_good hs H.out _).mono ?_); rintro e w' ⟨rfl, hB⟩)
      go_ret
      exact ⟨rfl, hB⟩
    · have hf2 : typeFault s = 1 := by unfold typeFault; rw [if_neg]; rw [hT]; omega
      have he : (s.extract (n + 1) s.size).toList.isEmpty = false := by rw [empty_iff]; simp; omega
      rw [hf2]
      clear hn hf hT hle hf2
      go_enter Tryz.func39, Tryz.ntmps39
      go_wp2_with (go_at_call 76; (with_reducible refine (cut_good hs H.out _).mono ?_); rintro e w' ⟨rfl, hB⟩)
      go_ret
      exact ⟨rfl, hB⟩
theorem number_any (s : ByteArray) (w : World) :
    Calls Tryz.prog 116 #[.string s] w fun e w' => e = .returned (.bool (wordB s.data.toList)) ∧ w = w' := by
  rw [← ByteArray.toList_eq]
  go_enter Tryz.func116, Tryz.ntmps116
  go_wp2
  all_goals
    go_ret
    simp [wordB, *]
end Go.Proofs.YtbakcdgjibmceaaGreatDoor
