/-
  PLAIN LAWS for the walks over words and types. No function of the program is named.
-/
import Derived.Test.YtinccnehfalfnaaGreatDoorProg
import Derived.Test.YtinccnehfalfnaaGreatDoorPlain
import Derived.WalkKit
import Derived.WalkSpells
import Derived.WalkLawsBesides
import Derived.Lib.Hide
namespace Go.Proofs.YtinccnehfalfnaaGreatDoor
open Go.RowKit
theorem ret_bool {a b : Bool} (h : a = b) : Ending.returned (.bool a) = Ending.returned (.bool b) := by rw [h]
theorem isDigit_iff (c : UInt8) : isDigit c = true ↔ 48 ≤ (c.toNat : Int) ∧ (c.toNat : Int) ≤ 57 := by
  unfold isDigit; simp [UInt8.le_iff_toNat_le]; omega
theorem isLetter_iff (c : UInt8) : isLetter c = true ↔ (97 ≤ (c.toNat : Int) ∧ (c.toNat : Int) ≤ 122) ∨ (65 ≤ (c.toNat : Int) ∧ (c.toNat : Int) ≤ 90) ∨ (c.toNat : Int) = 95 := by
  unfold isLetter; simp [UInt8.le_iff_toNat_le, ← UInt8.toNat_inj]; omega
def signB (c : UInt8) : Bool := isLetter c || isDigit c
theorem take_all_step {s : ByteArray} {k : Nat} (h : k < s.size) (hp : (s.data.toList.take k).all signB = true) (hc : signB s[k] = true) : (s.data.toList.take (k + 1)).all signB = true := by
  have e : s.data.toList.take (k + 1) = s.data.toList.take k ++ [s[k]] := by
    rw [List.take_succ_eq_append_getElem (by simpa using h)]; rfl
  rw [e, List.all_append, hp]; simp [hc]
theorem all_false {s : ByteArray} {k : Nat} (h : k < s.size) (hc : signB s[k] = false) : s.data.toList.all signB = false := by
  rw [Bool.eq_false_iff]
  intro h2
  rw [List.all_eq_true] at h2
  have := h2 s[k] (by
    have : s.data.toList[k]'(by simpa using h) = s[k] := rfl
    rw [← this]; exact List.getElem_mem _)
  rw [hc] at this; cases this
theorem nameB_eq (s : ByteArray) : nameB s.data.toList = (decide (0 < s.size) && decide (s.size ≤ 20) && (match s.data.toList with | [] => false | c :: _ => !isDigit c) && s.data.toList.all signB) := by
  have hs : s.data.toList.length = s.size := by simp
  unfold nameB
  cases h : s.data.toList with
  | nil => rw [h] at hs; simp at hs; simp [← hs]
  | cons c r =>
    rw [h] at hs
    have h0 : 0 < s.size := by rw [← hs]; simp
    rw [hs]
    have e : signB = fun c => isLetter c || isDigit c := rfl
    simp [h0, e]
theorem head_match {s : ByteArray} (h : 0 < s.size) : (match s.data.toList with | [] => false | c :: _ => !isDigit c) = !isDigit s[0] := by
  have e : s.data.toList[0]'(by simpa using h) = s[0] := rfl
  cases h2 : s.data.toList with
  | nil =>
    have : s.data.toList.length = s.size := by simp
    rw [h2] at this; simp at this; omega
  | cons c r =>
    have h3 := List.getElem_of_eq h2 (i := 0) (by simpa using h)
    rw [e] at h3
    rw [h3]; rfl
end Go.Proofs.YtinccnehfalfnaaGreatDoor
