/-
  PLAIN LAWS of the texts of types: deepOf, semiAt, coreLen, typeLen by places. No program in sight.
-/
import Derived.Test.YtinccnehfalfnaaGreatDoorPlain
namespace Go.Proofs.YtinccnehfalfnaaGreatDoor

theorem deepOf_le (l : List UInt8) : deepOf l ≤ l.length := by
  induction l with
  | nil => simp [deepOf]
  | cons c r ih => unfold deepOf; split <;> simp <;> omega
theorem deepOf_get {l : List UInt8} : ∀ {k : Nat}, k < deepOf l → l[k]? = some 91 := by
  induction l with
  | nil => intro k h; simp [deepOf] at h
  | cons c r ih =>
    intro k h
    unfold deepOf at h
    split at h
    · cases k with
      | zero => simp [*]
      | succ k => simpa using ih (by omega)
    · omega
theorem deepOf_stop (l : List UInt8) : l[deepOf l]? ≠ some 91 := by
  induction l with
  | nil => simp [deepOf]
  | cons c r ih =>
    unfold deepOf
    split
    · simpa using ih
    · simpa using ‹_›
theorem semiAt_le (l : List UInt8) : semiAt l ≤ l.length := by
  induction l with
  | nil => simp [semiAt]
  | cons c r ih => unfold semiAt; split <;> simp <;> omega
theorem semiAt_get {l : List UInt8} (h : semiAt l < l.length) : l[semiAt l]? = some 59 := by
  induction l with
  | nil => simp [semiAt] at h
  | cons c r ih =>
    unfold semiAt at h ⊢
    split
    · simp [*]
    · rename_i hc
      rw [if_neg hc] at h
      simpa using ih (by simpa using h)
theorem semiAt_before {l : List UInt8} : ∀ {k : Nat}, k < semiAt l → l[k]? ≠ some 59 := by
  induction l with
  | nil => intro k h; simp [semiAt] at h
  | cons c r ih =>
    intro k h
    unfold semiAt at h
    split at h
    · omega
    · rename_i hc
      cases k with
      | zero => simpa using hc
      | succ k => simpa using ih (by omega)
/-- a text's sign at a place, as a member of its list -/
theorem sign_at {s : ByteArray} {i : Nat} (h : i < s.size) : s.data.toList[i]? = some s[i] := by
  have e : s.data.toList[i]'(by simpa using h) = s[i] := rfl
  rw [← e]; simp
theorem length_eq (s : ByteArray) : s.data.toList.length = s.size := by simp
theorem drop_at (l : List UInt8) (a k : Nat) : (l.drop a)[k]? = l[a + k]? := by simp
end Go.Proofs.YtinccnehfalfnaaGreatDoor
