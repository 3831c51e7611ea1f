/-
  PLAIN LAWS of the texts of types: deepOf, semiAt, coreLen, typeLen by places. No program in sight.
  PLAIN LAWS for the walks over words and types. No function of the program is named.
  PLAIN LAWS for the walks over words and types. No function of the program is named.
-/
import Derived.Test.YtbakcdgjibmceaaGreatDoorPlain
import Derived.Test.YtbakcdgjibmceaaGreatDoorProg
import Derived.WalkKit
import Derived.WalkSpells
import Derived.WalkLawsBesides
import Derived.Lib.Hide
import Derived.Lib.Strings
namespace Go.Proofs.YtbakcdgjibmceaaGreatDoor

theorem deepOf_le (l : List UInt8) : deepOf l ≤ l.length := by
  induction l with
  | nil => simp [deepOf]
  | cons c r ih => unfold deepOf; split <;> simp <;> omega
theorem deepOf_get {l : List UInt8} : ∀ {k : Nat}, k < deepOf l → l[k]? = some 91 := by
  induction l with
  | nil => intro k h; simp [deepOf] at h
  | cons c r ih =>
    intro k h
    unfold deepOf at h
    split at h
    · cases k with
      | zero => simp [*]
      | succ k => simpa using ih (by omega)
    · omega
theorem deepOf_stop (l : List UInt8) : l[deepOf l]? ≠ some 91 := by
  induction l with
  | nil => simp [deepOf]
  | cons c r ih =>
    unfold deepOf
    split
    · simpa using ih
    · simpa using ‹_›
theorem semiAt_le (l : List UInt8) : semiAt l ≤ l.length := by
  induction l with
  | nil => simp [semiAt]
  | cons c r ih => unfold semiAt; split <;> simp <;> omega
theorem semiAt_get {l : List UInt8} (h : semiAt l < l.length) : l[semiAt l]? = some 59 := by
  induction l with
  | nil => simp [semiAt] at h
  | cons c r ih =>
    unfold semiAt at h ⊢
    split
    · simp [*]
    · rename_i hc
      rw [if_neg hc] at h
      simpa using ih (by simpa using h)
theorem semiAt_before {l : List UInt8} : ∀ {k : Nat}, k < semiAt l → l[k]? ≠ some 59 := by
  induction l with
  | nil => intro k h; simp [semiAt] at h
  | cons c r ih =>
    intro k h
    unfold semiAt at h
    split at h
    · omega
    · rename_i hc
      cases k with
      | zero => simpa using hc
      | succ k => simpa using ih (by omega)
/-- a text's sign at a place, as a member of its list -/
theorem sign_at {s : ByteArray} {i : Nat} (h : i < s.size) : s.data.toList[i]? = some s[i] := by
  have e : s.data.toList[i]'(by simpa using h) = s[i] := rfl
  rw [← e]; simp
theorem length_eq (s : ByteArray) : s.data.toList.length = s.size := by simp
theorem drop_at (l : List UInt8) (a k : Nat) : (l.drop a)[k]? = l[a + k]? := by simp
end Go.Proofs.YtbakcdgjibmceaaGreatDoor
namespace Go.Proofs.YtbakcdgjibmceaaGreatDoor
open Go.RowKit
theorem ret_bool {a b : Bool} (h : a = b) : Ending.returned (.bool a) = Ending.returned (.bool b) := by rw [h]
theorem isDigit_iff (c : UInt8) : isDigit c = true ↔ 48 ≤ (c.toNat : Int) ∧ (c.toNat : Int) ≤ 57 := by
  unfold isDigit; simp [UInt8.le_iff_toNat_le]; omega
theorem isLetter_iff (c : UInt8) : isLetter c = true ↔ (97 ≤ (c.toNat : Int) ∧ (c.toNat : Int) ≤ 122) ∨ (65 ≤ (c.toNat : Int) ∧ (c.toNat : Int) ≤ 90) ∨ (c.toNat : Int) = 95 := by
  unfold isLetter; simp [UInt8.le_iff_toNat_le, ← UInt8.toNat_inj]; omega
def signB (c : UInt8) : Bool := isLetter c || isDigit c
theorem take_all_step {s : ByteArray} {k : Nat} (h : k < s.size) (hp : (s.data.toList.take k).all signB = true) (hc : signB s[k] = true) : (s.data.toList.take (k + 1)).all signB = true := by
  have e : s.data.toList.take (k + 1) = s.data.toList.take k ++ [s[k]] := by
    rw [List.take_succ_eq_append_getElem (by simpa using h)]; rfl
  rw [e, List.all_append, hp]; simp [hc]
theorem all_false {s : ByteArray} {k : Nat} (h : k < s.size) (hc : signB s[k] = false) : s.data.toList.all signB = false := by
  rw [Bool.eq_false_iff]
  intro h2
  rw [List.all_eq_true] at h2
  have := h2 s[k] (by
    have : s.data.toList[k]'(by simpa using h) = s[k] := rfl
    rw [← this]; exact List.getElem_mem _)
  rw [hc] at this; cases this
theorem nameB_eq (s : ByteArray) : nameB s.data.toList = (decide (0 < s.size) && decide (s.size ≤ 20) && (match s.data.toList with | [] => false | c :: _ => !isDigit c) && s.data.toList.all signB) := by
  have hs : s.data.toList.length = s.size := by simp
  unfold nameB
  cases h : s.data.toList with
  | nil => rw [h] at hs; simp at hs; simp [← hs]
  | cons c r =>
    rw [h] at hs
    have h0 : 0 < s.size := by rw [← hs]; simp
    rw [hs]
    have e : signB = fun c => isLetter c || isDigit c := rfl
    simp [h0, e]
theorem head_match {s : ByteArray} (h : 0 < s.size) : (match s.data.toList with | [] => false | c :: _ => !isDigit c) = !isDigit s[0] := by
  have e : s.data.toList[0]'(by simpa using h) = s[0] := rfl
  cases h2 : s.data.toList with
  | nil =>
    have : s.data.toList.length = s.size := by simp
    rw [h2] at this; simp at this; omega
  | cons c r =>
    have h3 := List.getElem_of_eq h2 (i := 0) (by simpa using h)
    rw [e] at h3
    rw [h3]; rfl
end Go.Proofs.YtbakcdgjibmceaaGreatDoor
namespace Go.Proofs.YtbakcdgjibmceaaGreatDoor
open Go.RowKit
/-- what the walk of TypeAt asks at its places -/
structure TypeFacts (s : ByteArray) (at' i : Nat) : Prop where
  le : at' ≤ i
  hi : i ≤ s.size
  pre : ∀ j (h : j < s.size), at' ≤ j → j < i → s[j] = 91
  stop : ∀ (h : i < s.size), s[i] ≠ 91
theorem typeFacts (s : ByteArray) (a : Nat) (ha : a ≤ s.size) : TypeFacts s a (a + deepOf (s.data.toList.drop a)) := by
  have h1 := deepOf_le (s.data.toList.drop a)
  simp only [List.length_drop, length_eq] at h1
  refine ⟨by omega, by omega, fun j h h2 h3 => ?_, fun h e => ?_⟩
  · have := deepOf_get (l := s.data.toList.drop a) (k := j - a) (by omega)
    rw [drop_at, show a + (j - a) = j by omega, sign_at h] at this
    simpa using this
  · have := deepOf_stop (s.data.toList.drop a)
    rw [drop_at, sign_at h] at this
    exact this (by rw [e])
theorem sign_is {s : ByteArray} {i : Nat} {h : i < s.size} {c : UInt8} {n : Int} (e : s[i]'h = c) (hn : (c.toNat : Int) = n) : (((s[i]'h).toNat : Int) == n) = true := by
  rw [e, hn]; simp
theorem sign_not {s : ByteArray} {i : Nat} {h : i < s.size} {c : UInt8} {n : Int} (e : s[i]'h ≠ c) (hn : (c.toNat : Int) = n) : (((s[i]'h).toNat : Int) == n) = false := by
  rw [beq_eq_false_iff_ne, ← hn]
  intro h2
  exact e (UInt8.toNat_inj.1 (by omega))
theorem sign_isnt {s : ByteArray} {i : Nat} {h : i < s.size} {c : UInt8} {n : Int} (e : s[i]'h ≠ c) (hn : (c.toNat : Int) = n) : (((s[i]'h).toNat : Int) != n) = true := by
  rw [bne, sign_not e hn]; rfl
theorem sign_isn {s : ByteArray} {i : Nat} {h : i < s.size} {c : UInt8} {n : Int} (e : s[i]'h = c) (hn : (c.toNat : Int) = n) : (((s[i]'h).toNat : Int) != n) = false := by
  rw [bne, sign_is e hn]; rfl
theorem core_at (s : ByteArray) (i : Nat) (h : i < s.size) : coreLen (s.data.toList.drop i) =
    if s[i] = 73 ∨ s[i] = 74 then 1 else if s[i] = 76 then (if i + 1 + semiAt (s.data.toList.drop (i + 1)) < s.size ∧ nameB ((s.extract (i + 1) (i + 1 + semiAt (s.data.toList.drop (i + 1)))).data.toList) = true then semiAt (s.data.toList.drop (i + 1)) + 2 else 0) else 0 := by
  have e : s.data.toList.drop i = s[i] :: s.data.toList.drop (i + 1) := by
    rw [List.drop_eq_getElem_cons (by simpa using h)]; rfl
  have hl : (s.data.toList.drop (i + 1)).length = s.size - (i + 1) := by simp
  have hx : (s.extract (i + 1) (i + 1 + semiAt (s.data.toList.drop (i + 1)))).data.toList = (s.data.toList.drop (i + 1)).take (semiAt (s.data.toList.drop (i + 1))) := by
    rw [Lib.extract_data]; congr 1; omega
  rw [hx, e]
  unfold coreLen
  simp only [hl]
  have : (semiAt (s.data.toList.drop (i + 1)) < s.size - (i + 1)) ↔ (i + 1 + semiAt (s.data.toList.drop (i + 1)) < s.size) := by omega
  simp only [this]
theorem core_end (s : ByteArray) (i : Nat) (h : s.size ≤ i) : coreLen (s.data.toList.drop i) = 0 := by
  rw [List.drop_of_length_le (by simpa using h)]; rfl
/-- where the type ends that stands at a place; 0: there is none -/
def typeAtN (s : ByteArray) (a : Nat) : Int := if typeLen (s.data.toList.drop a) = 0 then 0 else (a : Int) + typeLen (s.data.toList.drop a)
theorem typeAtN_eq (s : ByteArray) (a i : Nat) (hi : i = a + deepOf (s.data.toList.drop a)) :
    typeAtN s a = if i - a ≤ 3 ∧ 0 < coreLen (s.data.toList.drop i) then (i : Int) + coreLen (s.data.toList.drop i) else 0 := by
  unfold typeAtN typeLen
  have e : (s.data.toList.drop a).drop (deepOf (s.data.toList.drop a)) = s.data.toList.drop i := by rw [List.drop_drop, hi]
  rw [e]
  have e2 : deepOf (s.data.toList.drop a) = i - a := by omega
  rw [e2]
  by_cases h : i - a ≤ 3 ∧ 0 < coreLen (s.data.toList.drop i)
  · rw [if_pos h, if_pos h, if_neg (by omega)]; omega
  · rw [if_neg h, if_neg h, if_pos rfl]
structure SemiFacts (s : ByteArray) (b e : Nat) : Prop where
  lo : b ≤ e
  hi : e ≤ s.size
  pre : ∀ j (h : j < s.size), b ≤ j → j < e → s[j] ≠ 59
  stop : ∀ (h : e < s.size), s[e] = 59
theorem semiFacts (s : ByteArray) (b : Nat) (hb : b ≤ s.size) : SemiFacts s b (b + semiAt (s.data.toList.drop b)) := by
  have h1 := semiAt_le (s.data.toList.drop b)
  simp only [List.length_drop, length_eq] at h1
  refine ⟨by omega, by omega, fun j h h2 h3 e => ?_, fun h => ?_⟩
  · have := semiAt_before (l := s.data.toList.drop b) (k := j - b) (by omega)
    rw [drop_at, show b + (j - b) = j by omega, sign_at h] at this
    exact this (by rw [e])
  · have := semiAt_get (l := s.data.toList.drop b) (by simp; omega)
    rw [drop_at, sign_at h] at this
    simpa using this
theorem ret_i64 {a b : Int} (h : a = b) : Ending.returned (.int .i64 a) = Ending.returned (.int .i64 b) := by rw [h]
theorem extract_small {s : ByteArray} {a b : Nat} (h : s.size ≤ maxLen) : (s.extract a b).size ≤ maxLen := by
  have : (s.extract a b).size ≤ s.size := by simp; omega
  omega
end Go.Proofs.YtbakcdgjibmceaaGreatDoor
