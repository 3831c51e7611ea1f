/-
  WALKS over package name: Check. Conditions: a text as long as a string can be.
-/
import Derived.Test.YtlmfmioljeppfaaGreatDoorShelf
import Derived.Test.YtlmfmioljeppfaaGreatDoorTypeLaw
import Derived.Shelf.Strings.SlTrimAscii
import Derived.Lib.IndexLaws
namespace Go.Proofs.YtlmfmioljeppfaaGreatDoor
open Go.RowKit Go.Shelf Go.Lib
def digitsL : List UInt8 := [48, 49, 50, 51, 52, 53, 54, 55, 56, 57]
def lettersL : List UInt8 := [97, 98, 99, 100, 101, 102, 103, 104, 105, 106, 107, 108, 109, 110, 111, 112, 113, 114, 115, 116, 117, 118, 119, 120, 121, 122, 65, 66, 67, 68, 69, 70, 71, 72, 73, 74, 75, 76, 77, 78, 79, 80, 81, 82, 83, 84, 85, 86, 87, 88, 89, 90, 95]
theorem all_u8 (p : UInt8 → Bool) (h : (List.range 256).all (fun n => p (UInt8.ofNat n)) = true) (c : UInt8) : p c = true := by
  have := List.all_eq_true.1 h c.toNat (List.mem_range.2 c.toNat_lt)
  simpa using this
theorem signs_contains (c : UInt8) : (lettersL ++ digitsL).contains c = (isLetter c || isDigit c) := by
  have := all_u8 (fun c => (lettersL ++ digitsL).contains c == (isLetter c || isDigit c)) (by decide +kernel) c
  simpa using this
theorem dropWhile_nil_iff {α : Type} {p : α → Bool} {l : List α} : l.dropWhile p = [] ↔ ∀ x ∈ l, p x = true := by
  induction l with
  | nil => simp
  | cons a l ih => cases h : p a <;> simp [List.dropWhile, h, ih]
theorem mem_takeWhile_of {α : Type} {p : α → Bool} {x : α} : ∀ {l : List α}, x ∈ l.takeWhile p → p x = true
  | [], h => by simp at h
  | a :: l, h => by
    cases ha : p a with
    | false => simp [ha] at h
    | true =>
      simp [ha] at h
      rcases h with rfl | h
      · exact ha
      · exact mem_takeWhile_of h
theorem trimS_nil_iff (l cs : List UInt8) : Lib.trimS l cs = [] ↔ l.all (cs.contains ·) = true := by
  unfold Lib.trimS Lib.trimLeftS Lib.trimRightS
  constructor
  · intro h
    rw [List.all_eq_true]
    intro x hx
    rw [dropWhile_nil_iff] at h
    by_cases hc : cs.contains x = true
    · exact hc
    · exfalso
      have hs := List.takeWhile_append_dropWhile (p := (cs.contains ·)) (l := l.reverse)
      have hx' : x ∈ l.reverse := by simpa using hx
      rw [← hs, List.mem_append] at hx'
      rcases hx' with h1 | h1
      · have := mem_takeWhile_of h1
        exact hc this
      · exact hc (h x (by simpa using h1))
  · intro h
    rw [List.all_eq_true] at h
    rw [dropWhile_nil_iff]
    intro x hx
    have : x ∈ l.reverse.dropWhile (cs.contains ·) := by simpa using hx
    have := (List.dropWhile_suffix (cs.contains ·)).subset this
    exact h x (by simpa using this)
theorem indexByte_digits (c : UInt8) : (0 ≤ Lib.indexByte digitsL c) ↔ isDigit c = true := by
  have := all_u8 (fun c => decide (0 ≤ Lib.indexByte digitsL c) == isDigit c) (by decide +kernel) c
  rw [beq_iff_eq] at this
  rw [← this, decide_eq_true_eq]
theorem trim_signs (s : ByteArray) (w : World) (hs : s.size ≤ 9223372036854775807) :
    Calls Tryz.prog 133 #[.string s, .string ⟨#[97, 98, 99, 100, 101, 102, 103, 104, 105, 106, 107, 108, 109, 110, 111, 112, 113, 114, 115, 116, 117, 118, 119, 120, 121, 122, 65, 66, 67, 68, 69, 70, 71, 72, 73, 74, 75, 76, 77, 78, 79, 80, 81, 82, 83, 84, 85, 86, 87, 88, 89, 90, 95, 48, 49, 50, 51, 52, 53, 54, 55, 56, 57]⟩] w fun e w' => e = .returned (.string ⟨(Lib.trimS s.data.toList (lettersL ++ digitsL)).toArray⟩) ∧ Below w.heap.size w w' :=
  Any.strings_Trim_laid Tryz.lays160 (by kernel_rfl) s ⟨#[97, 98, 99, 100, 101, 102, 103, 104, 105, 106, 107, 108, 109, 110, 111, 112, 113, 114, 115, 116, 117, 118, 119, 120, 121, 122, 65, 66, 67, 68, 69, 70, 71, 72, 73, 74, 75, 76, 77, 78, 79, 80, 81, 82, 83, 84, 85, 86, 87, 88, 89, 90, 95, 48, 49, 50, 51, 52, 53, 54, 55, 56, 57]⟩ w hs (by decide) (ascii_of_all (by decide))
theorem index_digits (c : UInt8) (w : World) :
    Calls Tryz.prog 134 #[.string ⟨#[48, 49, 50, 51, 52, 53, 54, 55, 56, 57]⟩, .int .u8 (c.toNat : Int)] w fun e w' => e = .returned (.int .i64 (Lib.indexByte digitsL c)) ∧ w = w' := by
  refine (Tryz.strings_IndexByte ⟨#[48, 49, 50, 51, 52, 53, 54, 55, 56, 57]⟩ (c.toNat : Int) w).mono ?_
  rintro e w' ⟨rfl, rfl⟩
  refine ⟨?_, rfl⟩
  have : (c.toNat : Int).toNat.toUInt8 = c := by simp
  rw [this]; rfl
def errV (e : Nat) : Value := if e = 0 then .nilIface else .iface 29 (.int .i64 e)
def nameFault (s : ByteArray) : Nat := if nameB s.data.toList = true then 0 else 1
theorem empty_iff (s : ByteArray) : s.toList.isEmpty = decide (s.size = 0) := by
  rw [ByteArray.toList_eq, Bool.eq_iff_iff, List.isEmpty_iff, ← List.length_eq_zero_iff]; simp
set_option maxHeartbeats 400000 in
theorem nameCheck_trim (s : ByteArray) (w : World) (hs : s.size ≤ 9223372036854775807) (h0 : s.toList.isEmpty = false) (h20 : s.size ≤ 20) (r : ByteArray) (hr : r = ⟨(Lib.trimS s.data.toList (lettersL ++ digitsL)).toArray⟩) (hrn : r.toList.isEmpty = false) :
    Calls Tryz.prog 97 #[.string s] w fun e w' => e = .returned (errV 1) ∧ Below w.heap.size w w' := by
  have hcon := trim_signs s w hs
  rw [← hr] at hcon
  have HC := Lib.hid hcon
  clear hcon hr
  go_enter Tryz.func97, Tryz.ntmps97
  go_wp2_with (go_at_call 133; (with_reducible refine HC.out.mono ?_); rintro e w' ⟨rfl, hB⟩)
  go_ret
  exact ⟨rfl, hB⟩
set_option maxHeartbeats 400000 in
theorem nameCheck_digit (s : ByteArray) (w : World) (hs : s.size ≤ 9223372036854775807) (h0 : s.toList.isEmpty = false) (hp : 0 < s.size) (h20 : s.size ≤ 20) (r : ByteArray) (hr : r = ⟨(Lib.trimS s.data.toList (lettersL ++ digitsL)).toArray⟩) (hrn : r.toList.isEmpty = true) (k : Nat) (hk : k ≤ 1) (n : Int) (hn : Lib.indexByte digitsL s[0] = n) (hnk : (k = 1 ∧ 0 ≤ n) ∨ (k = 0 ∧ n < 0)) :
    Calls Tryz.prog 97 #[.string s] w fun e w' => e = .returned (errV k) ∧ Below w.heap.size w w' := by
  have hcon := trim_signs s w hs
  rw [← hr] at hcon
  have HC := Lib.hid hcon
  have hi : ∀ w1, Calls Tryz.prog 134 #[.string ⟨#[48, 49, 50, 51, 52, 53, 54, 55, 56, 57]⟩, .int .u8 (s[0].toNat : Int)] w1 fun e w' => e = .returned (.int .i64 n) ∧ w1 = w' := by
    intro w1; have := index_digits s[0] w1; rwa [hn] at this
  have HI := Lib.hid hi
  clear hcon hr hi hn
  rcases hnk with ⟨rfl, hn⟩ | ⟨rfl, hn⟩
  all_goals
    go_enter Tryz.func97, Tryz.ntmps97
    go_wp2_with (first | (go_at_call 133; (with_reducible refine HC.out.mono ?_); rintro e w' ⟨rfl, hB⟩) | (go_at_call 134; (with_reducible refine (HI.out _).mono ?_); rintro e w' ⟨rfl, rfl⟩))
    go_ret
    exact ⟨rfl, hB⟩
theorem nameCheck_any (s : ByteArray) (w : World) (hs : s.size ≤ maxLen) :
    Calls Tryz.prog 97 #[.string s] w fun e w' => e = .returned (errV (nameFault s)) ∧ Below w.heap.size w w' := by
  unfold maxLen at hs
  have hs' : s.size ≤ 9223372036854775807 := hs
  by_cases h0 : s.size = 0
  · have hn : nameFault s = 1 := by unfold nameFault; rw [nameB_eq]; simp [h0]
    have h1 : s.toList.isEmpty = true := by rw [empty_iff]; simp [h0]
    rw [hn]; clear hn h0
    go_enter Tryz.func97, Tryz.ntmps97
    go_wp2_with fail
    go_ret
    exact ⟨rfl, Below.refl _ _⟩
  · have h1 : s.toList.isEmpty = false := by rw [empty_iff]; simp [h0]
    by_cases h20 : 20 < s.size
    · have hn : nameFault s = 1 := by unfold nameFault; rw [nameB_eq]; simp; omega
      rw [hn]; clear hn h0
      go_enter Tryz.func97, Tryz.ntmps97
      go_wp2_with fail
      go_ret
      exact ⟨rfl, Below.refl _ _⟩
    · have hp : 0 < s.size := by omega
      have hall : s.data.toList.all signB = s.data.toList.all ((lettersL ++ digitsL).contains ·) := by congr 1; funext c; exact (signs_contains c).symm
      have hB : nameB s.data.toList = (!isDigit s[0] && s.data.toList.all signB) := by
        rw [nameB_eq, head_match hp, decide_eq_true hp, decide_eq_true (show s.size ≤ 20 by omega)]; rfl
      have hT := trimS_nil_iff s.data.toList (lettersL ++ digitsL)
      rw [← hall] at hT
      have hD := indexByte_digits s[0]
      generalize hr : (⟨(Lib.trimS s.data.toList (lettersL ++ digitsL)).toArray⟩ : ByteArray) = r
      have hrl : r.toList = Lib.trimS s.data.toList (lettersL ++ digitsL) := by rw [← hr, ByteArray.toList_mk]
      cases ha : s.data.toList.all signB with
      | false =>
        have hn : nameFault s = 1 := by unfold nameFault; rw [hB, ha]; simp
        rw [hn]
        refine nameCheck_trim s w hs' h1 (by omega) r hr.symm ?_
        rw [hrl, List.isEmpty_eq_false_iff]
        intro h; rw [hT.1 h] at ha; cases ha
      | true =>
        have hre : r.toList.isEmpty = true := by rw [hrl, hT.2 ha]; rfl
        cases hd : isDigit s[0] with
        | true =>
          have hn : nameFault s = 1 := by unfold nameFault; rw [hB, hd]; simp
          rw [hn]
          exact nameCheck_digit s w hs' h1 hp (by omega) r hr.symm hre 1 (by omega) _ rfl (Or.inl ⟨rfl, hD.2 hd⟩)
        | false =>
          have hn : nameFault s = 0 := by unfold nameFault; rw [hB, hd, ha]; simp
          rw [hn]
          refine nameCheck_digit s w hs' h1 hp (by omega) r hr.symm hre 0 (by omega) _ rfl (Or.inr ⟨rfl, ?_⟩)
          have : ¬ 0 ≤ Lib.indexByte digitsL s[0] := fun h => by rw [hD.1 h] at hd; cases hd
          omega
end Go.Proofs.YtlmfmioljeppfaaGreatDoor
