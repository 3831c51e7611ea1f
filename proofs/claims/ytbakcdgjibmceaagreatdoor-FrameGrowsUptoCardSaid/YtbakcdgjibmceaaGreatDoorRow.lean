/-
  ROWS of texts: where they point, append of a list of texts on a row of the call's own.
-/
import Derived.Test.YtbakcdgjibmceaaGreatDoorTexts
import Derived.Test.YtbakcdgjibmceaaGreatDoorLineLaw
import Derived.Deep.QuietTactic
import Derived.BigQuiet
namespace Go.Proofs.YtbakcdgjibmceaaGreatDoor
open Go.RowKit Go.Shelf Go.Lib
theorem strs_one (w : World) (s : Str) : StrsAt (w.alloc (.cells #[.string s] 9)) (.slice (some ⟨w.heap.size, 0, none⟩) 1 1) [s] :=
  strsAt_of_owns (l := [s]) (ownsRow_one w w.heap.size (.string s) (Nat.le_refl _))
/-- where a slice of texts that is not empty points -/
theorem StrsAt.ptr {w : World} {p : Option Addr} {n c : Nat} {l : List Str} (h : StrsAt w (.slice p n c) l) (hl : 0 < l.length) : (∃ b o, p = some ⟨b, o, none⟩) ∧ n = l.length ∧ n ≤ c ∧ c ≤ maxLen := by
  rcases h with ⟨_, h⟩ | ⟨a, cap, h1, h2, h3, h4⟩
  · rw [h] at hl; simp at hl
  · injection h1 with e1 e2 e3
    subst e1 e2 e3
    obtain ⟨y, r, rfl⟩ := List.exists_cons_of_ne_nil (List.ne_nil_of_length_pos hl)
    obtain ⟨_, _, _, r3, _⟩ := h4 0 y rfl
    exact ⟨⟨a.block, a.off, congrArg some r3⟩, rfl, h2, h3⟩
theorem StrsAt.cell {w : World} {b o n c : Nat} {l : List Str} (h : StrsAt w (.slice (some ⟨b, o, none⟩) n c) l) {k : Nat} {x : Str} (hx : l[k]? = some x) : w.cell? ⟨b, o + k, none⟩ = some (.string x) := by
  rcases h with ⟨h, _⟩ | ⟨a, cap, h1, h2, h3, h4⟩
  · simp at h
  · injection h1 with e1
    injection e1 with e1
    subst e1
    obtain ⟨vs, r1, _, _, r4⟩ := h4 k x hx
    unfold StrCells at r1; subst r1
    have := r4.1
    rwa [Nat.mul_one] at this
/-- In, as a quiet call -/
theorem in_quiet (l : List Str) (v : Value) (x : Str) (w : World) (h : StrsAt w v l) (r : Bool) (hr : memB l x = r) (n : Nat) : Calls Tryz.prog 43 #[v, .string x] (w.drewN n) fun e w' => e = .returned (.bool r) ∧ w' = w.drewN n :=
  (in_any l v x (w.drewN n) (h.mono (below_drewN (Below.refl _ _) n))).mono fun _ _ ⟨he, hw⟩ => ⟨by rw [he, hr], hw.symm⟩
/-- append of a list of texts, nil or not, on a row of the call's own -/
theorem wpList_append_strs {w : World} {ops : Array Oper} {rest : List Oper} {o : Oper} {a : Act} {Q : Exit → Act → World → Prop} (hgd : o.guard = none) (s x : Operand)
    (ho : o.op = .call { callee := .builtin .append, args := #[s, x], argTypes := #[43, 43] })
    (base : Nat) (v : Value) (n : Nat) (xs : List Value) (hs : a.eval s = v) (hown : w.ownsRow base 9 1 v n xs)
    (y : Value) (l : List Str) (hx : a.eval x = y) (hy : StrsAt w y l) (h63 : n + l.length ≤ maxLen) (hbytes : (n + l.length) * 16 ≤ 140737488355328) (hbase : base ≤ w.heap.size)
    (h : ∀ v' w', w'.ownsRow base 9 1 v' (n + l.length) (xs ++ l.map Value.string) → w.grownBy w' v.ownBlock → (v'.ownBlock = v.ownBlock ∨ v'.ownBlock = some w.heap.size) → wpList Tryz.prog ops Q rest (a.put o.dst v') w') :
    wpList Tryz.prog ops Q (o :: rest) a w := by
  obtain ⟨i0, hi, hz0, hz1, hz2⟩ := info_parts info_string
  rcases hy with ⟨rfl, rfl⟩ | ⟨ad, cap, rfl, _⟩
  · refine wpList_append_own_none hgd s x 43 ho base 9 i0 1 Tryz.underlying43 hi v n xs hs hown hx ?_
    exact h v w (by simpa using hown) (World.grownBy.refl w _) (Or.inl rfl)
  · have hy : StrsAt w (.slice (some ad) l.length cap) l := Or.inr ⟨ad, cap, rfl, by assumption⟩
    refine wpList_append_own_at _ hgd s x 43 ho base 9 i0 (.string .empty) 1 16 Tryz.underlying43 hi hz0 hz1 hz2 rfl (by decide) v n xs hs hown ad l.length cap (l.map Value.string) hx (by simp) (strs_news hy)
      (fun u hu => by obtain ⟨x, _, rfl⟩ := List.mem_map.1 hu; rfl) h63 hbytes hbase fun v' w' h1 h2 _ h4 => h v' w' h1 h2 h4
theorem ownsRow_none (w : World) (base : Nat) (hb : base ≤ w.heap.size) : (w.alloc (.cells #[] 9)).ownsRow base 9 1 (.slice (some ⟨w.heap.size, 0, none⟩) 0 0) 0 [] :=
  ⟨rfl, Or.inr ⟨w.heap.size, 0, #[], rfl, hb, heap_alloc_new _ _, Nat.le_refl _, by decide, rfl, rfl⟩⟩
theorem lineF_length (cs : List Class) : ∀ (f : Nat) (n : Str), (lineF cs f n).length ≤ f + 1
  | 0, _ => by simp [lineF]
  | f + 1, n => by
    rw [lineF]
    split
    · simp
    · have := lineF_length cs f (classC cs n).super
      simp; omega
end Go.Proofs.YtbakcdgjibmceaaGreatDoor
