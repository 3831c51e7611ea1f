/-
  PLAIN LAW: the slots of a class: a table of methods, those of what it extends first.
-/
import Derived.Test.YtpjkpmmjehnahaaGreatDoorFindLaw
namespace Go.Proofs.YtpjkpmmjehnahaaGreatDoor
open Go.RowKit Go.Shelf Go.Lib
structure Slot where
  name : Str
  type : Str
  cls : Str
  deriving DecidableEq
/-- one method more: its slot takes the place of the one with its name and type, or stands behind -/
def putSlot (c : Str) : List Slot → Method → List Slot
  | [], m => [⟨m.name, m.type, c⟩]
  | s :: r, m => if s.name = m.name ∧ s.type = m.type then ⟨m.name, m.type, c⟩ :: r else s :: putSlot c r m
def slotStep (c : Str) (out : List Slot) (m : Method) : List Slot := if m.static || m.priv then out else putSlot c out m
def slotsOf (c : Str) (out : List Slot) (l : List Method) : List Slot := l.foldl (slotStep c) out
def slotsF (cs : List Class) (out : List Slot) (line : List Str) : List Slot := line.foldl (fun o c => slotsOf c o (classC cs c).methods) out
def slotsC (cs : List Class) (c : Str) : List Slot := slotsF cs [] (lineC cs c).reverse
def hasSlot (n t : Str) (l : List Slot) : Prop := ∃ s ∈ l, s.name = n ∧ s.type = t
/-- no two slots have the same name and type -/
def Single (l : List Slot) : Prop := l.Pairwise fun a b => ¬ (a.name = b.name ∧ a.type = b.type)
structure Extends (c : Str) (a b : List Slot) : Prop where
  len : a.length ≤ b.length
  same : ∀ i (h1 : i < a.length) (h2 : i < b.length), b[i].name = a[i].name ∧ b[i].type = a[i].type ∧ (b[i].cls = a[i].cls ∨ b[i].cls = c)
  new : ∀ i (h : i < b.length), a.length ≤ i → b[i].cls = c
theorem Extends.refl (c : Str) (a : List Slot) : Extends c a a := ⟨Nat.le_refl _, fun _ _ _ => ⟨rfl, rfl, Or.inl rfl⟩, fun i h1 h2 => by omega⟩
theorem Extends.trans {c : Str} {x y z : List Slot} (h : Extends c x y) (g : Extends c y z) : Extends c x z := by
  refine ⟨Nat.le_trans h.len g.len, fun i h1 h2 => ?_, fun i h1 h2 => ?_⟩
  · have hy : i < y.length := by have := h.len; omega
    obtain ⟨a1, a2, a3⟩ := h.same i h1 hy
    obtain ⟨b1, b2, b3⟩ := g.same i hy h2
    refine ⟨b1.trans a1, b2.trans a2, ?_⟩
    rcases b3 with b3 | b3
    · rcases a3 with a3 | a3
      · exact Or.inl (b3.trans a3)
      · exact Or.inr (b3.trans a3)
    · exact Or.inr b3
  · by_cases hy : i < y.length
    · obtain ⟨_, _, b3⟩ := g.same i hy h1
      rcases b3 with b3 | b3
      · rw [b3]; exact h.new i hy h2
      · exact b3
    · exact g.new i h1 (by omega)
theorem putSlot_extends (c : Str) (m : Method) : ∀ l : List Slot, Extends c l (putSlot c l m)
  | [] => ⟨by simp, fun i h1 => by simp at h1, fun i h1 _ => by
      simp [putSlot] at h1
      subst h1; rfl⟩
  | s :: r => by
    unfold putSlot
    by_cases h : s.name = m.name ∧ s.type = m.type
    · rw [if_pos h]
      refine ⟨by simp, fun i h1 h2 => ?_, fun i h1 h2 => by simp only [List.length_cons] at h1 h2; omega⟩
      cases i with
      | zero => exact ⟨h.1.symm, h.2.symm, Or.inr rfl⟩
      | succ i => exact ⟨rfl, rfl, Or.inl rfl⟩
    · rw [if_neg h]
      have ih := putSlot_extends c m r
      refine ⟨by simp only [List.length_cons]; have := ih.len; omega, fun i h1 h2 => ?_, fun i h1 h2 => ?_⟩
      · cases i with
        | zero => exact ⟨rfl, rfl, Or.inl rfl⟩
        | succ i => exact ih.same i (by simpa using h1) (by simpa using h2)
      · cases i with
        | zero => simp at h2
        | succ i => exact ih.new i (by simpa using h1) (by simpa using h2)
theorem putSlot_has (c : Str) (m : Method) (n t : Str) : ∀ l : List Slot, hasSlot n t (putSlot c l m) → hasSlot n t l ∨ (n = m.name ∧ t = m.type)
  | [], ⟨s, hs, h1, h2⟩ => by
    simp [putSlot] at hs; subst hs
    exact Or.inr ⟨h1.symm, h2.symm⟩
  | s :: r, hh => by
    unfold putSlot at hh
    by_cases h : s.name = m.name ∧ s.type = m.type
    · rw [if_pos h] at hh
      obtain ⟨x, hx, h1, h2⟩ := hh
      rcases List.mem_cons.1 hx with rfl | hx
      · exact Or.inr ⟨h1.symm, h2.symm⟩
      · exact Or.inl ⟨x, by simp [hx], h1, h2⟩
    · rw [if_neg h] at hh
      obtain ⟨x, hx, h1, h2⟩ := hh
      rcases List.mem_cons.1 hx with rfl | hx
      · exact Or.inl ⟨x, by simp, h1, h2⟩
      · rcases putSlot_has c m n t r ⟨x, hx, h1, h2⟩ with ⟨y, hy, g⟩ | g
        · exact Or.inl ⟨y, by simp [hy], g⟩
        · exact Or.inr g
theorem putSlot_single (c : Str) (m : Method) : ∀ l : List Slot, Single l → Single (putSlot c l m)
  | [], _ => by simp [putSlot, Single]
  | s :: r, h => by
    unfold Single at h
    rw [List.pairwise_cons] at h
    unfold putSlot
    by_cases hc : s.name = m.name ∧ s.type = m.type
    · rw [if_pos hc]
      unfold Single
      rw [List.pairwise_cons]
      refine ⟨fun x hx => ?_, h.2⟩
      have := h.1 x hx
      rw [hc.1, hc.2] at this; exact this
    · rw [if_neg hc]
      unfold Single
      rw [List.pairwise_cons]
      refine ⟨fun x hx hxx => ?_, putSlot_single c m r h.2⟩
      rcases putSlot_has c m x.name x.type r ⟨x, hx, rfl, rfl⟩ with ⟨y, hy, g1, g2⟩ | ⟨g1, g2⟩
      · exact h.1 y hy ⟨hxx.1.trans g1.symm, hxx.2.trans g2.symm⟩
      · exact hc ⟨hxx.1.trans g1, hxx.2.trans g2⟩
theorem slotsOf_extends (c : Str) : ∀ (l : List Method) (out : List Slot), Extends c out (slotsOf c out l)
  | [], out => Extends.refl c out
  | m :: r, out => by
    show Extends c out (slotsOf c (slotStep c out m) r)
    refine Extends.trans ?_ (slotsOf_extends c r _)
    unfold slotStep
    split
    · exact Extends.refl c out
    · exact putSlot_extends c m out
theorem slotsOf_single (c : Str) : ∀ (l : List Method) (out : List Slot), Single out → Single (slotsOf c out l)
  | [], _, h => h
  | m :: r, out, h => by
    show Single (slotsOf c (slotStep c out m) r)
    refine slotsOf_single c r _ ?_
    unfold slotStep
    split
    · exact h
    · exact putSlot_single c m out h
theorem slotsF_snoc (cs : List Class) (out : List Slot) (l : List Str) (c : Str) : slotsF cs out (l ++ [c]) = slotsOf c (slotsF cs out l) (classC cs c).methods := by
  unfold slotsF; rw [List.foldl_append]; rfl
theorem slotsF_single (cs : List Class) : ∀ (l : List Str) (out : List Slot), Single out → Single (slotsF cs out l)
  | [], _, h => h
  | c :: r, out, h => slotsF_single cs r _ (slotsOf_single c _ out h)
theorem slotsF_cls (cs : List Class) : ∀ (l : List Str) (out : List Slot), ∀ s ∈ slotsF cs out l, s.cls ∈ l ∨ ∃ x ∈ out, x.cls = s.cls
  | [], out, s, hs => Or.inr ⟨s, hs, rfl⟩
  | c :: r, out, s, hs => by
    rcases slotsF_cls cs r (slotsOf c out (classC cs c).methods) s hs with h | ⟨x, hx, hxs⟩
    · exact Or.inl (by simp [h])
    · obtain ⟨i, hi, rfl⟩ := List.getElem_of_mem hx
      have e := slotsOf_extends c (classC cs c).methods out
      by_cases hlt : i < out.length
      · rcases (e.same i hlt hi).2.2 with h | h
        · exact Or.inr ⟨out[i], by simp, by rw [← hxs, h]⟩
        · exact Or.inl (by rw [← hxs, h]; simp)
      · exact Or.inl (by rw [← hxs, e.new i hi (by omega)]; simp)
theorem slotsC_up {l : List Class} (h : Right l) {c : Str} (hk : (findC (allC l) c).isSome = true) (h0 : (classC (allC l) c).super.size ≠ 0) :
    slotsC (allC l) c = slotsOf c (slotsC (allC l) (classC (allC l) c).super) (classC (allC l) c).methods := by
  unfold slotsC
  rw [h.line_up hk h0, List.reverse_cons, slotsF_snoc]
theorem slotsC_top {l : List Class} {c : Str} (h0 : (classC (allC l) c).super.size = 0) : slotsC (allC l) c = slotsOf c [] (classC (allC l) c).methods := by
  unfold slotsC
  rw [Right.line_top h0]; rfl
theorem slotsC_single (cs : List Class) (c : Str) : Single (slotsC cs c) := slotsF_single cs _ _ (by simp [Single])
theorem slotsC_cls (cs : List Class) (c : Str) : ∀ s ∈ slotsC cs c, s.cls ∈ lineC cs c := fun s hs => by
  rcases slotsF_cls cs _ _ s hs with h | ⟨x, hx, _⟩
  · exact List.mem_reverse.1 h
  · cases hx
end Go.Proofs.YtpjkpmmjehnahaaGreatDoor
