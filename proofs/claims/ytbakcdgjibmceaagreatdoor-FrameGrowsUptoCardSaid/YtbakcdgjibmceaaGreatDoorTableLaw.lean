/-
  PLAIN LAW: the slots of a class: a table of methods, those of what it extends first.
  PLAIN LAW: tables of methods, as the program fills them and as the reference fills them; the method that is called.
-/
import Derived.Test.YtbakcdgjibmceaaGreatDoorLayLaw
namespace Go.Proofs.YtbakcdgjibmceaaGreatDoor
open Go.RowKit Go.Shelf Go.Lib
structure Slot where
  name : Str
  type : Str
  cls : Str
  deriving DecidableEq
/-- one method more: its slot takes the place of the one with its name and type, or stands behind -/
def putSlot (c : Str) : List Slot → Method → List Slot
  | [], m => [⟨m.name, m.type, c⟩]
  | s :: r, m => if s.name = m.name ∧ s.type = m.type then ⟨m.name, m.type, c⟩ :: r else s :: putSlot c r m
def slotStep (c : Str) (out : List Slot) (m : Method) : List Slot := if m.static || m.priv then out else putSlot c out m
def slotsOf (c : Str) (out : List Slot) (l : List Method) : List Slot := l.foldl (slotStep c) out
def slotsF (cs : List Class) (out : List Slot) (line : List Str) : List Slot := line.foldl (fun o c => slotsOf c o (classC cs c).methods) out
def slotsC (cs : List Class) (c : Str) : List Slot := slotsF cs [] (lineC cs c).reverse
def hasSlot (n t : Str) (l : List Slot) : Prop := ∃ s ∈ l, s.name = n ∧ s.type = t
/-- no two slots have the same name and type -/
def Single (l : List Slot) : Prop := l.Pairwise fun a b => ¬ (a.name = b.name ∧ a.type = b.type)
structure Extends (c : Str) (a b : List Slot) : Prop where
  len : a.length ≤ b.length
  same : ∀ i (h1 : i < a.length) (h2 : i < b.length), b[i].name = a[i].name ∧ b[i].type = a[i].type ∧ (b[i].cls = a[i].cls ∨ b[i].cls = c)
  new : ∀ i (h : i < b.length), a.length ≤ i → b[i].cls = c
theorem Extends.refl (c : Str) (a : List Slot) : Extends c a a := ⟨Nat.le_refl _, fun _ _ _ => ⟨rfl, rfl, Or.inl rfl⟩, fun i h1 h2 => by omega⟩
theorem Extends.trans {c : Str} {x y z : List Slot} (h : Extends c x y) (g : Extends c y z) : Extends c x z := by
  refine ⟨Nat.le_trans h.len g.len, fun i h1 h2 => ?_, fun i h1 h2 => ?_⟩
  · have hy : i < y.length := by have := h.len; omega
    obtain ⟨a1, a2, a3⟩ := h.same i h1 hy
    obtain ⟨b1, b2, b3⟩ := g.same i hy h2
    refine ⟨b1.trans a1, b2.trans a2, ?_⟩
    rcases b3 with b3 | b3
    · rcases a3 with a3 | a3
      · exact Or.inl (b3.trans a3)
      · exact Or.inr (b3.trans a3)
    · exact Or.inr b3
  · by_cases hy : i < y.length
    · obtain ⟨_, _, b3⟩ := g.same i hy h1
      rcases b3 with b3 | b3
      · rw [b3]; exact h.new i hy h2
      · exact b3
    · exact g.new i h1 (by omega)
theorem putSlot_extends (c : Str) (m : Method) : ∀ l : List Slot, Extends c l (putSlot c l m)
  | [] => ⟨by simp, fun i h1 => by simp at h1, fun i h1 _ => by
      simp [putSlot] at h1
      subst h1; rfl⟩
  | s :: r => by
    unfold putSlot
    by_cases h : s.name = m.name ∧ s.type = m.type
    · rw [if_pos h]
      refine ⟨by simp, fun i h1 h2 => ?_, fun i h1 h2 => by simp only [List.length_cons] at h1 h2; omega⟩
      cases i with
      | zero => exact ⟨h.1.symm, h.2.symm, Or.inr rfl⟩
      | succ i => exact ⟨rfl, rfl, Or.inl rfl⟩
    · rw [if_neg h]
      have ih := putSlot_extends c m r
      refine ⟨by simp only [List.length_cons]; have := ih.len; omega, fun i h1 h2 => ?_, fun i h1 h2 => ?_⟩
      · cases i with
        | zero => exact ⟨rfl, rfl, Or.inl rfl⟩
        | succ i => exact ih.same i (by simpa using h1) (by simpa using h2)
      · cases i with
        | zero => simp at h2
        | succ i => exact ih.new i (by simpa using h1) (by simpa using h2)
theorem putSlot_has (c : Str) (m : Method) (n t : Str) : ∀ l : List Slot, hasSlot n t (putSlot c l m) → hasSlot n t l ∨ (n = m.name ∧ t = m.type)
  | [], ⟨s, hs, h1, h2⟩ => by
    simp [putSlot] at hs; subst hs
    exact Or.inr ⟨h1.symm, h2.symm⟩
  | s :: r, hh => by
    unfold putSlot at hh
    by_cases h : s.name = m.name ∧ s.type = m.type
    · rw [if_pos h] at hh
      obtain ⟨x, hx, h1, h2⟩ := hh
      rcases List.mem_cons.1 hx with rfl | hx
      · exact Or.inr ⟨h1.symm, h2.symm⟩
      · exact Or.inl ⟨x, by simp [hx], h1, h2⟩
    · rw [if_neg h] at hh
      obtain ⟨x, hx, h1, h2⟩ := hh
      rcases List.mem_cons.1 hx with rfl | hx
      · exact Or.inl ⟨x, by simp, h1, h2⟩
      · rcases putSlot_has c m n t r ⟨x, hx, h1, h2⟩ with ⟨y, hy, g⟩ | g
        · exact Or.inl ⟨y, by simp [hy], g⟩
        · exact Or.inr g
theorem putSlot_single (c : Str) (m : Method) : ∀ l : List Slot, Single l → Single (putSlot c l m)
  | [], _ => by simp [putSlot, Single]
  | s :: r, h => by
    unfold Single at h
    rw [List.pairwise_cons] at h
    unfold putSlot
    by_cases hc : s.name = m.name ∧ s.type = m.type
    · rw [if_pos hc]
      unfold Single
      rw [List.pairwise_cons]
      refine ⟨fun x hx => ?_, h.2⟩
      have := h.1 x hx
      rw [hc.1, hc.2] at this; exact this
    · rw [if_neg hc]
      unfold Single
      rw [List.pairwise_cons]
      refine ⟨fun x hx hxx => ?_, putSlot_single c m r h.2⟩
      rcases putSlot_has c m x.name x.type r ⟨x, hx, rfl, rfl⟩ with ⟨y, hy, g1, g2⟩ | ⟨g1, g2⟩
      · exact h.1 y hy ⟨hxx.1.trans g1.symm, hxx.2.trans g2.symm⟩
      · exact hc ⟨hxx.1.trans g1, hxx.2.trans g2⟩
theorem slotsOf_extends (c : Str) : ∀ (l : List Method) (out : List Slot), Extends c out (slotsOf c out l)
  | [], out => Extends.refl c out
  | m :: r, out => by
    show Extends c out (slotsOf c (slotStep c out m) r)
    refine Extends.trans ?_ (slotsOf_extends c r _)
    unfold slotStep
    split
    · exact Extends.refl c out
    · exact putSlot_extends c m out
theorem slotsOf_single (c : Str) : ∀ (l : List Method) (out : List Slot), Single out → Single (slotsOf c out l)
  | [], _, h => h
  | m :: r, out, h => by
    show Single (slotsOf c (slotStep c out m) r)
    refine slotsOf_single c r _ ?_
    unfold slotStep
    split
    · exact h
    · exact putSlot_single c m out h
theorem slotsF_snoc (cs : List Class) (out : List Slot) (l : List Str) (c : Str) : slotsF cs out (l ++ [c]) = slotsOf c (slotsF cs out l) (classC cs c).methods := by
  unfold slotsF; rw [List.foldl_append]; rfl
theorem slotsF_single (cs : List Class) : ∀ (l : List Str) (out : List Slot), Single out → Single (slotsF cs out l)
  | [], _, h => h
  | c :: r, out, h => slotsF_single cs r _ (slotsOf_single c _ out h)
theorem slotsF_cls (cs : List Class) : ∀ (l : List Str) (out : List Slot), ∀ s ∈ slotsF cs out l, s.cls ∈ l ∨ ∃ x ∈ out, x.cls = s.cls
  | [], out, s, hs => Or.inr ⟨s, hs, rfl⟩
  | c :: r, out, s, hs => by
    rcases slotsF_cls cs r (slotsOf c out (classC cs c).methods) s hs with h | ⟨x, hx, hxs⟩
    · exact Or.inl (by simp [h])
    · obtain ⟨i, hi, rfl⟩ := List.getElem_of_mem hx
      have e := slotsOf_extends c (classC cs c).methods out
      by_cases hlt : i < out.length
      · rcases (e.same i hlt hi).2.2 with h | h
        · exact Or.inr ⟨out[i], by simp, by rw [← hxs, h]⟩
        · exact Or.inl (by rw [← hxs, h]; simp)
      · exact Or.inl (by rw [← hxs, e.new i hi (by omega)]; simp)
theorem slotsC_up {l : List Class} (h : Right l) {c : Str} (hk : (findC (allC l) c).isSome = true) (h0 : (classC (allC l) c).super.size ≠ 0) :
    slotsC (allC l) c = slotsOf c (slotsC (allC l) (classC (allC l) c).super) (classC (allC l) c).methods := by
  unfold slotsC
  rw [h.line_up hk h0, List.reverse_cons, slotsF_snoc]
theorem slotsC_top {l : List Class} {c : Str} (h0 : (classC (allC l) c).super.size = 0) : slotsC (allC l) c = slotsOf c [] (classC (allC l) c).methods := by
  unfold slotsC
  rw [Right.line_top h0]; rfl
theorem slotsC_single (cs : List Class) (c : Str) : Single (slotsC cs c) := slotsF_single cs _ _ (by simp [Single])
theorem slotsC_cls (cs : List Class) (c : Str) : ∀ s ∈ slotsC cs c, s.cls ∈ lineC cs c := fun s hs => by
  rcases slotsF_cls cs _ _ s hs with h | ⟨x, hx, _⟩
  · exact List.mem_reverse.1 h
  · cases hx
end Go.Proofs.YtbakcdgjibmceaaGreatDoor
namespace Go.Proofs.YtbakcdgjibmceaaGreatDoor
open Go.RowKit Go.Shelf Go.Lib
def isSlot (m : Method) (s : Slot) : Bool := decide (s.name = m.name) && decide (s.type = m.type)
/-- the slot that has a method's name and type -/
def slotIdx (m : Method) : List Slot → Option Nat
  | [] => none
  | s :: r => if isSlot m s then some 0 else (slotIdx m r).map (· + 1)
theorem slotIdx_none {m : Method} {c : Str} : ∀ {l : List Slot}, slotIdx m l = none → putSlot c l m = l ++ [⟨m.name, m.type, c⟩]
  | [], _ => rfl
  | s :: r, h => by
    unfold slotIdx at h
    cases hs : isSlot m s with
    | true => rw [hs, if_pos rfl] at h; cases h
    | false =>
      rw [hs, if_neg (by decide)] at h
      have hr : slotIdx m r = none := by cases hq : slotIdx m r with
        | none => rfl
        | some _ => rw [hq] at h; cases h
      unfold putSlot
      have hn : ¬ (s.name = m.name ∧ s.type = m.type) := by
        rintro ⟨h1, h2⟩; unfold isSlot at hs; rw [decide_eq_true h1, decide_eq_true h2] at hs; cases hs
      rw [if_neg hn, slotIdx_none hr]; rfl
theorem slotIdx_some {m : Method} {c : Str} : ∀ {l : List Slot} {k : Nat}, slotIdx m l = some k → k < l.length ∧ putSlot c l m = l.set k ⟨m.name, m.type, c⟩
  | [], _, h => by cases h
  | s :: r, k, h => by
    unfold slotIdx at h
    unfold putSlot
    cases hs : isSlot m s with
    | true =>
      rw [hs, if_pos rfl] at h
      injection h with h; subst h
      have hn : s.name = m.name ∧ s.type = m.type := by
        unfold isSlot at hs; rw [Bool.and_eq_true] at hs; exact ⟨of_decide_eq_true hs.1, of_decide_eq_true hs.2⟩
      rw [if_pos hn]; exact ⟨by simp, rfl⟩
    | false =>
      rw [hs, if_neg (by decide)] at h
      have hn : ¬ (s.name = m.name ∧ s.type = m.type) := by
        rintro ⟨h1, h2⟩; unfold isSlot at hs; rw [decide_eq_true h1, decide_eq_true h2] at hs; cases hs
      rw [if_neg hn]
      cases hq : slotIdx m r with
      | none => rw [hq] at h; cases h
      | some j =>
        rw [hq] at h; injection h with h; subst h
        obtain ⟨h1, h2⟩ := slotIdx_some (c := c) hq
        exact ⟨by simp; exact h1, by rw [h2]; rfl⟩
/-- one slot as the reference turns it -/
def turnSlot (c : Str) (m : Method) (s : Slot) : Slot := if isSlot m s then { s with cls := c } else s
theorem turn_none {c : Str} {m : Method} : ∀ {l : List Slot}, l.any (isSlot m) = false → l.map (turnSlot c m) = l
  | [], _ => rfl
  | s :: r, h => by
    rw [List.any_cons, Bool.or_eq_false_iff] at h
    rw [List.map_cons, turn_none h.2]
    unfold turnSlot; rw [h.1]; rfl
theorem turn_single {c : Str} {m : Method} : ∀ {l : List Slot}, Single l → l.any (isSlot m) = true → l.map (turnSlot c m) = putSlot c l m
  | [], _, h => by cases h
  | s :: r, hs, h => by
    unfold Single at hs
    rw [List.pairwise_cons] at hs
    rw [List.any_cons] at h
    rw [List.map_cons]
    unfold putSlot
    cases hm : isSlot m s with
    | true =>
      have hn : s.name = m.name ∧ s.type = m.type := by
        unfold isSlot at hm; rw [Bool.and_eq_true] at hm; exact ⟨of_decide_eq_true hm.1, of_decide_eq_true hm.2⟩
      rw [if_pos hn, turn_none]
      · unfold turnSlot; rw [hm, if_pos rfl, hn.1, hn.2]
      · rw [List.any_eq_false]
        intro x hx hxm
        unfold isSlot at hxm; rw [Bool.and_eq_true] at hxm
        exact hs.1 x hx ⟨hn.1.trans (of_decide_eq_true hxm.1).symm, hn.2.trans (of_decide_eq_true hxm.2).symm⟩
    | false =>
      rw [hm, Bool.false_or] at h
      have hn : ¬ (s.name = m.name ∧ s.type = m.type) := by
        rintro ⟨h1, h2⟩; unfold isSlot at hm; rw [decide_eq_true h1, decide_eq_true h2] at hm; cases hm
      rw [if_neg hn, turn_single hs.2 h]
      unfold turnSlot; rw [hm]; rfl
theorem put_none {c : Str} {m : Method} : ∀ {l : List Slot}, l.any (isSlot m) = false → putSlot c l m = l ++ [⟨m.name, m.type, c⟩]
  | [], _ => rfl
  | s :: r, h => by
    rw [List.any_cons, Bool.or_eq_false_iff] at h
    unfold putSlot
    have hn : ¬ (s.name = m.name ∧ s.type = m.type) := by
      rintro ⟨h1, h2⟩; have := h.1; unfold isSlot at this; rw [decide_eq_true h1, decide_eq_true h2] at this; cases this
    rw [if_neg hn, put_none h.2]; rfl
/-- the reference's way of one method more is the program's -/
theorem refPut {c : Str} {m : Method} {l : List Slot} (hs : Single l) : (if l.any (isSlot m) then l.map (turnSlot c m) else l.map (turnSlot c m) ++ [⟨m.name, m.type, c⟩]) = putSlot c l m := by
  cases h : l.any (isSlot m) with
  | true => rw [if_pos rfl, turn_single hs h]
  | false => rw [if_neg (by decide), turn_none h, put_none h]
theorem putSlot_length (c : Str) (m : Method) : ∀ l : List Slot, (putSlot c l m).length ≤ l.length + 1
  | [] => by simp [putSlot]
  | s :: r => by
    unfold putSlot
    split
    · simp
    · have := putSlot_length c m r; simp; omega
theorem slotsOf_cons (c : Str) (out : List Slot) (m : Method) (r : List Method) : slotsOf c out (m :: r) = slotsOf c (slotStep c out m) r := rfl
theorem slotsOf_drop (c : Str) (out : List Slot) (l : List Method) (k : Nat) (m : Method) (h : l[k]? = some m) : slotsOf c out (l.drop k) = slotsOf c (slotStep c out m) (l.drop (k + 1)) := by
  obtain ⟨hk, rfl⟩ := List.getElem?_eq_some_iff.1 h
  rw [List.drop_eq_getElem_cons hk]; rfl
theorem slotsF_drop (cs : List Class) (out : List Slot) (l : List Str) (k : Nat) (c : Str) (h : l[k]? = some c) : slotsF cs out (l.drop k) = slotsF cs (slotsOf c out (classC cs c).methods) (l.drop (k + 1)) := by
  obtain ⟨hk, rfl⟩ := List.getElem?_eq_some_iff.1 h
  rw [List.drop_eq_getElem_cons hk]; rfl
/-- a slot's class has the method itself -/
def SlotOk (cs : List Class) (s : Slot) : Prop := (ownIn s.name s.type (classC cs s.cls).methods).isSome = true
theorem ownIn_mem {n t : Str} : ∀ {l : List Method} {m : Method}, m ∈ l → m.name = n → m.type = t → (ownIn n t l).isSome = true
  | [], _, h, _, _ => by cases h
  | x :: r, m, h, h1, h2 => by
    unfold ownIn
    by_cases hx : x.name = n ∧ x.type = t
    · rw [if_pos hx]; rfl
    · rw [if_neg hx]
      rcases List.mem_cons.1 h with rfl | h
      · exact absurd ⟨h1, h2⟩ hx
      · exact ownIn_mem h h1 h2
theorem putSlot_ok {cs : List Class} {c : Str} {m : Method} (hm : m ∈ (classC cs c).methods) : ∀ {l : List Slot}, (∀ s ∈ l, SlotOk cs s) → ∀ s ∈ putSlot c l m, SlotOk cs s
  | [], _, s, hs => by
    simp [putSlot] at hs; subst hs
    exact ownIn_mem hm rfl rfl
  | x :: r, h, s, hs => by
    unfold putSlot at hs
    split at hs
    · rcases List.mem_cons.1 hs with rfl | hs
      · exact ownIn_mem hm rfl rfl
      · exact h s (by simp [hs])
    · rcases List.mem_cons.1 hs with rfl | hs
      · exact h _ (by simp)
      · exact putSlot_ok hm (fun s hs => h s (by simp [hs])) s hs
theorem slotsOf_ok {cs : List Class} {c : Str} : ∀ {l : List Method} {out : List Slot}, (∀ m ∈ l, m ∈ (classC cs c).methods) → (∀ s ∈ out, SlotOk cs s) → ∀ s ∈ slotsOf c out l, SlotOk cs s
  | [], _, _, h => h
  | m :: r, out, hl, h => by
    rw [slotsOf_cons]
    refine slotsOf_ok (fun x hx => hl x (by simp [hx])) ?_
    unfold slotStep
    split
    · exact h
    · exact putSlot_ok (hl m (by simp)) h
theorem slotsF_ok {cs : List Class} : ∀ {l : List Str} {out : List Slot}, (∀ s ∈ out, SlotOk cs s) → ∀ s ∈ slotsF cs out l, SlotOk cs s
  | [], _, h => h
  | c :: r, out, h => slotsF_ok (l := r) (out := slotsOf c out (classC cs c).methods) (slotsOf_ok (fun _ h => h) h)
theorem slotsC_ok (cs : List Class) (c : Str) : ∀ s ∈ slotsC cs c, SlotOk cs s := slotsF_ok (fun s hs => by cases hs)
/-- a slot's method is found in its class itself -/
theorem slot_method {cs : List Class} {s : Slot} (h : SlotOk cs s) : ∃ m, ownIn s.name s.type (classC cs s.cls).methods = some m ∧ methodC cs s.cls s.name s.type = some (s.cls, m) := by
  unfold SlotOk at h
  rw [Option.isSome_iff_exists] at h
  obtain ⟨m, hm⟩ := h
  refine ⟨m, hm, ?_⟩
  unfold methodC lineC
  rw [lineF_head]
  unfold methodGo
  rw [hm]
/-- the method that is called, as it is found: the slots of the class have the last word -/
def calledGo (cs : List Class) (n t : Str) : Option (Str × Method) → List Slot → Option (Str × Method)
  | o, [] => o
  | o, s :: r => calledGo cs n t (if s.name = n ∧ s.type = t then methodC cs s.cls n t else o) r
theorem calledGo_drop (cs : List Class) (n t : Str) (o : Option (Str × Method)) (l : List Slot) (k : Nat) (s : Slot) (h : l[k]? = some s) :
    calledGo cs n t o (l.drop k) = calledGo cs n t (if s.name = n ∧ s.type = t then methodC cs s.cls n t else o) (l.drop (k + 1)) := by
  obtain ⟨hk, rfl⟩ := List.getElem?_eq_some_iff.1 h
  rw [List.drop_eq_getElem_cons hk]; rfl
def calledC (cs : List Class) (c n t : Str) : Option (Str × Method) := calledGo cs n t (methodC cs c n t) (slotsC cs c)
def callable : Option (Str × Method) → Bool
  | some (_, m) => !m.static && !m.priv && !m.abs
  | none => false
def pickC (cs : List Class) (c n t : Str) : Option (Str × Method) := if callable (calledC cs c n t) then calledC cs c n t else none
/-- who may call what -/
def callFault (cs : List Class) (src c n t : Str) (static : Bool) : Nat :=
  if (findC cs c).isNone then 3
  else match methodC cs c n t with
    | none => 3
    | some (d, m) => if (findC cs src).isNone then 3 else if m.static ≠ static then 7 else if m.priv && decide (d ≠ src) then 9 else 0
end Go.Proofs.YtbakcdgjibmceaaGreatDoor
