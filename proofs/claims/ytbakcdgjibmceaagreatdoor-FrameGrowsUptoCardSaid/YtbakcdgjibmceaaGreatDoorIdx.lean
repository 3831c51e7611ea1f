/-
  WALKS over slices.IndexFunc and slices.ContainsFunc, at methods, fields and strings, with whatever closure. By program (gen_idx.py).
-/
import Derived.Test.YtbakcdgjibmceaaGreatDoorClassBody
import Derived.Shelf.GgClosure.Gives
namespace Go.Proofs.YtbakcdgjibmceaaGreatDoor
open Go.RowKit Go.Shelf Go.Lib
/-- the place of the first element that is as asked for; -1: there is none -/
def idxR {α : Type} (f : α → Bool) (l : List α) : Int := match l.findIdx? f with | some i => i | none => -1
theorem idxR_hit {α : Type} {f : α → Bool} {l : List α} {k : Nat} {x : α} (h : l[k]? = some x) (hf : f x = true) (hn : ∀ j y, j < k → l[j]? = some y → f y = false) : idxR f l = k := by
  obtain ⟨hk, rfl⟩ := List.getElem?_eq_some_iff.1 h
  unfold idxR
  have : l.findIdx? f = some k := by
    rw [List.findIdx?_eq_some_iff_getElem]
    exact ⟨hk, hf, fun j hj => by simp [hn j _ hj (List.getElem?_eq_getElem (by omega))]⟩
  rw [this]
theorem idxR_miss {α : Type} {f : α → Bool} {l : List α} (hn : ∀ j y, j < l.length → l[j]? = some y → f y = false) : idxR f l = -1 := by
  unfold idxR
  have : l.findIdx? f = none := by
    rw [List.findIdx?_eq_none_iff]
    intro x hx
    obtain ⟨j, hj, rfl⟩ := List.getElem_of_mem hx
    exact hn j _ hj (List.getElem?_eq_getElem hj)
  rw [this]
theorem idxR_any {α : Type} (f : α → Bool) (l : List α) : decide (0 ≤ idxR f l) = l.any f := by
  unfold idxR
  cases h : l.findIdx? f with
  | none =>
    rw [List.findIdx?_eq_none_iff] at h
    have : l.any f = false := by rw [List.any_eq_false]; intro x hx; simp [h x hx]
    rw [this]; rfl
  | some i =>
    rw [List.findIdx?_eq_some_iff_getElem] at h
    obtain ⟨hi, hf, _⟩ := h
    have : l.any f = true := by rw [List.any_eq_true]; exact ⟨_, List.getElem_mem hi, hf⟩
    rw [this]; simp
set_option maxHeartbeats 1000000 in
theorem idxFunc_method {α : Type} (R : α → List Value → Prop) (f : α → Bool) (g : Nat) (lb : Array Value) (eg : ∀ args w, (callFunc g args).run Tryz.prog w = .ok (.enter g args) w) (l : List α) (v : Value) (w : World) (h : SliceOf w 8 R v l)
    (hp : ∀ W x a0 a1 a2 a3 a4 a5 a6 a7, x ∈ l → R x [a0, a1, a2, a3, a4, a5, a6, a7] → Below w.heap.size w W → Calls Tryz.prog g (#[.agg #[a0, a1, a2, a3, a4, a5, a6, a7]] ++ lb) W fun e w' => e = .returned (.bool (f x)) ∧ Below W.heap.size W w') :
    Calls Tryz.prog 185 #[v, .func (.func g) #[] lb] w fun e w' => e = .returned (.int .i64 (idxR f l)) ∧ Below w.heap.size w w' := by
  obtain ⟨p, cap, rfl, h1, h2, hcc⟩ := h.open
  have HC := Lib.hid hcc; clear hcc h
  have HP := Lib.hid hp; clear hp
  have hlen : l.length ≤ 9223372036854775807 := Nat.le_trans h1 h2
  go_enter Tryz.func185, Tryz.ntmps185
  go_wp2_with (first | fail)
  go_loopw [5, 8] (fun _ x wr => ∃ k, k ≤ l.length ∧ Hid (∀ j y, j < k → l[j]? = some y → f y = false) ∧ Below w.heap.size w wr ∧ x = .int .i64 k) (fun _ x _ => l.length - (intOf x).toNat)
  case atStart => exact ⟨0, by omega, fun j y h => by omega, Below.refl _ _, rfl⟩
  case round =>
    obtain ⟨k, hk, hff, hB, rfl⟩ := hrel
    by_cases hkl : k < l.length
    · obtain ⟨x, hx⟩ : ∃ x, l[k]? = some x := ⟨l[k], by simp [hkl]⟩
      obtain ⟨b, o, vs, rfl, hR, hvl, hcells⟩ := HC.out k x hx
      have hcells := hcells.mono hB (by match vs, hvl with | _ :: _, _ => exact hcells.lt)
      match vs, hvl with
      | [a0, a1, a2, a3, a4, a5, a6, a7], _ =>
      have hcall := HP.out wr x a0 a1 a2 a3 a4 a5 a6 a7 (List.mem_of_getElem? hx) hR hB
      have HX := Lib.hid hx; clear hx hR
      obtain ⟨c0, c1, c2, c3, c4, c5, c6, c7, _⟩ := hcells
      cases hq : f x with
      | true =>
        rw [hq] at hcall
        have HQ := Lib.hid hq
        clear hq HP HC
        go_wp2_with (go_at_fn g; refine hcall.mono ?_; rintro e w' ⟨rfl, hb'⟩)
        go_ret
        exact ⟨by rw [idxR_hit HX.out HQ.out hff.out]; rfl, below_call hB (Nat.le_refl _) hb'⟩
      | false =>
        rw [hq] at hcall
        have HQ := Lib.hid hq
        clear hq HP HC
        go_wp2_with (go_at_fn g; refine hcall.mono ?_; rintro e w' ⟨rfl, hb'⟩)
        refine ⟨⟨k + 1, by omega, fun j y hj hy => ?_, below_call hB (Nat.le_refl _) hb', by simp⟩, by simp [intOf]; omega⟩
        by_cases e : j = k
        · subst e; have := HX.out; rw [hy] at this; injection this with this; rw [this]; exact HQ.out
        · exact hff.out j y (by omega) hy
    · obtain rfl : k = l.length := by omega
      go_wp2_with (first | fail)
      go_ret
      exact ⟨by rw [idxR_miss hff.out]; rfl, hB⟩
set_option maxHeartbeats 1000000 in
theorem anyFunc_method {α : Type} (R : α → List Value → Prop) (f : α → Bool) (g : Nat) (lb : Array Value) (eg : ∀ args w, (callFunc g args).run Tryz.prog w = .ok (.enter g args) w) (l : List α) (v : Value) (w : World) (h : SliceOf w 8 R v l)
    (hp : ∀ W x a0 a1 a2 a3 a4 a5 a6 a7, x ∈ l → R x [a0, a1, a2, a3, a4, a5, a6, a7] → Below w.heap.size w W → Calls Tryz.prog g (#[.agg #[a0, a1, a2, a3, a4, a5, a6, a7]] ++ lb) W fun e w' => e = .returned (.bool (f x)) ∧ Below W.heap.size W w') :
    Calls Tryz.prog 165 #[v, .func (.func g) #[] lb] w fun e w' => e = .returned (.bool (l.any f)) ∧ Below w.heap.size w w' := by
  rw [← idxR_any]
  have HI := Lib.hid (idxFunc_method R f g lb eg l v w h hp)
  obtain ⟨p, cap, rfl, h1, h2, _⟩ := h.open
  clear hp h
  generalize idxR f l = r at *
  go_enter Tryz.func165, Tryz.ntmps165
  go_wp2_with (go_at_call 185; refine HI.out.mono ?_; rintro e w' ⟨rfl, hb'⟩)
  go_ret
  exact ⟨rfl, hb'⟩
set_option maxHeartbeats 1000000 in
theorem idxFunc_field {α : Type} (R : α → List Value → Prop) (f : α → Bool) (g : Nat) (lb : Array Value) (eg : ∀ args w, (callFunc g args).run Tryz.prog w = .ok (.enter g args) w) (l : List α) (v : Value) (w : World) (h : SliceOf w 2 R v l)
    (hp : ∀ W x a0 a1, x ∈ l → R x [a0, a1] → Below w.heap.size w W → Calls Tryz.prog g (#[.agg #[a0, a1]] ++ lb) W fun e w' => e = .returned (.bool (f x)) ∧ Below W.heap.size W w') :
    Calls Tryz.prog 164 #[v, .func (.func g) #[] lb] w fun e w' => e = .returned (.int .i64 (idxR f l)) ∧ Below w.heap.size w w' := by
  obtain ⟨p, cap, rfl, h1, h2, hcc⟩ := h.open
  have HC := Lib.hid hcc; clear hcc h
  have HP := Lib.hid hp; clear hp
  have hlen : l.length ≤ 9223372036854775807 := Nat.le_trans h1 h2
  go_enter Tryz.func164, Tryz.ntmps164
  go_wp2_with (first | fail)
  go_loopw [5, 8] (fun _ x wr => ∃ k, k ≤ l.length ∧ Hid (∀ j y, j < k → l[j]? = some y → f y = false) ∧ Below w.heap.size w wr ∧ x = .int .i64 k) (fun _ x _ => l.length - (intOf x).toNat)
  case atStart => exact ⟨0, by omega, fun j y h => by omega, Below.refl _ _, rfl⟩
  case round =>
    obtain ⟨k, hk, hff, hB, rfl⟩ := hrel
    by_cases hkl : k < l.length
    · obtain ⟨x, hx⟩ : ∃ x, l[k]? = some x := ⟨l[k], by simp [hkl]⟩
      obtain ⟨b, o, vs, rfl, hR, hvl, hcells⟩ := HC.out k x hx
      have hcells := hcells.mono hB (by match vs, hvl with | _ :: _, _ => exact hcells.lt)
      match vs, hvl with
      | [a0, a1], _ =>
      have hcall := HP.out wr x a0 a1 (List.mem_of_getElem? hx) hR hB
      have HX := Lib.hid hx; clear hx hR
      obtain ⟨c0, c1, _⟩ := hcells
      cases hq : f x with
      | true =>
        rw [hq] at hcall
        have HQ := Lib.hid hq
        clear hq HP HC
        go_wp2_with (go_at_fn g; refine hcall.mono ?_; rintro e w' ⟨rfl, hb'⟩)
        go_ret
        exact ⟨by rw [idxR_hit HX.out HQ.out hff.out]; rfl, below_call hB (Nat.le_refl _) hb'⟩
      | false =>
        rw [hq] at hcall
        have HQ := Lib.hid hq
        clear hq HP HC
        go_wp2_with (go_at_fn g; refine hcall.mono ?_; rintro e w' ⟨rfl, hb'⟩)
        refine ⟨⟨k + 1, by omega, fun j y hj hy => ?_, below_call hB (Nat.le_refl _) hb', by simp⟩, by simp [intOf]; omega⟩
        by_cases e : j = k
        · subst e; have := HX.out; rw [hy] at this; injection this with this; rw [this]; exact HQ.out
        · exact hff.out j y (by omega) hy
    · obtain rfl : k = l.length := by omega
      go_wp2_with (first | fail)
      go_ret
      exact ⟨by rw [idxR_miss hff.out]; rfl, hB⟩
set_option maxHeartbeats 1000000 in
theorem anyFunc_field {α : Type} (R : α → List Value → Prop) (f : α → Bool) (g : Nat) (lb : Array Value) (eg : ∀ args w, (callFunc g args).run Tryz.prog w = .ok (.enter g args) w) (l : List α) (v : Value) (w : World) (h : SliceOf w 2 R v l)
    (hp : ∀ W x a0 a1, x ∈ l → R x [a0, a1] → Below w.heap.size w W → Calls Tryz.prog g (#[.agg #[a0, a1]] ++ lb) W fun e w' => e = .returned (.bool (f x)) ∧ Below W.heap.size W w') :
    Calls Tryz.prog 127 #[v, .func (.func g) #[] lb] w fun e w' => e = .returned (.bool (l.any f)) ∧ Below w.heap.size w w' := by
  rw [← idxR_any]
  have HI := Lib.hid (idxFunc_field R f g lb eg l v w h hp)
  obtain ⟨p, cap, rfl, h1, h2, _⟩ := h.open
  clear hp h
  generalize idxR f l = r at *
  go_enter Tryz.func127, Tryz.ntmps127
  go_wp2_with (go_at_call 164; refine HI.out.mono ?_; rintro e w' ⟨rfl, hb'⟩)
  go_ret
  exact ⟨rfl, hb'⟩
set_option maxHeartbeats 1000000 in
theorem idxFunc_string {α : Type} (R : α → List Value → Prop) (f : α → Bool) (g : Nat) (lb : Array Value) (eg : ∀ args w, (callFunc g args).run Tryz.prog w = .ok (.enter g args) w) (l : List α) (v : Value) (w : World) (h : SliceOf w 1 R v l)
    (hp : ∀ W x a0, x ∈ l → R x [a0] → Below w.heap.size w W → Calls Tryz.prog g (#[a0] ++ lb) W fun e w' => e = .returned (.bool (f x)) ∧ Below W.heap.size W w') :
    Calls Tryz.prog 168 #[v, .func (.func g) #[] lb] w fun e w' => e = .returned (.int .i64 (idxR f l)) ∧ Below w.heap.size w w' := by
  obtain ⟨p, cap, rfl, h1, h2, hcc⟩ := h.open
  have HC := Lib.hid hcc; clear hcc h
  have HP := Lib.hid hp; clear hp
  have hlen : l.length ≤ 9223372036854775807 := Nat.le_trans h1 h2
  go_enter Tryz.func168, Tryz.ntmps168
  go_wp2_with (first | fail)
  go_loopw [5, 8] (fun _ x wr => ∃ k, k ≤ l.length ∧ Hid (∀ j y, j < k → l[j]? = some y → f y = false) ∧ Below w.heap.size w wr ∧ x = .int .i64 k) (fun _ x _ => l.length - (intOf x).toNat)
  case atStart => exact ⟨0, by omega, fun j y h => by omega, Below.refl _ _, rfl⟩
  case round =>
    obtain ⟨k, hk, hff, hB, rfl⟩ := hrel
    by_cases hkl : k < l.length
    · obtain ⟨x, hx⟩ : ∃ x, l[k]? = some x := ⟨l[k], by simp [hkl]⟩
      obtain ⟨b, o, vs, rfl, hR, hvl, hcells⟩ := HC.out k x hx
      have hcells := hcells.mono hB (by match vs, hvl with | _ :: _, _ => exact hcells.lt)
      match vs, hvl with
      | [a0], _ =>
      have hcall := HP.out wr x a0 (List.mem_of_getElem? hx) hR hB
      have HX := Lib.hid hx; clear hx hR
      obtain ⟨c0, _⟩ := hcells
      rw [Nat.mul_one] at c0
      cases hq : f x with
      | true =>
        rw [hq] at hcall
        have HQ := Lib.hid hq
        clear hq HP HC
        go_wp2_with (go_at_fn g; refine hcall.mono ?_; rintro e w' ⟨rfl, hb'⟩)
        go_ret
        exact ⟨by rw [idxR_hit HX.out HQ.out hff.out]; rfl, below_call hB (Nat.le_refl _) hb'⟩
      | false =>
        rw [hq] at hcall
        have HQ := Lib.hid hq
        clear hq HP HC
        go_wp2_with (go_at_fn g; refine hcall.mono ?_; rintro e w' ⟨rfl, hb'⟩)
        refine ⟨⟨k + 1, by omega, fun j y hj hy => ?_, below_call hB (Nat.le_refl _) hb', by simp⟩, by simp [intOf]; omega⟩
        by_cases e : j = k
        · subst e; have := HX.out; rw [hy] at this; injection this with this; rw [this]; exact HQ.out
        · exact hff.out j y (by omega) hy
    · obtain rfl : k = l.length := by omega
      go_wp2_with (first | fail)
      go_ret
      exact ⟨by rw [idxR_miss hff.out]; rfl, hB⟩
set_option maxHeartbeats 1000000 in
theorem anyFunc_string {α : Type} (R : α → List Value → Prop) (f : α → Bool) (g : Nat) (lb : Array Value) (eg : ∀ args w, (callFunc g args).run Tryz.prog w = .ok (.enter g args) w) (l : List α) (v : Value) (w : World) (h : SliceOf w 1 R v l)
    (hp : ∀ W x a0, x ∈ l → R x [a0] → Below w.heap.size w W → Calls Tryz.prog g (#[a0] ++ lb) W fun e w' => e = .returned (.bool (f x)) ∧ Below W.heap.size W w') :
    Calls Tryz.prog 131 #[v, .func (.func g) #[] lb] w fun e w' => e = .returned (.bool (l.any f)) ∧ Below w.heap.size w w' := by
  rw [← idxR_any]
  have HI := Lib.hid (idxFunc_string R f g lb eg l v w h hp)
  obtain ⟨p, cap, rfl, h1, h2, _⟩ := h.open
  clear hp h
  generalize idxR f l = r at *
  go_enter Tryz.func131, Tryz.ntmps131
  go_wp2_with (go_at_call 168; refine HI.out.mono ?_; rintro e w' ⟨rfl, hb'⟩)
  go_ret
  exact ⟨rfl, hb'⟩
end Go.Proofs.YtbakcdgjibmceaaGreatDoor
