/-
  WALKS over slices.IndexFunc and slices.ContainsFunc, at methods, fields and strings, with whatever closure. By program (gen_idx.py).
  WALKS over package class: method and its closures; slices.Contains. Conditions: as in XClassBody.
-/
import Derived.Test.YtlmfmioljeppfaaGreatDoorClassBody
import Derived.Shelf.GgClosure.Gives
import Derived.Deep.DeepCutAuto
import Derived.Deep.RegionHeld3
import Derived.Deep.RegionWith
namespace Go.Proofs.YtlmfmioljeppfaaGreatDoor
open Go.RowKit Go.Shelf Go.Lib
def idxR {α : Type} (f : α → Bool) (l : List α) : Int := match l.findIdx? f with | some i => i | none => -1
theorem idxR_hit {α : Type} {f : α → Bool} {l : List α} {k : Nat} {x : α} (h : l[k]? = some x) (hf : f x = true) (hn : ∀ j y, j < k → l[j]? = some y → f y = false) : idxR f l = k := by
  obtain ⟨hk, rfl⟩ := List.getElem?_eq_some_iff.1 h
  unfold idxR
  have : l.findIdx? f = some k := by
    rw [List.findIdx?_eq_some_iff_getElem]
    exact ⟨hk, hf, fun j hj => by simp [hn j _ hj (List.getElem?_eq_getElem (by omega))]⟩
  rw [this]
theorem idxR_miss {α : Type} {f : α → Bool} {l : List α} (hn : ∀ j y, j < l.length → l[j]? = some y → f y = false) : idxR f l = -1 := by
  unfold idxR
  have : l.findIdx? f = none := by
    rw [List.findIdx?_eq_none_iff]
    intro x hx
    obtain ⟨j, hj, rfl⟩ := List.getElem_of_mem hx
    exact hn j _ hj (List.getElem?_eq_getElem hj)
  rw [this]
theorem idxR_any {α : Type} (f : α → Bool) (l : List α) : decide (0 ≤ idxR f l) = l.any f := by
  unfold idxR
  cases h : l.findIdx? f with
  | none =>
    rw [List.findIdx?_eq_none_iff] at h
    have : l.any f = false := by rw [List.any_eq_false]; intro x hx; simp [h x hx]
    rw [this]; rfl
  | some i =>
    rw [List.findIdx?_eq_some_iff_getElem] at h
    obtain ⟨hi, hf, _⟩ := h
    have : l.any f = true := by rw [List.any_eq_true]; exact ⟨_, List.getElem_mem hi, hf⟩
    rw [this]; simp
set_option maxHeartbeats 1000000 in
theorem idxFunc_method {α : Type} (R : α → List Value → Prop) (f : α → Bool) (g : Nat) (lb : Array Value) (eg : ∀ args w, (callFunc g args).run Tryz.prog w = .ok (.enter g args) w) (l : List α) (v : Value) (w : World) (h : SliceOf w 8 R v l)
    (hp : ∀ W x a0 a1 a2 a3 a4 a5 a6 a7, x ∈ l → R x [a0, a1, a2, a3, a4, a5, a6, a7] → Below w.heap.size w W → Calls Tryz.prog g (#[.agg #[a0, a1, a2, a3, a4, a5, a6, a7]] ++ lb) W fun e w' => e = .returned (.bool (f x)) ∧ Below W.heap.size W w') :
    Calls Tryz.prog 199 #[v, .func (.func g) #[] lb] w fun e w' => e = .returned (.int .i64 (idxR f l)) ∧ Below w.heap.size w w' := by
  obtain ⟨p, cap, rfl, h1, h2, hcc⟩ := h.open
  have HC := Lib.hid hcc; clear hcc h
  have HP := Lib.hid hp; clear hp
  have hlen : l.length ≤ 9223372036854775807 := Nat.le_trans h1 h2
  go_enter Tryz.func199, Tryz.ntmps199
  go_wp2_with (first | fail)
  go_loopw [5, 8] (fun _ x wr => ∃ k, k ≤ l.length ∧ Hid (∀ j y, j < k → l[j]? = some y → f y = false) ∧ Below w.heap.size w wr ∧ x = .int .i64 k) (fun _ x _ => l.length - (intOf x).toNat)
  case atStart => exact ⟨0, by omega, fun j y h => by omega, Below.refl _ _, rfl⟩
  case round =>
    obtain ⟨k, hk, hff, hB, rfl⟩ := hrel
    by_cases hkl : k < l.length
    · obtain ⟨x, hx⟩ : ∃ x, l[k]? = some x := ⟨l[k], by simp [hkl]⟩
      obtain ⟨b, o, vs, rfl, hR, hvl, hcells⟩ := HC.out k x hx
      have hcells := hcells.mono hB (by match vs, hvl with | _ :: _, _ => exact hcells.lt)
      match vs, hvl with
      | [a0, a1, a2, a3, a4, a5, a6, a7], _ =>
      have hcall := HP.out wr x a0 a1 a2 a3 a4 a5 a6 a7 (List.mem_of_getElem? hx) hR hB
      have HX := Lib.hid hx; clear hx hR
      obtain ⟨c0, c1, c2, c3, c4, c5, c6, c7, _⟩ := hcells
      cases hq : f x with
      | true =>
        rw [hq] at hcall
        have HQ := Lib.hid hq
        clear hq HP HC
        go_wp2_with (go_at_fn g; refine hcall.mono ?_; rintro e w' ⟨rfl, hb'⟩)
        go_ret
        exact ⟨by rw [idxR_hit HX.out HQ.out hff.out]; rfl, below_call hB (Nat.le_refl _) hb'⟩
      | false =>
        rw [hq] at hcall
        have HQ := Lib.hid hq
        clear hq HP HC
        go_wp2_with (go_at_fn g; refine hcall.mono ?_; rintro e w' ⟨rfl, hb'⟩)
        refine ⟨⟨k + 1, by omega, fun j y hj hy => ?_, below_call hB (Nat.le_refl _) hb', by simp⟩, by simp [intOf]; omega⟩
        by_cases e : j = k
        · subst e; have := HX.out; rw [hy] at this; injection this with this; rw [this]; exact HQ.out
        · exact hff.out j y (by omega) hy
    · obtain rfl : k = l.length := by omega
      go_wp2_with (first | fail)
      go_ret
      exact ⟨by rw [idxR_miss hff.out]; rfl, hB⟩
set_option maxHeartbeats 1000000 in
theorem anyFunc_method {α : Type} (R : α → List Value → Prop) (f : α → Bool) (g : Nat) (lb : Array Value) (eg : ∀ args w, (callFunc g args).run Tryz.prog w = .ok (.enter g args) w) (l : List α) (v : Value) (w : World) (h : SliceOf w 8 R v l)
    (hp : ∀ W x a0 a1 a2 a3 a4 a5 a6 a7, x ∈ l → R x [a0, a1, a2, a3, a4, a5, a6, a7] → Below w.heap.size w W → Calls Tryz.prog g (#[.agg #[a0, a1, a2, a3, a4, a5, a6, a7]] ++ lb) W fun e w' => e = .returned (.bool (f x)) ∧ Below W.heap.size W w') :
    Calls Tryz.prog 169 #[v, .func (.func g) #[] lb] w fun e w' => e = .returned (.bool (l.any f)) ∧ Below w.heap.size w w' := by
  rw [← idxR_any]
  have HI := Lib.hid (idxFunc_method R f g lb eg l v w h hp)
  obtain ⟨p, cap, rfl, h1, h2, _⟩ := h.open
  clear hp h
  generalize idxR f l = r at *
  go_enter Tryz.func169, Tryz.ntmps169
  go_wp2_with (go_at_call 199; refine HI.out.mono ?_; rintro e w' ⟨rfl, hb'⟩)
  go_ret
  exact ⟨rfl, hb'⟩
set_option maxHeartbeats 1000000 in
theorem idxFunc_field {α : Type} (R : α → List Value → Prop) (f : α → Bool) (g : Nat) (lb : Array Value) (eg : ∀ args w, (callFunc g args).run Tryz.prog w = .ok (.enter g args) w) (l : List α) (v : Value) (w : World) (h : SliceOf w 2 R v l)
    (hp : ∀ W x a0 a1, x ∈ l → R x [a0, a1] → Below w.heap.size w W → Calls Tryz.prog g (#[.agg #[a0, a1]] ++ lb) W fun e w' => e = .returned (.bool (f x)) ∧ Below W.heap.size W w') :
    Calls Tryz.prog 168 #[v, .func (.func g) #[] lb] w fun e w' => e = .returned (.int .i64 (idxR f l)) ∧ Below w.heap.size w w' := by
  obtain ⟨p, cap, rfl, h1, h2, hcc⟩ := h.open
  have HC := Lib.hid hcc; clear hcc h
  have HP := Lib.hid hp; clear hp
  have hlen : l.length ≤ 9223372036854775807 := Nat.le_trans h1 h2
  go_enter Tryz.func168, Tryz.ntmps168
  go_wp2_with (first | fail)
  go_loopw [5, 8] (fun _ x wr => ∃ k, k ≤ l.length ∧ Hid (∀ j y, j < k → l[j]? = some y → f y = false) ∧ Below w.heap.size w wr ∧ x = .int .i64 k) (fun _ x _ => l.length - (intOf x).toNat)
  case atStart => exact ⟨0, by omega, fun j y h => by omega, Below.refl _ _, rfl⟩
  case round =>
    obtain ⟨k, hk, hff, hB, rfl⟩ := hrel
    by_cases hkl : k < l.length
    · obtain ⟨x, hx⟩ : ∃ x, l[k]? = some x := ⟨l[k], by simp [hkl]⟩
      obtain ⟨b, o, vs, rfl, hR, hvl, hcells⟩ := HC.out k x hx
      have hcells := hcells.mono hB (by match vs, hvl with | _ :: _, _ => exact hcells.lt)
      match vs, hvl with
      | [a0, a1], _ =>
      have hcall := HP.out wr x a0 a1 (List.mem_of_getElem? hx) hR hB
      have HX := Lib.hid hx; clear hx hR
      obtain ⟨c0, c1, _⟩ := hcells
      cases hq : f x with
      | true =>
        rw [hq] at hcall
        have HQ := Lib.hid hq
        clear hq HP HC
        go_wp2_with (go_at_fn g; refine hcall.mono ?_; rintro e w' ⟨rfl, hb'⟩)
        go_ret
        exact ⟨by rw [idxR_hit HX.out HQ.out hff.out]; rfl, below_call hB (Nat.le_refl _) hb'⟩
      | false =>
        rw [hq] at hcall
        have HQ := Lib.hid hq
        clear hq HP HC
        go_wp2_with (go_at_fn g; refine hcall.mono ?_; rintro e w' ⟨rfl, hb'⟩)
        refine ⟨⟨k + 1, by omega, fun j y hj hy => ?_, below_call hB (Nat.le_refl _) hb', by simp⟩, by simp [intOf]; omega⟩
        by_cases e : j = k
        · subst e; have := HX.out; rw [hy] at this; injection this with this; rw [this]; exact HQ.out
        · exact hff.out j y (by omega) hy
    · obtain rfl : k = l.length := by omega
      go_wp2_with (first | fail)
      go_ret
      exact ⟨by rw [idxR_miss hff.out]; rfl, hB⟩
set_option maxHeartbeats 1000000 in
theorem anyFunc_field {α : Type} (R : α → List Value → Prop) (f : α → Bool) (g : Nat) (lb : Array Value) (eg : ∀ args w, (callFunc g args).run Tryz.prog w = .ok (.enter g args) w) (l : List α) (v : Value) (w : World) (h : SliceOf w 2 R v l)
    (hp : ∀ W x a0 a1, x ∈ l → R x [a0, a1] → Below w.heap.size w W → Calls Tryz.prog g (#[.agg #[a0, a1]] ++ lb) W fun e w' => e = .returned (.bool (f x)) ∧ Below W.heap.size W w') :
    Calls Tryz.prog 120 #[v, .func (.func g) #[] lb] w fun e w' => e = .returned (.bool (l.any f)) ∧ Below w.heap.size w w' := by
  rw [← idxR_any]
  have HI := Lib.hid (idxFunc_field R f g lb eg l v w h hp)
  obtain ⟨p, cap, rfl, h1, h2, _⟩ := h.open
  clear hp h
  generalize idxR f l = r at *
  go_enter Tryz.func120, Tryz.ntmps120
  go_wp2_with (go_at_call 168; refine HI.out.mono ?_; rintro e w' ⟨rfl, hb'⟩)
  go_ret
  exact ⟨rfl, hb'⟩
set_option maxHeartbeats 1000000 in
theorem idxFunc_string {α : Type} (R : α → List Value → Prop) (f : α → Bool) (g : Nat) (lb : Array Value) (eg : ∀ args w, (callFunc g args).run Tryz.prog w = .ok (.enter g args) w) (l : List α) (v : Value) (w : World) (h : SliceOf w 1 R v l)
    (hp : ∀ W x a0, x ∈ l → R x [a0] → Below w.heap.size w W → Calls Tryz.prog g (#[a0] ++ lb) W fun e w' => e = .returned (.bool (f x)) ∧ Below W.heap.size W w') :
    Calls Tryz.prog 172 #[v, .func (.func g) #[] lb] w fun e w' => e = .returned (.int .i64 (idxR f l)) ∧ Below w.heap.size w w' := by
  obtain ⟨p, cap, rfl, h1, h2, hcc⟩ := h.open
  have HC := Lib.hid hcc; clear hcc h
  have HP := Lib.hid hp; clear hp
  have hlen : l.length ≤ 9223372036854775807 := Nat.le_trans h1 h2
  go_enter Tryz.func172, Tryz.ntmps172
  go_wp2_with (first | fail)
  go_loopw [5, 8] (fun _ x wr => ∃ k, k ≤ l.length ∧ Hid (∀ j y, j < k → l[j]? = some y → f y = false) ∧ Below w.heap.size w wr ∧ x = .int .i64 k) (fun _ x _ => l.length - (intOf x).toNat)
  case atStart => exact ⟨0, by omega, fun j y h => by omega, Below.refl _ _, rfl⟩
  case round =>
    obtain ⟨k, hk, hff, hB, rfl⟩ := hrel
    by_cases hkl : k < l.length
    · obtain ⟨x, hx⟩ : ∃ x, l[k]? = some x := ⟨l[k], by simp [hkl]⟩
      obtain ⟨b, o, vs, rfl, hR, hvl, hcells⟩ := HC.out k x hx
      have hcells := hcells.mono hB (by match vs, hvl with | _ :: _, _ => exact hcells.lt)
      match vs, hvl with
      | [a0], _ =>
      have hcall := HP.out wr x a0 (List.mem_of_getElem? hx) hR hB
      have HX := Lib.hid hx; clear hx hR
      obtain ⟨c0, _⟩ := hcells
      rw [Nat.mul_one] at c0
      cases hq : f x with
      | true =>
        rw [hq] at hcall
        have HQ := Lib.hid hq
        clear hq HP HC
        go_wp2_with (go_at_fn g; refine hcall.mono ?_; rintro e w' ⟨rfl, hb'⟩)
        go_ret
        exact ⟨by rw [idxR_hit HX.out HQ.out hff.out]; rfl, below_call hB (Nat.le_refl _) hb'⟩
      | false =>
        rw [hq] at hcall
        have HQ := Lib.hid hq
        clear hq HP HC
        go_wp2_with (go_at_fn g; refine hcall.mono ?_; rintro e w' ⟨rfl, hb'⟩)
        refine ⟨⟨k + 1, by omega, fun j y hj hy => ?_, below_call hB (Nat.le_refl _) hb', by simp⟩, by simp [intOf]; omega⟩
        by_cases e : j = k
        · subst e; have := HX.out; rw [hy] at this; injection this with this; rw [this]; exact HQ.out
        · exact hff.out j y (by omega) hy
    · obtain rfl : k = l.length := by omega
      go_wp2_with (first | fail)
      go_ret
      exact ⟨by rw [idxR_miss hff.out]; rfl, hB⟩
set_option maxHeartbeats 1000000 in
theorem anyFunc_string {α : Type} (R : α → List Value → Prop) (f : α → Bool) (g : Nat) (lb : Array Value) (eg : ∀ args w, (callFunc g args).run Tryz.prog w = .ok (.enter g args) w) (l : List α) (v : Value) (w : World) (h : SliceOf w 1 R v l)
    (hp : ∀ W x a0, x ∈ l → R x [a0] → Below w.heap.size w W → Calls Tryz.prog g (#[a0] ++ lb) W fun e w' => e = .returned (.bool (f x)) ∧ Below W.heap.size W w') :
    Calls Tryz.prog 124 #[v, .func (.func g) #[] lb] w fun e w' => e = .returned (.bool (l.any f)) ∧ Below w.heap.size w w' := by
  rw [← idxR_any]
  have HI := Lib.hid (idxFunc_string R f g lb eg l v w h hp)
  obtain ⟨p, cap, rfl, h1, h2, _⟩ := h.open
  clear hp h
  generalize idxR f l = r at *
  go_enter Tryz.func124, Tryz.ntmps124
  go_wp2_with (go_at_call 172; refine HI.out.mono ?_; rintro e w' ⟨rfl, hb'⟩)
  go_ret
  exact ⟨rfl, hb'⟩
end Go.Proofs.YtlmfmioljeppfaaGreatDoor
namespace Go.Proofs.YtlmfmioljeppfaaGreatDoor
open Go.RowKit Go.Shelf Go.Lib
theorem strEq (a b : ByteArray) : (a.toList == b.toList) = decide (a = b) := by
  rw [Bool.eq_iff_iff]; simp only [beq_iff_eq, decide_eq_true_eq, ByteArray.toList_eq]
  constructor
  · intro h; exact ByteArray.ext (Array.toList_inj.1 h)
  · rintro rfl; rfl
theorem contains_any (l : List ByteArray) (v : Value) (x : ByteArray) (w : World) (h : StrsAt w v l) : Calls Tryz.prog 119 #[v, .string x] w fun e w' => e = .returned (.bool (memB l x)) ∧ w = w' := by
  obtain ⟨p, cap, rfl, h1, h2, hcc⟩ := h.open
  cases l with
  | nil => exact (Tryz.slices_Contains_string_empty p cap x w).mono fun e w' ⟨h1, h2⟩ => ⟨h1, h2.symm⟩
  | cons y r =>
    obtain ⟨b, o, _, rfl, _⟩ := hcc 0 y rfl
    refine (Tryz.slices_Contains_string b o _ cap (y :: r) x w (Nat.le_refl _) (Nat.le_trans h1 h2) ?_).mono ?_
    · intro j hj
      obtain ⟨b', o', vs, hp, hR, _, hcells⟩ := hcc j (y :: r)[j] (by simp)
      injection hp with hp; injection hp with hp1 hp2; subst hp1 hp2
      unfold StrCells at hR; subst hR
      rw [List.getD_eq_getElem?_getD, List.getElem?_eq_getElem hj]
      have := hcells.1; rwa [Nat.mul_one] at this
    · rintro e w' ⟨rfl, rfl⟩
      refine ⟨?_, rfl⟩
      congr 2
      rw [List.take_length, Bool.eq_iff_iff, memB_iff, Lib.containsS_iff]
theorem SliceOf.take {α : Type} {w : World} {k : Nat} {R : α → List Value → Prop} {p : Option Addr} {n cap : Nat} {l : List α} (h : SliceOf w k R (.slice p n cap) l) (hn : n = l.length) {i : Nat} {b o : Nat} (hp : p = some ⟨b, o, none⟩) (hi : i ≤ l.length) :
    SliceOf w k R (.slice p i cap) (l.take i) := by
  subst hp hn
  rcases h with ⟨h, _⟩ | ⟨a, cap', h1, h2, h3, h4⟩
  · simp at h
  · injection h1 with ha hb hc
    injection ha with ha
    subst ha hc
    refine Or.inr ⟨_, cap, by rw [List.length_take, Nat.min_eq_left hi], by rw [List.length_take]; omega, h3, fun j x hj => h4 j x ?_⟩
    rw [List.getElem?_take] at hj
    split at hj
    · exact hj
    · simp at hj
set_option maxHeartbeats 1000000 in
theorem method1_any (x : Method) (cv hv : Value) (mn mt : ByteArray) (B : Nat) (w : World) (hB : B < w.heap.size) (h0 : w.cell? ⟨B, 0, none⟩ = some (.string mn)) (h1 : w.cell? ⟨B, 1, none⟩ = some (.string mt)) :
    Calls Tryz.prog 170 #[methodV x cv hv, .pointer (some ⟨B, 0, none⟩)] w fun e w' => e = .returned (.bool (decide (x.name = mn) && decide (x.type = mt))) ∧ Below w.heap.size w w' := by
  obtain ⟨name, type, static, abs, priv, locals, code, handlers⟩ := x
  unfold methodV
  dsimp only
  rw [← strEq, ← strEq]
  cases h0 : name.toList == mn.toList <;> cases h1 : type.toList == mt.toList
  all_goals
    go_enter Tryz.func170, Tryz.ntmps170
    go_wp2
    go_ret
    exact ⟨rfl, (Below.refl _ _).alloc (Nat.le_refl _) _⟩
set_option maxHeartbeats 1000000 in
theorem check1_any (x : Field) (fn : ByteArray) (B : Nat) (w : World) (hB : B < w.heap.size) (h0 : w.cell? ⟨B, 0, none⟩ = some (.string fn)) :
    Calls Tryz.prog 121 #[.agg #[.string x.name, .string x.type], .pointer (some ⟨B, 0, none⟩)] w fun e w' => e = .returned (.bool (decide (x.name = fn))) ∧ Below w.heap.size w w' := by
  obtain ⟨name, type⟩ := x
  dsimp only
  rw [← strEq]
  cases h0 : name.toList == fn.toList
  all_goals
    go_enter Tryz.func121, Tryz.ntmps121
    go_wp2
    go_ret
    exact ⟨rfl, (Below.refl _ _).alloc (Nat.le_refl _) _⟩
set_option maxHeartbeats 2000000 in
set_option maxRecDepth 100000 in
theorem method_any (m : Method) (cv hv : Value) (ahead : List Method) (av : Value) (w : World) (hl : Laid w) (ho : MethodOk m) (hcv : SliceOf w 6 InsCells cv m.code) (hhv : SliceOf w 4 HandlerCells hv m.handlers) (hav : SliceOf w 8 (MethodCells w) av ahead) (v : Value) (hfv : errV (methodFault m ahead) = v) :
    Calls Tryz.prog 122 #[methodV m cv hv, av] w fun e w' => e = .returned v ∧ Below w.heap.size w w' := by
  have HNa : Hid (∀ wx, _) := fun wx => nameCheck_any m.name wx (Nat.le_trans ho.name (by decide))
  have HMe : Hid (∀ wx, _) := fun wx => descMethod_any m.type wx ho.type
  have HBo : Hid (∀ wx, Below w.heap.size w wx → _) := fun wx hb => body_any m cv hv wx (hl.mono hb hl.1) ho (hcv.mono hb (by decide) (fun _ _ h => h)) (hhv.mono hb (by decide) (fun _ _ h => h))
  have HAn : Hid (∀ wx, Below w.heap.size w wx → w.heap.size < wx.heap.size → wx.cell? ⟨w.heap.size, 0, none⟩ = some (.string m.name) → wx.cell? ⟨w.heap.size, 1, none⟩ = some (.string m.type) → Calls Tryz.prog 169 #[av, .func (.func 170) #[] #[.pointer (some ⟨w.heap.size, 0, none⟩)]] wx fun e w' => e = .returned (.bool (ahead.any fun x => decide (x.name = m.name) && decide (x.type = m.type))) ∧ Below wx.heap.size wx w') := by
    intro wx hb hs h0 h1
    refine anyFunc_method (MethodCells wx) (fun x => decide (x.name = m.name) && decide (x.type = m.type)) 170 _ (enters_of Tryz.func170 (by kernel_rfl) rfl) ahead av wx (hav.mono hb (by decide) (fun _ _ h => h.mono hb)) ?_
    rintro W x a0 a1 a2 a3 a4 a5 a6 a7 hx ⟨c, h, hh, _, _⟩ hW
    simp only [List.cons.injEq] at hh
    obtain ⟨rfl, rfl, rfl, rfl, rfl, rfl, rfl, rfl, _⟩ := hh
    show Calls Tryz.prog 170 #[methodV x a6 a7, .pointer (some ⟨w.heap.size, 0, none⟩)] W _
    exact method1_any x a6 a7 _ _ _ W (Nat.lt_of_lt_of_le hs hW.size) ((hW.cell (p := ⟨_, 0, none⟩) hs).trans h0) ((hW.cell (p := ⟨_, 1, none⟩) hs).trans h1)
  have hmf : ∀ fn first cap w, (Instr.makeFunc fn first cap).run Tryz.prog w = .ok (.func fn first cap) w := fun _ _ _ _ => rfl
  have HF : Hid (v = errV (if !nameB (lst m.name) then 1 else if (methodR m.type).isNone then 1 else if ahead.any fun x => decide (x.name = m.name) && decide (x.type = m.type) then 5 else if m.locals < 0 ∨ 8 < m.locals then 2 else bodyFault m)) := hfv.symm
  generalize (ahead.any fun x => decide (x.name = m.name) && decide (x.type = m.type)) = tw at *
  clear hfv hl ho hcv hhv hav
  unfold methodV at *
  generalize bodyFault m = bf at *
  obtain ⟨name, type, static, abs, priv, locals, code, handlers⟩ := m
  dsimp only at *
  cases hn : nameB name.data.toList with
  | false =>
    have hfin : Hid (v = .iface 29 (.int .i64 1)) := by rw [HF.out]; simp [lst, hn, errV, Hid]
    have hno : errV (nameFault name) = .iface 29 (.int .i64 1) := by unfold nameFault; simp [hn, errV]
    rw [hno] at HNa
    clear HF hn hno HMe HBo HAn
    go_enter Tryz.func122, Tryz.ntmps122
    go_wp2_with (go_at_call 97; (with_reducible refine (HNa.out _).mono ?_); rintro e w2 ⟨rfl, hB⟩)
    cases hfin.out
    go_ret
    exact ⟨rfl, below_call ((Below.refl _ _).alloc (Nat.le_refl _) _) (Nat.le_refl _) hB⟩
  | true =>
    have hno : errV (nameFault name) = .nilIface := by unfold nameFault; simp [hn, errV]
    rw [hno] at HNa
    rw [show nameB (lst name) = true from hn] at HF
    clear hn hno
    cases hm : methodR type with
    | none =>
      rw [hm] at HMe HF
      have hfin : Hid (v = .iface 29 (.int .i64 1)) := by rw [HF.out]; rfl
      clear HF hm HBo HAn
      go_enter Tryz.func122, Tryz.ntmps122
      go_wp2_with (first | (go_at_call 97; (with_reducible refine (HNa.out _).mono ?_); rintro e w2 ⟨rfl, hB⟩; obtain ⟨hcl, _⟩ := bcell hB; (have q1 := hcl w.heap.size 1 (by simp))) | (go_at_call 132; (with_reducible refine (HMe.out _).mono ?_); rintro e w3 ⟨hB3, rfl⟩))
      cases hfin.out
      go_ret
      exact ⟨rfl, below_call (below_call ((Below.refl _ _).alloc (Nat.le_refl _) _) (Nat.le_refl _) hB) (Nat.le_refl _) hB3⟩
    | some ag =>
      obtain ⟨args, g⟩ := ag
      rw [hm] at HMe HF
      clear hm
      go_enter Tryz.func122, Tryz.ntmps122
      go_upto_region 6 with (first | (go_at_call 97; (with_reducible refine (HNa.out _).mono ?_); rintro e w2 ⟨rfl, hB⟩; obtain ⟨hcl, _⟩ := bcell hB; (have q1 := hcl w.heap.size 1 (by simp))) | (go_at_call 132; (with_reducible refine (HMe.out _).mono ?_); rintro e w3 ⟨hB3, mv, rfl, hmv⟩))
      have BX : Boxed w w3 [.string name, .string type, .bool static, .bool abs, .bool priv, .int .i64 locals, cv, hv] := Boxed.step (Boxed.step (wx := w.alloc _) ⟨(Below.refl _ _).alloc (Nat.le_refl _) _, by simp, by simp [Cells]⟩ hB) hB3
      clear q1 hcl hB hB3 hmv
      obtain ⟨q0, q1, q2, q3, q4, q5, q6, q7⟩ := boxed8 BX
      have hsz := BX.size
      cases tw with
      | true =>
        have hfin : Hid (v = .iface 29 (.int .i64 5)) := by rw [HF.out]; rfl
        clear HF HBo
        go_wp2_with (go_at_call 169; (with_reducible refine (HAn.out _ BX.below hsz q0 q1).mono ?_); rintro e w4 ⟨rfl, hB4⟩)
        cases hfin.out
        go_ret
        exact ⟨rfl, (BX.step hB4).below⟩
      | false =>
        go_upto_region 8 with (go_at_call 169; (with_reducible refine (HAn.out _ BX.below hsz q0 q1).mono ?_); rintro e w4 ⟨rfl, hB4⟩)
        replace BX := BX.step hB4
        clear q0 q1 q2 q3 q4 q5 q6 q7 hsz hB4 HAn
        obtain ⟨q0, q1, q2, q3, q4, q5, q6, q7⟩ := boxed8 BX
        by_cases hlo : locals < 0 ∨ 8 < locals
        · have hfin : Hid (v = .iface 29 (.int .i64 2)) := by rw [HF.out]; simp only [hlo]; rfl
          clear HF HBo
          go_wp2_with (first | fail)
          all_goals first | (exfalso; omega) | skip
          all_goals
            cases hfin.out
            go_ret
            exact ⟨rfl, BX.below⟩
        · have hfin : Hid (v = errV bf) := by rw [HF.out]; simp only [hlo]; rfl
          rw [← hfin.out] at HBo
          clear HF
          go_wp2_with (go_at_call 171; (with_reducible refine (HBo.out _ BX.below).mono ?_); rintro e w5 ⟨rfl, hB5⟩)
          all_goals first | (exfalso; omega) | skip
          go_ret
          exact ⟨rfl, (BX.step hB5).below⟩
end Go.Proofs.YtlmfmioljeppfaaGreatDoor
