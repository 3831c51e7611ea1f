/-
  PLAIN LAW: maps in order, the places' numbers in them; the least frames are closed. No program in sight.
-/
import Derived.Test.YtlmfmioljeppfaaGreatDoorLookLaw
namespace Go.Proofs.YtlmfmioljeppfaaGreatDoor
open Go.RowKit Go.Shelf Go.Lib
theorem maps_at {A : Asg Frm} : ∀ {n k i : Nat} {f : Frm}, (mapsL A n)[k]? = some (i, f) ↔ k = (mapsL A i).length ∧ A i = some f ∧ i < n
  | 0, k, i, f => by
    constructor
    · intro h; simp [mapsL] at h
    · rintro ⟨_, _, h⟩; exact absurd h (Nat.not_lt_zero _)
  | n + 1, k, i, f => by
    have ih := maps_at (A := A) (n := n) (k := k) (i := i) (f := f)
    cases hA : A n with
    | none =>
      rw [mapsL_none hA, ih]
      constructor
      · rintro ⟨h1, h2, h3⟩; exact ⟨h1, h2, by omega⟩
      · rintro ⟨h1, h2, h3⟩
        refine ⟨h1, h2, ?_⟩
        by_cases hi : i = n
        · rw [hi, hA] at h2; cases h2
        · omega
    | some g =>
      rw [mapsL_some hA]
      by_cases hk : k < (mapsL A n).length
      · rw [List.getElem?_append_left hk, ih]
        constructor
        · rintro ⟨h1, h2, h3⟩; exact ⟨h1, h2, by omega⟩
        · rintro ⟨h1, h2, h3⟩
          refine ⟨h1, h2, ?_⟩
          by_cases hi : i = n
          · rw [hi] at h1; omega
          · omega
      · rw [List.getElem?_append_right (by omega)]
        constructor
        · intro h
          by_cases h0 : k - (mapsL A n).length = 0
          · rw [h0] at h
            have h : (n, g) = (i, f) := by simpa using h
            injection h with h1 h2
            subst h1 h2
            exact ⟨by omega, hA, Nat.lt_succ_self _⟩
          · obtain ⟨d, hd⟩ : ∃ d, k - (mapsL A n).length = d + 1 := ⟨k - (mapsL A n).length - 1, by omega⟩
            rw [hd] at h
            simp at h
        · rintro ⟨h1, h2, h3⟩
          by_cases hi : i = n
          · subst hi
            rw [hA] at h2
            rw [h1, Nat.sub_self, Option.some.inj h2]; rfl
          · have := ih.2 ⟨h1, h2, by omega⟩
            exact absurd (List.getElem?_eq_some_iff.1 this).1 hk
def placeN (A : Asg Frm) (j i : Nat) : Nat := if (A i).isSome = true ∧ (mapsL A i).length < j then (mapsL A i).length + 1 else 0
def placeL (A : Asg Frm) (n j : Nat) : List Value := (List.range n).map fun i => .int .i64 (placeN A j i : Int)
theorem placeL_zero (A : Asg Frm) (n : Nat) : placeL A n 0 = List.replicate n (.int .i64 0) := by
  unfold placeL
  have h : ∀ i, placeN A 0 i = 0 := fun i => by unfold placeN; rw [if_neg (fun h => Nat.not_lt_zero _ h.2)]
  rw [List.map_congr_left (g := fun _ => Value.int .i64 0) fun i _ => by rw [h]; rfl, List.map_const', List.length_range]
theorem placeL_get (A : Asg Frm) {n j i : Nat} (h : i < n) : (placeL A n j)[i]? = some (.int .i64 (placeN A j i : Int)) := by
  unfold placeL
  rw [List.getElem?_map, List.getElem?_range h]; rfl
theorem placeL_set {A : Asg Frm} {n j i : Nat} {f : Frm} (h : (mapsL A n)[j]? = some (i, f)) : (placeL A n j).set i (.int .i64 ((j + 1 : Nat) : Int)) = placeL A n (j + 1) := by
  obtain ⟨h1, h2, h3⟩ := maps_at.1 h
  refine List.ext_getElem? fun k => ?_
  by_cases hk : k < n
  · rw [placeL_get A hk]
    by_cases hki : i = k
    · subst hki
      rw [List.getElem?_set_self (by unfold placeL; simpa using h3)]
      unfold placeN
      rw [h2, if_pos ⟨rfl, by omega⟩, ← h1]
    · rw [List.getElem?_set_ne hki, placeL_get A hk]
      unfold placeN
      cases hA : A k with
      | none => rfl
      | some g =>
        have hne : (mapsL A k).length ≠ j := fun e => by
          have := (maps_at (A := A) (n := n) (k := j) (i := k) (f := g)).2 ⟨e.symm, hA, hk⟩
          rw [h] at this
          injection this with this
          injection this with this
          exact hki this
        by_cases hlt : (mapsL A k).length < j
        · rw [if_pos ⟨rfl, hlt⟩, if_pos ⟨rfl, by omega⟩]
        · rw [if_neg (fun h => hlt h.2), if_neg (fun h => hlt (by omega))]
  · rw [List.getElem?_eq_none (by rw [List.length_set]; unfold placeL; simpa using Nat.le_of_not_lt hk), List.getElem?_eq_none (by unfold placeL; simpa using Nat.le_of_not_lt hk)]
theorem placeN_all {A : Asg Frm} {n i : Nat} {f : Frm} (hi : i < n) (h : A i = some f) : placeN A (mapsL A n).length i = (mapsL A i).length + 1 ∧ (mapsL A n)[(mapsL A i).length]? = some (i, f) := by
  have h1 := (maps_at (A := A) (n := n) (k := (mapsL A i).length) (i := i) (f := f)).2 ⟨rfl, h, hi⟩
  refine ⟨?_, h1⟩
  unfold placeN
  rw [if_pos ⟨by rw [h]; rfl, (List.getElem?_eq_some_iff.1 h1).1⟩]
theorem maps_head {A : Asg Frm} {n : Nat} {f : Frm} (hn : 0 < n) (h : A 0 = some f) : (mapsL A n)[0]? = some (0, f) := maps_at.2 ⟨rfl, h, hn⟩
theorem gives_good {s : Str} {args : List Str} {g : Str} (h : methodR s = some (args, g)) : goodGives g = true := by
  unfold methodR methodFin at h
  split at h
  · rename_i h1
    injection h with h
    rw [Prod.mk.injEq] at h
    rw [← h.2]
    exact h1.2.2
  · cases h
theorem least_step {l : List Class} (hR : Right l) (hz : readFault l = 0) {cls g : Str} {m : Method} {args : List Str} {many : Nat} (hG : MethGood m args g many) (hcls : (findC (allC l) cls).isSome = true) {start : Frm} {A : Asg Frm} (hA : (checkW (allC l) cls g m start).Closed A) {i : Nat} {f : Frm} {x : Ins} (hi : A i = some f) (hx : m.code[i]? = some x) :
    ∃ L S, stepF (allC l) cls g x f.locals f.stack = some (L, S) ∧ stepN l cls g x f (stepF (allC l) cls g x f.locals f.stack) = 0 ∧ frameR (allC l) ⟨L, S⟩ = 0 ∧ ∀ k ∈ nextL x i, k < m.code.length ∧ ∃ h, A k = some h ∧ frameR (allC l) h = 0 ∧ belowF l ⟨L, S⟩ h = true ∧ framesFault l ⟨L, S⟩ h = 0 := by
  obtain ⟨hlt, hf⟩ := hA.1 i f hi
  have hf : frameR (allC l) f = 0 := hf
  obtain ⟨lb, hb, hsat⟩ := hA.2.1 i f hi
  have hb : edgesF (allC l) cls g m i f = some lb := hb
  unfold edgesF at hb
  obtain ⟨tb, b1, b2⟩ := bind_spec hb
  obtain ⟨sb, b3, b4⟩ := map_spec b2
  subst b4
  unfold stepEdges at b3
  rw [hx] at b3
  dsimp only at b3
  obtain ⟨⟨L, S⟩, c1, c2⟩ := map_spec b3
  subst c2
  have hxm := List.mem_of_getElem? hx
  have hxi := (codeOk_of hG.code).ins x hxm
  have hl := frame_le hf hf ⟨LeL.refl _ _, LeL.refl _ _⟩
  obtain ⟨La, Sa, e, m1, m2⟩ := stepF_mono hR hxi hl.1 hl.2 c1
  have hfr : frameR (allC l) ⟨L, S⟩ = 0 := (leF_frames m1 m2).2.1
  have hgg := gives_good hG.type
  have hsf : stepFault l cls g x f = 0 := by
    unfold stepFault
    rw [if_neg (by rw [hz]; decide), if_neg (by rw [hf]; decide), if_neg (by rw [hxi]; decide), if_neg (by rw [hcls]; decide), if_neg ?_]
    rintro ⟨k1, k2⟩
    unfold goodGives at hgg
    rw [k1, Bool.false_or] at hgg
    unfold typeFault at k2
    rw [if_pos hgg] at k2
    exact k2 rfl
  refine ⟨L, S, c1, by rw [stepN_after hsf, c1]; rfl, hfr, fun k hk => ?_⟩
  obtain ⟨h, eh, lh⟩ := hsat (k, ⟨L, S⟩) (List.mem_append_right _ (List.mem_map.2 ⟨k, hk, rfl⟩))
  obtain ⟨hkn, hho⟩ := hA.1 k h eh
  have hho : frameR (allC l) h = 0 := hho
  have hle := frame_le hfr hho lh
  obtain ⟨r1, r2⟩ := belowF_of hz hle.1 hle.2
  exact ⟨hkn, h, eh, hho, r1, r2⟩
end Go.Proofs.YtlmfmioljeppfaaGreatDoor
