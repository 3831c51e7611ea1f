/-
  PLAIN LAW for MapsSound: what accepted maps say of the least frames. No program in sight.
-/
import Derived.Test.YtlmfmioljeppfaaGreatDoorAcceptLaw
import Derived.Test.YtlmfmioljeppfaaGreatDoorMethodMaps
namespace Go.Proofs.YtlmfmioljeppfaaGreatDoor
open Go.RowKit Go.Shelf Go.Lib
theorem methGood_one {m : Method} {args args' : List Str} {g g' : Str} {many many' : Nat} (h : MethGood m args g many) (k : MethGood m args' g' many') : args' = args ∧ g' = g ∧ many' = many := by
  have e1 := h.type
  rw [k.type] at e1
  injection e1 with e1
  injection e1 with e1 e2
  have e3 : (many' : Int) = (many : Int) := k.locals.symm.trans h.locals
  exact ⟨e1, e2, by omega⟩
theorem acceptIs_one {l : List Class} {cls : Str} {at' : Int} {xs : List (Int × Frm)} {n n' : Nat} (h : AcceptIs l cls at' xs n) (k : AcceptIs l cls at' xs n') : n = n' := by
  rcases h with ⟨h0, h1⟩ | ⟨h0, m, args, g, many, h1, _, h3, h4⟩
  · rcases k with ⟨_, k1⟩ | ⟨k0, _⟩
    · rw [h1, k1]
    · exact absurd k0 h0
  · rcases k with ⟨k0, _⟩ | ⟨_, m', args', g', many', k1, _, k3, k4⟩
    · exact absurd h0 k0
    · rw [h1] at k1
      obtain rfl := Option.some.inj k1
      obtain ⟨rfl, rfl, rfl⟩ := methGood_one h3 k3
      rw [h4, k4]
theorem acceptN_zero {cs : List Class} {cls g : Str} {m : Method} {L : List Str} {xs : List (Int × Frm)} (h : acceptN cs cls g m L xs = 0) : xs.length ≤ 40 ∧ mapsFault cs m.code.length (-1) xs = 0 ∧ walkB cs cls g m (asgL xs fun _ => none) L = true := by
  unfold acceptN at h
  split at h
  · cases h
  · split at h
    · rename_i h2; exact absurd h h2
    · rename_i h1 h2
      refine ⟨by omega, Decidable.not_not.1 h2, ?_⟩
      cases hw : walkB cs cls g m (asgL xs fun _ => none) L with
      | true => rfl
      | false => rw [hw] at h; cases h
theorem named_read {l : List Class} {cls : Str} {at' : Int} (hz : namedN l cls at' = 0) : readFault l = 0 := by
  unfold namedN at hz
  split at hz
  · rename_i h0; exact absurd hz h0
  · rename_i h0; exact Decidable.not_not.1 h0
theorem sound_law {l : List Class} {cls : Str} {at' : Int} {xs : List (Int × Frm)} {n : Nat} {F : Option (Method × Asg Frm)} (hcf : readFault l = 0 → ∀ c ∈ l, classFault c = 0) (h : AcceptIs l cls at' xs 0) (k : CheckIs l cls at' n F) :
    ∃ m A, n = 0 ∧ F = some (m, A) ∧ m.code.length ≤ 40 ∧ (∀ i f, A i = some f → frameR (allC l) f = 0) ∧ ∀ i f g, A i = some f → ((i : Int), g) ∈ xs → belowF l f g = true ∧ framesFault l f g = 0 ∧ frameR (allC l) g = 0 := by
  rcases h with ⟨h0, h1⟩ | ⟨h0, m, args, g, many, h1, _, h3, h4⟩
  · exact absurd h1.symm h0
  · have hz := named_read h0
    rcases k with ⟨k0, _⟩ | ⟨_, m', args', g', many', k1, _, k3, G, k4, k5⟩
    · exact absurd h0 k0
    · rw [h1] at k1
      obtain rfl := Option.some.inj k1
      obtain ⟨rfl, rfl, rfl⟩ := methGood_one h3 k3
      obtain ⟨_, a2, a3⟩ := acceptN_zero h4.symm
      unfold walkB at a3
      rw [Bool.and_eq_true] at a3
      have hst := startB_frame (firstL_len h3) a3.1
      obtain ⟨⟨C, hC⟩, w2⟩ := walk_above (right_of hz) (hcf hz) h3.code h3.hands hst (fun i f e => asgL_right a2 e) a3.2
      cases G with
      | none => exact absurd hC (k4 a3.1 C)
      | some A =>
        obtain ⟨k5, rfl⟩ := k5
        refine ⟨m, A, k5, rfl, (codeOk_of h3.code).small, fun i f e => (k4.2.1.1 i f e).2, fun i f f2 e hx => ?_⟩
        have e2 := (asgL_spec a2).2 hx
        have hf : frameR (allC l) f = 0 := (k4.2.1.1 i f e).2
        have hf2 : frameR (allC l) f2 = 0 := (asgL_right a2 e2).2
        have hle := frame_le hf hf2 (w2 A k4.2 i f f2 e e2)
        obtain ⟨r1, r2⟩ := belowF_of hz hle.1 hle.2
        exact ⟨r1, r2, hf2⟩
end Go.Proofs.YtlmfmioljeppfaaGreatDoor
