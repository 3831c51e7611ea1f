/-
  PLAIN LAW: a look at a place, part by part: the handlers one by one, then the instruction. No program in sight.
-/
import Derived.Test.YtlmfmioljeppfaaGreatDoorCheckLaw
namespace Go.Proofs.YtlmfmioljeppfaaGreatDoor
open Go.RowKit Go.Shelf Go.Lib
section
variable {P : Type} [DecidableEq P] {W : Ways P}
theorem Ways.meets_cons (s : Asg P × List Nat) (p : Nat × P) (r : List (Nat × P)) : W.meets s (p :: r) = (W.meetT s p).bind fun s' => W.meets s' r := rfl
theorem Ways.meets_append : ∀ (a b : List (Nat × P)) (s : Asg P × List Nat), W.meets s (a ++ b) = (W.meets s a).bind fun s' => W.meets s' b
  | [], b, s => rfl
  | p :: r, b, s => by
    rw [List.cons_append, Ways.meets_cons, Ways.meets_cons, Option.bind_assoc]
    congr 1
    funext s'
    exact Ways.meets_append r b s'
end
def handS (W : Ways Frm) (cs : List Class) (at' : Nat) (f : Frm) : Asg Frm × List Nat → List Handler → Option (Asg Frm × List Nat)
  | s, [] => some s
  | s, h :: r => if h.lo ≤ (at' : Int) ∧ (at' : Int) < h.hi then (if faultB cs h.cls then (W.meetT s (h.dest.toNat, ⟨f.locals, [thText h.cls]⟩)).bind fun s' => handS W cs at' f s' r else none) else handS W cs at' f s r
theorem hand_meets (W : Ways Frm) (cs : List Class) (at' : Nat) (f : Frm) : ∀ (hs : List Handler) (s : Asg Frm × List Nat), (handEdges cs at' f hs).bind (W.meets s) = handS W cs at' f s hs
  | [], _ => rfl
  | h :: r, s => by
    unfold handEdges handS
    split
    · split
      · have ih := fun s' => hand_meets W cs at' f r s'
        rw [show (fun s' => handS W cs at' f s' r) = fun s' => (handEdges cs at' f r).bind (W.meets s') from funext fun s' => (ih s').symm]
        cases handEdges cs at' f r with
        | none =>
          rw [Option.map_none, Option.bind_none]
          cases W.meetT s (h.dest.toNat, ⟨f.locals, [thText h.cls]⟩) <;> rfl
        | some t => rfl
      · rfl
    · exact hand_meets W cs at' f r s
section
variable {l : List Class} {cls gives : Str} {m : Method} {start : Frm}
theorem look_parts (cs : List Class) (s : Asg Frm × List Nat) (i : Nat) (f : Frm) : (checkW cs cls gives m start).look s i f = (handS (checkW cs cls gives m start) cs i f s m.handlers).bind fun s' => (stepEdges cs cls gives m.code i f).bind fun b => (checkW cs cls gives m start).meets s' b := by
  unfold Ways.look
  show (edgesF cs cls gives m i f).bind _ = _
  unfold edgesF
  rw [← hand_meets]
  cases handEdges cs i f m.handlers with
  | none => rfl
  | some a =>
    rw [Option.bind_some, Option.bind_some]
    cases stepEdges cs cls gives m.code i f with
    | none => cases (checkW cs cls gives m start).meets s a <;> rfl
    | some b =>
      rw [Option.map_some, Option.bind_some, Ways.meets_append]
      rfl
def startB (cs : List Class) (L : List Str) (gives : Str) : Bool := L.all (fun t => kindR cs t == 0) && (decide (gives = ⟨#[86]⟩) || kindR cs gives == 0)
theorem startB_frame {cs : List Class} {L : List Str} {gives : Str} (hn : L.length ≤ 8) (h : startB cs L gives = true) : frameR cs ⟨L, []⟩ = 0 := by
  unfold startB at h
  rw [Bool.and_eq_true] at h
  exact frameR_of hn (by show ([] : List Str).length ≤ 8; decide) (fun k hk => beq_iff_eq.1 (List.all_eq_true.1 h.1 k hk)) fun k hk => by cases hk
def MethodFrames (cs : List Class) (cls gives : Str) (m : Method) (L : List Str) (F : Option (Asg Frm)) : Prop := match F with
  | some F => startB cs L gives = true ∧ (checkW cs cls gives m ⟨L, []⟩).Least F
  | none => startB cs L gives = true → ∀ G, ¬ (checkW cs cls gives m ⟨L, []⟩).Closed G
def namedM (cls : Str) (at' : Int) : List Class → Option Method
  | [] => none
  | c :: r => if c.name = cls ∧ 0 ≤ at' ∧ at' < (c.methods.length : Int) then c.methods[at'.toNat]? else namedM cls at' r
def namedN (l : List Class) (cls : Str) (at' : Int) : Nat := if readFault l ≠ 0 then readFault l else match namedM cls at' l with
  | none => 3
  | some m => if m.abs then 1 else 0
theorem namedM_mem {cls : Str} {at' : Int} {m : Method} : ∀ {l : List Class}, namedM cls at' l = some m → ∃ c ∈ l, c.name = cls ∧ m ∈ c.methods
  | [], h => by cases h
  | c :: r, h => by
    unfold namedM at h
    split at h
    · rename_i hc
      exact ⟨c, List.mem_cons_self .., hc.1, List.mem_of_getElem? h⟩
    · obtain ⟨d, hd, h1, h2⟩ := namedM_mem h
      exact ⟨d, List.mem_cons_of_mem _ hd, h1, h2⟩
def mapsL (F : Asg Frm) (n : Nat) : List (Nat × Frm) := (List.range n).filterMap fun i => (F i).map fun f => (i, f)
theorem mapsL_some {F : Asg Frm} {n : Nat} {f : Frm} (h : F n = some f) : mapsL F (n + 1) = mapsL F n ++ [(n, f)] := by
  unfold mapsL
  rw [List.range_succ, List.filterMap_append]
  simp [h]
theorem mapsL_none {F : Asg Frm} {n : Nat} (h : F n = none) : mapsL F (n + 1) = mapsL F n := by
  unfold mapsL
  rw [List.range_succ, List.filterMap_append]
  simp [h]
theorem mapsL_len (F : Asg Frm) : ∀ n, (mapsL F n).length ≤ n
  | 0 => Nat.le_refl _
  | n + 1 => by
    have := mapsL_len F n
    cases hF : F n with
    | none => rw [mapsL_none hF]; omega
    | some f => rw [mapsL_some hF, List.length_append]; show _ + 1 ≤ _; omega
theorem fold_zero {α : Type} {f : α → List α → Nat} : ∀ {r a : List α}, foldFault f a r = 0 → ∀ x ∈ r, ∃ b, f x b = 0
  | [], _, _, _, hx => by cases hx
  | y :: r, a, h, x, hx => by
    unfold foldFault at h
    split at h
    · rename_i h0
      rcases List.mem_cons.1 hx with rfl | hx
      · exact ⟨a, h0⟩
      · exact fold_zero h x hx
    · rename_i h0
      exact absurd h h0
structure MethGood (m : Method) (args : List Str) (g : Str) (many : Nat) : Prop where
  type : methodR m.type = some (args, g)
  locals : m.locals = (many : Int)
  small : many ≤ 8
  code : codeFault m.code = 0
  hands : handlersFault m.handlers m.code.length = 0
  args : argCount m ≤ many
theorem meth_good {c : Class} (hc : classFault c = 0) {m : Method} (hm : m ∈ c.methods) (ha : m.abs = false) : ∃ args g many, MethGood m args g many := by
  have h1 : foldFault methodFault [] c.methods = 0 := by
    unfold classFault at hc
    split at hc
    · cases hc
    · split at hc
      · rename_i h; exact absurd hc h
      · split at hc
        · cases hc
        · split at hc
          · rename_i h; exact absurd hc h
          · split at hc
            · rename_i h; exact absurd hc h
            · rename_i h; exact Decidable.not_not.1 h
  obtain ⟨b, h2⟩ := fold_zero h1 m hm
  unfold methodFault at h2
  split at h2
  · cases h2
  · split at h2
    · cases h2
    · rename_i ht
      split at h2
      · cases h2
      · split at h2
        · cases h2
        · rename_i hl
          unfold bodyFault at h2
          rw [ha, if_neg (by decide)] at h2
          split at h2
          · rename_i h; exact absurd h2 h
          · rename_i hcode
            split at h2
            · cases h2
            · rename_i hargs
              split at h2
              · cases h2
              · cases hr : methodR m.type with
                | none => rw [hr] at ht; exact absurd rfl ht
                | some p =>
                  obtain ⟨many, hmany⟩ := Int.eq_ofNat_of_zero_le (show 0 ≤ m.locals by omega)
                  exact ⟨p.1, p.2, many, hr, hmany, by omega, Decidable.not_not.1 hcode, h2, by omega⟩
end
end Go.Proofs.YtlmfmioljeppfaaGreatDoor
