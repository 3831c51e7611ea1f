/-
  PLAIN LAW: a step by what an instruction wants; the instructions that look at what is there.
  PLAIN LAW: the instructions that look at what is there.
-/
import Derived.Test.YtlmfmioljeppfaaGreatDoorStepAny
namespace Go.Proofs.YtlmfmioljeppfaaGreatDoor
open Go.RowKit Go.Shelf Go.Lib
def thisW (static : Bool) (cls : Str) : List Str := if static = true then [] else [thText cls]
/-- what a method's form takes and leaves -/
def sigW (cs : List Class) (static : Bool) (cls : Str) (args : List Str) (g : Str) : Option (List Str × List Str) :=
  if args.all (fun k => kindR cs k == 0) = true then (if (g.toList == [86]) = true then some (args.reverse ++ thisW static cls, []) else if kindR cs g = 0 then some (args.reverse ++ thisW static cls, [g]) else none) else none
/-- what a call takes and leaves -/
def callW (cs : List Class) (from' cls name type : Str) (static : Bool) : Option (List Str × List Str) :=
  if callFault cs from' cls name type static ≠ 0 then none else match methodR type with
  | none => none
  | some (args, g) => sigW cs static cls args g
/-- what an instruction takes, the top first, and what it leaves -/
def wantsF (cs : List Class) (from' gives : Str) (x : Ins) : Option (List Str × List Str) :=
  if x.op = 2 then some ([], [x.type])
  else if x.op = 3 then some ([], [kN])
  else if x.op = 9 then some (mathSec x.a x.type ++ [x.type], [x.type])
  else if x.op = 10 then some ([otherS x.type], [x.type])
  else if x.op = 11 then some ([kJ, kJ], [kI])
  else if x.op = 12 then some ([kI], [])
  else if x.op = 15 then if (findC cs x.cls).isSome && !(classC cs x.cls).face then some ([], [thText x.cls]) else none
  else if x.op = 16 then (fieldF cs x.cls x.name).map fun t => ([thText x.cls], [t])
  else if x.op = 17 then (fieldF cs x.cls x.name).map fun t => ([t, thText x.cls], [])
  else if x.op = 18 then if kindR cs x.type = 0 then some ([kI], [arText x.type]) else none
  else if x.op = 24 then callW cs from' x.cls x.name x.type false
  else if x.op = 25 then callW cs from' x.cls x.name x.type true
  else if x.op = 26 then if (gives.toList == [86]) = true then some ([], []) else none
  else if x.op = 27 then if (gives.toList == [86]) = true then none else if kindR cs gives = 0 then some ([gives], []) else none
  else if x.op = 28 then some ([thText kFault], [])
  else some ([], [])
def stepW (cs : List Class) (L S : List Str) (p : List Str × List Str) : Option (List Str × List Str) := (takeS cs p.1 S).bind fun S' => if (S' ++ p.2).length ≤ 8 then some (L, S' ++ p.2) else none
theorem putL_w (L S : List Str) (k : Str) : putL L S k = if (S ++ [k]).length ≤ 8 then some (L, S ++ [k]) else none := by
  unfold putL putS
  have : (S ++ [k]).length = S.length + 1 := by simp
  by_cases h : S.length < 8
  · rw [if_pos h, if_pos (by omega)]; rfl
  · rw [if_neg h, if_neg (by omega)]; rfl
theorem takeS_len {cs : List Class} : ∀ {ks S S' : List Str}, takeS cs ks S = some S' → S'.length + ks.length = S.length
  | [], S, S', h => by injection h with h; subst h; rfl
  | k :: r, S, S', h => by
    unfold takeS at h
    split at h
    · cases h
    · rcases List.eq_nil_or_concat S with rfl | ⟨q, t, rfl⟩
      · cases h
      · rw [List.concat_eq_append] at *
        rw [popS_snoc] at h
        dsimp only at h
        split at h
        · have := takeS_len h
          simp
          omega
        · cases h
theorem takeS_cons (cs : List Class) (k : Str) (r S : List Str) : takeS cs (k :: r) S = if kindR cs k ≠ 0 then none else match popS S with
    | none => none
    | some (t, S') => if fitsKd cs (kdOf t) (kdOf k) then takeS cs r S' else none := rfl
theorem takeS_app {cs : List Class} : ∀ {ks m S : List Str}, takeS cs (ks ++ m) S = (takeS cs ks S).bind fun S1 => takeS cs m S1
  | [], m, S => rfl
  | k :: r, m, S => by
    show takeS cs (k :: (r ++ m)) S = _
    rw [takeS_cons, takeS_cons]
    by_cases hk : kindR cs k ≠ 0
    · rw [if_pos hk, if_pos hk]; rfl
    · rw [if_neg hk, if_neg hk]
      cases popS S with
      | none => rfl
      | some p =>
        obtain ⟨t, S'⟩ := p
        dsimp only
        split
        · exact takeS_app
        · rfl
theorem takeS_unknown {cs : List Class} : ∀ {ks S : List Str}, (ks.all fun k => kindR cs k == 0) = false → takeS cs ks S = none
  | [], S, h => by cases h
  | k :: r, S, h => by
    unfold takeS
    by_cases hk : kindR cs k ≠ 0
    · rw [if_pos hk]
    · rw [if_neg hk]
      cases popS S with
      | none => rfl
      | some p =>
        obtain ⟨t, S'⟩ := p
        dsimp only
        split
        · rw [List.all_cons, beq_iff_eq.2 (Decidable.not_not.1 hk), Bool.true_and] at h
          exact takeS_unknown h
        · rfl
theorem w_put (cs : List Class) (L S ks : List Str) (k : Str) : ((takeS cs ks S).bind fun S1 => putL L S1 k) = stepW cs L S (ks, [k]) := by
  unfold stepW
  congr 1
  funext S1
  exact putL_w L S1 k
theorem w_take {cs : List Class} {L S ks : List Str} (h8 : S.length ≤ 8) : ((takeS cs ks S).map fun S1 => (L, S1)) = stepW cs L S (ks, []) := by
  unfold stepW
  cases hq : takeS cs ks S with
  | none => rfl
  | some S1 =>
    have := takeS_len hq
    simp only [Option.map_some, Option.bind_some, List.append_nil]
    rw [if_pos (by omega)]
theorem w_call {cs : List Class} {from' cls name type : Str} {static : Bool} {L S : List Str} (h8 : S.length ≤ 8) : callF cs from' cls name type static L S = (callW cs from' cls name type static).bind fun p => stepW cs L S p := by
  unfold callF callW
  by_cases hf : callFault cs from' cls name type static ≠ 0
  · rw [if_pos hf, if_pos hf]; rfl
  · rw [if_neg hf, if_neg hf]
    cases methodR type with
    | none => rfl
    | some q =>
      obtain ⟨args, g⟩ := q
      dsimp only
      unfold sigW
      cases ha : args.all (fun k => kindR cs k == 0) with
      | false =>
        rw [takeS_unknown (by rw [List.all_reverse]; exact ha)]
        rfl
      | true =>
        rw [if_pos rfl]
        have ht : ∀ S1, thisS cs static cls S1 = takeS cs (thisW static cls) S1 := fun S1 => by unfold thisS thisW; split <;> rfl
        have hj : ∀ f : List Str → Option (List Str × List Str), ((takeS cs args.reverse S).bind fun S1 => (thisS cs static cls S1).bind fun S2 => f S2) = (takeS cs (args.reverse ++ thisW static cls) S).bind f := fun f => by
          rw [takeS_app, Option.bind_assoc]
          congr 1
          funext S1
          rw [ht]
        rw [hj]
        by_cases hv : (g.toList == [86]) = true
        · rw [if_pos hv, Option.bind_some, ← w_take h8]
          rw [Option.map_eq_bind]
          congr 1
          funext S1
          exact endS_v hv
        · rw [if_neg hv]
          have hv' : (g.toList == [86]) = false := by simpa using hv
          by_cases hk : kindR cs g = 0
          · rw [if_pos hk, Option.bind_some, ← w_put]
            congr 1
            funext S1
            unfold endS putK
            rw [if_neg hv, if_pos hk]
          · rw [if_neg hk]
            cases takeS cs (args.reverse ++ thisW static cls) S with
            | none => rfl
            | some S1 => exact endS_no hv' hk
theorem thing_there {l : List Class} (hcf : ∀ c ∈ l, classFault c = 0) {c : Str} (h : (findC (allC l) c).isSome = true) : kindR (allC l) (thText c) = 0 := kindR_zero hcf (x := .ty (.cl c)) ⟨(lst_th c).symm, h⟩ (Nat.zero_le _)
/-- instructions that look at what is there -/
def OddOp (op : Int) : Prop := op = 4 ∨ op = 5 ∨ op = 6 ∨ op = 7 ∨ op = 8 ∨ op = 13 ∨ op = 19 ∨ op = 20 ∨ op = 21 ∨ op = 22 ∨ op = 23
instance (op : Int) : Decidable (OddOp op) := by unfold OddOp; infer_instance
theorem wants_step {l : List Class} (hcf : ∀ c ∈ l, classFault c = 0) (from' gives : Str) (x : Ins) (L S : List Str) (h8 : S.length ≤ 8) (hn : ¬ OddOp x.op) : stepF (allC l) from' gives x L S = (wantsF (allC l) from' gives x).bind fun p => stepW (allC l) L S p := by
  obtain ⟨op, a, b, type, cls, name⟩ := x
  obtain ⟨e2, e3, e4, e5, e6, e7, e8, e9, e10, e11, e12, e13, e26, e27, e28⟩ := plainF_at (allC l) gives a b type cls name L S
  obtain ⟨g15, g16, g17, g18, g19, g20, g21, g22, g23, g24, g25⟩ := heapedF_at (allC l) from' a b type cls name L S
  clear e4 e5 e6 e7 e8 e13 g19 g20 g21 g22 g23
  replace hn : ¬ OddOp op := hn
  unfold OddOp at hn
  have hbind : ∀ o : Option (List Str × List Str), (o.bind fun p => some (p.1, p.2)) = o := fun o => by cases o <;> rfl
  by_cases ho : 15 ≤ op ∧ op ≤ 25
  · have hp : plainF (allC l) gives ⟨op, a, b, type, cls, name⟩ L S = some (L, S) := plainF_other (by dsimp only; omega)
    have hs : stepF (allC l) from' gives ⟨op, a, b, type, cls, name⟩ L S = heapedF (allC l) from' ⟨op, a, b, type, cls, name⟩ L S := by unfold stepF; rw [hp]; rfl
    rw [hs]
    by_cases c15 : op = 15
    · subst c15
      rw [g15]
      show _ = (if (findC (allC l) cls).isSome && !(classC (allC l) cls).face then some ([], [thText cls]) else none).bind _
      unfold knK newF
      by_cases hk : (findC (allC l) cls).isSome = true
      · rw [if_neg (by rw [thing_there hcf hk]; decide), hk, Bool.true_and]
        cases (classC (allC l) cls).face with
        | true => rfl
        | false => exact w_put (allC l) L S [] (thText cls)
      · rw [if_pos (fun h => hk (thing_known h)), (by simpa using hk : (findC (allC l) cls).isSome = false)]
        rfl
    by_cases c16 : op = 16
    · subst c16
      rw [g16]
      show _ = ((fieldF (allC l) cls name).map _).bind _
      cases fieldF (allC l) cls name with
      | none => rfl
      | some t => exact w_put _ _ _ _ _
    by_cases c17 : op = 17
    · subst c17
      rw [g17]
      show _ = ((fieldF (allC l) cls name).map _).bind _
      cases fieldF (allC l) cls name with
      | none => rfl
      | some t => exact w_take h8
    by_cases c18 : op = 18
    · subst c18
      rw [g18]
      show _ = (if kindR (allC l) type = 0 then some ([kI], [arText type]) else (none : Option (List Str × List Str))).bind _
      unfold knK
      by_cases hk : kindR (allC l) type = 0
      · rw [if_neg (by rw [hk]; decide), if_pos hk]
        exact w_put _ _ _ _ _
      · rw [if_pos hk, if_neg hk]; rfl
    by_cases c24 : op = 24
    · subst c24
      rw [g24]
      exact w_call h8
    have c25 : op = 25 := by omega
    subst c25
    rw [g25]
    exact w_call h8
  · have hs : stepF (allC l) from' gives ⟨op, a, b, type, cls, name⟩ L S = plainF (allC l) gives ⟨op, a, b, type, cls, name⟩ L S := by
      have hh : ∀ L S, heapedF (allC l) from' ⟨op, a, b, type, cls, name⟩ L S = some (L, S) := fun L S => heapedF_other (by dsimp only; omega)
      unfold stepF
      simp only [hh]
      exact hbind _
    rw [hs]
    by_cases c2 : op = 2
    · subst c2
      rw [e2]
      exact w_put (allC l) L S [] type
    by_cases c3 : op = 3
    · subst c3
      rw [e3]
      exact w_put (allC l) L S [] kN
    by_cases c9 : op = 9
    · subst c9
      rw [e9]
      show _ = stepW (allC l) L S (mathSec a type ++ [type], [type])
      rw [← w_put, takeS_app, Option.bind_assoc]
    by_cases c10 : op = 10
    · subst c10
      rw [e10]
      exact w_put _ _ _ _ _
    by_cases c11 : op = 11
    · subst c11
      rw [e11]
      exact w_put _ _ _ _ _
    by_cases c12 : op = 12
    · subst c12
      rw [e12]
      exact w_take h8
    by_cases c26 : op = 26
    · subst c26
      rw [e26]
      show _ = (if (gives.toList == [86]) = true then some ([], []) else (none : Option (List Str × List Str))).bind _
      split
      · exact w_take (cs := allC l) (ks := []) h8
      · rfl
    by_cases c27 : op = 27
    · subst c27
      rw [e27]
      show _ = (if (gives.toList == [86]) = true then (none : Option (List Str × List Str)) else if kindR (allC l) gives = 0 then some ([gives], []) else none).bind _
      split
      · rfl
      · by_cases hk : kindR (allC l) gives = 0
        · rw [if_pos hk]
          exact w_take h8
        · rw [if_neg hk, takeS_bad hk]; rfl
    by_cases c28 : op = 28
    · subst c28
      rw [e28]
      exact w_take h8
    rw [plainF_other (by dsimp only; omega)]
    have hw : wantsF (allC l) from' gives ⟨op, a, b, type, cls, name⟩ = some ([], []) := by
      unfold wantsF
      dsimp only
      rw [if_neg c2, if_neg c3, if_neg c9, if_neg c10, if_neg c11, if_neg c12, if_neg (by omega), if_neg (by omega), if_neg (by omega), if_neg (by omega), if_neg (by omega), if_neg (by omega), if_neg c26, if_neg c27, if_neg c28]
    rw [hw]
    exact w_take (cs := allC l) (ks := []) h8
/-- what insFault = 0 tells of the text -/
theorem ins_typed {x : Ins} (h : insFault x = 0) : typedB x = true := by
  unfold insFault at h
  split at h
  · cases h
  · split at h
    · cases h
    · split at h
      · cases h
      · split at h
        · cases h
        · rename_i hn
          simp only [Bool.or_eq_true, not_or, Bool.not_eq_true', Bool.not_eq_false] at hn
          exact hn.1.1
theorem word_kind (cs : List Class) {t : Str} (h : wordB (lst t) = true) : kindR cs t = 0 := by
  have ht : t = kI ∨ t = kJ := by
    unfold wordB at h
    simp only [Bool.or_eq_true, beq_iff_eq] at h
    rcases h with h | h
    · exact Or.inl (ByteArray.ext (Array.toList_inj.1 h))
    · exact Or.inr (ByteArray.ext (Array.toList_inj.1 h))
  rcases ht with rfl | rfl
  · exact kindR_ty (x := .i) rfl rfl (by decide) rfl
  · exact kindR_ty (x := .j) rfl rfl (by decide) rfl
theorem kI_known (cs : List Class) : kindR cs kI = 0 := word_kind cs rfl
theorem kJ_known (cs : List Class) : kindR cs kJ = 0 := word_kind cs rfl
/-- what is wanted is known -/
theorem wants_known {l : List Class} (hcf : ∀ c ∈ l, classFault c = 0) {from' gives : Str} {x : Ins} {ks ps : List Str} (hx : insFault x = 0) (h : wantsF (allC l) from' gives x = some (ks, ps)) : (∀ k ∈ ks, kindR (allC l) k = 0) ∧ ks.length ≤ 6 ∧ ps.length ≤ 1 := by
  have hT := ins_typed hx
  clear hx
  obtain ⟨op, a, b, type, cls, name⟩ := x
  have hmk : ∀ {k p : List Str}, some (k, p) = some (ks, ps) → (∀ z ∈ k, kindR (allC l) z = 0) → k.length ≤ 6 → p.length ≤ 1 → (∀ z ∈ ks, kindR (allC l) z = 0) ∧ ks.length ≤ 6 ∧ ps.length ≤ 1 := by
    intro k p he h1 h2 h3
    injection he with he
    injection he with e1 e2
    subst e1 e2
    exact ⟨h1, h2, h3⟩
  have hcall : ∀ static, callW (allC l) from' cls name type static = some (ks, ps) → (∀ z ∈ ks, kindR (allC l) z = 0) ∧ ks.length ≤ 6 ∧ ps.length ≤ 1 := by
    intro static h
    unfold callW at h
    split at h
    · cases h
    · rename_i hf
      split at h
      · cases h
      · rename_i args g hm
        have h5 := methodR_len hm
        unfold sigW at h
        split at h
        · rename_i ha
          have hc : (findC (allC l) cls).isSome = true := by
            unfold callFault at hf
            cases hq : findC (allC l) cls with
            | none => rw [hq, if_pos (show (none : Option Class).isNone = true from rfl)] at hf; exact absurd (show (3 : Nat) ≠ 0 by decide) hf
            | some c => rfl
          have hk : ∀ z ∈ args.reverse ++ thisW static cls, kindR (allC l) z = 0 := by
            intro z hz
            rcases List.mem_append.1 hz with h1 | h1
            · exact beq_iff_eq.1 (List.all_eq_true.1 ha z (List.mem_reverse.1 h1))
            · unfold thisW at h1
              split at h1
              · cases h1
              · rw [List.mem_singleton.1 h1]; exact thing_there hcf hc
          have hl : (args.reverse ++ thisW static cls).length ≤ 6 := by
            unfold thisW
            split <;> simp <;> omega
          split at h
          · exact hmk h hk hl (by simp)
          · split at h
            · exact hmk h hk hl (by simp)
            · cases h
        · cases h
  have one : ∀ {z : Str}, kindR (allC l) z = 0 → ∀ y ∈ [z], kindR (allC l) y = 0 := fun hz y hy => by rw [List.mem_singleton.1 hy]; exact hz
  unfold wantsF at h
  dsimp only at h
  by_cases c2 : op = 2
  · rw [if_pos c2] at h; exact hmk h (by simp) (by simp) (by simp)
  rw [if_neg c2] at h
  by_cases c3 : op = 3
  · rw [if_pos c3] at h; exact hmk h (by simp) (by simp) (by simp)
  rw [if_neg c3] at h
  have hw : op = 9 ∨ op = 10 → kindR (allC l) type = 0 := fun ho => by
    unfold typedB at hT
    rw [if_pos (by dsimp only; omega)] at hT
    exact word_kind _ hT
  by_cases c9 : op = 9
  · rw [if_pos c9] at h
    have hk := hw (Or.inl c9)
    refine hmk h (fun z hz => ?_) ?_ (by simp)
    · rcases List.mem_append.1 hz with h1 | h1
      · unfold mathSec at h1
        split at h1
        · cases h1
        · split at h1
          · rw [List.mem_singleton.1 h1]; exact kI_known _
          · rw [List.mem_singleton.1 h1]; exact hk
      · rw [List.mem_singleton.1 h1]; exact hk
    · unfold mathSec
      split
      · simp
      · split <;> simp
  rw [if_neg c9] at h
  by_cases c10 : op = 10
  · rw [if_pos c10] at h
    refine hmk h (one ?_) (by simp) (by simp)
    unfold otherS
    split
    · exact kJ_known _
    · exact kI_known _
  rw [if_neg c10] at h
  by_cases c11 : op = 11
  · rw [if_pos c11] at h
    exact hmk h (fun z hz => by simp at hz; rw [hz]; exact kJ_known _) (by simp) (by simp)
  rw [if_neg c11] at h
  by_cases c12 : op = 12
  · rw [if_pos c12] at h
    exact hmk h (one (kI_known _)) (by simp) (by simp)
  rw [if_neg c12] at h
  by_cases c15 : op = 15
  · rw [if_pos c15] at h
    split at h
    · exact hmk h (by simp) (by simp) (by simp)
    · cases h
  rw [if_neg c15] at h
  by_cases c16 : op = 16
  · rw [if_pos c16] at h
    cases hq : fieldF (allC l) cls name with
    | none => rw [hq] at h; cases h
    | some t =>
      rw [hq] at h
      exact hmk h (one (fieldF_known hq).1) (by simp) (by simp)
  rw [if_neg c16] at h
  by_cases c17 : op = 17
  · rw [if_pos c17] at h
    cases hq : fieldF (allC l) cls name with
    | none => rw [hq] at h; cases h
    | some t =>
      rw [hq] at h
      refine hmk h (fun z hz => ?_) (by simp) (by simp)
      rcases List.mem_cons.1 hz with h1 | h1
      · rw [h1]; exact (fieldF_known hq).2
      · rw [List.mem_singleton.1 h1]; exact (fieldF_known hq).1
  rw [if_neg c17] at h
  by_cases c18 : op = 18
  · rw [if_pos c18] at h
    split at h
    · exact hmk h (one (kI_known _)) (by simp) (by simp)
    · cases h
  rw [if_neg c18] at h
  by_cases c24 : op = 24
  · rw [if_pos c24] at h; exact hcall _ h
  rw [if_neg c24] at h
  by_cases c25 : op = 25
  · rw [if_pos c25] at h; exact hcall _ h
  rw [if_neg c25] at h
  by_cases c26 : op = 26
  · rw [if_pos c26] at h
    split at h
    · exact hmk h (by simp) (by simp) (by simp)
    · cases h
  rw [if_neg c26] at h
  by_cases c27 : op = 27
  · rw [if_pos c27] at h
    split at h
    · cases h
    · split at h
      · rename_i hk
        exact hmk h (one hk) (by simp) (by simp)
      · cases h
  rw [if_neg c27] at h
  by_cases c28 : op = 28
  · rw [if_pos c28] at h
    exact hmk h (one (thing_there hcf rfl)) (by simp) (by simp)
  rw [if_neg c28] at h
  exact hmk h (by simp) (by simp) (by simp)
/-- what fits I is I -/
theorem fits_int {cs : List Class} {u : Str} (hu : kindR cs u = 0) : fitsKd cs (kdOf u) (kdOf kI) = (u.toList == [73]) := by
  obtain ⟨x, hx, _⟩ := kind_of hu
  have hl : u.toList = kdText x := by rw [hx, ByteArray.toList_eq]
  rw [kdOf_text hx, kdOf_text (k := kI) (x := .ty .i) rfl, hl]
  cases x with
  | n => rfl
  | t => rfl
  | ty y => cases y <;> simp [fitsKd, fitsTy, kdText, tyText]
/-- the two ways to tell that an array is one of a type's -/
theorem arr_fits {cs : List Class} {k t : Str} (hk : kindR cs k = 0) (ht : typeB (lst t) = true) : (refNB (kdOf k) && arrOk cs k t) = fitsKd cs (kdOf k) (kdOf (arText t)) := by
  obtain ⟨u, hu, _, _⟩ := typeB_ty _ ht
  obtain ⟨x, hx, _⟩ := kind_of hk
  have e1 : kdOf t = .ty u := kdOf_text (x := .ty u) hu
  have e2 : kdOf (arText t) = .ty (.ar u) := kdOf_text (x := .ty (.ar u)) (by rw [lst_ar, ← hu]; rfl)
  unfold arrOk
  rw [e1, e2, kdOf_text hx]
  cases x with
  | n => rfl
  | t => rfl
  | ty y =>
    cases y with
    | i => rfl
    | j => rfl
    | cl c => simp [fitsKd, fitsTy]
    | ar e =>
      show ((decide (Kd.ty (.ar e) = .n) || true) && (fitsTy cs e u && (isRef e == isRef u))) = fitsTy cs e u
      rw [Bool.or_true, Bool.true_and]
      cases hf : fitsTy cs e u with
      | false => rfl
      | true => rw [fitsTy_ref hf]; simp
theorem len_ref {cs : List Class} {k : Str} (hk : kindR cs k = 0) (h : lenOk k = true) : refNB (kdOf k) = true := by
  obtain ⟨x, hx, _⟩ := kind_of hk
  have hl : k.toList = kdText x := by rw [hx, ByteArray.toList_eq]
  rw [kdOf_text hx]
  unfold lenOk at h
  rw [hl] at h
  cases x with
  | n => rfl
  | t => cases h
  | ty y => cases y <;> first | rfl | cases h
end Go.Proofs.YtlmfmioljeppfaaGreatDoor
namespace Go.Proofs.YtlmfmioljeppfaaGreatDoor
open Go.RowKit Go.Shelf Go.Lib
theorem stepF_low {cs : List Class} {from' gives : Str} {x : Ins} {L S : List Str} (h : ¬ (15 ≤ x.op ∧ x.op ≤ 25)) : stepF cs from' gives x L S = plainF cs gives x L S := by
  have hh : ∀ L S, heapedF cs from' x L S = some (L, S) := fun L S => heapedF_other (by omega)
  unfold stepF
  simp only [hh]
  cases plainF cs gives x L S <;> rfl
theorem stepF_high {cs : List Class} {from' gives : Str} {x : Ins} {L S : List Str} (h : 15 ≤ x.op ∧ x.op ≤ 25) : stepF cs from' gives x L S = heapedF cs from' x L S := by
  have hp : plainF cs gives x L S = some (L, S) := plainF_other (by omega)
  unfold stepF
  rw [hp]; rfl
theorem popR_snoc (S : List Str) (k : Str) : popR (S ++ [k]) = if refNB (kdOf k) then some (k, S) else none := by
  unfold popR
  rw [popS_snoc]; rfl
theorem takeS_snoc {cs : List Class} {t : Str} (ht : kindR cs t = 0) (S : List Str) (k : Str) : takeS cs [t] (S ++ [k]) = if fitsKd cs (kdOf k) (kdOf t) then some S else none := by
  rw [takeS_cons, if_neg (by rw [ht]; decide), popS_snoc]; rfl
theorem load_out {L S : List Str} {i : Nat} (h : L.length ≤ i) : loadF L S i = none := by
  unfold loadF
  rw [Int.toNat_natCast, List.getElem?_eq_none h]
theorem load_t {L S : List Str} {i : Nat} {k : Str} (h : L[i]? = some k) (hk : (k.toList == [84]) = true) : loadF L S i = none := by
  unfold loadF
  rw [Int.toNat_natCast, h]
  exact if_pos hk
theorem load_k {L S : List Str} {i : Nat} {k : Str} (h : L[i]? = some k) (hk : (k.toList == [84]) = false) : loadF L S i = putL L S k := by
  unfold loadF
  rw [Int.toNat_natCast, h]
  exact if_neg (by rw [hk]; decide)
theorem store_out {L S : List Str} {i : Nat} (h : L.length ≤ i) : storeF L S i = none := by
  unfold storeF
  cases popS S with
  | none => rfl
  | some p => exact if_neg (by rw [Int.toNat_natCast]; omega)
theorem store_in {L r : List Str} {k : Str} {i : Nat} (h : i < L.length) : storeF L (r ++ [k]) i = some (L.set i k, r) := by
  unfold storeF
  rw [popS_snoc, Option.bind_some]
  dsimp only
  rw [Int.toNat_natCast, if_pos h]
theorem ref_no {L r : List Str} {k : Str} (h : refNB (kdOf k) = false) : refS L (r ++ [k]) = none := by
  unfold refS
  rw [popS_snoc]
  exact if_neg (by rw [h]; decide)
theorem ref_yes {L r : List Str} {k : Str} (h : refNB (kdOf k) = true) : refS L (r ++ [k]) = some (L, r) := by
  unfold refS
  rw [popS_snoc]
  exact if_pos h
theorem putL_in {L r : List Str} {k : Str} (h : r.length < 8) : putL L r k = some (L, r ++ [k]) := by
  rw [putL_w, if_pos (by simp; omega)]
theorem dup_k {L r : List Str} {k : Str} (h : (r ++ [k]).length ≤ 8) : ((popS (r ++ [k])).bind fun p => (putS p.2 p.1).bind fun S1 => putL L S1 p.1) = putL L (r ++ [k]) k := by
  rw [popS_snoc, Option.bind_some]
  dsimp only
  unfold putS
  rw [if_pos (by simp at h; omega)]; rfl
theorem swap_k {L r : List Str} {j k : Str} (h : (r ++ [j] ++ [k]).length ≤ 8) : ((popS (r ++ [j] ++ [k])).bind fun p => (popS p.2).bind fun q => (putS q.2 p.1).bind fun S1 => putL L S1 q.1) = some (L, r ++ [k] ++ [j]) := by
  rw [popS_snoc, Option.bind_some]
  dsimp only
  rw [popS_snoc, Option.bind_some]
  dsimp only
  unfold putS
  rw [if_pos (by simp at h; omega), Option.bind_some, putL_in (by simp at h ⊢; omega)]
theorem swap_short {L S : List Str} (h : S.length < 2) : ((popS S).bind fun p => (popS p.2).bind fun q => (putS q.2 p.1).bind fun S1 => putL L S1 q.1) = none := by
  rcases List.eq_nil_or_concat S with rfl | ⟨r, k, rfl⟩
  · rfl
  · rw [List.concat_eq_append] at *
    have : r = [] := List.eq_nil_of_length_eq_zero (by simp at h; omega)
    subst this
    rfl
theorem len_no {cs : List Class} {L r : List Str} {k : Str} (_hk : kindR cs k = 0) (h : lenOk k = false) : ((popR (r ++ [k])).bind fun p => if lenOk p.1 = true then putL L p.2 kI else none) = none := by
  rw [popR_snoc]
  split
  · exact if_neg (by dsimp only; rw [h]; decide)
  · rfl
theorem len_yes {cs : List Class} {L r : List Str} {k : Str} (hk : kindR cs k = 0) (h : lenOk k = true) (h8 : r.length < 8) : ((popR (r ++ [k])).bind fun p => if lenOk p.1 = true then putL L p.2 kI else none) = some (L, r ++ [kI]) := by
  rw [popR_snoc, if_pos (len_ref hk h), Option.bind_some]
  dsimp only
  rw [if_pos h]
  exact putL_in h8
theorem cast_no {L r : List Str} {k t : Str} (h : refNB (kdOf k) = false) : ((popR (r ++ [k])).bind fun p => putL L p.2 t) = none := by
  rw [popR_snoc, if_neg (by rw [h]; decide)]; rfl
theorem cast_yes {L r : List Str} {k t : Str} (h : refNB (kdOf k) = true) (h8 : r.length < 8) : ((popR (r ++ [k])).bind fun p => putL L p.2 t) = some (L, r ++ [t]) := by
  rw [popR_snoc, if_pos h]
  exact putL_in h8
theorem array_short {cs : List Class} {t : Str} {S : List Str} (h : S.length < 2) : arrayF cs t S = none := by
  unfold arrayF
  split
  · rfl
  · cases hq : takeS cs [kI] S with
    | none => rfl
    | some S1 =>
      have := takeS_len hq
      have h0 : S1 = [] := List.eq_nil_of_length_eq_zero (by simp at this; omega)
      subst h0
      rfl
theorem array_eq {cs : List Class} {t k u : Str} {r : List Str} (ht : kindR cs t = 0) (hT : typeB (lst t) = true) (hk : kindR cs k = 0) (hu : kindR cs u = 0) : arrayF cs t (r ++ [k] ++ [u]) = if (u.toList == [73]) && fitsKd cs (kdOf k) (kdOf (arText t)) then some r else none := by
  unfold arrayF
  rw [if_neg (by rw [ht]; decide), takeS_snoc (kI_known cs), fits_int hu]
  cases (u.toList == [73]) with
  | false => rfl
  | true =>
    rw [if_pos rfl, Option.bind_some, popR_snoc, ← arr_fits hk hT, Bool.true_and]
    cases refNB (kdOf k) with
    | false => rfl
    | true => rfl
theorem ar_known {l : List Class} (_hcf : ∀ c ∈ l, classFault c = 0) {t : Str} (hk : kindR (allC l) t = 0) (hT : typeB (91 :: lst t) = true) : kindR (allC l) (arText t) = 0 := by
  obtain ⟨y, h1, h2, h3⟩ := typeB_ty _ hT
  have hd : deepTy y ≤ 3 := by
    obtain ⟨z, hz⟩ := ty_of_type (t := arText t) (by rw [lst_ar]; exact hT)
    have : y = z := tyText_inj (h1.trans (by rw [hz.text, lst_ar]))
    rw [this]
    exact hz.deep
  refine kindR_ty (x := y) (by rw [h1, lst_ar]) h3 hd ?_
  cases y with
  | i => simp [tyText] at h1
  | j => simp [tyText] at h1
  | cl c => simp [tyText] at h1
  | ar e =>
    simp only [tyText, List.cons.injEq, true_and] at h1
    exact (kindR_type h1 hk).2
theorem stepF_at (cs : List Class) (from' gives : Str) (a b : Int) (type cls name : Str) (L S : List Str) :
    stepF cs from' gives ⟨4, a, b, type, cls, name⟩ L S = loadF L S a ∧ stepF cs from' gives ⟨5, a, b, type, cls, name⟩ L S = storeF L S a
    ∧ stepF cs from' gives ⟨6, a, b, type, cls, name⟩ L S = ((popS S).map fun p => (L, p.2)) ∧ stepF cs from' gives ⟨7, a, b, type, cls, name⟩ L S = ((popS S).bind fun p => (putS p.2 p.1).bind fun S1 => putL L S1 p.1)
    ∧ stepF cs from' gives ⟨8, a, b, type, cls, name⟩ L S = ((popS S).bind fun p => (popS p.2).bind fun q => (putS q.2 p.1).bind fun S1 => putL L S1 q.1)
    ∧ stepF cs from' gives ⟨13, a, b, type, cls, name⟩ L S = refS L S
    ∧ stepF cs from' gives ⟨19, a, b, type, cls, name⟩ L S = ((popR S).bind fun p => if lenOk p.1 = true then putL L p.2 kI else none)
    ∧ stepF cs from' gives ⟨20, a, b, type, cls, name⟩ L S = ((arrayF cs type S).bind fun S1 => putL L S1 type)
    ∧ stepF cs from' gives ⟨21, a, b, type, cls, name⟩ L S = knK cs type ((takeS cs [type] S).bind fun S1 => (arrayF cs type S1).map fun S2 => (L, S2))
    ∧ stepF cs from' gives ⟨22, a, b, type, cls, name⟩ L S = knK cs type ((popR S).bind fun p => putL L p.2 type)
    ∧ stepF cs from' gives ⟨23, a, b, type, cls, name⟩ L S = knK cs type ((popR S).bind fun p => putL L p.2 kI) := by
  refine ⟨?_, ?_, ?_, ?_, ?_, ?_, ?_, ?_, ?_, ?_, ?_⟩ <;> first | (rw [stepF_low (by dsimp only; omega)]; rfl) | (rw [stepF_high (by dsimp only; omega)]; rfl)
theorem aload_bad {cs : List Class} {L S : List Str} {t : Str} (h : kindR cs t ≠ 0) : ((arrayF cs t S).bind fun S1 => putL L S1 t) = none := by
  unfold arrayF
  rw [if_pos h]; rfl
theorem astore_short {cs : List Class} {L S : List Str} {t : Str} (h : S.length < 3) : ((takeS cs [t] S).bind fun S1 => (arrayF cs t S1).map fun S2 => (L, S2)) = none := by
  cases hq : takeS cs [t] S with
  | none => rfl
  | some S1 =>
    have := takeS_len hq
    rw [Option.bind_some, array_short (by simp at this; omega)]; rfl
theorem astore_eq {cs : List Class} {t k u v : Str} {L r : List Str} (ht : kindR cs t = 0) (hT : typeB (lst t) = true) (hk : kindR cs k = 0) (hu : kindR cs u = 0) : ((takeS cs [t] (r ++ [k] ++ [u] ++ [v])).bind fun S1 => (arrayF cs t S1).map fun S2 => (L, S2)) = if fitsKd cs (kdOf v) (kdOf t) && ((u.toList == [73]) && fitsKd cs (kdOf k) (kdOf (arText t))) then some (L, r) else none := by
  rw [takeS_snoc ht]
  cases fitsKd cs (kdOf v) (kdOf t) with
  | false => rfl
  | true =>
    rw [if_pos rfl, Option.bind_some, array_eq ht hT hk hu, Bool.true_and]
    split <;> rfl
end Go.Proofs.YtlmfmioljeppfaaGreatDoor
