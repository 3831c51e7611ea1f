/-
  PLAIN LAW: what is there first, one class after the other, in the reference's way.
  WALK over the reference's Started. Conditions: a right world, classes that are there, a list in order.
-/
import Derived.Test.YtinccnehfalfnaaGreatDoorOrderLaw
import Derived.Test.YtinccnehfalfnaaGreatDoorRefNames
namespace Go.Proofs.YtinccnehfalfnaaGreatDoor
open Go.RowKit Go.Shelf Go.Lib
/-- the classes that are there when a class is used -/
def startC (l : List Class) (out : List Str) (n : Str) : List Str := addNew out (lineC (allC l) n).reverse
theorem Right.below_not {l : List Class} (h : Right l) {n : Str} (hk : (findC (allC l) n).isSome = true) (h0 : (classC (allC l) n).super.size ≠ 0) : n ∉ lineC (allC l) (classC (allC l) n).super := by
  obtain ⟨hks, hlt⟩ := h.up hk h0
  intro hin
  have hin2 := (h.line_facts _ _ hks (Nat.le_refl _)).1 n hin
  have e := every_facts h.closed hks
  have g := every_facts h.closed hk
  have := nodup_length (everyC (allC l) n) (everyC (allC l) (classC (allC l) n).super) g.1.nodup (g.2.2.2 (fun x => x ∈ everyC (allC l) (classC (allC l) n).super) e.2.2.1 hin2)
  omega
theorem Ordered.line_in {l : List Class} (hr : Right l) : ∀ (k : Nat) (x : Str), (findC (allC l) x).isSome = true → (everyC (allC l) x).length ≤ k → ∀ out, Ordered l out → x ∈ out → ∀ y ∈ lineC (allC l) x, y ∈ out := by
  intro k
  induction k with
  | zero =>
    intro x hk hf
    have := List.length_pos_of_mem (every_facts hr.closed hk).2.1
    omega
  | succ k ih =>
    intro x hk hf out ho hx y hy
    by_cases h0 : (classC (allC l) x).super.size = 0
    · rw [Right.line_top h0] at hy
      simp at hy; subst hy; exact hx
    · rw [hr.line_up hk h0] at hy
      rcases List.mem_cons.1 hy with rfl | hy
      · exact hx
      · obtain ⟨hks, hlt⟩ := hr.up hk h0
        obtain ⟨i, hi, hix⟩ := List.getElem_of_mem hx
        have hi0 : i ≠ 0 := by
          rintro rfl
          obtain ⟨t, ht⟩ := ho.head
          subst ht
          simp at hix
          subst hix
          exact h0 rfl
        have hs := ho.up i x (by rw [← hix]; exact List.getElem?_eq_getElem hi) hi0
        exact ih _ hks (by omega) out ho (List.mem_of_mem_take hs) y hy
theorem addNew_all {out more : List Str} (h : ∀ x ∈ more, x ∈ out) : addNew out more = out := by
  induction more with
  | nil => rfl
  | cons a r ih =>
    rw [addNew_cons, memB_iff.2 (h a (by simp)), if_pos rfl]
    exact ih (fun x hx => h x (by simp [hx]))
theorem startC_in {l : List Class} (hr : Right l) {out : List Str} (ho : Ordered l out) {n : Str} (hk : (findC (allC l) n).isSome = true) (hn : n ∈ out) : startC l out n = out :=
  addNew_all fun x hx => Ordered.line_in hr _ n hk (Nat.le_refl _) out ho hn x (List.mem_reverse.1 hx)
theorem startC_up {l : List Class} (hr : Right l) {out : List Str} {n : Str} (hk : (findC (allC l) n).isSome = true) (hn : n ∉ out) (h0 : (classC (allC l) n).super.size ≠ 0) :
    startC l out n = startC l out (classC (allC l) n).super ++ [n] := by
  unfold startC
  rw [hr.line_up hk h0, List.reverse_cons, addNew_append, addNew_cons]
  obtain ⟨t, h1, _, h3⟩ := addNew_app (lineC (allC l) (classC (allC l) n).super).reverse out
  have hm : memB (addNew out (lineC (allC l) (classC (allC l) n).super).reverse) n = false := by
    cases hm : memB (addNew out (lineC (allC l) (classC (allC l) n).super).reverse) n with
    | false => rfl
    | true =>
      exfalso
      have := memB_iff.1 hm
      rw [h1] at this
      rcases List.mem_append.1 this with h | h
      · exact hn h
      · exact hr.below_not hk h0 (List.mem_reverse.1 (h3 n h))
  rw [hm, if_neg (by decide)]; rfl
theorem startC_top {l : List Class} {out : List Str} {n : Str} (hn : n ∉ out) (h0 : (classC (allC l) n).super.size = 0) : startC l out n = out ++ [n] := by
  unfold startC
  rw [Right.line_top h0]
  show addNew out [n] = _
  have hm : memB out n = false := by
    cases hm : memB out n with
    | false => rfl
    | true => exact absurd (memB_iff.1 hm) hn
  rw [addNew_cons, hm, if_neg (by decide)]; rfl
theorem Ordered.start {l : List Class} (hr : Right l) {out : List Str} (ho : Ordered l out) {n : Str} (hk : (findC (allC l) n).isSome = true) : Ordered l (startC l out n) :=
  Ordered.line hr _ n hk (Nat.le_refl _) out ho
end Go.Proofs.YtinccnehfalfnaaGreatDoor
namespace Go.Proofs.YtinccnehfalfnaaGreatDoor
open Go.RowKit Go.Shelf Go.Lib
theorem grown_of_below {w w' : World} (h : Below w.heap.size w w') (row : Option Nat) : w.grownBy w' row := ⟨h.os, h.tape, h.output, h.size, fun k hk _ => h.block k hk⟩
theorem grown_trans {a b c : World} {row row2 : Option Nat} (h : a.grownBy b row) (k : b.grownBy c row2) (hr : row2 = row ∨ ∃ g, row2 = some g ∧ a.heap.size ≤ g) : a.grownBy c row := by
  refine ⟨k.os.trans h.os, k.tape.trans h.tape, k.output.trans h.output, Nat.le_trans h.size k.size, fun i hi hne => ?_⟩
  refine (k.block i (Nat.lt_of_lt_of_le hi h.size) ?_).trans (h.block i hi hne)
  rcases hr with rfl | ⟨g, rfl, hg⟩
  · exact hne
  · intro he; injection he with he; omega
/-- a list that is handed back: it lies in the row that came in, or in a new one -/
def StartPost (w : World) (base : Nat) (v : Value) (l : List Str) (e : Ending) (w' : World) : Prop :=
  ∃ v', e = .returned v' ∧ w'.ownsRow base 9 1 v' l.length (l.map Value.string) ∧ w.grownBy w' v.ownBlock ∧ (v'.ownBlock = v.ownBlock ∨ ∃ g, v'.ownBlock = some g ∧ w.heap.size ≤ g)
set_option maxHeartbeats 1000000 in
set_option maxRecDepth 100000 in
theorem refStarted_fuel (l : List Class) (lv : Value) (hR : Right l) (w0 : World) (base : Nat) (_h0b : w0.heap.size ≤ base) (hlv : ClassesAt w0 lv l) : ∀ (k : Nat) (n : Str) (out : List Str) (v : Value) (w : World), Below w0.heap.size w0 w → base ≤ w.heap.size →
    w.ownsRow base 9 1 v out.length (out.map Value.string) → Ordered l out → (findC (allC l) n).isSome = true → (everyC (allC l) n).length ≤ k →
    Calls Tryz.prog 12 #[lv, v, .string n] w (StartPost w base v (startC l out n)) := by
  intro k
  induction k with
  | zero =>
    intro n out v w _ _ _ _ hk hf
    have := List.length_pos_of_mem (every_facts hR.closed hk).2.1
    omega
  | succ k ih =>
    intro n out v w hB hbase hown ho hk hf
    have hcon := in_any out v n w (strsAt_of_owns hown)
    obtain ⟨va, vc, rfl⟩ := ownsRow_shape hown
    cases hmm : memB out n with
    | true =>
      rw [hmm] at hcon
      rw [startC_in hR ho hk (memB_iff.1 hmm)]
      have HC := Lib.hid hcon
      have HO := Lib.hid hown
      obtain ⟨pl, cap, rfl, _⟩ := hlv.open
      clear hcon hmm hown hf ih ho hk hR hlv
      go_enter Tryz.func12, Tryz.ntmps12
      go_wp2_with (go_at_call 21; (with_reducible refine HC.out.mono ?_); rintro e w3 ⟨rfl, rfl⟩)
      go_ret
      exact ⟨_, rfl, HO.out, World.grownBy.refl w _, Or.inl rfl⟩
    | false =>
      have hno : n ∉ out := fun h => by rw [memB_iff.2 h] at hmm; cases hmm
      rw [hmm] at hcon
      have HC := Lib.hid hcon
      have HCO := Lib.hid (refClassOf_any l lv n w (hlv.mono hB))
      unfold ClassGives at HCO
      rw [hk] at HCO
      have ze : (classC (allC l) n).super.toList.isEmpty = decide ((classC (allC l) n).super.size = 0) := empty_iff _
      have hs12 := hR.small
      have ho2 : (startC l out n).length ≤ 12 := Nat.le_trans (ho.start hR hk).good.length hs12
      by_cases h0 : (classC (allC l) n).super.size = 0
      · rw [startC_top hno h0] at ho2 ⊢
        rw [decide_eq_true h0] at ze
        rw [List.length_append, List.length_singleton] at ho2
        obtain ⟨pl, cap, rfl, _⟩ := hlv.open
        unfold classC at ze
        have HO := Lib.hid hown
        clear ih hk hf h0 hR hno hmm hcon ho hlv hs12 hown
        generalize (findC (allC l) n).getD noClass = d at *
        obtain ⟨n2, s2, f2, b2, d2, m2⟩ := d
        dsimp only at HCO ze
        have hc3 : out.length + [n].length ≤ maxLen := Nat.le_trans (show out.length + 1 ≤ 12 by omega) (by decide)
        have hc4 : (out.length + [n].length) * 16 ≤ 140737488355328 := by show (out.length + 1) * 16 ≤ _; omega
        have HF3 := Lib.hid hc3
        have HF4 := Lib.hid hc4
        clear hc3 hc4
        go_enter Tryz.func12, Tryz.ntmps12
        go_upto_region 4 with (first
          | (go_at_call 21; (with_reducible refine HC.out.mono ?_); rintro e w3 ⟨rfl, rfl⟩)
          | (go_at_call 9; (with_reducible refine HCO.out.mono ?_); rintro e w7 ⟨pf2, kf2, pd2, kd2, pm2, km2, rfl, _, _, _, hB7, _⟩))
        have BX := boxed_new w7 #[.string n2, .string s2, .slice pf2 f2.length kf2, .bool b2, .slice pd2 d2.length kd2, .slice pm2 m2.length km2] 30
        have hB8 := hB7.alloc hB7.size (.cells #[.string n2, .string s2, .slice pf2 f2.length kf2, .bool b2, .slice pd2 d2.length kd2, .slice pm2 m2.length km2] 30)
        generalize w7.alloc (.cells #[.string n2, .string s2, .slice pf2 f2.length kf2, .bool b2, .slice pd2 d2.length kd2, .slice pm2 m2.length km2] 30) = w8 at *
        obtain ⟨q0, q1, q2, q3, q4, q5⟩ := boxed6 BX
        have hone := strs_one w8 n
        have hB9 : Below w.heap.size w (w8.alloc (.cells #[.string n] 9)) := hB8.alloc hB8.size _
        have hown9 := ownsRow_below HO.out hB9
        have hbase9 := Nat.le_trans hbase hB9.size
        go_wp2_with (at_builtin; (refine wpList_append_strs rfl _ _ rfl base _ _ _ rfl hown9 _ [n] rfl hone HF3.out HF4.out hbase9 ?_); intro v6 w6 hown6 hgrow6 hat6)
        go_ret
        refine ⟨v6, rfl, by simpa using hown6, grown_trans (grown_of_below hB9 _) hgrow6 (Or.inl rfl), ?_⟩
        rcases hat6 with h | h
        · exact Or.inl h
        · exact Or.inr ⟨_, h, hB9.size⟩
      · obtain ⟨hks, hlt⟩ := hR.up hk h0
        rw [startC_up hR hk hno h0] at ho2 ⊢
        rw [List.length_append, List.length_singleton] at ho2
        rw [decide_eq_false h0] at ze
        have HS : Hid (∀ wx, Below w.heap.size w wx → _) := fun wx hb => ih (classC (allC l) n).super out (.slice va out.length vc) wx (below_call hB (Nat.le_refl _) (hb.mono (Nat.le_refl _))) (Nat.le_trans hbase hb.size) (ownsRow_below hown hb) ho hks (by omega)
        unfold StartPost at HS
        obtain ⟨pl, cap, rfl, _⟩ := hlv.open
        clear ih hk hf h0 hR hks hlt hno hmm hcon ho hlv hs12 hown
        generalize startC l out (classC (allC l) n).super = L at *
        unfold classC at ze HS
        generalize (findC (allC l) n).getD noClass = d at *
        obtain ⟨n2, s2, f2, b2, d2, m2⟩ := d
        dsimp only at HCO ze HS
        have hc3 : L.length + [n].length ≤ maxLen := Nat.le_trans (show L.length + 1 ≤ 12 by omega) (by decide)
        have hc4 : (L.length + [n].length) * 16 ≤ 140737488355328 := by show (L.length + 1) * 16 ≤ _; omega
        have HF3 := Lib.hid hc3
        have HF4 := Lib.hid hc4
        clear hc3 hc4
        go_enter Tryz.func12, Tryz.ntmps12
        go_upto_region 4 with (first
          | (go_at_call 21; (with_reducible refine HC.out.mono ?_); rintro e w3 ⟨rfl, rfl⟩)
          | (go_at_call 9; (with_reducible refine HCO.out.mono ?_); rintro e w7 ⟨pf2, kf2, pd2, kd2, pm2, km2, rfl, _, _, _, hB7, _⟩))
        have BX := boxed_new w7 #[.string n2, .string s2, .slice pf2 f2.length kf2, .bool b2, .slice pd2 d2.length kd2, .slice pm2 m2.length km2] 30
        have hB8 := hB7.alloc hB7.size (.cells #[.string n2, .string s2, .slice pf2 f2.length kf2, .bool b2, .slice pd2 d2.length kd2, .slice pm2 m2.length km2] 30)
        generalize w7.alloc (.cells #[.string n2, .string s2, .slice pf2 f2.length kf2, .bool b2, .slice pd2 d2.length kd2, .slice pm2 m2.length km2] 30) = w8 at *
        obtain ⟨q0, q1, q2, q3, q4, q5⟩ := boxed6 BX
        go_upto_region 6 with (go_at_call 12; (with_reducible refine (HS.out _ hB8).mono ?_); rintro e w9 ⟨v9, rfl, hown9, hgrow9, hat9⟩)
        have hone := strs_one w9 n
        have hBn : Below w9.heap.size w9 (w9.alloc (.cells #[.string n] 9)) := (Below.refl _ _).alloc (Nat.le_refl _) _
        have hown10 := ownsRow_below hown9 hBn
        have hsz : base ≤ (w9.alloc (.cells #[.string n] 9)).heap.size := Nat.le_trans (Nat.le_trans hbase (Nat.le_trans hB8.size hgrow9.size)) hBn.size
        have hg9 := grown_trans (grown_of_below hB8 (Value.slice va out.length vc).ownBlock) hgrow9 (Or.inl rfl)
        have hg10 := grown_trans hg9 (grown_of_below hBn (Value.slice va out.length vc).ownBlock) (Or.inl rfl)
        have hat10 : v9.ownBlock = (Value.slice va out.length vc).ownBlock ∨ ∃ g, v9.ownBlock = some g ∧ w.heap.size ≤ g := by
          rcases hat9 with h | ⟨g, h1, h2⟩
          · exact Or.inl h
          · exact Or.inr ⟨g, h1, Nat.le_trans hB8.size h2⟩
        clear hown9 hgrow9 hat9 hg9 BX q0 q1 q2 q3 q4 q5
        go_wp2_with (at_builtin; (refine wpList_append_strs rfl _ _ rfl base _ _ _ rfl hown10 _ [n] rfl hone HF3.out HF4.out hsz ?_); intro v6 w6 hown6 hgrow6 hat6)
        go_ret
        refine ⟨v6, rfl, by simpa using hown6, grown_trans hg10 hgrow6 hat10, ?_⟩
        rcases hat6 with h | h
        · rcases hat10 with h2 | ⟨g, h2, h3⟩
          · exact Or.inl (h.trans h2)
          · exact Or.inr ⟨g, h.trans h2, h3⟩
        · exact Or.inr ⟨_, h, hg10.size⟩
end Go.Proofs.YtinccnehfalfnaaGreatDoor
