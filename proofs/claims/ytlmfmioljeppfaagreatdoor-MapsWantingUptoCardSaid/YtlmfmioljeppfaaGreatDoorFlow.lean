/-
  WALK over ins.Check. Conditions: as in XIns, and the table of forms lies as the text lays it.
  WALKS over package flow: Ends, Check. Conditions: as in XInsCheck, for each instruction.
-/
import Derived.Test.YtlmfmioljeppfaaGreatDoorInsForm
import Derived.Deep.DeepCutAuto
import Derived.Deep.RegionHeld3
namespace Go.Proofs.YtlmfmioljeppfaaGreatDoor
open Go.RowKit Go.Shelf Go.Lib
theorem need_tab : ∀ op : Nat, op < 29 → 1 ≤ op → needB' (needsOf op) 65 = needA op ∧ needB' (needsOf op) 66 = needB op ∧ needB' (needsOf op) 84 = needT op ∧ needB' (needsOf op) 67 = needC op ∧ needB' (needsOf op) 78 = needN op := by
  decide
set_option maxHeartbeats 400000 in
theorem insCheck_bad (x : Ins) (w : World) (h : x.op < 1 ∨ 28 < x.op) : Calls Tryz.prog 52 #[insV x] w fun e w' => e = .returned (errV (insFault x)) ∧ Below w.heap.size w w' := by
  obtain ⟨op, a, b, type, cls, name⟩ := x
  replace h : op < 1 ∨ 28 < op := h
  have hf : errV (insFault ⟨op, a, b, type, cls, name⟩) = errV 1 := by unfold insFault; rw [if_pos h]
  rw [hf]; clear hf
  have hO : Hid (∀ w, _) := fun w => of_bad op w h
  clear h
  unfold insV
  go_enter Tryz.func52, Tryz.ntmps52
  go_wp2_with (go_at_call 92; (with_reducible refine (hO.out _).mono ?_); rintro e w2 ⟨rfl, hB⟩)
  go_ret
  exact ⟨rfl, (below2 ((Below.refl _ _).alloc (Nat.le_refl _) _) hB).alloc (Nat.le_trans (by simp) hB.size) _⟩
theorem nameCheck_yes {s : ByteArray} (hs : s.size ≤ 1048576) {v : Value} (hv : errV (nameFault s) = v) (w : World) : Calls Tryz.prog 97 #[.string s] w fun e w' => e = .returned v ∧ Below w.heap.size w w' := by
  subst hv; exact nameCheck_any s w (maxLen_of (Nat.le_trans hs (by decide)))
set_option maxHeartbeats 4000000 in
set_option maxRecDepth 100000 in
theorem insCheck_good (op : Nat) (a b : Int) (type cls name : ByteArray) (w : World) (h1 : 1 ≤ op) (h2 : op ≤ 28) (hl : Laid w) (hs : InsOk ⟨op, a, b, type, cls, name⟩) : Calls Tryz.prog 52 #[insV ⟨op, a, b, type, cls, name⟩] w fun e w' => e = .returned (errV (insFault ⟨op, a, b, type, cls, name⟩)) ∧ Below w.heap.size w w' := by
  have hO : Hid (∀ w, Laid w → _) := fun w hl => of_good op w h1 h2 hl
  have hR : Hid (∀ w, _) := fun w => ranged_any ⟨op, a, b, type, cls, name⟩ w
  have hY : Hid (∀ w, _) := fun w => typed_any ⟨op, a, b, type, cls, name⟩ w hs.type
  obtain ⟨e1, e2, e3, e4, e5⟩ := need_tab op (by omega) h1
  have hN : ∀ (k : Bool) (c : UInt8), needB' (needsOf op) c = k → Hid (∀ B w, w.cell? ⟨B, 0, none⟩ = some (.string (wordOf op)) → w.cell? ⟨B, 1, none⟩ = some (.string (needsOf op)) → Calls Tryz.prog 93 #[.string ⟨#[c]⟩, .pointer (some ⟨B, 0, none⟩)] w fun e w' => e = .returned (.bool k) ∧ w = w') :=
    fun k c hk B w d0 d1 => hk ▸ needs_any _ _ c B w d0 d1
  have hA := hN _ _ e1
  have hBn := hN _ _ e2
  have hT := hN _ _ e3
  have hC := hN _ _ e4
  have hM := hN _ _ e5
  clear hN e1 e2 e3 e4 e5
  have hf : Hid (insFault ⟨op, a, b, type, cls, name⟩ = if ((!needA op && a != 0) || (!needB op && b != 0) || (!needT op && type.size != 0) || (!needC op && cls.size != 0) || (!needN op && name.size != 0)) = true then 1 else if (!rangedB ⟨op, a, b, type, cls, name⟩) = true then 2 else if (!typedB ⟨op, a, b, type, cls, name⟩ || (needC op && !nameB (lst cls)) || (needN op && !nameB (lst name))) = true then 1 else 0) := by
    unfold Hid insFault; rw [if_neg (by simp; omega)]
  have hvc : ∃ v k, errV (nameFault cls) = v ∧ nameB (lst cls) = k ∧ ((v = .nilIface ∧ k = true) ∨ (v = .iface 29 (.int .i64 1) ∧ k = false)) := by
    refine ⟨_, _, rfl, rfl, ?_⟩
    unfold nameFault lst
    cases nameB cls.data.toList <;> simp [errV]
  have hvn : ∃ v k, errV (nameFault name) = v ∧ nameB (lst name) = k ∧ ((v = .nilIface ∧ k = true) ∨ (v = .iface 29 (.int .i64 1) ∧ k = false)) := by
    refine ⟨_, _, rfl, rfl, ?_⟩
    unfold nameFault lst
    cases nameB name.data.toList <;> simp [errV]
  obtain ⟨vc, kc, hvc, hkc, hvc2⟩ := hvc
  obtain ⟨vn, kn, hvn, hkn, hvn2⟩ := hvn
  have hNC : Hid (∀ w, _) := fun w => nameCheck_yes (s := cls) hs.cls hvc w
  have hNN : Hid (∀ w, _) := fun w => nameCheck_yes (s := name) hs.name hvn w
  rw [hkc, hkn] at hf
  clear hvc hkc hvn hkn hs
  have z1 : (type.size != 0) = !type.toList.isEmpty := by rw [empty_iff]; rfl
  have z2 : (cls.size != 0) = !cls.toList.isEmpty := by rw [empty_iff]; rfl
  have z3 : (name.size != 0) = !name.toList.isEmpty := by rw [empty_iff]; rfl
  rw [z1, z2, z3] at hf
  clear z1 z2 z3
  generalize insFault ⟨op, a, b, type, cls, name⟩ = res at *
  generalize wordOf op = wd at *
  generalize needsOf op = nd at *
  generalize rangedB ⟨op, a, b, type, cls, name⟩ = kR at *
  generalize typedB ⟨op, a, b, type, cls, name⟩ = kY at *
  generalize needA op = kA at *
  generalize needB op = kB at *
  generalize needT op = kT at *
  generalize needC op = kC at *
  generalize needN op = kN at *
  generalize (op : Int) = z at *
  obtain ⟨za, hza⟩ : ∃ k, (a == 0) = k := ⟨_, rfl⟩
  obtain ⟨zb, hzb⟩ : ∃ k, (b == 0) = k := ⟨_, rfl⟩
  have hza2 := Lib.hid (show za = decide (a = 0) by rw [← hza]; rfl)
  have hzb2 := Lib.hid (show zb = decide (b = 0) by rw [← hzb]; rfl)
  obtain ⟨zt, hzt⟩ : ∃ k, type.toList.isEmpty = k := ⟨_, rfl⟩
  obtain ⟨zc, hzc⟩ : ∃ k, cls.toList.isEmpty = k := ⟨_, rfl⟩
  obtain ⟨zn, hzn⟩ : ∃ k, name.toList.isEmpty = k := ⟨_, rfl⟩
  rw [hzt, hzc, hzn, show (a != 0) = !za by rw [← hza]; rfl, show (b != 0) = !zb by rw [← hzb]; rfl] at hf
  have hmf : ∀ fn first cap w, (Instr.makeFunc fn first cap).run Tryz.prog w = .ok (.func fn first cap) w := fun _ _ _ _ => rfl
  unfold insV at *
  go_enter Tryz.func52, Tryz.ntmps52
  go_upto_region 5 with (go_at_call 92; (with_reducible refine (hO.out _ ?_).mono ?_); (exact hl.mono ((Below.refl _ _).alloc (Nat.le_refl _) _) hl.1); rintro e w2 ⟨rfl, hB⟩; obtain ⟨hcl, hfr⟩ := bcell hB)
  have hsz := hB.size
  simp only [World.size_alloc] at hsz
  have hall := (Below.refl w2.heap.size w2).alloc (Nat.le_refl _) (Obj.cells #[.string wd, .string nd] 143)
  have hq : ∀ o, (w2.alloc (Obj.cells #[.string wd, .string nd] 143)).cell? ⟨w.heap.size, o, none⟩ = (w.alloc (Obj.cells #[.int .i64 z, .int .i64 a, .int .i64 b, .string type, .string cls, .string name] 24)).cell? ⟨w.heap.size, o, none⟩ := fun o =>
    (hall.cell (p := ⟨_, _, none⟩) (show w.heap.size < w2.heap.size by omega)).trans (hcl _ _ (by simp))
  have q0 := hq 0
  have q1 := hq 1
  have q2 := hq 2
  have q3 := hq 3
  have q4 := hq 4
  have q5 := hq 5
  simp at q0 q1 q2 q3 q4 q5
  have d0 : (w2.alloc (Obj.cells #[.string wd, .string nd] 143)).cell? ⟨w2.heap.size, 0, none⟩ = some (.string wd) := by simp
  have d1 : (w2.alloc (Obj.cells #[.string wd, .string nd] 143)).cell? ⟨w2.heap.size, 1, none⟩ = some (.string nd) := by simp
  have hB3 : Below w.heap.size w (w2.alloc (Obj.cells #[.string wd, .string nd] 143)) := (below2 ((Below.refl _ _).alloc (Nat.le_refl _) _) hB).alloc (by omega) _
  have hs3 : w2.heap.size < (w2.alloc (Obj.cells #[.string wd, .string nd] 143)).heap.size := by simp
  clear hq hall hcl hfr hB hO
  generalize w2.alloc (Obj.cells #[.string wd, .string nd] 143) = w3 at *
  generalize w2.heap.size = b3 at *
  generalize hb1 : w.heap.size = b1 at *
  replace hb1 := Lib.hid hb1
  generalize Value.agg #[.int .i64 z, .int .i64 a, .int .i64 b, .string type, .string cls, .string name] = ag
  go_cut [63] (fun s63 wx => s63 = .bool ((!kA && !za) || (!kB && !zb) || (!kT && !zt) || (!kC && !zc) || (!kN && !zn)) ∧ wx = w3)
  case first =>
    clear hR hY hNC hNN hf hB3
    go_wp2_with (first
      | (go_at_call 93; (with_reducible refine (hA.out _ _ d0 d1).mono ?_); rintro e w4 ⟨rfl, rfl⟩)
      | (go_at_call 93; (with_reducible refine (hBn.out _ _ d0 d1).mono ?_); rintro e w4 ⟨rfl, rfl⟩)
      | (go_at_call 93; (with_reducible refine (hT.out _ _ d0 d1).mono ?_); rintro e w4 ⟨rfl, rfl⟩)
      | (go_at_call 93; (with_reducible refine (hC.out _ _ d0 d1).mono ?_); rintro e w4 ⟨rfl, rfl⟩)
      | (go_at_call 93; (with_reducible refine (hM.out _ _ d0 d1).mono ?_); rintro e w4 ⟨rfl, rfl⟩))
    all_goals
      go_meet
      exact ⟨by first | (simp [*]; done) | (simp [*, hza2.out, hzb2.out]; done), rfl⟩
  case rest =>
    obtain ⟨rfl, rfl⟩ := hcut
    generalize ((!kA && !za) || (!kB && !zb) || (!kT && !zt) || (!kC && !zc) || (!kN && !zn)) = bad at *
    clear hA hBn hT hza hzb hzt hzc hzn
    have hbs : b1 < wc.heap.size := by omega
    rcases hvc2 with ⟨rfl, rfl⟩ | ⟨rfl, rfl⟩ <;> rcases hvn2 with ⟨rfl, rfl⟩ | ⟨rfl, rfl⟩
    all_goals
      go_wp2_with (first
        | (go_at_call 95; (with_reducible refine (hR.out _).mono ?_); rintro e w5 ⟨rfl, hB5⟩; obtain ⟨hcl5, _⟩ := bcell hB5; (have p0 := (hcl5 b1 0 hbs).trans q0); (have p1 := (hcl5 b1 1 hbs).trans q1); (have p2 := (hcl5 b1 2 hbs).trans q2); (have p3 := (hcl5 b1 3 hbs).trans q3); (have p4 := (hcl5 b1 4 hbs).trans q4); (have p5 := (hcl5 b1 5 hbs).trans q5); (have d2 := (hcl5 b3 0 hs3).trans d0); (have d3 := (hcl5 b3 1 hs3).trans d1); (have hbs5 := Nat.lt_of_lt_of_le hbs hB5.size); (have hs5 := Nat.lt_of_lt_of_le hs3 hB5.size); (have hB35 := hB3.trans (hB5.mono (Nat.le_of_lt hbs))); clear hcl5)
        | (go_at_call 96; (with_reducible refine (hY.out _).mono ?_); rintro e w6 ⟨rfl, hB6⟩; obtain ⟨hcl6, _⟩ := bcell hB6; (have o4 := (hcl6 b1 4 hbs5).trans p4); (have o5 := (hcl6 b1 5 hbs5).trans p5); (have d4 := (hcl6 b3 0 hs5).trans d2); (have d5 := (hcl6 b3 1 hs5).trans d3); (have hbs6 := Nat.lt_of_lt_of_le hbs5 hB6.size); (have hs6 := Nat.lt_of_lt_of_le hs5 hB6.size); (have hB36 := hB35.trans (hB6.mono (Nat.le_of_lt hbs5))); clear hcl6)
        | (go_at_call 93; (with_reducible refine (hC.out _ _ ?_ ?_).mono ?_); (assumption); (assumption); rintro e w9 ⟨rfl, rfl⟩)
        | (go_at_call 93; (with_reducible refine (hM.out _ _ ?_ ?_).mono ?_); (assumption); (assumption); rintro e w9 ⟨rfl, rfl⟩)
        | (go_at_call 97; (with_reducible refine (hNC.out _).mono ?_); rintro e w7 ⟨rfl, hB7⟩; obtain ⟨hcl7, _⟩ := bcell hB7; (have n5 := (hcl7 b1 5 hbs6).trans o5); (have d6 := (hcl7 b3 0 hs6).trans d4); (have d7 := (hcl7 b3 1 hs6).trans d5); (have hB37 := hB36.trans (hB7.mono (Nat.le_of_lt hbs6))); (have hbs7 := Nat.lt_of_lt_of_le hbs6 hB7.size); clear hcl7)
        | (go_at_call 97; (with_reducible refine (hNN.out _).mono ?_); rintro e w8 ⟨rfl, hB8⟩; (first | (have hB38 := hB37.trans (hB8.mono (Nat.le_of_lt hbs7))) | (have hB38 := hB36.trans (hB8.mono (Nat.le_of_lt hbs6))))))
      all_goals
        go_ret
        refine ⟨?_, ?_⟩
        · simp [*, hf.out, errV]
        · rw [hb1.out]
          first | exact hB38 | exact hB37 | exact hB36 | exact hB35 | exact hB3
end Go.Proofs.YtlmfmioljeppfaaGreatDoor
namespace Go.Proofs.YtlmfmioljeppfaaGreatDoor
open Go.RowKit Go.Shelf Go.Lib
theorem ends_any (op : Int) (w : World) : Calls Tryz.prog 113 #[.int .i64 op] w fun e w' => e = .returned (.bool (endsB op)) ∧ w = w' := by
  go_enter Tryz.func113, Tryz.ntmps113
  go_wp2
  all_goals
    go_ret
    exact ⟨ret_bool (by simp [endsB, *]), rfl⟩
theorem insCheck_any (x : Ins) (w : World) (hl : Laid w) (hs : InsOk x) : Calls Tryz.prog 52 #[insV x] w fun e w' => e = .returned (errV (insFault x)) ∧ Below w.heap.size w w' := by
  by_cases h : x.op < 1 ∨ 28 < x.op
  · exact insCheck_bad x w h
  · obtain ⟨op, a, b, type, cls, name⟩ := x
    obtain ⟨n, rfl⟩ := Int.eq_ofNat_of_zero_le (show 0 ≤ op by simp at h; omega)
    simp at h
    exact insCheck_good n a b type cls name w (by omega) (by omega) hl hs
def insVals (x : Ins) : List Value := [.int .i64 x.op, .int .i64 x.a, .int .i64 x.b, .string x.type, .string x.cls, .string x.name]
theorem firstFault_drop {α : Type} (f : α → Nat) (l : List α) (k : Nat) (x : α) (h : l[k]? = some x) : firstFault f (l.drop k) = if f x = 0 then firstFault f (l.drop (k + 1)) else f x := by
  obtain ⟨hk, rfl⟩ := List.getElem?_eq_some_iff.1 h
  rw [List.drop_eq_getElem_cons hk]; rfl
theorem any_drop {α : Type} (f : α → Bool) (l : List α) (k : Nat) (x : α) (h : l[k]? = some x) : (l.drop k).any f = (f x || (l.drop (k + 1)).any f) := by
  obtain ⟨hk, rfl⟩ := List.getElem?_eq_some_iff.1 h
  rw [List.drop_eq_getElem_cons hk]; rfl
theorem errV_cases (n : Nat) : (errV n = .nilIface ∧ n = 0) ∨ (errV n = .iface 29 (.int .i64 n) ∧ n ≠ 0) := by
  unfold errV; by_cases h : n = 0
  · exact Or.inl ⟨by rw [if_pos h], h⟩
  · exact Or.inr ⟨by rw [if_neg h], h⟩
theorem below_call {B : Nat} {w w1 w2 : World} (h1 : Below B w w1) (hB : B ≤ w.heap.size) (h2 : Below w1.heap.size w1 w2) : Below B w w2 := h1.trans (h2.mono (Nat.le_trans hB h1.size))
set_option maxHeartbeats 1000000 in
set_option maxRecDepth 100000 in
theorem flowCheck_some (l : List Ins) (b o cap : Nat) (w : World) (hl : Laid w) (hs : ∀ x ∈ l, InsOk x) (h0 : 0 < l.length) (h40 : l.length ≤ 40) (_hcap : l.length ≤ cap) (_hm : cap ≤ maxLen)
    (hc : ∀ i x, l[i]? = some x → Cells w b (o + i * 6) (insVals x)) (v : Value) (hv : errV (codeFault l) = v) :
    Calls Tryz.prog 200 #[.slice (some ⟨b, o, none⟩) l.length cap] w fun e w' => e = .returned v ∧ Below w.heap.size w w' := by
  have hC : Hid (∀ w2, Below w.heap.size w w2 → ∀ x ∈ l, _) := fun w2 hb x hx => insCheck_any x w2 (hl.mono hb hl.1) (hs x hx)
  have HC : Hid (∀ i x, l[i]? = some x → Cells w b (o + i * 6) (insVals x)) := hc
  have hcf : Hid (v = errV (if firstFault insFault l ≠ 0 then firstFault insFault l
     else if l.any fun x => jumpsB x.op && decide ((l.length : Int) ≤ x.a) then 2
     else if endsB (l[l.length - 1]'(by omega)).op then 0 else 8)) := by
    unfold Hid; rw [← hv]; unfold codeFault
    rw [if_neg (by omega), List.getLast?_eq_getElem?, List.getElem?_eq_getElem (by omega)]
  have hlast : Hid (l[l.length - 1]? = some (l[l.length - 1]'(by omega))) := by simp [Hid]
  generalize (l[l.length - 1]'(by omega)) = z at hcf hlast
  clear hc hs hl hv
  go_enter Tryz.func200, Tryz.ntmps200
  go_wp2_with (first | fail)
  go_loopw [14] (fun x wr => ∃ k, k ≤ l.length ∧ Hid (firstFault insFault (l.drop k) = firstFault insFault l) ∧ Below w.heap.size w wr ∧ x = .int .i64 k) (fun x _ => l.length - (intOf x).toNat)
  case atStart => exact ⟨0, by omega, rfl, Below.refl _ _, rfl⟩
  case round =>
    obtain ⟨k, hk, hff, hB, rfl⟩ := hrel
    by_cases hkl : k < l.length
    · obtain ⟨x, hx⟩ : ∃ x, l[k]? = some x := ⟨l[k], by simp [hkl]⟩
      have hcells := (HC.out k x hx).mono hB (HC.out k x hx).lt
      have hxm : Hid (x ∈ l) := List.mem_of_getElem? hx
      have hstep := firstFault_drop insFault l k x hx
      have HX := Lib.hid hx; clear hx
      obtain ⟨c0, c1, c2, c3, c4, c5, _⟩ := hcells
      rcases errV_cases (insFault x) with ⟨hv, hz⟩ | ⟨hv, hz⟩
      · have hC2 : Hid (∀ w2, Below w.heap.size w w2 → Calls Tryz.prog 52 #[insV x] w2 fun e w' => e = .returned .nilIface ∧ Below w2.heap.size w2 w') := fun w2 h2 => hv ▸ hC.out w2 h2 x hxm.out
        unfold insV at hC2
        rw [if_pos hz, hff.out] at hstep
        have hst := Lib.hid hstep.symm
        clear hstep hC HC hcf hlast hv hz
        go_wp2_with (first | (go_at_call 52; (with_reducible refine (hC2.out _ (hB.alloc hB.size _)).mono ?_); rintro e w2 ⟨rfl, hB2⟩))
        exact ⟨⟨k + 1, by omega, hst.out, below_call (hB.alloc hB.size _) (Nat.le_refl _) hB2, by simp⟩, by simp [intOf]; omega⟩
      · have hC2 : Hid (∀ w2, Below w.heap.size w w2 → Calls Tryz.prog 52 #[insV x] w2 fun e w' => e = .returned (.iface 29 (.int .i64 (insFault x))) ∧ Below w2.heap.size w2 w') := fun w2 h2 => hv ▸ hC.out w2 h2 x hxm.out
        unfold insV at hC2
        rw [if_neg hz, hff.out] at hstep
        have hfin : Hid (v = .iface 29 (.int .i64 (insFault x))) := by
          rw [hcf.out, hstep, if_pos hz]; exact hv
        clear hstep hC HC hcf hlast hv hz hff
        generalize insFault x = fx at hC2 hfin
        go_wp2_with (first | (go_at_call 52; (with_reducible refine (hC2.out _ (hB.alloc hB.size _)).mono ?_); rintro e w2 ⟨rfl, hB2⟩))
        cases hfin.out
        go_ret
        exact ⟨rfl, below_call (hB.alloc hB.size _) (Nat.le_refl _) hB2⟩
    · have hff0 : Hid (firstFault insFault l = 0) := by
        rw [← hff.out, List.drop_eq_nil_of_le (by omega)]; rfl
      clear hff
      obtain rfl : k = l.length := by omega
      go_wp2_with (first | fail)
      go_loopw [26] (fun x wr => ∃ k, k ≤ l.length ∧ Hid (((l.drop k).any fun x => jumpsB x.op && decide ((l.length : Int) ≤ x.a)) = (l.any fun x => jumpsB x.op && decide ((l.length : Int) ≤ x.a))) ∧ Below w.heap.size w wr ∧ x = .int .i64 k) (fun x _ => l.length - (intOf x).toNat)
      case atStart => exact ⟨0, by omega, rfl, hB, rfl⟩
      case round =>
        obtain ⟨k, hk, hff, hB, rfl⟩ := hrel
        by_cases hkl : k < l.length
        · obtain ⟨x, hx⟩ : ∃ x, l[k]? = some x := ⟨l[k], by simp [hkl]⟩
          have hcells := (HC.out k x hx).mono hB (HC.out k x hx).lt
          have hstep := any_drop (fun x => jumpsB x.op && decide ((l.length : Int) ≤ x.a)) l k x hx
          rw [hff.out] at hstep
          have hj : ∀ w1, _ := fun w1 => jumps_any x.op w1
          cases hjb : jumpsB x.op with
          | false =>
            rw [hjb] at hstep hj
            have hst := Lib.hid hstep
            have HX := Lib.hid hx; clear hx hstep
            have HJ := Lib.hid hj; clear hj
            obtain ⟨c0, c1, c2, c3, c4, c5, _⟩ := hcells
            go_wp2_with (first | (go_at_call 70; (with_reducible refine (HJ.out _).mono ?_); rintro e w2 ⟨rfl, rfl⟩))
            exact ⟨⟨k + 1, by omega, by simpa [Hid] using hst.out.symm, hB.alloc hB.size _, by simp⟩, by simp [intOf]; omega⟩
          | true =>
            rw [hjb] at hstep hj
            have hst := Lib.hid hstep
            have HX := Lib.hid hx; clear hx hstep
            have HJ := Lib.hid hj; clear hj
            obtain ⟨c0, c1, c2, c3, c4, c5, _⟩ := hcells
            go_wp2_with (first | (go_at_call 70; (with_reducible refine (HJ.out _).mono ?_); rintro e w2 ⟨rfl, rfl⟩))
            · rename_i hge
              have hfin : Hid (v = .iface 29 (.int .i64 2)) := by
                rw [hcf.out, if_neg (by rw [hff0.out]; simp), if_pos (by rw [hst.out]; simp; left; omega)]; rfl
              clear hcf
              cases hfin.out
              go_ret
              exact ⟨rfl, hB.alloc hB.size _⟩
            · rename_i hge
              exact ⟨⟨k + 1, by omega, by rw [hst.out]; simp [Hid]; omega, hB.alloc hB.size _, by simp⟩, by simp [intOf]; omega⟩
        · obtain rfl : k = l.length := by omega
          have hno : Hid ((l.any fun x => jumpsB x.op && decide ((l.length : Int) ≤ x.a)) = false) := by
            rw [← hff.out, List.drop_eq_nil_of_le (by omega)]; rfl
          have hcells := (HC.out _ _ hlast.out).mono hB (HC.out _ _ hlast.out).lt
          obtain ⟨c0, _⟩ := hcells
          have h0' := List.length_pos_iff.1 h0
          have hne : ((l.length : Int) == 0) = false := by simpa using h0' 
          have hend : ∀ w1, _ := fun w1 => ends_any z.op w1
          clear hff
          cases he : endsB z.op with
          | false =>
            rw [he] at hend
            have hfin : Hid (v = .iface 29 (.int .i64 8)) := by
              rw [hcf.out, if_neg (by rw [hff0.out]; simp), if_neg (by rw [hno.out]; simp), he]; rfl
            have HE := Lib.hid hend; clear hend he
            go_wp2_with (first | (go_at_call 113; (with_reducible refine (HE.out _).mono ?_); rintro e w2 ⟨rfl, rfl⟩))
            all_goals first | (exfalso; omega) | skip
            clear hcf
            cases hfin.out
            go_ret
            exact ⟨rfl, hB⟩
          | true =>
            rw [he] at hend
            have hfin : Hid (v = .nilIface) := by
              rw [hcf.out, if_neg (by rw [hff0.out]; simp), if_neg (by rw [hno.out]; simp), he]; rfl
            have HE := Lib.hid hend; clear hend he
            go_wp2_with (first | (go_at_call 113; (with_reducible refine (HE.out _).mono ?_); rintro e w2 ⟨rfl, rfl⟩))
            all_goals first | (exfalso; omega) | skip
            clear hcf
            cases hfin.out
            go_ret
            exact ⟨rfl, hB⟩
set_option maxHeartbeats 1000000 in
theorem flowCheck_long (p : Option Addr) (n : Nat) (cap : Nat) (w : World) (h : 40 < n) :
    Calls Tryz.prog 200 #[.slice p n cap] w fun e w' => e = .returned (.iface 29 (.int .i64 4)) ∧ Below w.heap.size w w' := by
  go_enter Tryz.func200, Tryz.ntmps200
  go_wp2_with (first | fail)
  all_goals first | (exfalso; omega) | skip
  go_ret
  exact ⟨rfl, Below.refl _ _⟩
set_option maxHeartbeats 1000000 in
set_option maxRecDepth 100000 in
theorem flowCheck_none (p : Option Addr) (cap : Nat) (w : World) :
    Calls Tryz.prog 200 #[.slice p 0 cap] w fun e w' => e = .returned (.iface 29 (.int .i64 8)) ∧ Below w.heap.size w w' := by
  go_enter Tryz.func200, Tryz.ntmps200
  go_wp2_with (first | fail)
  go_loopw [14] (fun x wr => w = wr ∧ x = .int .i64 0) (fun x _ => 0)
  case atStart => exact ⟨rfl, rfl⟩
  case round =>
    obtain ⟨rfl, rfl⟩ := hrel
    go_wp2_with (first | fail)
    go_loopw [26] (fun x wr => w = wr ∧ x = .int .i64 0) (fun x _ => 0)
    case atStart => exact ⟨rfl, rfl⟩
    case round =>
      obtain ⟨rfl, rfl⟩ := hrel
      go_wp2_with (first | fail)
      go_ret
      exact ⟨rfl, Below.refl _ _⟩
theorem insCells_of {l : List Ins} {w : World} {v : Value} (h : SliceOf w 6 InsCells v l) : (v = .slice none 0 0 ∧ l = []) ∨ ∃ b o cap, v = .slice (some ⟨b, o, none⟩) l.length cap ∧ l.length ≤ cap ∧ cap ≤ maxLen ∧ (∀ i x, l[i]? = some x → Cells w b (o + i * 6) (insVals x)) ∨ ∃ a cap, v = .slice (some a) 0 cap ∧ l = [] := by
  rcases h with h | ⟨a, cap, h1, h2, h3, h4⟩
  · exact Or.inl h
  · cases l with
    | nil => exact Or.inr ⟨a.block, a.off, cap, Or.inr ⟨a, cap, h1, rfl⟩⟩
    | cons y r =>
      refine Or.inr ⟨a.block, a.off, cap, Or.inl ⟨?_, h2, h3, ?_⟩⟩
      · obtain ⟨_, _, _, hp, _⟩ := h4 0 y rfl
        rw [h1]; congr 2
      · intro i x hx
        obtain ⟨vs, r1, _, _, r4⟩ := h4 i x hx
        unfold InsCells at r1; subst r1; exact r4
theorem codeFault_nil : errV (codeFault []) = .iface 29 (.int .i64 8) := by simp [codeFault, firstFault, errV]
theorem errV_4 : errV 4 = .iface 29 (.int .i64 4) := by simp [errV]
theorem flowCheck_any (l : List Ins) (cv : Value) (w : World) (hl : Laid w) (hs : ∀ x ∈ l, InsOk x) (h : SliceOf w 6 InsCells cv l) :
    Calls Tryz.prog 200 #[cv] w fun e w' => e = .returned (errV (codeFault l)) ∧ Below w.heap.size w w' := by
  rcases insCells_of h with ⟨rfl, rfl⟩ | ⟨b, o, cap, ⟨rfl, h2, h3, h4⟩ | ⟨a, cap, rfl, rfl⟩⟩
  · rw [codeFault_nil]; exact flowCheck_none _ _ _
  · by_cases h0 : l.length = 0
    · obtain rfl := List.length_eq_zero_iff.1 h0
      rw [codeFault_nil]; exact flowCheck_none _ _ _
    by_cases h40 : 40 < l.length
    · have : codeFault l = 4 := by unfold codeFault; rw [if_pos h40]
      rw [this, errV_4]; exact flowCheck_long _ _ _ _ h40
    · exact flowCheck_some l b o cap w hl hs (by omega) (by omega) h2 h3 h4 _ rfl
  · rw [codeFault_nil]; exact flowCheck_none _ _ _
end Go.Proofs.YtlmfmioljeppfaaGreatDoor
