/-
  WALK over ins.Check. Conditions: as in XIns, and the table of forms lies as the text lays it.
-/
import Derived.Test.YtbakcdgjibmceaaGreatDoorInsForm
import Derived.Deep.DeepCutAuto
import Derived.Deep.RegionHeld3
namespace Go.Proofs.YtbakcdgjibmceaaGreatDoor
open Go.RowKit Go.Shelf Go.Lib
theorem need_tab : ∀ op : Nat, op < 29 → 1 ≤ op → needB' (needsOf op) 65 = needA op ∧ needB' (needsOf op) 66 = needB op ∧ needB' (needsOf op) 84 = needT op ∧ needB' (needsOf op) 67 = needC op ∧ needB' (needsOf op) 78 = needN op := by
  decide
set_option maxHeartbeats 400000 in
theorem insCheck_bad (x : Ins) (w : World) (h : x.op < 1 ∨ 28 < x.op) : Calls Tryz.prog 68 #[insV x] w fun e w' => e = .returned (errV (insFault x)) ∧ Below w.heap.size w w' := by
  obtain ⟨op, a, b, type, cls, name⟩ := x
  replace h : op < 1 ∨ 28 < op := h
  have hf : errV (insFault ⟨op, a, b, type, cls, name⟩) = errV 1 := by unfold insFault; rw [if_pos h]
  rw [hf]; clear hf
  have hO : Hid (∀ w, _) := fun w => of_bad op w h
  clear h
  unfold insV
  go_enter Tryz.func68, Tryz.ntmps68
  go_wp2_with (go_at_call 100; (with_reducible refine (hO.out _).mono ?_); rintro e w2 ⟨rfl, hB⟩)
  go_ret
  exact ⟨rfl, (below2 ((Below.refl _ _).alloc (Nat.le_refl _) _) hB).alloc (Nat.le_trans (by simp) hB.size) _⟩
/-- what name.Check answers, by the word whether it is a name -/
theorem nameCheck_yes {s : ByteArray} (hs : s.size ≤ 1048576) {v : Value} (hv : errV (nameFault s) = v) (w : World) : Calls Tryz.prog 105 #[.string s] w fun e w' => e = .returned v ∧ Below w.heap.size w w' := by
  subst hv; exact nameCheck_any s w (maxLen_of (Nat.le_trans hs (by decide)))
set_option maxHeartbeats 4000000 in
set_option maxRecDepth 100000 in
theorem insCheck_good (op : Nat) (a b : Int) (type cls name : ByteArray) (w : World) (h1 : 1 ≤ op) (h2 : op ≤ 28) (hl : Laid w) (hs : InsOk ⟨op, a, b, type, cls, name⟩) : Calls Tryz.prog 68 #[insV ⟨op, a, b, type, cls, name⟩] w fun e w' => e = .returned (errV (insFault ⟨op, a, b, type, cls, name⟩)) ∧ Below w.heap.size w w' := by
  have hO : Hid (∀ w, Laid w → _) := fun w hl => of_good op w h1 h2 hl
  have hR : Hid (∀ w, _) := fun w => ranged_any ⟨op, a, b, type, cls, name⟩ w
  have hY : Hid (∀ w, _) := fun w => typed_any ⟨op, a, b, type, cls, name⟩ w hs.type
  obtain ⟨e1, e2, e3, e4, e5⟩ := need_tab op (by omega) h1
  have hN : ∀ (k : Bool) (c : UInt8), needB' (needsOf op) c = k → Hid (∀ B w, w.cell? ⟨B, 0, none⟩ = some (.string (wordOf op)) → w.cell? ⟨B, 1, none⟩ = some (.string (needsOf op)) → Calls Tryz.prog 101 #[.string ⟨#[c]⟩, .pointer (some ⟨B, 0, none⟩)] w fun e w' => e = .returned (.bool k) ∧ w = w') :=
    fun k c hk B w d0 d1 => hk ▸ needs_any _ _ c B w d0 d1
  have hA := hN _ _ e1
  have hBn := hN _ _ e2
  have hT := hN _ _ e3
  have hC := hN _ _ e4
  have hM := hN _ _ e5
  clear hN e1 e2 e3 e4 e5
  have hf : Hid (insFault ⟨op, a, b, type, cls, name⟩ = if ((!needA op && a != 0) || (!needB op && b != 0) || (!needT op && type.size != 0) || (!needC op && cls.size != 0) || (!needN op && name.size != 0)) = true then 1 else if (!rangedB ⟨op, a, b, type, cls, name⟩) = true then 2 else if (!typedB ⟨op, a, b, type, cls, name⟩ || (needC op && !nameB (lst cls)) || (needN op && !nameB (lst name))) = true then 1 else 0) := by
    unfold Hid insFault; rw [if_neg (by simp; omega)]
  have hvc : ∃ v k, errV (nameFault cls) = v ∧ nameB (lst cls) = k ∧ ((v = .nilIface ∧ k = true) ∨ (v = .iface 35 (.int .i64 1) ∧ k = false)) := by
    refine ⟨_, _, rfl, rfl, ?_⟩
    unfold nameFault lst
    cases nameB cls.data.toList <;> simp [errV]
  have hvn : ∃ v k, errV (nameFault name) = v ∧ nameB (lst name) = k ∧ ((v = .nilIface ∧ k = true) ∨ (v = .iface 35 (.int .i64 1) ∧ k = false)) := by
    refine ⟨_, _, rfl, rfl, ?_⟩
    unfold nameFault lst
    cases nameB name.data.toList <;> simp [errV]
  obtain ⟨vc, kc, hvc, hkc, hvc2⟩ := hvc
  obtain ⟨vn, kn, hvn, hkn, hvn2⟩ := hvn
  have hNC : Hid (∀ w, _) := fun w => nameCheck_yes (s := cls) hs.cls hvc w
  have hNN : Hid (∀ w, _) := fun w => nameCheck_yes (s := name) hs.name hvn w
  rw [hkc, hkn] at hf
  clear hvc hkc hvn hkn hs
  have z1 : (type.size != 0) = !type.toList.isEmpty := by rw [empty_iff]; rfl
  have z2 : (cls.size != 0) = !cls.toList.isEmpty := by rw [empty_iff]; rfl
  have z3 : (name.size != 0) = !name.toList.isEmpty := by rw [empty_iff]; rfl
  rw [z1, z2, z3] at hf
  clear z1 z2 z3
  generalize insFault ⟨op, a, b, type, cls, name⟩ = res at *
  generalize wordOf op = wd at *
  generalize needsOf op = nd at *
  generalize rangedB ⟨op, a, b, type, cls, name⟩ = kR at *
  generalize typedB ⟨op, a, b, type, cls, name⟩ = kY at *
  generalize needA op = kA at *
  generalize needB op = kB at *
  generalize needT op = kT at *
  generalize needC op = kC at *
  generalize needN op = kN at *
  generalize (op : Int) = z at *
  obtain ⟨za, hza⟩ : ∃ k, (a == 0) = k := ⟨_, rfl⟩
  obtain ⟨zb, hzb⟩ : ∃ k, (b == 0) = k := ⟨_, rfl⟩
  have hza2 := Lib.hid (show za = decide (a = 0) by rw [← hza]; rfl)
  have hzb2 := Lib.hid (show zb = decide (b = 0) by rw [← hzb]; rfl)
  obtain ⟨zt, hzt⟩ : ∃ k, type.toList.isEmpty = k := ⟨_, rfl⟩
  obtain ⟨zc, hzc⟩ : ∃ k, cls.toList.isEmpty = k := ⟨_, rfl⟩
  obtain ⟨zn, hzn⟩ : ∃ k, name.toList.isEmpty = k := ⟨_, rfl⟩
  rw [hzt, hzc, hzn, show (a != 0) = !za by rw [← hza]; rfl, show (b != 0) = !zb by rw [← hzb]; rfl] at hf
  have hmf : ∀ fn first cap w, (Instr.makeFunc fn first cap).run Tryz.prog w = .ok (.func fn first cap) w := fun _ _ _ _ => rfl
  unfold insV at *
  go_enter Tryz.func68, Tryz.ntmps68
  go_upto_region 5 with (go_at_call 100; (with_reducible refine (hO.out _ ?_).mono ?_); (exact hl.mono ((Below.refl _ _).alloc (Nat.le_refl _) _) hl.1); rintro e w2 ⟨rfl, hB⟩; obtain ⟨hcl, hfr⟩ := bcell hB)
  have hsz := hB.size
  simp only [World.size_alloc] at hsz
  have hall := (Below.refl w2.heap.size w2).alloc (Nat.le_refl _) (Obj.cells #[.string wd, .string nd] 141)
  have hq : ∀ o, (w2.alloc (Obj.cells #[.string wd, .string nd] 141)).cell? ⟨w.heap.size, o, none⟩ = (w.alloc (Obj.cells #[.int .i64 z, .int .i64 a, .int .i64 b, .string type, .string cls, .string name] 62)).cell? ⟨w.heap.size, o, none⟩ := fun o =>
    (hall.cell (p := ⟨_, _, none⟩) (show w.heap.size < w2.heap.size by omega)).trans (hcl _ _ (by simp))
  have q0 := hq 0
  have q1 := hq 1
  have q2 := hq 2
  have q3 := hq 3
  have q4 := hq 4
  have q5 := hq 5
  simp at q0 q1 q2 q3 q4 q5
  have d0 : (w2.alloc (Obj.cells #[.string wd, .string nd] 141)).cell? ⟨w2.heap.size, 0, none⟩ = some (.string wd) := by simp
  have d1 : (w2.alloc (Obj.cells #[.string wd, .string nd] 141)).cell? ⟨w2.heap.size, 1, none⟩ = some (.string nd) := by simp
  have hB3 : Below w.heap.size w (w2.alloc (Obj.cells #[.string wd, .string nd] 141)) := (below2 ((Below.refl _ _).alloc (Nat.le_refl _) _) hB).alloc (by omega) _
  have hs3 : w2.heap.size < (w2.alloc (Obj.cells #[.string wd, .string nd] 141)).heap.size := by simp
  clear hq hall hcl hfr hB hO
  generalize w2.alloc (Obj.cells #[.string wd, .string nd] 141) = w3 at *
  generalize w2.heap.size = b3 at *
  generalize hb1 : w.heap.size = b1 at *
  replace hb1 := Lib.hid hb1
  generalize Value.agg #[.int .i64 z, .int .i64 a, .int .i64 b, .string type, .string cls, .string name] = ag
  go_cut [63] (fun s63 wx => s63 = .bool ((!kA && !za) || (!kB && !zb) || (!kT && !zt) || (!kC && !zc) || (!kN && !zn)) ∧ wx = w3)
  case first =>
    clear hR hY hNC hNN hf hB3
    go_wp2_with (first
      | (go_at_call 101; (with_reducible refine (hA.out _ _ d0 d1).mono ?_); rintro e w4 ⟨rfl, rfl⟩)
      | (go_at_call 101; (with_reducible refine (hBn.out _ _ d0 d1).mono ?_); rintro e w4 ⟨rfl, rfl⟩)
      | (go_at_call 101; (with_reducible refine (hT.out _ _ d0 d1).mono ?_); rintro e w4 ⟨rfl, rfl⟩)
      | (go_at_call 101; (with_reducible refine (hC.out _ _ d0 d1).mono ?_); rintro e w4 ⟨rfl, rfl⟩)
      | (go_at_call 101; (with_reducible refine (hM.out _ _ d0 d1).mono ?_); rintro e w4 ⟨rfl, rfl⟩))
    all_goals
      go_meet
      exact ⟨by first | (simp [*]; done) | (simp [*, hza2.out, hzb2.out]; done), rfl⟩
  case rest =>
    obtain ⟨rfl, rfl⟩ := hcut
    generalize ((!kA && !za) || (!kB && !zb) || (!kT && !zt) || (!kC && !zc) || (!kN && !zn)) = bad at *
    clear hA hBn hT hza hzb hzt hzc hzn
    have hbs : b1 < wc.heap.size := by omega
    rcases hvc2 with ⟨rfl, rfl⟩ | ⟨rfl, rfl⟩ <;> rcases hvn2 with ⟨rfl, rfl⟩ | ⟨rfl, rfl⟩
    all_goals
      go_wp2_with (first
        | (go_at_call 103; (with_reducible refine (hR.out _).mono ?_); rintro e w5 ⟨rfl, hB5⟩; obtain ⟨hcl5, _⟩ := bcell hB5; (have p0 := (hcl5 b1 0 hbs).trans q0); (have p1 := (hcl5 b1 1 hbs).trans q1); (have p2 := (hcl5 b1 2 hbs).trans q2); (have p3 := (hcl5 b1 3 hbs).trans q3); (have p4 := (hcl5 b1 4 hbs).trans q4); (have p5 := (hcl5 b1 5 hbs).trans q5); (have d2 := (hcl5 b3 0 hs3).trans d0); (have d3 := (hcl5 b3 1 hs3).trans d1); (have hbs5 := Nat.lt_of_lt_of_le hbs hB5.size); (have hs5 := Nat.lt_of_lt_of_le hs3 hB5.size); (have hB35 := hB3.trans (hB5.mono (Nat.le_of_lt hbs))); clear hcl5)
        | (go_at_call 104; (with_reducible refine (hY.out _).mono ?_); rintro e w6 ⟨rfl, hB6⟩; obtain ⟨hcl6, _⟩ := bcell hB6; (have o4 := (hcl6 b1 4 hbs5).trans p4); (have o5 := (hcl6 b1 5 hbs5).trans p5); (have d4 := (hcl6 b3 0 hs5).trans d2); (have d5 := (hcl6 b3 1 hs5).trans d3); (have hbs6 := Nat.lt_of_lt_of_le hbs5 hB6.size); (have hs6 := Nat.lt_of_lt_of_le hs5 hB6.size); (have hB36 := hB35.trans (hB6.mono (Nat.le_of_lt hbs5))); clear hcl6)
        | (go_at_call 101; (with_reducible refine (hC.out _ _ ?_ ?_).mono ?_); (assumption); (assumption); rintro e w9 ⟨rfl, rfl⟩)
        | (go_at_call 101; (with_reducible refine (hM.out _ _ ?_ ?_).mono ?_); (assumption); (assumption); rintro e w9 ⟨rfl, rfl⟩)
        | (go_at_call 105; (with_reducible refine (hNC.out _).mono ?_); rintro e w7 ⟨rfl, hB7⟩; obtain ⟨hcl7, _⟩ := bcell hB7; (have n5 := (hcl7 b1 5 hbs6).trans o5); (have d6 := (hcl7 b3 0 hs6).trans d4); (have d7 := (hcl7 b3 1 hs6).trans d5); (have hB37 := hB36.trans (hB7.mono (Nat.le_of_lt hbs6))); (have hbs7 := Nat.lt_of_lt_of_le hbs6 hB7.size); clear hcl7)
        | (go_at_call 105; (with_reducible refine (hNN.out _).mono ?_); rintro e w8 ⟨rfl, hB8⟩; (first | (have hB38 := hB37.trans (hB8.mono (Nat.le_of_lt hbs7))) | (have hB38 := hB36.trans (hB8.mono (Nat.le_of_lt hbs6))))))
      all_goals
        go_ret
        refine ⟨?_, ?_⟩
        · simp [*, hf.out, errV]
        · rw [hb1.out]
          first | exact hB38 | exact hB37 | exact hB36 | exact hB35 | exact hB3
end Go.Proofs.YtbakcdgjibmceaaGreatDoor
