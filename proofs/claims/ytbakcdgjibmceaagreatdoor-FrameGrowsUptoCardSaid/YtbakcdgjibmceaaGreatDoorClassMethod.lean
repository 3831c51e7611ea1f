/-
  WALKS over package class: method and its closures; slices.Contains. Conditions: as in XClassBody.
-/
import Derived.Test.YtbakcdgjibmceaaGreatDoorIdx
import Derived.Deep.DeepCutAuto
import Derived.Deep.RegionHeld3
import Derived.Deep.RegionWith
namespace Go.Proofs.YtbakcdgjibmceaaGreatDoor
open Go.RowKit Go.Shelf Go.Lib
theorem strEq (a b : ByteArray) : (a.toList == b.toList) = decide (a = b) := by
  rw [Bool.eq_iff_iff]; simp only [beq_iff_eq, decide_eq_true_eq, ByteArray.toList_eq]
  constructor
  · intro h; exact ByteArray.ext (Array.toList_inj.1 h)
  · rintro rfl; rfl
/-- slices.Contains at strings -/
theorem contains_any (l : List ByteArray) (v : Value) (x : ByteArray) (w : World) (h : StrsAt w v l) : Calls Tryz.prog 118 #[v, .string x] w fun e w' => e = .returned (.bool (memB l x)) ∧ w = w' := by
  obtain ⟨p, cap, rfl, h1, h2, hcc⟩ := h.open
  cases l with
  | nil => exact (Tryz.slices_Contains_string_empty p cap x w).mono fun e w' ⟨h1, h2⟩ => ⟨h1, h2.symm⟩
  | cons y r =>
    obtain ⟨b, o, _, rfl, _⟩ := hcc 0 y rfl
    refine (Tryz.slices_Contains_string b o _ cap (y :: r) x w (Nat.le_refl _) (Nat.le_trans h1 h2) ?_).mono ?_
    · intro j hj
      obtain ⟨b', o', vs, hp, hR, _, hcells⟩ := hcc j (y :: r)[j] (by simp)
      injection hp with hp; injection hp with hp1 hp2; subst hp1 hp2
      unfold StrCells at hR; subst hR
      rw [List.getD_eq_getElem?_getD, List.getElem?_eq_getElem hj]
      have := hcells.1; rwa [Nat.mul_one] at this
    · rintro e w' ⟨rfl, rfl⟩
      refine ⟨?_, rfl⟩
      congr 2
      rw [List.take_length, Bool.eq_iff_iff, memB_iff, Lib.containsS_iff]
/-- the first elements of a slice -/
theorem SliceOf.take {α : Type} {w : World} {k : Nat} {R : α → List Value → Prop} {p : Option Addr} {n cap : Nat} {l : List α} (h : SliceOf w k R (.slice p n cap) l) (hn : n = l.length) {i : Nat} {b o : Nat} (hp : p = some ⟨b, o, none⟩) (hi : i ≤ l.length) :
    SliceOf w k R (.slice p i cap) (l.take i) := by
  subst hp hn
  rcases h with ⟨h, _⟩ | ⟨a, cap', h1, h2, h3, h4⟩
  · simp at h
  · injection h1 with ha hb hc
    injection ha with ha
    subst ha hc
    refine Or.inr ⟨_, cap, by rw [List.length_take, Nat.min_eq_left hi], by rw [List.length_take]; omega, h3, fun j x hj => h4 j x ?_⟩
    rw [List.getElem?_take] at hj
    split at hj
    · exact hj
    · simp at hj
set_option maxHeartbeats 1000000 in
theorem method1_any (x : Method) (cv hv : Value) (mn mt : ByteArray) (B : Nat) (w : World) (hB : B < w.heap.size) (h0 : w.cell? ⟨B, 0, none⟩ = some (.string mn)) (h1 : w.cell? ⟨B, 1, none⟩ = some (.string mt)) :
    Calls Tryz.prog 166 #[methodV x cv hv, .pointer (some ⟨B, 0, none⟩)] w fun e w' => e = .returned (.bool (decide (x.name = mn) && decide (x.type = mt))) ∧ Below w.heap.size w w' := by
  obtain ⟨name, type, static, abs, priv, locals, code, handlers⟩ := x
  unfold methodV
  dsimp only
  rw [← strEq, ← strEq]
  cases h0 : name.toList == mn.toList <;> cases h1 : type.toList == mt.toList
  all_goals
    go_enter Tryz.func166, Tryz.ntmps166
    go_wp2
    go_ret
    exact ⟨rfl, (Below.refl _ _).alloc (Nat.le_refl _) _⟩
set_option maxHeartbeats 1000000 in
theorem check1_any (x : Field) (fn : ByteArray) (B : Nat) (w : World) (hB : B < w.heap.size) (h0 : w.cell? ⟨B, 0, none⟩ = some (.string fn)) :
    Calls Tryz.prog 128 #[.agg #[.string x.name, .string x.type], .pointer (some ⟨B, 0, none⟩)] w fun e w' => e = .returned (.bool (decide (x.name = fn))) ∧ Below w.heap.size w w' := by
  obtain ⟨name, type⟩ := x
  dsimp only
  rw [← strEq]
  cases h0 : name.toList == fn.toList
  all_goals
    go_enter Tryz.func128, Tryz.ntmps128
    go_wp2
    go_ret
    exact ⟨rfl, (Below.refl _ _).alloc (Nat.le_refl _) _⟩
set_option maxHeartbeats 2000000 in
set_option maxRecDepth 100000 in
theorem method_any (m : Method) (cv hv : Value) (ahead : List Method) (av : Value) (w : World) (hl : Laid w) (ho : MethodOk m) (hcv : SliceOf w 6 InsCells cv m.code) (hhv : SliceOf w 4 HandlerCells hv m.handlers) (hav : SliceOf w 8 (MethodCells w) av ahead) (v : Value) (hfv : errV (methodFault m ahead) = v) :
    Calls Tryz.prog 129 #[methodV m cv hv, av] w fun e w' => e = .returned v ∧ Below w.heap.size w w' := by
  have HNa : Hid (∀ wx, _) := fun wx => nameCheck_any m.name wx (Nat.le_trans ho.name (by decide))
  have HMe : Hid (∀ wx, _) := fun wx => descMethod_any m.type wx ho.type
  have HBo : Hid (∀ wx, Below w.heap.size w wx → _) := fun wx hb => body_any m cv hv wx (hl.mono hb hl.1) ho (hcv.mono hb (by decide) (fun _ _ h => h)) (hhv.mono hb (by decide) (fun _ _ h => h))
  have HAn : Hid (∀ wx, Below w.heap.size w wx → w.heap.size < wx.heap.size → wx.cell? ⟨w.heap.size, 0, none⟩ = some (.string m.name) → wx.cell? ⟨w.heap.size, 1, none⟩ = some (.string m.type) → Calls Tryz.prog 165 #[av, .func (.func 166) #[] #[.pointer (some ⟨w.heap.size, 0, none⟩)]] wx fun e w' => e = .returned (.bool (ahead.any fun x => decide (x.name = m.name) && decide (x.type = m.type))) ∧ Below wx.heap.size wx w') := by
    intro wx hb hs h0 h1
    refine anyFunc_method (MethodCells wx) (fun x => decide (x.name = m.name) && decide (x.type = m.type)) 166 _ (enters_of Tryz.func166 (by kernel_rfl) rfl) ahead av wx (hav.mono hb (by decide) (fun _ _ h => h.mono hb)) ?_
    rintro W x a0 a1 a2 a3 a4 a5 a6 a7 hx ⟨c, h, hh, _, _⟩ hW
    simp only [List.cons.injEq] at hh
    obtain ⟨rfl, rfl, rfl, rfl, rfl, rfl, rfl, rfl, _⟩ := hh
    show Calls Tryz.prog 166 #[methodV x a6 a7, .pointer (some ⟨w.heap.size, 0, none⟩)] W _
    exact method1_any x a6 a7 _ _ _ W (Nat.lt_of_lt_of_le hs hW.size) ((hW.cell (p := ⟨_, 0, none⟩) hs).trans h0) ((hW.cell (p := ⟨_, 1, none⟩) hs).trans h1)
  have hmf : ∀ fn first cap w, (Instr.makeFunc fn first cap).run Tryz.prog w = .ok (.func fn first cap) w := fun _ _ _ _ => rfl
  have HF : Hid (v = errV (if !nameB (lst m.name) then 1 else if (methodR m.type).isNone then 1 else if ahead.any fun x => decide (x.name = m.name) && decide (x.type = m.type) then 5 else if m.locals < 0 ∨ 8 < m.locals then 2 else bodyFault m)) := hfv.symm
  generalize (ahead.any fun x => decide (x.name = m.name) && decide (x.type = m.type)) = tw at *
  clear hfv hl ho hcv hhv hav
  unfold methodV at *
  generalize bodyFault m = bf at *
  obtain ⟨name, type, static, abs, priv, locals, code, handlers⟩ := m
  dsimp only at *
  cases hn : nameB name.data.toList with
  | false =>
    have hfin : Hid (v = .iface 35 (.int .i64 1)) := by rw [HF.out]; simp [lst, hn, errV, Hid]
    have hno : errV (nameFault name) = .iface 35 (.int .i64 1) := by unfold nameFault; simp [hn, errV]
    rw [hno] at HNa
    clear HF hn hno HMe HBo HAn
    go_enter Tryz.func129, Tryz.ntmps129
    go_wp2_with (go_at_call 105; (with_reducible refine (HNa.out _).mono ?_); rintro e w2 ⟨rfl, hB⟩)
    cases hfin.out
    go_ret
    exact ⟨rfl, below_call ((Below.refl _ _).alloc (Nat.le_refl _) _) (Nat.le_refl _) hB⟩
  | true =>
    have hno : errV (nameFault name) = .nilIface := by unfold nameFault; simp [hn, errV]
    rw [hno] at HNa
    rw [show nameB (lst name) = true from hn] at HF
    clear hn hno
    cases hm : methodR type with
    | none =>
      rw [hm] at HMe HF
      have hfin : Hid (v = .iface 35 (.int .i64 1)) := by rw [HF.out]; rfl
      clear HF hm HBo HAn
      go_enter Tryz.func129, Tryz.ntmps129
      go_wp2_with (first | (go_at_call 105; (with_reducible refine (HNa.out _).mono ?_); rintro e w2 ⟨rfl, hB⟩; obtain ⟨hcl, _⟩ := bcell hB; (have q1 := hcl w.heap.size 1 (by simp))) | (go_at_call 137; (with_reducible refine (HMe.out _).mono ?_); rintro e w3 ⟨hB3, rfl⟩))
      cases hfin.out
      go_ret
      exact ⟨rfl, below_call (below_call ((Below.refl _ _).alloc (Nat.le_refl _) _) (Nat.le_refl _) hB) (Nat.le_refl _) hB3⟩
    | some ag =>
      obtain ⟨args, g⟩ := ag
      rw [hm] at HMe HF
      clear hm
      go_enter Tryz.func129, Tryz.ntmps129
      go_upto_region 6 with (first | (go_at_call 105; (with_reducible refine (HNa.out _).mono ?_); rintro e w2 ⟨rfl, hB⟩; obtain ⟨hcl, _⟩ := bcell hB; (have q1 := hcl w.heap.size 1 (by simp))) | (go_at_call 137; (with_reducible refine (HMe.out _).mono ?_); rintro e w3 ⟨hB3, mv, rfl, hmv⟩))
      have BX : Boxed w w3 [.string name, .string type, .bool static, .bool abs, .bool priv, .int .i64 locals, cv, hv] := Boxed.step (Boxed.step (wx := w.alloc _) ⟨(Below.refl _ _).alloc (Nat.le_refl _) _, by simp, by simp [Cells]⟩ hB) hB3
      clear q1 hcl hB hB3 hmv
      obtain ⟨q0, q1, q2, q3, q4, q5, q6, q7⟩ := boxed8 BX
      have hsz := BX.size
      cases tw with
      | true =>
        have hfin : Hid (v = .iface 35 (.int .i64 5)) := by rw [HF.out]; rfl
        clear HF HBo
        go_wp2_with (go_at_call 165; (with_reducible refine (HAn.out _ BX.below hsz q0 q1).mono ?_); rintro e w4 ⟨rfl, hB4⟩)
        cases hfin.out
        go_ret
        exact ⟨rfl, (BX.step hB4).below⟩
      | false =>
        go_upto_region 8 with (go_at_call 165; (with_reducible refine (HAn.out _ BX.below hsz q0 q1).mono ?_); rintro e w4 ⟨rfl, hB4⟩)
        replace BX := BX.step hB4
        clear q0 q1 q2 q3 q4 q5 q6 q7 hsz hB4 HAn
        obtain ⟨q0, q1, q2, q3, q4, q5, q6, q7⟩ := boxed8 BX
        by_cases hlo : locals < 0 ∨ 8 < locals
        · have hfin : Hid (v = .iface 35 (.int .i64 2)) := by rw [HF.out]; simp only [hlo]; rfl
          clear HF HBo
          go_wp2_with (first | fail)
          all_goals first | (exfalso; omega) | skip
          all_goals
            cases hfin.out
            go_ret
            exact ⟨rfl, BX.below⟩
        · have hfin : Hid (v = errV bf) := by rw [HF.out]; simp only [hlo]; rfl
          rw [← hfin.out] at HBo
          clear HF
          go_wp2_with (go_at_call 167; (with_reducible refine (HBo.out _ BX.below).mono ?_); rintro e w5 ⟨rfl, hB5⟩)
          all_goals first | (exfalso; omega) | skip
          go_ret
          exact ⟨rfl, (BX.step hB5).below⟩
end Go.Proofs.YtbakcdgjibmceaaGreatDoor
