/-
  WALKS over package class: Args, Handlers, body. Conditions: as in XFlow, for each instruction; texts of at most 1048576 signs.
-/
import Derived.Test.YtlmfmioljeppfaaGreatDoorFlow
import Derived.Deep.DeepCutAuto
import Derived.Deep.RegionHeld3
import Derived.Deep.RegionWith
namespace Go.Proofs.YtlmfmioljeppfaaGreatDoor
open Go.RowKit Go.Shelf Go.Lib
theorem SliceOf.open {α : Type} {w : World} {k : Nat} {R : α → List Value → Prop} {v : Value} {l : List α} (h : SliceOf w k R v l) :
    ∃ p cap, v = .slice p l.length cap ∧ l.length ≤ cap ∧ cap ≤ maxLen ∧ ∀ i x, l[i]? = some x → ∃ b o vs, p = some ⟨b, o, none⟩ ∧ R x vs ∧ vs.length = k ∧ Cells w b (o + i * k) vs := by
  rcases h with ⟨rfl, rfl⟩ | ⟨a, cap, h1, h2, h3, h4⟩
  · exact ⟨none, 0, rfl, Nat.le_refl _, Nat.zero_le _, fun i x h => by simp at h⟩
  · refine ⟨some a, cap, h1, h2, h3, fun i x h => ?_⟩
    obtain ⟨vs, r1, r2, r3, r4⟩ := h4 i x h
    exact ⟨a.block, a.off, vs, by rw [← r3], r1, r2, r4⟩
structure HandlerOk (x : Handler) : Prop where
  lo : bd64 x.lo
  hi : bd64 x.hi
  dest : bd64 x.dest
  cls : x.cls.size ≤ 1048576
structure MethodOk (m : Method) : Prop where
  name : m.name.size ≤ 1048576
  type : m.type.size ≤ 1048576
  locals : bd64 m.locals
  code : ∀ x ∈ m.code, InsOk x
  handlers : ∀ x ∈ m.handlers, HandlerOk x
def methodV (m : Method) (cv hv : Value) : Value := .agg #[.string m.name, .string m.type, .bool m.static, .bool m.abs, .bool m.priv, .int .i64 m.locals, cv, hv]
theorem argCount_none {m : Method} (h : methodR m.type = none) : argCount m = 0 := by unfold argCount; rw [h]
theorem argCount_some {m : Method} {args : List ByteArray} {g : ByteArray} (h : methodR m.type = some (args, g)) : argCount m = if m.static then args.length else args.length + 1 := by unfold argCount; rw [h]
theorem methodR_len {s : ByteArray} {args : List ByteArray} {g : ByteArray} (h : methodR s = some (args, g)) : args.length ≤ 5 := by
  unfold methodR methodFin at h
  split at h
  · rename_i h1; injection h with h; rw [Prod.mk.injEq] at h; rw [← h.1]; exact h1.2.1
  · simp at h
set_option maxHeartbeats 1000000 in
theorem args_any (m : Method) (cv hv : Value) (w : World) (hs : m.type.size ≤ 1048576) :
    Calls Tryz.prog 201 #[methodV m cv hv] w fun e w' => e = .returned (.int .i64 (argCount m)) ∧ Below w.heap.size w w' := by
  have hM : ∀ w, _ := fun w => descMethod_any m.type w hs
  obtain ⟨name, type, static, abs, priv, locals, code, handlers⟩ := m
  unfold methodV
  cases hm : methodR type with
  | none =>
    rw [argCount_none hm]
    replace hM : Hid (∀ w, Calls Tryz.prog 132 #[.string type] w (MethodPost w none)) := fun w => hm ▸ hM w
    clear hm
    go_enter Tryz.func201, Tryz.ntmps201
    go_wp2_with (first | (go_at_call 132; (with_reducible refine (hM.out _).mono ?_); rintro e w2 ⟨hB, rfl⟩))
    go_ret
    exact ⟨rfl, below_call ((Below.refl _ _).alloc (Nat.le_refl _) _) (Nat.le_refl _) hB⟩
  | some ag =>
    obtain ⟨args, g⟩ := ag
    have h5 := methodR_len hm
    rw [argCount_some hm]
    replace hM : Hid (∀ w, Calls Tryz.prog 132 #[.string type] w (MethodPost w (some (args, g)))) := fun w => hm ▸ hM w
    clear hm
    cases static
    all_goals
      go_enter Tryz.func201, Tryz.ntmps201
      go_wp2_with (first | (go_at_call 132; (with_reducible refine (hM.out _).mono ?_); rintro e w2 ⟨hB, v, rfl, hvv⟩; obtain ⟨p, cap, rfl, hc1, hc2, _⟩ := hvv.open; obtain ⟨hcl, _⟩ := bcell hB; (have q2 := hcl w.heap.size 2 (by simp))))
      go_ret
      exact ⟨rfl, below_call ((Below.refl _ _).alloc (Nat.le_refl _) _) (Nat.le_refl _) hB⟩
set_option maxHeartbeats 2000000 in
set_option maxRecDepth 100000 in
theorem handlers_any (m : Method) (cv hv : Value) (w : World) (hs : ∀ x ∈ m.handlers, HandlerOk x) (hcv : SliceOf w 6 InsCells cv m.code) (hhv : SliceOf w 4 HandlerCells hv m.handlers) (v : Value) (hfv : errV (handlersFault m.handlers m.code.length) = v) :
    Calls Tryz.prog 202 #[methodV m cv hv] w fun e w' => e = .returned v ∧ Below w.heap.size w w' := by
  obtain ⟨name, type, static, abs, priv, locals, code, handlers⟩ := m
  unfold methodV
  obtain ⟨p, cap, rfl, hc1, hc2, hcc⟩ := hcv.open
  obtain ⟨ph, cah, rfl, hd1, hd2, hdd⟩ := hhv.open
  clear hcc hcv hhv
  have HD := Lib.hid hdd; clear hdd
  have HS := Lib.hid hs; clear hs
  dsimp only at hfv HD HS hc1 hd1 ⊢
  have hlen : handlers.length ≤ 9223372036854775807 := Nat.le_trans hd1 hd2
  have HF : Hid (errV (handlersFault handlers code.length) = v) := hfv; clear hfv
  go_enter Tryz.func202, Tryz.ntmps202
  go_wp2_with (first | fail)
  go_loopw [8] (fun x wr => ∃ k, k ≤ handlers.length ∧ Hid (firstFault (handlerFault code.length) (handlers.drop k) = firstFault (handlerFault code.length) handlers) ∧ (Below w.heap.size w wr ∧ w.heap.size < wr.heap.size ∧ wr.cell? ⟨w.heap.size, 6, none⟩ = some (.slice p code.length cap) ∧ wr.cell? ⟨w.heap.size, 7, none⟩ = some (.slice ph handlers.length cah)) ∧ x = .int .i64 k) (fun x _ => handlers.length - (intOf x).toNat)
  case atStart => exact ⟨0, by omega, rfl, ⟨(Below.refl _ _).alloc (Nat.le_refl _) _, by simp, by simp, by simp⟩, rfl⟩
  case round =>
    obtain ⟨k, hk, hff, ⟨hB, hsz, g6, g7⟩, rfl⟩ := hrel
    by_cases hkl : k < handlers.length
    · obtain ⟨x, hx⟩ : ∃ x, handlers[k]? = some x := ⟨handlers[k], by simp [hkl]⟩
      obtain ⟨b, o, vs, rfl, rfl, _, hcells⟩ := HD.out k x hx
      have hcells := hcells.mono hB hcells.lt
      have hxo := HS.out x (List.mem_of_getElem? hx)
      have hstep := firstFault_drop (handlerFault code.length) handlers k x hx
      rw [hff.out] at hstep
      have hN := fun w => nameCheck_any x.cls w (Nat.le_trans hxo.cls (by decide))
      have HX := Lib.hid hx; clear hx hxo
      obtain ⟨c0, c1, c2, c3, _⟩ := hcells
      by_cases hbad : x.lo < 0 ∨ x.hi ≤ x.lo ∨ (code.length : Int) < x.hi ∨ x.dest < 0 ∨ (code.length : Int) ≤ x.dest
      · have h2 : handlerFault code.length x = 2 := by unfold handlerFault; rw [if_pos hbad]
        rw [h2, if_neg (by decide)] at hstep
        have hfin : Hid (v = .iface 29 (.int .i64 2)) := by
          unfold Hid; rw [← HF.out]; unfold handlersFault; rw [hstep, if_pos (by decide)]; rfl
        clear h2 hstep hN HF
        have HB := Lib.hid hbad; clear hbad
        go_wp2_with (first | fail)
        all_goals first | (exfalso; have := HB.out; omega) | skip
        all_goals
          cases hfin.out
          go_ret
          exact ⟨rfl, hB.alloc hB.size _⟩
      · have h0 : handlerFault code.length x = if nameB (lst x.cls) then 0 else 1 := by unfold handlerFault; rw [if_neg hbad]
        simp only [not_or, Int.not_lt, Int.not_le] at hbad
        obtain ⟨b1, b2, b3, b4, b5⟩ := hbad
        cases hnb : nameB x.cls.data.toList with
        | true =>
          have hno : nameFault x.cls = 0 := by unfold nameFault; simp [hnb]
          have h0' : handlerFault code.length x = 0 := by rw [h0]; simp [lst, hnb]
          rw [h0', if_pos rfl] at hstep
          rw [hno] at hN
          have hst := Lib.hid hstep.symm
          have HN : Hid (∀ w, Calls Tryz.prog 97 #[.string x.cls] w fun e w' => e = .returned .nilIface ∧ Below w.heap.size w w') := hN
          clear hN h0 h0' hno hnb hstep HF
          go_wp2_with (first | (go_at_call 97; (with_reducible refine (HN.out _).mono ?_); rintro e w2 ⟨rfl, hB2⟩))
          have hBr := below_call ((Below.refl wr.heap.size wr).alloc (Nat.le_refl _) (.cells #[.int .i64 x.lo, .int .i64 x.hi, .int .i64 x.dest, .string x.cls] 126)) (Nat.le_refl _) hB2
          exact ⟨⟨k + 1, by omega, hst.out, ⟨below_call hB (Nat.le_refl _) hBr, Nat.lt_of_lt_of_le hsz hBr.size, (hBr.cell (p := ⟨_, 6, none⟩) hsz).trans g6, (hBr.cell (p := ⟨_, 7, none⟩) hsz).trans g7⟩, by simp⟩, by simp [intOf]; omega⟩
        | false =>
          have hno : nameFault x.cls = 1 := by unfold nameFault; simp [hnb]
          have h0' : handlerFault code.length x = 1 := by rw [h0]; simp [lst, hnb]
          rw [h0', if_neg (by decide)] at hstep
          rw [hno] at hN
          have hfin : Hid (v = .iface 29 (.int .i64 1)) := by
            unfold Hid; rw [← HF.out]; unfold handlersFault; rw [hstep, if_pos (by decide)]; rfl
          have HN : Hid (∀ w, Calls Tryz.prog 97 #[.string x.cls] w fun e w' => e = .returned (.iface 29 (.int .i64 1)) ∧ Below w.heap.size w w') := hN
          clear hN h0 h0' hno hnb hstep HF
          go_wp2_with (first | (go_at_call 97; (with_reducible refine (HN.out _).mono ?_); rintro e w2 ⟨rfl, hB2⟩))
          cases hfin.out
          go_ret
          exact ⟨rfl, below_call (hB.alloc hB.size _) (Nat.le_refl _) hB2⟩
    · have hff0 : Hid (firstFault (handlerFault code.length) handlers = 0) := by
        rw [← hff.out, List.drop_eq_nil_of_le (by omega)]; rfl
      clear hff
      obtain rfl : k = handlers.length := by omega
      by_cases h8 : 8 < handlers.length
      · have hfin : Hid (v = .iface 29 (.int .i64 4)) := by
          unfold Hid; rw [← HF.out]; unfold handlersFault; rw [hff0.out, if_neg (by decide), if_pos h8]; rfl
        clear HF hff0
        go_wp2_with (first | fail)
        all_goals first | (exfalso; omega) | skip
        cases hfin.out
        go_ret
        exact ⟨rfl, hB⟩
      · have hfin : Hid (v = .nilIface) := by
          unfold Hid; rw [← HF.out]; unfold handlersFault; rw [hff0.out, if_neg (by decide), if_neg h8]; rfl
        clear HF hff0
        go_wp2_with (first | fail)
        all_goals first | (exfalso; omega) | skip
        cases hfin.out
        go_ret
        exact ⟨rfl, hB⟩
set_option maxHeartbeats 2000000 in
set_option maxRecDepth 100000 in
theorem body_abs (m : Method) (cv hv : Value) (w : World) (hcv : SliceOf w 6 InsCells cv m.code) (hhv : SliceOf w 4 HandlerCells hv m.handlers) (ha : m.abs = true) (v : Value) (hfv : errV (bodyFault m) = v) :
    Calls Tryz.prog 171 #[methodV m cv hv] w fun e w' => e = .returned v ∧ Below w.heap.size w w' := by
  obtain ⟨name, type, static, abs, priv, locals, code, handlers⟩ := m
  unfold methodV
  obtain ⟨p, cap, rfl, hc1, hc2, _⟩ := hcv.open
  obtain ⟨ph, cah, rfl, hd1, hd2, _⟩ := hhv.open
  clear hcv hhv
  dsimp only at ha hfv hc1 hd1 ⊢
  subst ha
  have HF : Hid (errV (if (static || priv || !code.isEmpty || !handlers.isEmpty) = true then 8 else 0) = v) := by
    unfold Hid; rw [← hfv]; unfold bodyFault; rfl
  clear hfv
  go_enter Tryz.func171, Tryz.ntmps171
  cases static with
  | true =>
    have hfin : Hid (v = .iface 29 (.int .i64 8)) := by rw [← HF.out]; rfl
    go_wp2_with (first | fail)
    cases hfin.out
    go_ret
    exact ⟨rfl, (Below.refl _ _).alloc (Nat.le_refl _) _⟩
  | false =>
    cases priv with
    | true =>
      have hfin : Hid (v = .iface 29 (.int .i64 8)) := by rw [← HF.out]; rfl
      go_wp2_with (first | fail)
      cases hfin.out
      go_ret
      exact ⟨rfl, (Below.refl _ _).alloc (Nat.le_refl _) _⟩
    | false =>
      cases code with
      | cons y r =>
        have hfin : Hid (v = .iface 29 (.int .i64 8)) := by rw [← HF.out]; rfl
        have hl : 0 < (y :: r).length := by simp
        generalize (y :: r).length = n at hl hc1
        go_wp2_with (first | fail)
        all_goals first | (exfalso; omega) | skip
        cases hfin.out
        go_ret
        exact ⟨rfl, (Below.refl _ _).alloc (Nat.le_refl _) _⟩
      | nil =>
        cases handlers with
        | cons y r =>
          have hfin : Hid (v = .iface 29 (.int .i64 8)) := by rw [← HF.out]; rfl
          have hl : 0 < (y :: r).length := by simp
          generalize (y :: r).length = n at hl hd1
          go_wp2_with (first | fail)
          all_goals first | (exfalso; omega) | skip
          cases hfin.out
          go_ret
          exact ⟨rfl, (Below.refl _ _).alloc (Nat.le_refl _) _⟩
        | nil =>
          have hfin : Hid (v = .nilIface) := by rw [← HF.out]; rfl
          go_wp2_with (first | fail)
          cases hfin.out
          go_ret
          exact ⟨rfl, (Below.refl _ _).alloc (Nat.le_refl _) _⟩
structure Boxed (w wx : World) (vals : List Value) : Prop where
  below : Below w.heap.size w wx
  size : w.heap.size < wx.heap.size
  cells : Cells wx w.heap.size 0 vals
theorem Boxed.step {w wx wy : World} {vals : List Value} (h : Boxed w wx vals) (hb : Below wx.heap.size wx wy) : Boxed w wy vals :=
  ⟨below_call h.below (Nat.le_refl _) hb, Nat.lt_of_lt_of_le h.size hb.size, h.cells.mono hb h.size⟩
theorem Boxed.drew {w wx : World} {vals : List Value} (h : Boxed w wx vals) : Boxed w wx.drew vals := h.step ((Below.refl _ _).drew)
theorem Boxed.alloc {w wx : World} {vals : List Value} (h : Boxed w wx vals) (o : Obj) : Boxed w (wx.alloc o) vals := h.step ((Below.refl _ _).alloc (Nat.le_refl _) o)
theorem boxed8 {w wx : World} {a0 a1 a2 a3 a4 a5 a6 a7 : Value} (h : Boxed w wx [a0, a1, a2, a3, a4, a5, a6, a7]) :
    wx.cell? ⟨w.heap.size, 0, none⟩ = some a0 ∧ wx.cell? ⟨w.heap.size, 1, none⟩ = some a1 ∧ wx.cell? ⟨w.heap.size, 2, none⟩ = some a2 ∧ wx.cell? ⟨w.heap.size, 3, none⟩ = some a3 ∧
    wx.cell? ⟨w.heap.size, 4, none⟩ = some a4 ∧ wx.cell? ⟨w.heap.size, 5, none⟩ = some a5 ∧ wx.cell? ⟨w.heap.size, 6, none⟩ = some a6 ∧ wx.cell? ⟨w.heap.size, 7, none⟩ = some a7 := by
  obtain ⟨c0, c1, c2, c3, c4, c5, c6, c7, _⟩ := h.cells
  exact ⟨c0, c1, c2, c3, c4, c5, c6, c7⟩
set_option maxHeartbeats 2000000 in
set_option maxRecDepth 100000 in
theorem body_code (m : Method) (cv hv : Value) (w : World) (hl : Laid w) (ho : MethodOk m) (hcv : SliceOf w 6 InsCells cv m.code) (hhv : SliceOf w 4 HandlerCells hv m.handlers) (ha : m.abs = false) (v : Value) (hfv : errV (bodyFault m) = v) :
    Calls Tryz.prog 171 #[methodV m cv hv] w fun e w' => e = .returned v ∧ Below w.heap.size w w' := by
  have HFl : Hid (∀ wx, Below w.heap.size w wx → _) := fun wx hb => flowCheck_any m.code cv wx (hl.mono hb hl.1) ho.code (hcv.mono hb (by decide) (fun _ _ h => h))
  have HHa : Hid (∀ wx, Below w.heap.size w wx → _) := fun wx hb => handlers_any m cv hv wx ho.handlers (hcv.mono hb (by decide) (fun _ _ h => h)) (hhv.mono hb (by decide) (fun _ _ h => h)) _ rfl
  have HAr : Hid (∀ wx, _) := fun wx => args_any m cv hv wx ho.type
  obtain ⟨p, cap, rfl, hc1, hc2, hcc⟩ := hcv.open
  have HC := Lib.hid hcc; clear hcc
  have hbf : Hid (v = errV (if codeFault m.code ≠ 0 then codeFault m.code
      else if m.locals < argCount m then 2 else if m.code.any fun x => (x.op == 4 || x.op == 5) && decide (m.locals ≤ x.a) then 2 else handlersFault m.handlers m.code.length)) := by
    unfold Hid; rw [← hfv]; unfold bodyFault; rw [if_neg (by simp [ha])]
  clear hcv hfv hl
  unfold methodV at *
  obtain ⟨name, type, static, abs, priv, locals, code, handlers⟩ := m
  clear ho
  dsimp only at *
  subst ha
  generalize argCount _ = ac at *
  rcases errV_cases (codeFault code) with ⟨hv1, hz⟩ | ⟨hv1, hz⟩
  · rw [hz, if_neg (by decide)] at hbf
    rw [hv1] at HFl
    clear hv1 hz
    go_enter Tryz.func171, Tryz.ntmps171
    go_upto_region 8 with (go_at_call 200; (with_reducible refine (HFl.out _ ((Below.refl _ _).alloc (Nat.le_refl _) _)).mono ?_); rintro e w2 ⟨rfl, hB⟩)
    have BX : Boxed w w2 [.string name, .string type, .bool static, .bool false, .bool priv, .int .i64 locals, .slice p code.length cap, hv] := ⟨below_call ((Below.refl _ _).alloc (Nat.le_refl _) _) (Nat.le_refl _) hB, Nat.lt_of_lt_of_le (by simp) hB.size, Cells.mono hB (by simp) (by simp [Cells])⟩
    obtain ⟨q0, q1, q2, q3, q4, q5, q6, q7⟩ := boxed8 BX
    clear hB
    go_cut [37] (fun s wx => s = .bool (decide (locals < (ac : Int))) ∧ Boxed w wx [.string name, .string type, .bool static, .bool false, .bool priv, .int .i64 locals, .slice p code.length cap, hv])
    case first =>
      go_region_with (go_at_call 201; (with_reducible refine (HAr.out _).mono ?_); rintro e w3 ⟨rfl, hB3⟩; (have BX3 := BX.step (below_call (Below.refl _ _).drew (Nat.le_refl _) hB3)); obtain ⟨r0, r1, r2, r3, r4, r5, r6, r7⟩ := boxed8 BX3)
      all_goals
        go_wp2
        go_meet
        exact ⟨rfl, BX3⟩
    case rest =>
      obtain ⟨rfl, BX⟩ := hcut
      clear q0 q1 q2 q3 q4 q5 q6 q7
      obtain ⟨q0, q1, q2, q3, q4, q5, q6, q7⟩ := boxed8 BX
      by_cases hlo : locals < (ac : Int)
      · rw [if_pos hlo] at hbf
        have hd : decide (locals < (ac : Int)) = true := by simpa using hlo
        cases hbf.out
        rw [hd]
        clear hlo hd HC HHa HFl HAr
        go_wp2_with (first | fail)
        go_ret
        exact ⟨rfl, BX.below⟩
      · rw [if_neg hlo] at hbf
        have hd : decide (locals < (ac : Int)) = false := by simpa using hlo
        rw [hd]
        clear hlo hd HFl HAr
        go_wp2_with (first | fail)
        go_loopw [42] (fun x wr => ∃ k, k ≤ code.length ∧ Hid (((code.drop k).any fun x => (x.op == 4 || x.op == 5) && decide (locals ≤ x.a)) = (code.any fun x => (x.op == 4 || x.op == 5) && decide (locals ≤ x.a))) ∧ Boxed w wr [.string name, .string type, .bool static, .bool false, .bool priv, .int .i64 locals, .slice p code.length cap, hv] ∧ x = .int .i64 k) (fun x _ => code.length - (intOf x).toNat)
        case atStart => exact ⟨0, by omega, rfl, BX, rfl⟩
        case round =>
          obtain ⟨k, hk, hff, BX, rfl⟩ := hrel
          clear q0 q1 q2 q3 q4 q5 q6 q7
          obtain ⟨q0, q1, q2, q3, q4, q5, q6, q7⟩ := boxed8 BX
          have hsz := BX.size
          have hlen : code.length ≤ 9223372036854775807 := Nat.le_trans hc1 hc2
          by_cases hkl : k < code.length
          · obtain ⟨x, hx⟩ : ∃ x, code[k]? = some x := ⟨code[k], by simp [hkl]⟩
            obtain ⟨b, o, vs, rfl, rfl, _, hcells⟩ := HC.out k x hx
            have hcells := hcells.mono BX.below hcells.lt
            have hstep := any_drop (fun x => (x.op == 4 || x.op == 5) && decide (locals ≤ x.a)) code k x hx
            rw [hff.out] at hstep
            have HX := Lib.hid hx; clear hx
            obtain ⟨c0, c1, c2, c3, c4, c5, _⟩ := hcells
            obtain ⟨k4, h4⟩ : ∃ k, (x.op == 4) = k := ⟨_, rfl⟩
            obtain ⟨k5, h5⟩ : ∃ k, (x.op == 5) = k := ⟨_, rfl⟩
            obtain ⟨ka, ha⟩ : ∃ k, decide (locals ≤ x.a) = k := ⟨_, rfl⟩
            rw [h4, h5, ha] at hstep
            cases hls : (k4 || k5) && ka with
            | true =>
              rw [hls, Bool.true_or] at hstep
              have hfin : Hid (v = .iface 29 (.int .i64 2)) := by rw [hbf.out, if_pos hstep]; rfl
              have HL := Lib.hid hls
              clear hls hstep hbf HHa
              cases k4 <;> cases k5 <;> cases ka <;> try (exact absurd HL.out (by decide))
              all_goals
                clear HL
                go_wp2_with (first | fail)
                cases hfin.out
                go_ret
                exact ⟨rfl, (BX.alloc _).below⟩
            | false =>
              rw [hls, Bool.false_or] at hstep
              have HL := Lib.hid hls
              have hst := Lib.hid hstep.symm
              clear hls hstep hbf HHa
              cases k4 <;> cases k5 <;> cases ka <;> try (exact absurd HL.out (by decide))
              all_goals
                clear HL
                go_wp2_with (first | fail)
                exact ⟨⟨k + 1, by omega, hst.out, BX.alloc _, by simp⟩, by simp [intOf]; omega⟩
          · have hno : Hid ((code.any fun x => (x.op == 4 || x.op == 5) && decide (locals ≤ x.a)) = false) := by
              rw [← hff.out, List.drop_eq_nil_of_le (by omega)]; rfl
            clear hff
            obtain rfl : k = code.length := by omega
            have hfin : Hid (v = errV (handlersFault handlers code.length)) := by rw [hbf.out, if_neg (by rw [hno.out]; decide)]; rfl
            clear hno hbf
            rw [← hfin.out] at HHa
            go_wp2_with (go_at_call 202; (with_reducible refine (HHa.out _ BX.below).mono ?_); rintro e w2 ⟨rfl, hB⟩)
            go_ret
            exact ⟨rfl, below_call BX.below (Nat.le_refl _) hB⟩
  · rw [if_pos hz, hv1] at hbf
    rw [hv1] at HFl
    generalize codeFault code = cf at *
    clear hv1 hz HAr HHa
    go_enter Tryz.func171, Tryz.ntmps171
    go_wp2_with (go_at_call 200; (with_reducible refine (HFl.out _ ((Below.refl _ _).alloc (Nat.le_refl _) _)).mono ?_); rintro e w2 ⟨rfl, hB⟩)
    cases hbf.out
    go_ret
    exact ⟨rfl, below_call ((Below.refl _ _).alloc (Nat.le_refl _) _) (Nat.le_refl _) hB⟩
theorem body_any (m : Method) (cv hv : Value) (w : World) (hl : Laid w) (ho : MethodOk m) (hcv : SliceOf w 6 InsCells cv m.code) (hhv : SliceOf w 4 HandlerCells hv m.handlers) :
    Calls Tryz.prog 171 #[methodV m cv hv] w fun e w' => e = .returned (errV (bodyFault m)) ∧ Below w.heap.size w w' := by
  cases ha : m.abs with
  | true => exact body_abs m cv hv w hcv hhv ha _ rfl
  | false => exact body_code m cv hv w hl ho hcv hhv ha _ rfl
end Go.Proofs.YtlmfmioljeppfaaGreatDoor
