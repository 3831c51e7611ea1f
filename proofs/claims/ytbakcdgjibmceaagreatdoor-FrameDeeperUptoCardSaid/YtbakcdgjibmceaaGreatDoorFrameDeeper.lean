/-
  WALK over the law FrameDeeper. Conditions: as in XRead; the instruction's texts of at most 1048576 signs, kinds' texts of at most 4194304.
-/
import Derived.Test.YtbakcdgjibmceaaGreatDoorDeepLaw
import Derived.Test.YtbakcdgjibmceaaGreatDoorFaults
namespace Go.Proofs.YtbakcdgjibmceaaGreatDoor
open Go.RowKit Go.Shelf Go.Lib
theorem run_append_own_strs {w : World} (ty : TypeId) (base : Nat) (v : Value) (n : Nat) (xs : List Value) (hown : w.ownsRow base 9 1 v n xs) (y : Value) (l : List Str) (hy : StrsAt w y l) (h63 : n + l.length ≤ maxLen) (hbytes : (n + l.length) * 16 ≤ 140737488355328) (hbase : base ≤ w.heap.size) :
    ∃ v' w', (Builtin.append_ #[43, 43] ty #[v, y]).run Tryz.prog w = .ok v' w' ∧ w'.ownsRow base 9 1 v' (n + l.length) (xs ++ l.map Value.string) ∧ w.grownBy w' v.ownBlock := by
  obtain ⟨i0, hi, hz0, hz1, hz2⟩ := info_parts info_string
  rcases hy with ⟨rfl, rfl⟩ | ⟨ad, cap, rfl, hh⟩
  · exact ⟨v, w, run_append_owned_none w base 43 ty 9 i0 1 Tryz.underlying43 hi v n xs hown, by simpa using hown, World.grownBy.refl w _⟩
  · have hy : StrsAt w (.slice (some ad) l.length cap) l := Or.inr ⟨ad, cap, rfl, hh⟩
    obtain ⟨v', w', hr, h2, h3, _⟩ := run_append_own (P := Tryz.prog) w base 43 ty 9 i0 (.string .empty) 1 16 Tryz.underlying43 hi hz0 hz1 hz2 rfl (by decide) v n xs hown ad l.length cap (l.map Value.string) (by simp) (strs_news hy)
      (fun u hu => by obtain ⟨x, _, rfl⟩ := List.mem_map.1 hu; rfl) h63 hbytes hbase
    exact ⟨v', w', hr, h2, h3⟩
/-- append of a list of texts, at a step of a region that draws its order -/
theorem step_append_own_strs {w : World} {ops : Array Oper} {o : Oper} {a : Act} {K : Act → World → Prop} {Q : Exit → Act → World → Prop} {E : Prop} (hgd : o.guard = none) (s x : Operand)
    (ho : o.op = .call { callee := .builtin .append, args := #[s, x], argTypes := #[43, 43] })
    (base : Nat) (v : Value) (n : Nat) (xs : List Value) (hs : a.eval s = v) (hown : w.ownsRow base 9 1 v n xs)
    (y : Value) (l : List Str) (hx : a.eval x = y) (hy : StrsAt w y l) (h63 : n + l.length ≤ maxLen) (hbytes : (n + l.length) * 16 ≤ 140737488355328) (hbase : base ≤ w.heap.size)
    (h : ∀ v' w', w'.ownsRow base 9 1 v' (n + l.length) (xs ++ l.map Value.string) → w.grownBy w' v.ownBlock → K (a.put o.dst v') w') :
    if Region.wanted o (yielded ops a.tmps) = true then Oper.wp Tryz.prog o a w K Q else E := by
  have hw : Region.wanted o (yielded ops a.tmps) = true := by simp [Region.wanted, hgd]
  rw [if_pos hw]
  obtain ⟨v', w', hr, h2, h3⟩ := run_append_own_strs o.type base v n xs hown y l hy h63 hbytes hbase
  exact Lib.wp_append_run w s x 43 43 ho v y hs hx v' w' hr (h v' w' h2 h3)
/-- an instruction and a frame, boxed -/
structure DT (w wx : World) (xv : List Value) (f1 f2 : Value) : Prop where
  below : Below w.heap.size w wx
  ki : Blk wx w.heap.size 62 xv
  kf : Blk wx (w.heap.size + 1) 64 [f1, f2]
theorem DT.step {w wx wy : World} {xv : List Value} {f1 f2 : Value} (h : DT w wx xv f1 f2) (hb : Below wx.heap.size wx wy) : DT w wy xv f1 f2 := ⟨below_call h.below (Nat.le_refl _) hb, h.ki.step hb, h.kf.step hb⟩
theorem DT.alloc {w wx : World} {xv : List Value} {f1 f2 : Value} (h : DT w wx xv f1 f2) (o : Obj) : DT w (wx.alloc o) xv f1 f2 := h.step ((Below.refl _ _).alloc (Nat.le_refl _) o)
theorem DT.grown {w wx wy : World} {xv : List Value} {f1 f2 : Value} (h : DT w wx xv f1 f2) {g : Nat} (hg : wx.grownBy wy (some g)) (hb : w.heap.size + 1 < g) : DT w wy xv f1 f2 :=
  ⟨h.below.grown hg h.below.size (fun k e => by injection e with e; omega), h.ki.grown hg (fun e => by injection e with e; omega), h.kf.grown hg (fun e => by injection e with e; omega)⟩
theorem DT.put {w wx : World} {xv : List Value} {f1 f2 : Value} (h : DT w wx xv f1 f2) {b : Nat} (hb : w.heap.size + 1 < b) (u v : Value) : DT w ((wx.setCell ⟨b, 0, none⟩ u).setCell ⟨b, 1, none⟩ v) xv f1 f2 :=
  ⟨below_set2 h.below (by omega) u v, (h.ki.other (by omega) 0 u).other (by omega) 1 v, (h.kf.other (by omega) 0 u).other (by omega) 1 v⟩
theorem DT.get {w wx : World} {x0 x1 x2 x3 x4 x5 f1 f2 : Value} (h : DT w wx [x0, x1, x2, x3, x4, x5] f1 f2) : (wx.cell? ⟨w.heap.size, 0, none⟩ = some x0 ∧ wx.cell? ⟨w.heap.size, 1, none⟩ = some x1 ∧ wx.cell? ⟨w.heap.size, 2, none⟩ = some x2 ∧ wx.cell? ⟨w.heap.size, 3, none⟩ = some x3 ∧ wx.cell? ⟨w.heap.size, 4, none⟩ = some x4 ∧ wx.cell? ⟨w.heap.size, 5, none⟩ = some x5) ∧ wx.cell? ⟨w.heap.size + 1, 0, none⟩ = some f1 ∧ wx.cell? ⟨w.heap.size + 1, 1, none⟩ = some f2 := ⟨h.ki.cells6, h.kf.cells2⟩
theorem DT.new (w : World) (x0 x1 x2 x3 x4 x5 f1 f2 : Value) : DT w ((w.alloc (.cells #[x0, x1, x2, x3, x4, x5] 62)).alloc (.cells #[f1, f2] 64)) [x0, x1, x2, x3, x4, x5] f1 f2 := by
  refine ⟨((Below.refl _ _).alloc (Nat.le_refl _) _).alloc (by simp) _, (Blk.new w 62 [x0, x1, x2, x3, x4, x5]).step ((Below.refl _ _).alloc (Nat.le_refl _) _), ?_⟩
  have := Blk.new (w.alloc (.cells #[x0, x1, x2, x3, x4, x5] 62)) 64 [f1, f2]
  simpa using this
theorem stepN_zero {l : List Class} {from' gives : Str} {x : Ins} {f : Frm} {r : Option (List Str × List Str)} (h : stepN l from' gives x f r = 0) : stepFault l from' gives x f = 0 ∧ r ≠ none := by
  unfold stepN at h
  split at h
  · rename_i h0; exact absurd h h0
  · rename_i h0
    refine ⟨Decidable.not_not.1 h0, fun e => ?_⟩
    rw [if_pos e] at h
    cases h
theorem stepFault_deep {l : List Class} {from' gives : Str} {x : Ins} {f g : Frm} (h : stepFault l from' gives x f = 0) (hg : frameR (allC l) g = 0) : stepFault l from' gives x g = 0 := by
  obtain ⟨h1, h2, h3⟩ := stepFault_zero h
  unfold stepFault at h ⊢
  rw [if_neg (by rw [h1]; decide), if_neg (by rw [h2]; decide)] at h
  rw [if_neg (by rw [h1]; decide), if_neg (by rw [hg]; decide)]
  exact h
theorem stepN_deep {l : List Class} {from' gives k : Str} {x : Ins} {f : Frm} {L S : List Str} (h : stepN l from' gives x f (stepF (allC l) from' gives x f.locals f.stack) = 0) (hr : stepF (allC l) from' gives x f.locals f.stack = some (L, S)) (h8 : S.length < 8) (hg : frameFault l ⟨f.locals, k :: f.stack⟩ = 0) :
    stepN l from' gives x ⟨f.locals, k :: f.stack⟩ (stepF (allC l) from' gives x f.locals (k :: f.stack)) = 0 ∧ stepF (allC l) from' gives x f.locals (k :: f.stack) = some (L, k :: S) := by
  have hd := stepF_deep (k := k) hr h8
  refine ⟨?_, hd⟩
  obtain ⟨h1, _⟩ := stepN_zero h
  have hz := (stepFault_zero h1).1
  have hg' : frameR (allC l) ⟨f.locals, k :: f.stack⟩ = 0 := by rw [frameFault_yes hz] at hg; exact hg
  unfold stepN
  rw [stepFault_deep h1 hg', if_neg (by decide), hd, if_neg (by intro e; cases e)]
set_option maxHeartbeats 4000000 in
set_option maxRecDepth 100000 in
theorem frameDeeper_any (l : List Class) (lv : Value) (from' gives : Str) (x : Ins) (f : Frm) (f1 f2 : Value) (k : Str) (w : World) (hl : Laid w) (ho : ∀ c ∈ l, ClassOk c) (hlv : ClassesAt w lv l) (hf : FrameAt w f1 f2 f) (hS : FrmShort f) (hx : InsOk x) (hfr : from'.size ≤ maxLen) (hg : gives.size ≤ maxLen) (hk : k.size ≤ 4194304) :
    Calls Tryz.prog 7 #[lv, .string from', .string gives, insV x, .agg #[f1, f2], .string k] w fun e w' => e = .returned (.bool true) ∧ Below w.heap.size w w' := by
  have HSt : Hid (∀ wx, Below w.heap.size w wx → _) := fun wx hx => stepped_any wx (hl.mono hx hl.1)
  have HSp : Hid (∀ wx, Below w.heap.size w wx → _) := fun wx hb => frameStep_any l lv from' gives x f f1 f2 wx (hl.mono hb hl.1) ho (hlv.mono hb) (hf.mono hb) hS hx hfr hg
  have HSd : Hid (∀ wx v, Below w.heap.size w wx → StrsAt wx v (k :: f.stack) → _) := fun wx v hb hv => frameStep_any l lv from' gives x ⟨f.locals, k :: f.stack⟩ f1 v wx (hl.mono hb hl.1) ho (hlv.mono hb) ⟨(hf.mono hb).1, hv⟩ ⟨hS.1, fun y hy => by
    rcases List.mem_cons.1 hy with e | hy
    · rw [e]; exact hk
    · exact hS.2 y hy⟩ hx hfr hg
  have HCd : Hid (∀ wx v, Below w.heap.size w wx → StrsAt wx v (k :: f.stack) → _) := fun wx v hb hv => frameCheckL_any l lv ⟨f.locals, k :: f.stack⟩ f1 v wx (hl.mono hb hl.1) ho (hlv.mono hb) ⟨(hf.mono hb).1, hv⟩ ⟨hS.1, fun y hy => by
    rcases List.mem_cons.1 hy with e | hy
    · rw [e]; exact hk
    · exact hS.2 y hy⟩
  have HFm : Hid (∀ wx, Below w.heap.size w wx → FrameAt wx f1 f2 f) := fun wx hb => hf.mono hb
  obtain ⟨pl, cap, rfl, _⟩ := hlv.open
  obtain ⟨p1, c1, rfl, _⟩ := hf.1.open
  obtain ⟨p2, c2, rfl, _⟩ := hf.2.open
  clear hl ho hlv hf hS hfr hg hk
  unfold StepRes at HSp
  have hd := fun (L S : List Str) => stepN_deep (l := l) (from' := from') (gives := gives) (k := k) (x := x) (f := f) (L := L) (S := S)
  have HD := Lib.hid hd
  clear hd
  obtain ⟨N, hN⟩ : ∃ n, stepN l from' gives x f (stepF (allC l) from' gives x f.locals f.stack) = n := ⟨_, rfl⟩
  rw [hN] at HSp HD
  clear hN
  obtain ⟨op, a, b, type, cls, name⟩ := x
  unfold insV at HSp HSd ⊢
  have T0 := DT.new w (.int .i64 op) (.int .i64 a) (.int .i64 b) (.string type) (.string cls) (.string name) (.slice p1 f.locals.length c1) (.slice p2 f.stack.length c2)
  clear hx
  by_cases hz : N = 0
  · subst hz
    go_enter Tryz.func7, Tryz.ntmps7
    go_upto_region 5 with (first
      | (go_at_call 26; (with_reducible refine (HSt.out _ T0.below).mono ?_); rintro e w2 ⟨rfl, hB2⟩; (have T2 := T0.step hB2); obtain ⟨⟨q0, q1, q2, q3, q4, q5⟩, q6, q7⟩ := T2.get)
      | (go_at_call 31; (with_reducible refine (HSp.out _ T2.below).mono ?_); rintro e w3 ⟨hB3, ⟨_, L, S, g1, g2, hr, rfl, hv⟩ | ⟨hz, _⟩⟩; rotate_left; (exact absurd rfl hz); obtain ⟨⟨pa, ka, rfl, _⟩, ⟨pb, kb, rfl, _⟩⟩ := And.intro hv.1.open hv.2.open))
    have hBg := (Below.refl w3.heap.size w3).alloc (Nat.le_refl _) (.cells #[.slice pa L.length ka, .slice pb S.length kb] 64)
    have T3 := (T2.step hB3).step hBg
    have KG := Blk.new w3 64 [.slice pa L.length ka, .slice pb S.length kb]
    have hv3 := hv.mono hBg
    have hlt3 := T2.kf.lt
    have hle3 := hB3.size
    obtain ⟨w4, hw4⟩ : ∃ w4, w3.alloc (.cells #[.slice pa L.length ka, .slice pb S.length kb] 64) = w4 := ⟨_, rfl⟩
    have hgb : w.heap.size + 1 < w3.heap.size := by omega
    have hgl : w3.heap.size < w4.heap.size := by rw [← hw4]; simp
    rw [hw4] at T3 KG hv3
    obtain ⟨⟨q0, q1, q2, q3, q4, q5⟩, q6, q7⟩ := T3.get
    obtain ⟨k0, k1⟩ := KG.cells2
    generalize w3.heap.size = gb at *
    clear T0 T2 hB2 hB3 hBg hv hlt3 hle3 HSp HSt
    by_cases h8 : 8 ≤ f.stack.length
    · have z1 : decide ((8 : Int) ≤ (f.stack.length : Int)) = true := by simp; omega
      go_wp2_with (first | fail)
      go_ret
      exact ⟨rfl, T3.below⟩
    · have z1 : decide ((8 : Int) ≤ (f.stack.length : Int)) = false := by simp; omega
      by_cases g8 : 8 ≤ S.length
      · have z2 : decide ((8 : Int) ≤ (S.length : Int)) = true := by simp; omega
        go_wp2_with (first | fail)
        go_ret
        exact ⟨rfl, T3.below⟩
      · have z2 : decide ((8 : Int) ≤ (S.length : Int)) = false := by simp; omega
        go_upto_region 7 with (first | fail)
        have HT3 := Lib.hid T3
        have HKG := Lib.hid KG
        have HV3 := Lib.hid hv3
        have hsz4 : w.heap.size + 1 < w4.heap.size := by omega
        have ho1 : (w4.alloc (.cells #[.string k] 9)).drew.ownsRow w4.heap.size 9 1 (.slice (some ⟨w4.heap.size, 0, none⟩) 1 1) 1 [.string k] := ownsRow_one w4.drew w4.heap.size (.string k) (Nat.le_refl _)
        have ho2 : ((w4.alloc (.cells #[.string k] 9)).alloc (.cells #[.slice none 0 0, .slice none 0 0] 64)).drew.ownsRow w4.heap.size 9 1 (.slice (some ⟨w4.heap.size, 0, none⟩) 1 1) 1 [.string k] := (ownsRow_one w4 w4.heap.size (.string k) (Nat.le_refl _)).alloc (.cells #[.slice none 0 0, .slice none 0 0] 64)
        have ho3 : ((w4.alloc (.cells #[.slice none 0 0, .slice none 0 0] 64)).alloc (.cells #[.string k] 9)).drew.ownsRow w4.heap.size 9 1 (.slice (some ⟨w4.heap.size + 1, 0, none⟩) 1 1) 1 [.string k] := (ownsRow_one2 w4 (.cells #[.slice none 0 0, .slice none 0 0] 64) (.string k)).drew
        have hb1 : Below w4.heap.size w4 (w4.alloc (.cells #[.string k] 9)).drew := ((Below.refl w4.heap.size w4).alloc (Nat.le_refl _) _).drew
        have hb2 : Below w4.heap.size w4 ((w4.alloc (.cells #[.string k] 9)).alloc (.cells #[.slice none 0 0, .slice none 0 0] 64)).drew := (((Below.refl w4.heap.size w4).alloc (Nat.le_refl _) _).alloc (by simp) _).drew
        have hb3 : Below w4.heap.size w4 ((w4.alloc (.cells #[.slice none 0 0, .slice none 0 0] 64)).alloc (.cells #[.string k] 9)).drew := (((Below.refl w4.heap.size w4).alloc (Nat.le_refl _) _).alloc (by simp) _).drew
        have hZ2 : Blk ((w4.alloc (.cells #[.string k] 9)).alloc (.cells #[.slice none 0 0, .slice none 0 0] 64)).drew (w4.heap.size + 1) 64 [.slice none 0 0, .slice none 0 0] := by
          have h2 : Blk ((w4.alloc (.cells #[.string k] 9)).alloc (.cells #[.slice none 0 0, .slice none 0 0] 64)) (w4.heap.size + 1) 64 [.slice none 0 0, .slice none 0 0] := by
            have := Blk.new (w4.alloc (.cells #[.string k] 9)) 64 [.slice none 0 0, .slice none 0 0]
            simpa using this
          exact h2.step ((Below.refl _ _).drew)
        have hZ3 : Blk ((w4.alloc (.cells #[.slice none 0 0, .slice none 0 0] 64)).alloc (.cells #[.string k] 9)).drew w4.heap.size 64 [.slice none 0 0, .slice none 0 0] := (Blk.new w4 64 [.slice none 0 0, .slice none 0 0]).step (((Below.refl _ _).alloc (Nat.le_refl _) (.cells #[.string k] 9)).drew)
        have hy1 := (HFm.out _ (HT3.out.step hb1).below).2
        have hy2 := (HFm.out _ (HT3.out.step hb2).below).2
        have hy3 := (HFm.out _ (HT3.out.step hb3).below).2
        have hb63 : 1 + f.stack.length ≤ maxLen := by unfold maxLen; omega
        have hb16 : (1 + f.stack.length) * 16 ≤ 140737488355328 := by omega
        clear T3 KG hv3 q0 q1 q2 q3 q4 q5 k0 k1 h8 z1 z2
        go_region_held3 (fun w' => w'.cell? ⟨w.heap.size + 1, 0, none⟩ = some (.slice p1 f.locals.length c1) ∧ w'.cell? ⟨w.heap.size + 1, 1, none⟩ = some (.slice p2 f.stack.length c2)) (first | go_keep | exact ⟨(cell2_other (a := ⟨w.heap.size + 1, 0, none⟩) (by show w.heap.size + 1 ≠ _; omega) _ _).trans q6, (cell2_other (a := ⟨w.heap.size + 1, 1, none⟩) (by show w.heap.size + 1 ≠ _; omega) _ _).trans q7⟩)
          (first
            | (refine step_append_own_strs (by rfl) _ _ (by rfl) w4.heap.size (.slice (some ⟨_, 0, none⟩) 1 1) 1 [.string k] (by rfl) (by first | exact ho1 | exact ho2 | exact ho3) _ f.stack (by rfl) (by first | exact hy1 | exact hy2 | exact hy3) hb63 hb16 (by first | exact hb1.size | exact hb2.size | exact hb3.size) ?_; intro v5 w5 ho5 hg5; (have hB5 : Below w4.heap.size w4 w5 := by first | exact hb1.grown hg5 hb1.size (fun g e => (ho1.lt g e).1) | exact hb2.grown hg5 hb2.size (fun g e => (ho2.lt g e).1) | exact hb3.grown hg5 hb3.size (fun g e => (ho3.lt g e).1)); (have T5 := HT3.out.step hB5); obtain ⟨_, q6, q7⟩ := T5.get; obtain ⟨vp, vc, rfl⟩ := ownsRow_shape ho5; (first | (have Z5 := hZ2.grown hg5 (fun e => absurd (show w4.heap.size = w4.heap.size + 1 from Option.some.inj e) (by omega)); obtain ⟨y0, y1⟩ := Z5.cells2; (have e0 := Z5.frozen 0); (have e1 := Z5.frozen 1)) | (have Z5 := hZ3.grown hg5 (fun e => absurd (show w4.heap.size + 1 = w4.heap.size from Option.some.inj e) (by omega)); obtain ⟨y0, y1⟩ := Z5.cells2; (have e0 := Z5.frozen 0); (have e1 := Z5.frozen 1)) | skip)))
        · have hd5 : StrsAt w5 (.slice vp (1 + f.stack.length) vc) (k :: f.stack) := by
            rw [Nat.add_comm] at ho5 ⊢
            exact strsAt_of_owns (l := k :: f.stack) ho5
          have KG5 := HKG.out.step hB5
          have hv5 := HV3.out.mono hB5
          have hA5 := (Below.refl w5.heap.size w5).alloc (Nat.le_refl _) (.cells #[.slice p1 f.locals.length c1, .slice vp (1 + f.stack.length) vc] 64)
          have TW := T5.step hA5
          have KD : Blk (w5.alloc (.cells #[.slice p1 f.locals.length c1, .slice vp (1 + f.stack.length) vc] 64)) w5.heap.size 64 [.slice p1 f.locals.length c1, .slice vp (1 + f.stack.length) vc] := Blk.new w5 64 [.slice p1 f.locals.length c1, .slice vp (1 + f.stack.length) vc]
          have KW := KG5.step hA5
          have hvW := hv5.mono hA5
          have hdW := hd5.mono hA5
          generalize hWe : (w5.alloc (.cells #[.slice p1 f.locals.length c1, .slice vp (1 + f.stack.length) vc] 64)) = W at *
          obtain ⟨bD, hbD⟩ : ∃ b, w5.heap.size = b := ⟨_, rfl⟩
          rw [hbD] at KD
          try rw [hbD]
          have HTW := Lib.hid TW
          have HKW := Lib.hid KW
          have HVW := Lib.hid hvW
          have HDW := Lib.hid hdW
          have HKD := Lib.hid KD
          obtain ⟨⟨q0, q1, q2, q3, q4, q5⟩, q6, q7⟩ := TW.get
          obtain ⟨d0, d1⟩ := KD.cells2
          obtain ⟨r0, r1⟩ := KW.cells2
          have HCk := Lib.hid (HCd.out W _ TW.below hdW)
          clear TW KW hvW hdW KD T5 KG5 hv5 hd5 HT3 HKG HV3 hB5 ho5 hg5 ho1 ho2 ho3 hb1 hb2 hb3 hZ2 hZ3 hy1 hy2 hy3 hb63 hb16 HCd hw4
          rcases errV_cases (frameFault l ⟨f.locals, k :: f.stack⟩) with ⟨hv0, hz⟩ | ⟨hv0, hz⟩
          rotate_left
          · rw [hv0] at HCk
            generalize frameFault l ⟨f.locals, k :: f.stack⟩ = n at *
            go_wp2_with (first
              | (go_at_call 33; (with_reducible refine HCk.out.mono ?_); rintro e w6 ⟨rfl, hB6⟩))
            go_ret
            exact ⟨rfl, (HTW.out.step hB6).below⟩
          · rw [hv0] at HCk
            obtain ⟨hN2, hr2⟩ := HD.out L S trivial hr (by omega) hz
            have HSx : Hid (∀ wx, Below W.heap.size W wx → _) := fun wx hb => HSd.out wx _ (HTW.out.step hb).below (HDW.out.mono hb)
            rw [hN2, hr2] at HSx
            unfold StepRes at HSx
            clear hv0 hz hN2 HSd HD HDW
            go_upto_region 11 with (first
              | (go_at_call 33; (with_reducible refine HCk.out.mono ?_); rintro e w6 ⟨rfl, hB6⟩; (have T6 := HTW.out.step hB6); obtain ⟨⟨q0, q1, q2, q3, q4, q5⟩, q6, q7⟩ := T6.get; obtain ⟨d0, d1⟩ := (HKD.out.step hB6).cells2)
              | (go_at_call 31; (with_reducible refine (HSx.out _ hB6).mono ?_); rintro e w7 ⟨hB7, ⟨_, L1, S1, h1, h2, hr3, rfl, hh⟩ | ⟨hz, _⟩⟩; rotate_left; (exact absurd rfl hz); obtain ⟨⟨ph, kh, rfl, _⟩, ⟨pi, ki, rfl, _⟩⟩ := And.intro hh.1.open hh.2.open))
            injection hr3 with hr3
            obtain ⟨e1, e2⟩ := pair_eq hr3
            subst e1 e2
            have hA7 := (Below.refl w7.heap.size w7).alloc (Nat.le_refl _) (.cells #[.slice ph L.length kh, .slice pi (k :: S).length ki] 64)
            have hB78 := below_call (below_call hB6 (Nat.le_refl _) hB7) (Nat.le_refl _) hA7
            have T8 := HTW.out.step hB78
            have KW8 := HKW.out.step hB78
            have hv8 := HVW.out.mono hB78
            have hh8 := hh.mono hA7
            have KH := Blk.new w7 64 [.slice ph L.length kh, .slice pi (k :: S).length ki]
            obtain ⟨bH, hbH⟩ : ∃ b, w7.heap.size = b := ⟨_, rfl⟩
            obtain ⟨w8, hw8⟩ : ∃ w8, w7.alloc (.cells #[.slice ph L.length kh, .slice pi (k :: S).length ki] 64) = w8 := ⟨_, rfl⟩
            rw [hw8] at T8 KW8 hv8 hh8 KH
            rw [hbH] at KH
            try rw [hw8]
            try rw [hbH]
            simp only [List.length_cons] at KH hh8
            try simp only [List.length_cons]
            obtain ⟨r0, r1⟩ := KW8.cells2
            obtain ⟨t0, t1⟩ := KH.cells2
            have HSm : Hid (∀ wx v1 v2 u1 u2, FrameAt wx v1 v2 ⟨L, k :: S⟩ → FrameAt wx u1 u2 ⟨L, k :: S⟩ → _) := fun wx v1 v2 u1 u2 h1 h2 => sameFrame_any ⟨L, k :: S⟩ ⟨L, k :: S⟩ v1 v2 u1 u2 wx h1 h2
            rw [decide_eq_true rfl] at HSm
            have HH8 := Lib.hid hh8
            have HV8 := Lib.hid hv8
            have HT8 := Lib.hid T8
            have HKH := Lib.hid KH
            have HKW8 := Lib.hid KW8
            have hb8 : Below w8.heap.size w8 (w8.alloc (.cells #[.string k] 9)).drew := ((Below.refl w8.heap.size w8).alloc (Nat.le_refl _) _).drew
            have ho8 : (w8.alloc (.cells #[.string k] 9)).drew.ownsRow w8.heap.size 9 1 (.slice (some ⟨w8.heap.size, 0, none⟩) 1 1) 1 [.string k] := ownsRow_one w8.drew w8.heap.size (.string k) (Nat.le_refl _)
            have hy8 := (hv8.mono hb8).2
            have hc63 : 1 + S.length ≤ maxLen := by unfold maxLen; omega
            have hc16 : (1 + S.length) * 16 ≤ 140737488355328 := by omega
            clear T8 KW8 hv8 hh8 KH hh hB6 hB7 hB78 hA7 hw8 HKW HVW HKD HTW HSx g8 hr2 hr
            go_region_held3 (fun w' => w'.cell? ⟨bH, 0, none⟩ = some (.slice ph L.length kh) ∧ w'.cell? ⟨bH, 1, none⟩ = some (.slice pi (S.length + 1) ki) ∧ w'.cell? ⟨gb, 0, none⟩ = some (.slice pa L.length ka) ∧ w'.cell? ⟨gb, 1, none⟩ = some (.slice pb S.length kb)) (go_keep)
              (first
                | (refine step_append_own_strs (by rfl) _ _ (by rfl) w8.heap.size (.slice (some ⟨_, 0, none⟩) 1 1) 1 [.string k] (by rfl) ho8 _ S (by rfl) hy8 hc63 hc16 hb8.size ?_; intro v9 w9 ho9 hg9; (have hB9 := hb8.grown hg9 hb8.size (fun g e => (ho8.lt g e).1)); obtain ⟨r0, r1⟩ := (HKW8.out.step hB9).cells2; obtain ⟨t0, t1⟩ := (HKH.out.step hB9).cells2; obtain ⟨vq, vd, rfl⟩ := ownsRow_shape ho9; (have hd9 : StrsAt w9 (.slice vq (1 + S.length) vd) (k :: S) := by rw [Nat.add_comm] at ho9 ⊢; exact strsAt_of_owns (l := k :: S) ho9); (have HSx := Lib.hid (HSm.out w9 _ _ _ _ (HH8.out.mono hB9) ⟨(HV8.out.mono hB9).1, hd9⟩)))
                | (go_at_call 32; (with_reducible refine HSx.out.mono ?_); rintro e w10 ⟨rfl, hB10⟩; obtain ⟨r0, r1⟩ := ((HKW8.out.step hB9).step hB10).cells2; obtain ⟨t0, t1⟩ := ((HKH.out.step hB9).step hB10).cells2))
            all_goals
              have HT10 := Lib.hid ((HT8.out.step hB9).step hB10)
              clear hB9 hB10 r0 r1 t0 t1 hd9 ho9 hg9 hy8 ho8 hb8 hc63 hc16
              go_wp2_with (first | fail)
              go_ret
              exact ⟨rfl, HT10.out.below⟩
        · have hd5 : StrsAt w5 (.slice vp (1 + f.stack.length) vc) (k :: f.stack) := by
            rw [Nat.add_comm] at ho5 ⊢
            exact strsAt_of_owns (l := k :: f.stack) ho5
          have KG5 := HKG.out.step hB5
          have hv5 := HV3.out.mono hB5
          have TW := T5.put (b := w4.heap.size + 1) (by omega) (.slice p1 f.locals.length c1) (.slice vp (1 + f.stack.length) vc)
          have KD := Z5.put2 (.slice p1 f.locals.length c1) (.slice vp (1 + f.stack.length) vc)
          have KW := (KG5.other (b' := w4.heap.size + 1) (by omega) 0 (.slice p1 f.locals.length c1)).other (b' := w4.heap.size + 1) (by omega) 1 (.slice vp (1 + f.stack.length) vc)
          have hvW : FrameAt ((w5.setCell ⟨w4.heap.size + 1, 0, none⟩ (.slice p1 f.locals.length c1)).setCell ⟨w4.heap.size + 1, 1, none⟩ (.slice vp (1 + f.stack.length) vc)) (.slice pa L.length ka) (.slice pb S.length kb) ⟨L, S⟩ := ⟨StrsAt.apart hv5.1 Z5 (fun s h => by cases h) (fun s h => by cases h) (fun x hx => by rw [heap_setCell_other _ _ _ _ hx, heap_setCell_other _ _ _ _ hx]), StrsAt.apart hv5.2 Z5 (fun s h => by cases h) (fun s h => by cases h) (fun x hx => by rw [heap_setCell_other _ _ _ _ hx, heap_setCell_other _ _ _ _ hx])⟩
          have hdW : StrsAt ((w5.setCell ⟨w4.heap.size + 1, 0, none⟩ (.slice p1 f.locals.length c1)).setCell ⟨w4.heap.size + 1, 1, none⟩ (.slice vp (1 + f.stack.length) vc)) (.slice vp (1 + f.stack.length) vc) (k :: f.stack) := StrsAt.apart hd5 Z5 (fun s h => by cases h) (fun s h => by cases h) (fun x hx => by rw [heap_setCell_other _ _ _ _ hx, heap_setCell_other _ _ _ _ hx])
          generalize hWe : ((w5.setCell ⟨w4.heap.size + 1, 0, none⟩ (.slice p1 f.locals.length c1)).setCell ⟨w4.heap.size + 1, 1, none⟩ (.slice vp (1 + f.stack.length) vc)) = W at *
          obtain ⟨bD, hbD⟩ : ∃ b, (w4.heap.size + 1) = b := ⟨_, rfl⟩
          rw [hbD] at KD
          try rw [hbD]
          have HTW := Lib.hid TW
          have HKW := Lib.hid KW
          have HVW := Lib.hid hvW
          have HDW := Lib.hid hdW
          have HKD := Lib.hid KD
          obtain ⟨⟨q0, q1, q2, q3, q4, q5⟩, q6, q7⟩ := TW.get
          obtain ⟨d0, d1⟩ := KD.cells2
          obtain ⟨r0, r1⟩ := KW.cells2
          have HCk := Lib.hid (HCd.out W _ TW.below hdW)
          clear TW KW hvW hdW KD T5 KG5 hv5 hd5 HT3 HKG HV3 hB5 ho5 hg5 ho1 ho2 ho3 hb1 hb2 hb3 hZ2 hZ3 hy1 hy2 hy3 hb63 hb16 HCd hw4
          rcases errV_cases (frameFault l ⟨f.locals, k :: f.stack⟩) with ⟨hv0, hz⟩ | ⟨hv0, hz⟩
          rotate_left
          · rw [hv0] at HCk
            generalize frameFault l ⟨f.locals, k :: f.stack⟩ = n at *
            go_wp2_with (first
              | (go_at_call 33; (with_reducible refine HCk.out.mono ?_); rintro e w6 ⟨rfl, hB6⟩))
            go_ret
            exact ⟨rfl, (HTW.out.step hB6).below⟩
          · rw [hv0] at HCk
            obtain ⟨hN2, hr2⟩ := HD.out L S trivial hr (by omega) hz
            have HSx : Hid (∀ wx, Below W.heap.size W wx → _) := fun wx hb => HSd.out wx _ (HTW.out.step hb).below (HDW.out.mono hb)
            rw [hN2, hr2] at HSx
            unfold StepRes at HSx
            clear hv0 hz hN2 HSd HD HDW
            go_upto_region 11 with (first
              | (go_at_call 33; (with_reducible refine HCk.out.mono ?_); rintro e w6 ⟨rfl, hB6⟩; (have T6 := HTW.out.step hB6); obtain ⟨⟨q0, q1, q2, q3, q4, q5⟩, q6, q7⟩ := T6.get; obtain ⟨d0, d1⟩ := (HKD.out.step hB6).cells2)
              | (go_at_call 31; (with_reducible refine (HSx.out _ hB6).mono ?_); rintro e w7 ⟨hB7, ⟨_, L1, S1, h1, h2, hr3, rfl, hh⟩ | ⟨hz, _⟩⟩; rotate_left; (exact absurd rfl hz); obtain ⟨⟨ph, kh, rfl, _⟩, ⟨pi, ki, rfl, _⟩⟩ := And.intro hh.1.open hh.2.open))
            injection hr3 with hr3
            obtain ⟨e1, e2⟩ := pair_eq hr3
            subst e1 e2
            have hA7 := (Below.refl w7.heap.size w7).alloc (Nat.le_refl _) (.cells #[.slice ph L.length kh, .slice pi (k :: S).length ki] 64)
            have hB78 := below_call (below_call hB6 (Nat.le_refl _) hB7) (Nat.le_refl _) hA7
            have T8 := HTW.out.step hB78
            have KW8 := HKW.out.step hB78
            have hv8 := HVW.out.mono hB78
            have hh8 := hh.mono hA7
            have KH := Blk.new w7 64 [.slice ph L.length kh, .slice pi (k :: S).length ki]
            obtain ⟨bH, hbH⟩ : ∃ b, w7.heap.size = b := ⟨_, rfl⟩
            obtain ⟨w8, hw8⟩ : ∃ w8, w7.alloc (.cells #[.slice ph L.length kh, .slice pi (k :: S).length ki] 64) = w8 := ⟨_, rfl⟩
            rw [hw8] at T8 KW8 hv8 hh8 KH
            rw [hbH] at KH
            try rw [hw8]
            try rw [hbH]
            simp only [List.length_cons] at KH hh8
            try simp only [List.length_cons]
            obtain ⟨r0, r1⟩ := KW8.cells2
            obtain ⟨t0, t1⟩ := KH.cells2
            have HSm : Hid (∀ wx v1 v2 u1 u2, FrameAt wx v1 v2 ⟨L, k :: S⟩ → FrameAt wx u1 u2 ⟨L, k :: S⟩ → _) := fun wx v1 v2 u1 u2 h1 h2 => sameFrame_any ⟨L, k :: S⟩ ⟨L, k :: S⟩ v1 v2 u1 u2 wx h1 h2
            rw [decide_eq_true rfl] at HSm
            have HH8 := Lib.hid hh8
            have HV8 := Lib.hid hv8
            have HT8 := Lib.hid T8
            have HKH := Lib.hid KH
            have HKW8 := Lib.hid KW8
            have hb8 : Below w8.heap.size w8 (w8.alloc (.cells #[.string k] 9)).drew := ((Below.refl w8.heap.size w8).alloc (Nat.le_refl _) _).drew
            have ho8 : (w8.alloc (.cells #[.string k] 9)).drew.ownsRow w8.heap.size 9 1 (.slice (some ⟨w8.heap.size, 0, none⟩) 1 1) 1 [.string k] := ownsRow_one w8.drew w8.heap.size (.string k) (Nat.le_refl _)
            have hy8 := (hv8.mono hb8).2
            have hc63 : 1 + S.length ≤ maxLen := by unfold maxLen; omega
            have hc16 : (1 + S.length) * 16 ≤ 140737488355328 := by omega
            clear T8 KW8 hv8 hh8 KH hh hB6 hB7 hB78 hA7 hw8 HKW HVW HKD HTW HSx g8 hr2 hr
            go_region_held3 (fun w' => w'.cell? ⟨bH, 0, none⟩ = some (.slice ph L.length kh) ∧ w'.cell? ⟨bH, 1, none⟩ = some (.slice pi (S.length + 1) ki) ∧ w'.cell? ⟨gb, 0, none⟩ = some (.slice pa L.length ka) ∧ w'.cell? ⟨gb, 1, none⟩ = some (.slice pb S.length kb)) (go_keep)
              (first
                | (refine step_append_own_strs (by rfl) _ _ (by rfl) w8.heap.size (.slice (some ⟨_, 0, none⟩) 1 1) 1 [.string k] (by rfl) ho8 _ S (by rfl) hy8 hc63 hc16 hb8.size ?_; intro v9 w9 ho9 hg9; (have hB9 := hb8.grown hg9 hb8.size (fun g e => (ho8.lt g e).1)); obtain ⟨r0, r1⟩ := (HKW8.out.step hB9).cells2; obtain ⟨t0, t1⟩ := (HKH.out.step hB9).cells2; obtain ⟨vq, vd, rfl⟩ := ownsRow_shape ho9; (have hd9 : StrsAt w9 (.slice vq (1 + S.length) vd) (k :: S) := by rw [Nat.add_comm] at ho9 ⊢; exact strsAt_of_owns (l := k :: S) ho9); (have HSx := Lib.hid (HSm.out w9 _ _ _ _ (HH8.out.mono hB9) ⟨(HV8.out.mono hB9).1, hd9⟩)))
                | (go_at_call 32; (with_reducible refine HSx.out.mono ?_); rintro e w10 ⟨rfl, hB10⟩; obtain ⟨r0, r1⟩ := ((HKW8.out.step hB9).step hB10).cells2; obtain ⟨t0, t1⟩ := ((HKH.out.step hB9).step hB10).cells2))
            all_goals
              have HT10 := Lib.hid ((HT8.out.step hB9).step hB10)
              clear hB9 hB10 r0 r1 t0 t1 hd9 ho9 hg9 hy8 ho8 hb8 hc63 hc16
              go_wp2_with (first | fail)
              go_ret
              exact ⟨rfl, HT10.out.below⟩
        · have hd5 : StrsAt w5 (.slice vp (1 + f.stack.length) vc) (k :: f.stack) := by
            rw [Nat.add_comm] at ho5 ⊢
            exact strsAt_of_owns (l := k :: f.stack) ho5
          have KG5 := HKG.out.step hB5
          have hv5 := HV3.out.mono hB5
          have TW := T5.put (b := w4.heap.size) (by omega) (.slice p1 f.locals.length c1) (.slice vp (1 + f.stack.length) vc)
          have KD := Z5.put2 (.slice p1 f.locals.length c1) (.slice vp (1 + f.stack.length) vc)
          have KW := (KG5.other (b' := w4.heap.size) (by omega) 0 (.slice p1 f.locals.length c1)).other (b' := w4.heap.size) (by omega) 1 (.slice vp (1 + f.stack.length) vc)
          have hvW : FrameAt ((w5.setCell ⟨w4.heap.size, 0, none⟩ (.slice p1 f.locals.length c1)).setCell ⟨w4.heap.size, 1, none⟩ (.slice vp (1 + f.stack.length) vc)) (.slice pa L.length ka) (.slice pb S.length kb) ⟨L, S⟩ := ⟨StrsAt.apart hv5.1 Z5 (fun s h => by cases h) (fun s h => by cases h) (fun x hx => by rw [heap_setCell_other _ _ _ _ hx, heap_setCell_other _ _ _ _ hx]), StrsAt.apart hv5.2 Z5 (fun s h => by cases h) (fun s h => by cases h) (fun x hx => by rw [heap_setCell_other _ _ _ _ hx, heap_setCell_other _ _ _ _ hx])⟩
          have hdW : StrsAt ((w5.setCell ⟨w4.heap.size, 0, none⟩ (.slice p1 f.locals.length c1)).setCell ⟨w4.heap.size, 1, none⟩ (.slice vp (1 + f.stack.length) vc)) (.slice vp (1 + f.stack.length) vc) (k :: f.stack) := StrsAt.apart hd5 Z5 (fun s h => by cases h) (fun s h => by cases h) (fun x hx => by rw [heap_setCell_other _ _ _ _ hx, heap_setCell_other _ _ _ _ hx])
          generalize hWe : ((w5.setCell ⟨w4.heap.size, 0, none⟩ (.slice p1 f.locals.length c1)).setCell ⟨w4.heap.size, 1, none⟩ (.slice vp (1 + f.stack.length) vc)) = W at *
          obtain ⟨bD, hbD⟩ : ∃ b, (w4.heap.size) = b := ⟨_, rfl⟩
          rw [hbD] at KD
          try rw [hbD]
          have HTW := Lib.hid TW
          have HKW := Lib.hid KW
          have HVW := Lib.hid hvW
          have HDW := Lib.hid hdW
          have HKD := Lib.hid KD
          obtain ⟨⟨q0, q1, q2, q3, q4, q5⟩, q6, q7⟩ := TW.get
          obtain ⟨d0, d1⟩ := KD.cells2
          obtain ⟨r0, r1⟩ := KW.cells2
          have HCk := Lib.hid (HCd.out W _ TW.below hdW)
          clear TW KW hvW hdW KD T5 KG5 hv5 hd5 HT3 HKG HV3 hB5 ho5 hg5 ho1 ho2 ho3 hb1 hb2 hb3 hZ2 hZ3 hy1 hy2 hy3 hb63 hb16 HCd hw4
          rcases errV_cases (frameFault l ⟨f.locals, k :: f.stack⟩) with ⟨hv0, hz⟩ | ⟨hv0, hz⟩
          rotate_left
          · rw [hv0] at HCk
            generalize frameFault l ⟨f.locals, k :: f.stack⟩ = n at *
            go_wp2_with (first
              | (go_at_call 33; (with_reducible refine HCk.out.mono ?_); rintro e w6 ⟨rfl, hB6⟩))
            go_ret
            exact ⟨rfl, (HTW.out.step hB6).below⟩
          · rw [hv0] at HCk
            obtain ⟨hN2, hr2⟩ := HD.out L S trivial hr (by omega) hz
            have HSx : Hid (∀ wx, Below W.heap.size W wx → _) := fun wx hb => HSd.out wx _ (HTW.out.step hb).below (HDW.out.mono hb)
            rw [hN2, hr2] at HSx
            unfold StepRes at HSx
            clear hv0 hz hN2 HSd HD HDW
            go_upto_region 11 with (first
              | (go_at_call 33; (with_reducible refine HCk.out.mono ?_); rintro e w6 ⟨rfl, hB6⟩; (have T6 := HTW.out.step hB6); obtain ⟨⟨q0, q1, q2, q3, q4, q5⟩, q6, q7⟩ := T6.get; obtain ⟨d0, d1⟩ := (HKD.out.step hB6).cells2)
              | (go_at_call 31; (with_reducible refine (HSx.out _ hB6).mono ?_); rintro e w7 ⟨hB7, ⟨_, L1, S1, h1, h2, hr3, rfl, hh⟩ | ⟨hz, _⟩⟩; rotate_left; (exact absurd rfl hz); obtain ⟨⟨ph, kh, rfl, _⟩, ⟨pi, ki, rfl, _⟩⟩ := And.intro hh.1.open hh.2.open))
            injection hr3 with hr3
            obtain ⟨e1, e2⟩ := pair_eq hr3
            subst e1 e2
            have hA7 := (Below.refl w7.heap.size w7).alloc (Nat.le_refl _) (.cells #[.slice ph L.length kh, .slice pi (k :: S).length ki] 64)
            have hB78 := below_call (below_call hB6 (Nat.le_refl _) hB7) (Nat.le_refl _) hA7
            have T8 := HTW.out.step hB78
            have KW8 := HKW.out.step hB78
            have hv8 := HVW.out.mono hB78
            have hh8 := hh.mono hA7
            have KH := Blk.new w7 64 [.slice ph L.length kh, .slice pi (k :: S).length ki]
            obtain ⟨bH, hbH⟩ : ∃ b, w7.heap.size = b := ⟨_, rfl⟩
            obtain ⟨w8, hw8⟩ : ∃ w8, w7.alloc (.cells #[.slice ph L.length kh, .slice pi (k :: S).length ki] 64) = w8 := ⟨_, rfl⟩
            rw [hw8] at T8 KW8 hv8 hh8 KH
            rw [hbH] at KH
            try rw [hw8]
            try rw [hbH]
            simp only [List.length_cons] at KH hh8
            try simp only [List.length_cons]
            obtain ⟨r0, r1⟩ := KW8.cells2
            obtain ⟨t0, t1⟩ := KH.cells2
            have HSm : Hid (∀ wx v1 v2 u1 u2, FrameAt wx v1 v2 ⟨L, k :: S⟩ → FrameAt wx u1 u2 ⟨L, k :: S⟩ → _) := fun wx v1 v2 u1 u2 h1 h2 => sameFrame_any ⟨L, k :: S⟩ ⟨L, k :: S⟩ v1 v2 u1 u2 wx h1 h2
            rw [decide_eq_true rfl] at HSm
            have HH8 := Lib.hid hh8
            have HV8 := Lib.hid hv8
            have HT8 := Lib.hid T8
            have HKH := Lib.hid KH
            have HKW8 := Lib.hid KW8
            have hb8 : Below w8.heap.size w8 (w8.alloc (.cells #[.string k] 9)).drew := ((Below.refl w8.heap.size w8).alloc (Nat.le_refl _) _).drew
            have ho8 : (w8.alloc (.cells #[.string k] 9)).drew.ownsRow w8.heap.size 9 1 (.slice (some ⟨w8.heap.size, 0, none⟩) 1 1) 1 [.string k] := ownsRow_one w8.drew w8.heap.size (.string k) (Nat.le_refl _)
            have hy8 := (hv8.mono hb8).2
            have hc63 : 1 + S.length ≤ maxLen := by unfold maxLen; omega
            have hc16 : (1 + S.length) * 16 ≤ 140737488355328 := by omega
            clear T8 KW8 hv8 hh8 KH hh hB6 hB7 hB78 hA7 hw8 HKW HVW HKD HTW HSx g8 hr2 hr
            go_region_held3 (fun w' => w'.cell? ⟨bH, 0, none⟩ = some (.slice ph L.length kh) ∧ w'.cell? ⟨bH, 1, none⟩ = some (.slice pi (S.length + 1) ki) ∧ w'.cell? ⟨gb, 0, none⟩ = some (.slice pa L.length ka) ∧ w'.cell? ⟨gb, 1, none⟩ = some (.slice pb S.length kb)) (go_keep)
              (first
                | (refine step_append_own_strs (by rfl) _ _ (by rfl) w8.heap.size (.slice (some ⟨_, 0, none⟩) 1 1) 1 [.string k] (by rfl) ho8 _ S (by rfl) hy8 hc63 hc16 hb8.size ?_; intro v9 w9 ho9 hg9; (have hB9 := hb8.grown hg9 hb8.size (fun g e => (ho8.lt g e).1)); obtain ⟨r0, r1⟩ := (HKW8.out.step hB9).cells2; obtain ⟨t0, t1⟩ := (HKH.out.step hB9).cells2; obtain ⟨vq, vd, rfl⟩ := ownsRow_shape ho9; (have hd9 : StrsAt w9 (.slice vq (1 + S.length) vd) (k :: S) := by rw [Nat.add_comm] at ho9 ⊢; exact strsAt_of_owns (l := k :: S) ho9); (have HSx := Lib.hid (HSm.out w9 _ _ _ _ (HH8.out.mono hB9) ⟨(HV8.out.mono hB9).1, hd9⟩)))
                | (go_at_call 32; (with_reducible refine HSx.out.mono ?_); rintro e w10 ⟨rfl, hB10⟩; obtain ⟨r0, r1⟩ := ((HKW8.out.step hB9).step hB10).cells2; obtain ⟨t0, t1⟩ := ((HKH.out.step hB9).step hB10).cells2))
            all_goals
              have HT10 := Lib.hid ((HT8.out.step hB9).step hB10)
              clear hB9 hB10 r0 r1 t0 t1 hd9 ho9 hg9 hy8 ho8 hb8 hc63 hc16
              go_wp2_with (first | fail)
              go_ret
              exact ⟨rfl, HT10.out.below⟩
  · have HNz := Lib.hid hz
    clear hz HSd HCd HFm HD
    go_enter Tryz.func7, Tryz.ntmps7
    go_wp2_with (first
      | (go_at_call 26; (with_reducible refine (HSt.out _ T0.below).mono ?_); rintro e w2 ⟨rfl, hB2⟩; (have T2 := T0.step hB2); obtain ⟨⟨q0, q1, q2, q3, q4, q5⟩, q6, q7⟩ := T2.get)
      | (go_at_call 31; (with_reducible refine (HSp.out _ T2.below).mono ?_); rintro e w3 ⟨hB3, ⟨hz, _⟩ | ⟨_, rfl⟩⟩; (exact absurd hz HNz.out)))
    go_ret
    exact ⟨rfl, ((T2.step hB3).alloc _).below⟩
end Go.Proofs.YtbakcdgjibmceaaGreatDoor
