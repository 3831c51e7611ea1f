/-
  WALK over the law HeapMakes. Conditions: as in XRead; texts of at most 4194304 signs.
-/
import Derived.Test.YtbakcdgjibmceaaGreatDoorHeapPut
namespace Go.Proofs.YtbakcdgjibmceaaGreatDoor
open Go.RowKit Go.Shelf Go.Lib
theorem same_is (k : Nat) (hk : k ≠ 0) (w : World) : Calls Tryz.prog 14 #[.iface 35 (.int .i64 k), .int .i64 k] w fun e w' => e = .returned (.bool true) ∧ w = w' := by
  have := error_any k k w
  rcases errV_cases k with ⟨_, h⟩ | ⟨h, _⟩
  · exact absurd h hk
  · rw [h, decide_eq_true rfl] at this; exact this
theorem same_ok (w : World) : Calls Tryz.prog 14 #[.nilIface, .int .i64 0] w fun e w' => e = .returned (.bool true) ∧ w = w' := error_any 0 0 w
theorem make_err {w w' : World} {f k : Nat} {h : List Thing} {x : Thing} {e : Ending} (hp : MakePost w f h x e w') (hf : f = k) (hk : k ≠ 0) : e = .returned (.tuple #[.agg #[.slice none 0 0], .int .i64 0, .iface 35 (.int .i64 k)]) ∧ Below w.heap.size w w' := by
  subst hf
  rcases hp with ⟨hB, ⟨h0, _⟩ | ⟨_, rfl⟩⟩
  · exact absurd h0 hk
  · exact ⟨rfl, hB⟩
theorem make_ok {w w' : World} {f : Nat} {h : List Thing} {x : Thing} {e : Ending} (hp : MakePost w f h x e w') (hf : f = 0) : (∃ gp gc, e = .returned (.tuple #[.agg #[.slice gp (h.length + 1) gc], .int .i64 ((h.length : Int) + 1), .nilIface]) ∧ ThingsAt w' (.slice gp (h.length + 1) gc) (h ++ [x])) ∧ Below w.heap.size w w' := by
  subst hf
  rcases hp with ⟨hB, ⟨_, v, rfl, hv⟩ | ⟨h0, _⟩⟩
  · obtain ⟨gp, gc, rfl, _⟩ := hv.open
    have hl : (h ++ [x]).length = h.length + 1 := by simp
    rw [hl] at hv ⊢
    exact ⟨⟨gp, gc, rfl, hv⟩, hB⟩
  · exact absurd rfl h0
theorem acell_lt {w : World} {a : Addr} {v : Value} (h : w.cell? a = some v) : a.block < w.heap.size := by
  cases hb : w.heap[a.block]? with
  | none => simp [World.cell?, hb] at h
  | some o => exact (Array.getElem?_eq_some_iff.1 hb).1
theorem wpList_put_things {w : World} {ops : Array Oper} {rest : List Oper} {o : Oper} {a : Act} {Q : Exit → Act → World → Prop} (hgd : o.guard = none) (s x : Operand)
    (ho : o.op = .call { callee := .builtin .append, args := #[s, x], argTypes := #[23, 23] })
    (base : Nat) (v : Value) (hs : a.eval s = v) (hown : w.ownsRow base 56 2 v 0 [])
    (p : Option Addr) (c n : Nat) (ps : List (Thing × Value)) (hn : n = ps.length) (hx : a.eval x = .slice p n c)
    (hp : (p = none ∧ ps = []) ∨ ∃ ad, p = some ad ∧ ∀ j u, (ps.flatMap thingVs)[j]? = some u → w.cell? (ad.add j) = some u) (h1 : ∀ q ∈ ps, q.2.oneCell' = true) (h63 : ps.length ≤ 8388608) (hc : p = none → c = 0) (hbase : base ≤ w.heap.size)
    (h : ∀ v' w', w'.ownsRow base 56 2 v' n (ps.flatMap thingVs) → w.grownBy w' v.ownBlock → wpList Tryz.prog ops Q rest (a.put o.dst v') w') :
    wpList Tryz.prog ops Q (o :: rest) a w := by
  subst hn
  exact wpList_append_things hgd s x ho base v hs hown p c ps hx hp h1 h63 hc hbase h
set_option maxHeartbeats 20000000 in
set_option maxRecDepth 100000 in
theorem heapMakes_any (l : List Class) (lv : Value) (h : List Thing) (hv : Value) (c k : Str) (n : Int) (w : World) (hl : Laid w) (ho : ∀ c ∈ l, ClassOk c) (hlv : ClassesAt w lv l) (hh : ThingsAt w hv h) (hS : Short h) (hc : c.size ≤ maxLen) (hk : k.size ≤ 4194304) :
    Calls Tryz.prog 5 #[lv, .agg #[hv], .string c, .string k, .int .i64 n] w fun e w' => e = .returned (.bool true) ∧ Below w.heap.size w w' := by
  have hkm : k.size ≤ maxLen := by unfold maxLen; omega
  have HHd : Hid (∀ wx, Below w.heap.size w wx → _) := fun wx hb => heaped_any wx (hl.mono hb hl.1)
  have HRf : Hid (∀ wx, Below w.heap.size w wx → _) := fun wx hb => refHeap_any l lv wx ho (hlv.mono hb) h hv (hh.mono hb) hS
  have HCO : Hid (∀ wx, Below w.heap.size w wx → _) := fun wx hb => refClassOf_any l lv c wx (hlv.mono hb)
  have HN0 : Hid (∀ wx, Below w.heap.size w wx → _) := fun wx hb => heapNew_any l lv h hv c wx (hl.mono hb hl.1) ho (hlv.mono hb) (hh.mono hb) hS hc
  have HA0 : Hid (∀ wx, Below w.heap.size w wx → _) := fun wx hb => heapArray_any l lv h hv k n wx (hl.mono hb hl.1) ho (hlv.mono hb) (hh.mono hb) hS hk
  have HTy : Hid (∀ wx, _) := fun wx => refIsType_any k wx hkm
  have HDe : Hid (∀ wx, _) := fun wx => refDeep_any k wx hkm
  have HKi : Hid (∀ wx, Below w.heap.size w wx → _) := fun wx hb => refKind_any l lv k wx (hlv.mono hb) hkm
  have HFr : Hid (heapFault l h = 0 → (findC (allC l) c).isSome = true → ∀ wx, Below w.heap.size w wx → Calls Tryz.prog 23 #[lv, .string c] wx (MadePost wx (freshT (allC l) c))) := fun h0 hq wx hb => refFresh_any l lv (right_of (heapFault_zero h0).1) (read_faults (heapFault_zero h0).1) wx (hlv.mono hb) c hq
  have HFa : Hid (∀ m : Nat, m ≤ 10 → ∀ wx, _) := fun m hm wx => refFreshA_any k m hm hk wx
  have HFo : Hid (heapFault l h = 0 → h.length ≤ 50) := fun h0 => (heap_zero (heapFault_zero h0).2).1
  rw [show k.data.toList = lst k from rfl] at HTy HDe
  unfold ClassGives at HCO
  have hcf : ((findC (allC l) c).getD noClass).face = (classC (allC l) c).face := rfl
  have hne := newR_chain l h c
  have hae := arrR_chain l h k n
  rw [← hcf] at hne
  have h50 : decide (50 ≤ h.length) = decide ((50 : Int) ≤ (h.length : Int)) := by rw [Bool.eq_iff_iff, decide_eq_true_iff, decide_eq_true_iff]; omega
  have h30 : decide (3 ≤ deepOf (lst k)) = decide ((3 : Int) ≤ ((deepOf (lst k) : Nat) : Int)) := by rw [Bool.eq_iff_iff, decide_eq_true_iff, decide_eq_true_iff]; omega
  rw [h50] at hne hae
  rw [h30] at hae
  clear h50 h30 hcf
  obtain ⟨pl, cap, rfl, _⟩ := hlv.open
  obtain ⟨ph, kh, rfl, _⟩ := hh.open
  obtain ⟨ps, hps, hpo, hpc⟩ := things_open hh
  have hpl : ps.length = h.length := by rw [← hps, List.length_map]
  have hp1 : ∀ q ∈ ps, q.2.oneCell' = true := fun q hq => (hpo q hq).one
  have hpz : ph = none → kh = 0 := by
    rcases hh with ⟨he, _⟩ | ⟨a, cap', he, _⟩
    · injection he with e1 _ e3; exact fun _ => e3
    · injection he with e1; intro h0; rw [h0] at e1; cases e1
  generalize (findC (allC l) c).getD noClass = d at *
  generalize hisk : (findC (allC l) c).isSome = isk at *
  generalize typeB (lst k) = tyb at *
  generalize deepOf (lst k) = dp at *
  generalize hf0 : heapFault l h = f0 at *
  generalize kindR (allC l) k = kr at *
  generalize newR l h c = E at *
  generalize arrR l h k n = F at *
  generalize hxf : freshT (allC l) c = xf at *
  obtain ⟨n2, s2, fc2, b2, d2, m2⟩ := d
  dsimp only at HCO hne
  obtain ⟨g5, hg5⟩ : ∃ b, decide ((50 : Int) ≤ (h.length : Int)) = b := ⟨_, rfl⟩
  obtain ⟨g3, hg3⟩ : ∃ b, decide ((3 : Int) ≤ (dp : Int)) = b := ⟨_, rfl⟩
  obtain ⟨gn1, hn1⟩ : ∃ b, decide (n < 0) = b := ⟨_, rfl⟩
  obtain ⟨gn2, hn2⟩ : ∃ b, decide (10 < n) = b := ⟨_, rfl⟩
  rw [hg5] at hne hae
  rw [hg3, hn1, hn2] at hae
  have BX := Lib.hid (boxed_new w #[.slice ph h.length kh] 25)
  have HPs := Lib.hid hps
  have HPo := Lib.hid hpo
  have HPc := Lib.hid hpc
  have HP1 := Lib.hid hp1
  have HPz := Lib.hid hpz
  have HPl := Lib.hid hpl
  clear hl ho hlv hh hS hps hpo hpc hp1 hpz hpl hc hk hkm hisk hf0 hxf
  by_cases hz0 : f0 = 0
  · subst hz0
    cases isk
    · skip
      cases tyb
      · skip
        have hE : E = 3 := by rw [hne]; simp [step1]
        have hF : F = 1 := by rw [hae]; rfl
        have HNw : Hid (∀ wx, Below w.heap.size w wx → Calls Tryz.prog 21 #[.slice pl l.length cap, .agg #[.slice ph h.length kh], .string c] wx fun e w' => e = .returned (.tuple #[.agg #[.slice none 0 0], .int .i64 0, .iface 35 (.int .i64 3)]) ∧ Below wx.heap.size wx w') := fun wx hb => (HN0.out wx hb).mono fun e w' hp => make_err hp hE (by decide)
        have HAw : Hid (∀ wx, Below w.heap.size w wx → Calls Tryz.prog 22 #[.slice pl l.length cap, .agg #[.slice ph h.length kh], .string k, .int .i64 n] wx fun e w' => e = .returned (.tuple #[.agg #[.slice none 0 0], .int .i64 0, .iface 35 (.int .i64 1)]) ∧ Below wx.heap.size wx w') := fun wx hb => (HA0.out wx hb).mono fun e w' hp => make_err hp hF (by decide)
        have HEe : Hid (∀ wx, Calls Tryz.prog 14 #[.iface 35 (.int .i64 3), .int .i64 3] wx fun e w' => e = .returned (.bool true) ∧ wx = w') := fun wx => same_is 3 (by decide) wx
        have HEf : Hid (∀ wx, Calls Tryz.prog 14 #[.iface 35 (.int .i64 1), .int .i64 1] wx fun e w' => e = .returned (.bool true) ∧ wx = w') := fun wx => same_is 1 (by decide) wx
        clear hE hF HN0 HA0 HFr HFa HFo hne hae
        go_enter Tryz.func5, Tryz.ntmps5
        have HSh : Hid (∀ wx, _) := fun wx => heapSame_any [] (.slice none 0 0) (.slice none 0 0) wx (Or.inl ⟨rfl, rfl⟩) (Or.inl ⟨rfl, rfl⟩)
        go_wp2_with (first
            | (go_at_call 10; (with_reducible refine (HHd.out _ BX.out.below).mono ?_); rintro e w2 ⟨rfl, hB2⟩; (have BX2 := BX.out.step hB2); (have q2 := boxed1 BX2))
            | (go_at_call 13; (with_reducible refine (HRf.out _ BX2.below).mono ?_); rintro e w3 ⟨rfl, hB3⟩; (have BX3 := BX2.step hB3); (have q3 := boxed1 BX3))
            | (go_at_call 19; (with_reducible refine (HCO.out _ BX3.below).mono ?_); rintro e w4 ⟨pf, kf, pd, kd, pm, km, rfl, _, _, _, hB4, _⟩; (have BX5 := (BX3.step hB4).alloc (.cells #[.string n2, .string s2, .slice pf fc2.length kf, .bool b2, .slice pd d2.length kd, .slice pm m2.length km] 47)); (have q4 := boxed1 BX5))
            | (go_at_call 16; (with_reducible refine (HTy.out _).mono ?_); rintro e w5 ⟨rfl, rfl⟩)
            | (go_at_call 20; (with_reducible refine (HDe.out _).mono ?_); rintro e w5 ⟨rfl, rfl⟩)
            | (go_at_call 21; (with_reducible refine (HNw.out _ BX5.below).mono ?_); rintro e w7 ⟨rfl, hB7⟩; (have BX7 := (BX5.step hB7).alloc (.cells #[.slice none 0 0] 25)); (have q7 := boxed1 BX7); (have kg7 := Blk.new w7 25 [(.slice none 0 0)]); (have bl7q : w.heap.size < w7.heap.size := hcells_lt (boxed1 (BX5.step hB7))); (have bl7 := (Below.refl w7.heap.size w7).alloc (Nat.le_refl _) (.cells #[.slice none 0 0] 25)))
            | (go_at_call 22; (with_reducible refine (HAw.out _ BX7.below).mono ?_); rintro e w8 ⟨rfl, hB8⟩; (have BX8 := (BX7.step hB8).alloc (.cells #[.slice none 0 0] 25)); (have q8 := boxed1 BX8); (have kg8 := (kg7.step hB8).step ((Below.refl _ _).alloc (Nat.le_refl _) (.cells #[.slice none 0 0] 25))); (have kj8 := Blk.new w8 25 [(.slice none 0 0)]); (have al1 := (Below.refl (w8.alloc (.cells #[.slice none 0 0] 25)).heap.size (w8.alloc (.cells #[.slice none 0 0] 25))).alloc (Nat.le_refl _) (.cells #[.slice none 0 0] 25)); (have al2 := (Below.refl ((w8.alloc (.cells #[.slice none 0 0] 25)).alloc (.cells #[.slice none 0 0] 25)).heap.size ((w8.alloc (.cells #[.slice none 0 0] 25)).alloc (.cells #[.slice none 0 0] 25))).alloc (Nat.le_refl _) (.cells #[.slice none 0 0] 25)); (have al0 := (Below.refl w8.heap.size w8).alloc (Nat.le_refl _) (.cells #[.slice none 0 0] 25)); (have bl89 := below_call (below_call al0 (Nat.le_refl _) al1) (Nat.le_refl _) al2); (have bl79 := below_call (below_call bl7 (Nat.le_refl _) hB8) (Nat.le_refl _) bl89); (have BX9 := (BX8.step al1).step al2); (have kg9 := (kg8.step al1).step al2); (have kj9 := (kj8.step al1).step al2); (have kx9' := (Blk.new (w8.alloc (.cells #[.slice none 0 0] 25)) 25 [.slice none 0 0]).step al2); (have ky9' := Blk.new ((w8.alloc (.cells #[.slice none 0 0] 25)).alloc (.cells #[.slice none 0 0] 25)) 25 [.slice none 0 0]); (have sz8 : (w8.alloc (.cells #[.slice none 0 0] 25)).heap.size = w8.heap.size + 1 := by simp); (have sz9 : ((w8.alloc (.cells #[.slice none 0 0] 25)).alloc (.cells #[.slice none 0 0] 25)).heap.size = w8.heap.size + 1 + 1 := by simp); (have kx9 := sz8 ▸ kx9'); (have ky9 := sz9 ▸ ky9'); clear kx9' ky9' al0 al1 al2; (have q9 := boxed1 BX9); (have r0 := kg9.cell 0))
            | (go_at_call 14; (with_reducible refine (HEe.out _).mono ?_); rintro e w9 ⟨rfl, rfl⟩)
            | (go_at_call 14; (with_reducible refine (HEf.out _).mono ?_); rintro e w9 ⟨rfl, rfl⟩)
            | (go_at_call 25; (with_reducible refine (HSh.out _).mono ?_); rintro e w11 ⟨rfl, hB11'⟩; (have hB11 := below_call BX9.below (Nat.le_refl _) hB11'); (have kg11 := kg9.step hB11'); (have kj11 := kj9.step hB11'); (have kx11 := kx9.step hB11'); (have ky11 := ky9.step hB11'); (have s0 : w11.cell? ⟨w8.heap.size, 0, none⟩ = some (.slice none 0 0) := kj11.cell 0); (have s1 : w11.cell? ⟨w8.heap.size + 1, 0, none⟩ = some (.slice none 0 0) := kx11.cell 0); (have s2 : w11.cell? ⟨w8.heap.size + 1 + 1, 0, none⟩ = some (.slice none 0 0) := ky11.cell 0); clear HSh; (have HSh2 : Hid (∀ wx, _) := fun wx => heapSame_any [] (.slice none 0 0) (.slice none 0 0) wx (Or.inl ⟨rfl, rfl⟩) (Or.inl ⟨rfl, rfl⟩)))
            | (go_at_call 25; (with_reducible refine (HSh2.out _).mono ?_); rintro e w12 ⟨rfl, hB12⟩; (have kx12 := kx11.step hB12); (have ky12 := ky11.step hB12); (have u1 : w12.cell? ⟨w8.heap.size + 1, 0, none⟩ = some (.slice none 0 0) := kx12.cell 0); (have u2 : w12.cell? ⟨w8.heap.size + 1 + 1, 0, none⟩ = some (.slice none 0 0) := ky12.cell 0)))
        go_ret
        exact ⟨rfl, below_call hB11 (Nat.le_refl _) hB12⟩
      · cases g3
        · by_cases hk0 : kr = 0
          · subst hk0
            cases gn1
            · cases gn2
              · obtain ⟨m, rfl⟩ : ∃ m : Nat, n = (m : Int) := ⟨n.toNat, by have := of_decide_eq_false hn1; omega⟩
                have hm10 : m ≤ 10 := by have := of_decide_eq_false hn2; omega
                cases g5
                · skip
                  have hE : E = 3 := by rw [hne]; simp [step1]
                  have hF : F = 0 := by rw [hae]; rfl
                  have HNw : Hid (∀ wx, Below w.heap.size w wx → Calls Tryz.prog 21 #[.slice pl l.length cap, .agg #[.slice ph h.length kh], .string c] wx fun e w' => e = .returned (.tuple #[.agg #[.slice none 0 0], .int .i64 0, .iface 35 (.int .i64 3)]) ∧ Below wx.heap.size wx w') := fun wx hb => (HN0.out wx hb).mono fun e w' hp => make_err hp hE (by decide)
                  have HAw : Hid (∀ wx, Below w.heap.size w wx → _) := fun wx hb => (HA0.out wx hb).mono fun e w' hp => make_ok hp hF
                  have HEe : Hid (∀ wx, Calls Tryz.prog 14 #[.iface 35 (.int .i64 3), .int .i64 3] wx fun e w' => e = .returned (.bool true) ∧ wx = w') := fun wx => same_is 3 (by decide) wx
                  have HEf := Lib.hid same_ok
                  have HFy : Hid (∀ wx, _) := HFa.out m hm10
                  rw [Int.toNat_natCast] at HAw
                  generalize freshA k m = xa at HFy HAw
                  have h51 := HFo.out rfl
                  obtain ⟨i0, hi, hz1, hz2, hz3⟩ := info_parts info_thing
                  clear hE hF HN0 HA0 HFr HFa HFo hne hae
                  go_enter Tryz.func5, Tryz.ntmps5
                  go_upto_region 27 with (first
                      | (go_at_call 10; (with_reducible refine (HHd.out _ BX.out.below).mono ?_); rintro e w2 ⟨rfl, hB2⟩; (have BX2 := BX.out.step hB2); (have q2 := boxed1 BX2))
                      | (go_at_call 13; (with_reducible refine (HRf.out _ BX2.below).mono ?_); rintro e w3 ⟨rfl, hB3⟩; (have BX3 := BX2.step hB3); (have q3 := boxed1 BX3))
                      | (go_at_call 19; (with_reducible refine (HCO.out _ BX3.below).mono ?_); rintro e w4 ⟨pf, kf, pd, kd, pm, km, rfl, _, _, _, hB4, _⟩; (have BX5 := (BX3.step hB4).alloc (.cells #[.string n2, .string s2, .slice pf fc2.length kf, .bool b2, .slice pd d2.length kd, .slice pm m2.length km] 47)); (have q4 := boxed1 BX5))
                      | (go_at_call 16; (with_reducible refine (HTy.out _).mono ?_); rintro e w5 ⟨rfl, rfl⟩)
                      | (go_at_call 20; (with_reducible refine (HDe.out _).mono ?_); rintro e w5 ⟨rfl, rfl⟩)
                      | (go_at_call 17; (with_reducible refine (HKi.out _ BX5.below).mono ?_); rintro e w6 ⟨rfl, hB6⟩; (have BX6 := BX5.step hB6); (have q6 := boxed1 BX6))
                      | (go_at_call 21; (with_reducible refine (HNw.out _ BX6.below).mono ?_); rintro e w7 ⟨rfl, hB7⟩; (have BX7 := (BX6.step hB7).alloc (.cells #[.slice none 0 0] 25)); (have q7 := boxed1 BX7); (have kg7 := Blk.new w7 25 [(.slice none 0 0)]); (have bl7q : w.heap.size < w7.heap.size := hcells_lt (boxed1 (BX6.step hB7))); (have bl7 := (Below.refl w7.heap.size w7).alloc (Nat.le_refl _) (.cells #[.slice none 0 0] 25)))
                      | (go_at_call 22; (with_reducible refine (HAw.out _ BX7.below).mono ?_); rintro e w8 ⟨⟨jp, jc, rfl, hj⟩, hB8⟩; (have BX8 := (BX7.step hB8).alloc (.cells #[.slice jp (h.length + 1) jc] 25)); (have q8 := boxed1 BX8); (have kg8 := (kg7.step hB8).step ((Below.refl _ _).alloc (Nat.le_refl _) (.cells #[.slice jp (h.length + 1) jc] 25))); (have kj8 := Blk.new w8 25 [(.slice jp (h.length + 1) jc)]); (have al1 := (Below.refl (w8.alloc (.cells #[.slice jp (h.length + 1) jc] 25)).heap.size (w8.alloc (.cells #[.slice jp (h.length + 1) jc] 25))).alloc (Nat.le_refl _) (.cells #[.slice none 0 0] 25)); (have al2 := (Below.refl ((w8.alloc (.cells #[.slice jp (h.length + 1) jc] 25)).alloc (.cells #[.slice none 0 0] 25)).heap.size ((w8.alloc (.cells #[.slice jp (h.length + 1) jc] 25)).alloc (.cells #[.slice none 0 0] 25))).alloc (Nat.le_refl _) (.cells #[.slice none 0 0] 25)); (have al0 := (Below.refl w8.heap.size w8).alloc (Nat.le_refl _) (.cells #[.slice jp (h.length + 1) jc] 25)); (have bl89 := below_call (below_call al0 (Nat.le_refl _) al1) (Nat.le_refl _) al2); (have bl79 := below_call (below_call bl7 (Nat.le_refl _) hB8) (Nat.le_refl _) bl89); (have BX9 := (BX8.step al1).step al2); (have kg9 := (kg8.step al1).step al2); (have kj9 := (kj8.step al1).step al2); (have kx9' := (Blk.new (w8.alloc (.cells #[.slice jp (h.length + 1) jc] 25)) 25 [.slice none 0 0]).step al2); (have ky9' := Blk.new ((w8.alloc (.cells #[.slice jp (h.length + 1) jc] 25)).alloc (.cells #[.slice none 0 0] 25)) 25 [.slice none 0 0]); (have sz8 : (w8.alloc (.cells #[.slice jp (h.length + 1) jc] 25)).heap.size = w8.heap.size + 1 := by simp); (have sz9 : ((w8.alloc (.cells #[.slice jp (h.length + 1) jc] 25)).alloc (.cells #[.slice none 0 0] 25)).heap.size = w8.heap.size + 1 + 1 := by simp); (have kx9 := sz8 ▸ kx9'); (have ky9 := sz9 ▸ ky9'); clear kx9' ky9' al0 al1 al2; (have q9 := boxed1 BX9); (have r0 := kg9.cell 0))
                      | (go_at_call 14; (with_reducible refine (HEe.out _).mono ?_); rintro e w9 ⟨rfl, rfl⟩)
                      | (go_at_call 14; (with_reducible refine (HEf.out _).mono ?_); rintro e w9 ⟨rfl, rfl⟩))
                  obtain ⟨W, hW⟩ : ∃ W, W = ((w8.alloc (.cells #[.slice jp (h.length + 1) jc] 25)).alloc (.cells #[.slice none 0 0] 25)).alloc (.cells #[.slice none 0 0] 25) := ⟨_, rfl⟩
                  have hWs : w8.heap.size + 1 + 1 < W.heap.size := by rw [hW]; simp
                  rw [← hW] at BX9 kg9 kj9 kx9 ky9 bl79 bl89 q9 ⊢
                  have bW := BX9.below
                  have qW := boxed1 BX9
                  have bl7s := bl7q
                  have bl78s : w7.heap.size < w8.heap.size := Nat.lt_of_lt_of_le (by simp) hB8.size
                  clear hW q9 r0 BX9 BX8 BX7 kg7 kg8 kj8 q7 q8 bl7 hB8 hB7 sz8 sz9 HNw HAw HEe HEf HHd HRf HCO HKi HTy HDe
                  skip
                  have hq : ∀ wz, Below w.heap.size w wz → True := fun _ _ => trivial
                  have madey := World.ownsRow_made (base := W.heap.size) (e := 56) (size := 2) W #[] 0 (Nat.le_refl _) (Nat.zero_le _) rfl
                  have bmy := below_call bW (Nat.le_refl _) ((Below.refl W.heap.size W).alloc (Nat.le_refl _) (.cells #[] 56))
                  have cmy : (ph = none ∧ ps = []) ∨ ∃ ad, ph = some ad ∧ ∀ j u, (ps.flatMap thingVs)[j]? = some u → (W.alloc (.cells #[] 56)).cell? (ad.add j) = some u := HPc.out.imp id (fun ⟨ad, e, hc⟩ => ⟨ad, e, fun j u hj => (bmy.cell (p := ad.add j) (acell_lt (hc j u hj))).trans (hc j u hj)⟩)
                  have h8y : ps.length ≤ 8388608 := by rw [HPl.out]; omega
                  have hbsy : W.heap.size ≤ (W.alloc (.cells #[] 56)).heap.size := by simp
                  have qby := Lib.cell?_alloc_some (.cells #[] 56) qW
                  go_upto_region 31 with (first
                      | (at_builtin; refine wpList_put_things rfl _ _ rfl W.heap.size _ rfl madey ph kh h.length ps HPl.out.symm rfl cmy HP1.out h8y HPz.out hbsy ?_; intro vy9 wy9 howny9 hgy9; obtain ⟨py9, ccy9, rfl⟩ := ownsRow_shape howny9; (have hBy9 := ((Below.refl W.heap.size W).alloc (Nat.le_refl _) (.cells #[] 56)).grown hgy9 hbsy (fun g e => (madey.lt _ e).1)); (have bwy9 := below_call bW (Nat.le_refl _) hBy9))
                      | (go_at_call 24; (with_reducible refine (HFy.out _).mono ?_); rintro e wy10 ⟨⟨fpy, fky, rfl, hfy, hfry⟩, hBy10⟩; (have howny10 := ownsRow_belowk howny9 hBy10); (have hly8 : h.length ≤ 8388608 := by omega); (have hbty : W.heap.size ≤ wy10.heap.size := Nat.le_trans hBy9.size hBy10.size))
                      | (at_builtin; refine wpList_append_thing rfl _ _ rfl W.heap.size _ _ _ rfl howny10 xa.type (.slice fpy xa.has.length fky) rfl wy10.heap.size rfl rfl hly8 hbty ?_; intro vy11 wy11 howny11 hgy11; obtain ⟨gy, cy, rfl, _⟩ := World.ownsRow.form howny11 (Nat.succ_pos _); (have aly := (Below.refl wy10.heap.size wy10).alloc (Nat.le_refl _) (.cells #[.string xa.type, .slice fpy xa.has.length fky] 56)); (have hBy11 := (below_call (below_call hBy9 (Nat.le_refl _) hBy10) (Nat.le_refl _) aly).grown hgy11 (Nat.le_trans hbty aly.size) (fun g e => (howny9.lt _ e).1)); (have kby := ky9.step hBy11); (have ey8 : wy11.cell? ⟨w8.heap.size + 1 + 1, 0, none⟩ = some (.slice none 0 0) := kby.cell 0); (have fy8 := kby.frozen 0)))
                  obtain ⟨Wy, hWy⟩ : ∃ Wy, Wy = wy11.setCell ⟨w8.heap.size + 1 + 1, 0, none⟩ (.slice (some ⟨gy, 0, none⟩) (h.length + 1) cy) := ⟨_, rfl⟩
                  have sWy : Wy.heap.size = wy11.heap.size := by rw [hWy]; simp
                  have oWy : ∀ b, b ≠ w8.heap.size + 1 + 1 → Wy.heap[b]? = wy11.heap[b]? := fun b hb => by rw [hWy]; exact heap_setCell_other wy11 ⟨w8.heap.size + 1 + 1, 0, none⟩ b _ hb
                  have kgWy : Blk Wy (w7.heap.size) 25 [(.slice none 0 0)] := (oWy _ (by have := bl78s; omega)).trans (kg9.step hBy11)
                  have kjWy : Blk Wy (w8.heap.size) 25 [(.slice jp (h.length + 1) jc)] := (oWy _ (by have := bl78s; omega)).trans (kj9.step hBy11)
                  have kxWy : Blk Wy (w8.heap.size + 1) 25 [(.slice none 0 0)] := (oWy _ (by have := bl78s; omega)).trans (kx9.step hBy11)
                  have kyWy : Blk Wy (w8.heap.size + 1 + 1) 25 [(.slice (some ⟨gy, 0, none⟩) (h.length + 1) cy)] := by rw [hWy]; exact kby.store1 _
                  have bwWy : Below w.heap.size w Wy := by rw [hWy]; exact (below_call bW (Nat.le_refl _) hBy11).setCell (p := ⟨w8.heap.size + 1 + 1, 0, none⟩) (by show w.heap.size ≤ w8.heap.size + 1 + 1; have := bl7s; have := bl78s; omega) _
                  have b7Wy : Below w7.heap.size w7 Wy := by rw [hWy]; exact (below_call bl79 (Nat.le_refl _) hBy11).setCell (p := ⟨w8.heap.size + 1 + 1, 0, none⟩) (by show w7.heap.size ≤ w8.heap.size + 1 + 1; have := bl78s; omega) _
                  have b8Wy : Below w8.heap.size w8 Wy := by rw [hWy]; exact (below_call bl89 (Nat.le_refl _) hBy11).setCell (p := ⟨w8.heap.size + 1 + 1, 0, none⟩) (by show w8.heap.size ≤ w8.heap.size + 1 + 1; omega) _
                  have hTy : ∀ wz, Below w.heap.size w wz → (∀ b, W.heap.size ≤ b → b < Wy.heap.size → wz.heap[b]? = Wy.heap[b]?) → ThingsAt wz (.slice (some ⟨gy, 0, none⟩) (h.length + 1) cy) (h ++ [xa]) := fun wz hwz hag => put_step HPs.out HPo.out howny9 hfy hfry howny11 HPl.out.symm hgy11 hBy9.size hwz (fun b h1 h2 => (hag b h1 (by rw [sWy]; exact h2)).trans (oWy b (by have := hWs; omega)))
                  have qWy : Wy.cell? ⟨w.heap.size, 0, none⟩ = some (.slice ph h.length kh) := (World.cell?_of_block (a := ⟨w.heap.size, 0, none⟩) (oWy w.heap.size (by have := bl7s; have := bl78s; omega))).trans ((hBy11.cell (p := ⟨w.heap.size, 0, none⟩) (hcells_lt qW)).trans qW)
                  have hsWy : w8.heap.size + 1 + 1 < Wy.heap.size := by rw [sWy]; exact Nat.lt_of_lt_of_le hWs hBy11.size
                  have hzWy : W.heap.size ≤ Wy.heap.size := by rw [sWy]; exact hBy11.size
                  have hagWy : ∀ b, b < W.heap.size → b ≠ w8.heap.size + 1 + 1 → Wy.heap[b]? = W.heap[b]? := fun b h1 h2 => (oWy b h2).trans (hBy11.block b h1)
                  rw [← hWy]
                  replace hTy := Lib.hid hTy
                  replace hagWy := Lib.hid hagWy
                  clear sWy oWy hWy ey8 fy8 kby howny9 howny10 howny11 hgy9 hgy11 hfy hfry hBy9 hBy10 hBy11 aly madey cmy bmy bwy9 qby qW kg9 kj9 kx9 ky9 bW bl79 bl89
                  have tx : ThingsAt Wy (.slice none 0 0) [] := Or.inl ⟨rfl, rfl⟩
                  have tg : ThingsAt Wy (.slice none 0 0) [] := Or.inl ⟨rfl, rfl⟩
                  have ty := hTy.out Wy bwWy (fun b h1 h2 => rfl)
                  have tj := hj.mono b8Wy
                  have HS1 := Lib.hid (heapSame_any _ _ _ Wy tg tx)
                  have HS2 : Hid (∀ wz, Below Wy.heap.size Wy wz → _) := fun wz hb => heapSame_any _ _ _ wz (tj.mono hb) (ty.mono hb)
                  have z0 : Wy.cell? ⟨w7.heap.size, 0, none⟩ = some (.slice none 0 0) := kgWy.cell 0
                  have z1 : Wy.cell? ⟨w8.heap.size + 1, 0, none⟩ = some (.slice none 0 0) := kxWy.cell 0
                  clear tx tg ty tj
                  go_wp2_with (first
                      | (go_at_call 25; (with_reducible refine HS1.out.mono ?_); rintro e w21 ⟨rfl, hB21⟩; (have y0 : w21.cell? ⟨w8.heap.size, 0, none⟩ = some (.slice jp (h.length + 1) jc) := (kjWy.step hB21).cell 0); (have y1 : w21.cell? ⟨w8.heap.size + 1 + 1, 0, none⟩ = some (.slice (some ⟨gy, 0, none⟩) (h.length + 1) cy) := (kyWy.step hB21).cell 0); clear HS1)
                      | (go_at_call 25; (with_reducible refine (HS2.out _ hB21).mono ?_); rintro e w22 ⟨rfl, hB22⟩; (have u0 : w22.cell? ⟨w8.heap.size + 1, 0, none⟩ = some (.slice none 0 0) := ((kxWy.step hB21).step hB22).cell 0); (have u1 : w22.cell? ⟨w8.heap.size + 1 + 1, 0, none⟩ = some (.slice (some ⟨gy, 0, none⟩) (h.length + 1) cy) := ((kyWy.step hB21).step hB22).cell 0)))
                  go_ret
                  exact ⟨rfl, below_call (below_call bwWy (Nat.le_refl _) hB21) (Nat.le_refl _) hB22⟩
                · skip
                  have hE : E = 3 := by rw [hne]; simp [step1]
                  have hF : F = 4 := by rw [hae]; rfl
                  have HNw : Hid (∀ wx, Below w.heap.size w wx → Calls Tryz.prog 21 #[.slice pl l.length cap, .agg #[.slice ph h.length kh], .string c] wx fun e w' => e = .returned (.tuple #[.agg #[.slice none 0 0], .int .i64 0, .iface 35 (.int .i64 3)]) ∧ Below wx.heap.size wx w') := fun wx hb => (HN0.out wx hb).mono fun e w' hp => make_err hp hE (by decide)
                  have HAw : Hid (∀ wx, Below w.heap.size w wx → Calls Tryz.prog 22 #[.slice pl l.length cap, .agg #[.slice ph h.length kh], .string k, .int .i64 (m : Int)] wx fun e w' => e = .returned (.tuple #[.agg #[.slice none 0 0], .int .i64 0, .iface 35 (.int .i64 4)]) ∧ Below wx.heap.size wx w') := fun wx hb => (HA0.out wx hb).mono fun e w' hp => make_err hp hF (by decide)
                  have HEe : Hid (∀ wx, Calls Tryz.prog 14 #[.iface 35 (.int .i64 3), .int .i64 3] wx fun e w' => e = .returned (.bool true) ∧ wx = w') := fun wx => same_is 3 (by decide) wx
                  have HEf : Hid (∀ wx, Calls Tryz.prog 14 #[.iface 35 (.int .i64 4), .int .i64 4] wx fun e w' => e = .returned (.bool true) ∧ wx = w') := fun wx => same_is 4 (by decide) wx
                  clear hE hF HN0 HA0 HFr HFa HFo hne hae
                  go_enter Tryz.func5, Tryz.ntmps5
                  have HSh : Hid (∀ wx, _) := fun wx => heapSame_any [] (.slice none 0 0) (.slice none 0 0) wx (Or.inl ⟨rfl, rfl⟩) (Or.inl ⟨rfl, rfl⟩)
                  go_wp2_with (first
                      | (go_at_call 10; (with_reducible refine (HHd.out _ BX.out.below).mono ?_); rintro e w2 ⟨rfl, hB2⟩; (have BX2 := BX.out.step hB2); (have q2 := boxed1 BX2))
                      | (go_at_call 13; (with_reducible refine (HRf.out _ BX2.below).mono ?_); rintro e w3 ⟨rfl, hB3⟩; (have BX3 := BX2.step hB3); (have q3 := boxed1 BX3))
                      | (go_at_call 19; (with_reducible refine (HCO.out _ BX3.below).mono ?_); rintro e w4 ⟨pf, kf, pd, kd, pm, km, rfl, _, _, _, hB4, _⟩; (have BX5 := (BX3.step hB4).alloc (.cells #[.string n2, .string s2, .slice pf fc2.length kf, .bool b2, .slice pd d2.length kd, .slice pm m2.length km] 47)); (have q4 := boxed1 BX5))
                      | (go_at_call 16; (with_reducible refine (HTy.out _).mono ?_); rintro e w5 ⟨rfl, rfl⟩)
                      | (go_at_call 20; (with_reducible refine (HDe.out _).mono ?_); rintro e w5 ⟨rfl, rfl⟩)
                      | (go_at_call 17; (with_reducible refine (HKi.out _ BX5.below).mono ?_); rintro e w6 ⟨rfl, hB6⟩; (have BX6 := BX5.step hB6); (have q6 := boxed1 BX6))
                      | (go_at_call 21; (with_reducible refine (HNw.out _ BX6.below).mono ?_); rintro e w7 ⟨rfl, hB7⟩; (have BX7 := (BX6.step hB7).alloc (.cells #[.slice none 0 0] 25)); (have q7 := boxed1 BX7); (have kg7 := Blk.new w7 25 [(.slice none 0 0)]); (have bl7q : w.heap.size < w7.heap.size := hcells_lt (boxed1 (BX6.step hB7))); (have bl7 := (Below.refl w7.heap.size w7).alloc (Nat.le_refl _) (.cells #[.slice none 0 0] 25)))
                      | (go_at_call 22; (with_reducible refine (HAw.out _ BX7.below).mono ?_); rintro e w8 ⟨rfl, hB8⟩; (have BX8 := (BX7.step hB8).alloc (.cells #[.slice none 0 0] 25)); (have q8 := boxed1 BX8); (have kg8 := (kg7.step hB8).step ((Below.refl _ _).alloc (Nat.le_refl _) (.cells #[.slice none 0 0] 25))); (have kj8 := Blk.new w8 25 [(.slice none 0 0)]); (have al1 := (Below.refl (w8.alloc (.cells #[.slice none 0 0] 25)).heap.size (w8.alloc (.cells #[.slice none 0 0] 25))).alloc (Nat.le_refl _) (.cells #[.slice none 0 0] 25)); (have al2 := (Below.refl ((w8.alloc (.cells #[.slice none 0 0] 25)).alloc (.cells #[.slice none 0 0] 25)).heap.size ((w8.alloc (.cells #[.slice none 0 0] 25)).alloc (.cells #[.slice none 0 0] 25))).alloc (Nat.le_refl _) (.cells #[.slice none 0 0] 25)); (have al0 := (Below.refl w8.heap.size w8).alloc (Nat.le_refl _) (.cells #[.slice none 0 0] 25)); (have bl89 := below_call (below_call al0 (Nat.le_refl _) al1) (Nat.le_refl _) al2); (have bl79 := below_call (below_call bl7 (Nat.le_refl _) hB8) (Nat.le_refl _) bl89); (have BX9 := (BX8.step al1).step al2); (have kg9 := (kg8.step al1).step al2); (have kj9 := (kj8.step al1).step al2); (have kx9' := (Blk.new (w8.alloc (.cells #[.slice none 0 0] 25)) 25 [.slice none 0 0]).step al2); (have ky9' := Blk.new ((w8.alloc (.cells #[.slice none 0 0] 25)).alloc (.cells #[.slice none 0 0] 25)) 25 [.slice none 0 0]); (have sz8 : (w8.alloc (.cells #[.slice none 0 0] 25)).heap.size = w8.heap.size + 1 := by simp); (have sz9 : ((w8.alloc (.cells #[.slice none 0 0] 25)).alloc (.cells #[.slice none 0 0] 25)).heap.size = w8.heap.size + 1 + 1 := by simp); (have kx9 := sz8 ▸ kx9'); (have ky9 := sz9 ▸ ky9'); clear kx9' ky9' al0 al1 al2; (have q9 := boxed1 BX9); (have r0 := kg9.cell 0))
                      | (go_at_call 14; (with_reducible refine (HEe.out _).mono ?_); rintro e w9 ⟨rfl, rfl⟩)
                      | (go_at_call 14; (with_reducible refine (HEf.out _).mono ?_); rintro e w9 ⟨rfl, rfl⟩)
                      | (go_at_call 25; (with_reducible refine (HSh.out _).mono ?_); rintro e w11 ⟨rfl, hB11'⟩; (have hB11 := below_call BX9.below (Nat.le_refl _) hB11'); (have kg11 := kg9.step hB11'); (have kj11 := kj9.step hB11'); (have kx11 := kx9.step hB11'); (have ky11 := ky9.step hB11'); (have s0 : w11.cell? ⟨w8.heap.size, 0, none⟩ = some (.slice none 0 0) := kj11.cell 0); (have s1 : w11.cell? ⟨w8.heap.size + 1, 0, none⟩ = some (.slice none 0 0) := kx11.cell 0); (have s2 : w11.cell? ⟨w8.heap.size + 1 + 1, 0, none⟩ = some (.slice none 0 0) := ky11.cell 0); clear HSh; (have HSh2 : Hid (∀ wx, _) := fun wx => heapSame_any [] (.slice none 0 0) (.slice none 0 0) wx (Or.inl ⟨rfl, rfl⟩) (Or.inl ⟨rfl, rfl⟩)))
                      | (go_at_call 25; (with_reducible refine (HSh2.out _).mono ?_); rintro e w12 ⟨rfl, hB12⟩; (have kx12 := kx11.step hB12); (have ky12 := ky11.step hB12); (have u1 : w12.cell? ⟨w8.heap.size + 1, 0, none⟩ = some (.slice none 0 0) := kx12.cell 0); (have u2 : w12.cell? ⟨w8.heap.size + 1 + 1, 0, none⟩ = some (.slice none 0 0) := ky12.cell 0)))
                  go_ret
                  exact ⟨rfl, below_call hB11 (Nat.le_refl _) hB12⟩
              · skip
                have hE : E = 3 := by rw [hne]; simp [step1]
                have hF : F = 2 := by rw [hae]; rfl
                have HNw : Hid (∀ wx, Below w.heap.size w wx → Calls Tryz.prog 21 #[.slice pl l.length cap, .agg #[.slice ph h.length kh], .string c] wx fun e w' => e = .returned (.tuple #[.agg #[.slice none 0 0], .int .i64 0, .iface 35 (.int .i64 3)]) ∧ Below wx.heap.size wx w') := fun wx hb => (HN0.out wx hb).mono fun e w' hp => make_err hp hE (by decide)
                have HAw : Hid (∀ wx, Below w.heap.size w wx → Calls Tryz.prog 22 #[.slice pl l.length cap, .agg #[.slice ph h.length kh], .string k, .int .i64 n] wx fun e w' => e = .returned (.tuple #[.agg #[.slice none 0 0], .int .i64 0, .iface 35 (.int .i64 2)]) ∧ Below wx.heap.size wx w') := fun wx hb => (HA0.out wx hb).mono fun e w' hp => make_err hp hF (by decide)
                have HEe : Hid (∀ wx, Calls Tryz.prog 14 #[.iface 35 (.int .i64 3), .int .i64 3] wx fun e w' => e = .returned (.bool true) ∧ wx = w') := fun wx => same_is 3 (by decide) wx
                have HEf : Hid (∀ wx, Calls Tryz.prog 14 #[.iface 35 (.int .i64 2), .int .i64 2] wx fun e w' => e = .returned (.bool true) ∧ wx = w') := fun wx => same_is 2 (by decide) wx
                clear hE hF HN0 HA0 HFr HFa HFo hne hae
                go_enter Tryz.func5, Tryz.ntmps5
                have HSh : Hid (∀ wx, _) := fun wx => heapSame_any [] (.slice none 0 0) (.slice none 0 0) wx (Or.inl ⟨rfl, rfl⟩) (Or.inl ⟨rfl, rfl⟩)
                go_wp2_with (first
                    | (go_at_call 10; (with_reducible refine (HHd.out _ BX.out.below).mono ?_); rintro e w2 ⟨rfl, hB2⟩; (have BX2 := BX.out.step hB2); (have q2 := boxed1 BX2))
                    | (go_at_call 13; (with_reducible refine (HRf.out _ BX2.below).mono ?_); rintro e w3 ⟨rfl, hB3⟩; (have BX3 := BX2.step hB3); (have q3 := boxed1 BX3))
                    | (go_at_call 19; (with_reducible refine (HCO.out _ BX3.below).mono ?_); rintro e w4 ⟨pf, kf, pd, kd, pm, km, rfl, _, _, _, hB4, _⟩; (have BX5 := (BX3.step hB4).alloc (.cells #[.string n2, .string s2, .slice pf fc2.length kf, .bool b2, .slice pd d2.length kd, .slice pm m2.length km] 47)); (have q4 := boxed1 BX5))
                    | (go_at_call 16; (with_reducible refine (HTy.out _).mono ?_); rintro e w5 ⟨rfl, rfl⟩)
                    | (go_at_call 20; (with_reducible refine (HDe.out _).mono ?_); rintro e w5 ⟨rfl, rfl⟩)
                    | (go_at_call 17; (with_reducible refine (HKi.out _ BX5.below).mono ?_); rintro e w6 ⟨rfl, hB6⟩; (have BX6 := BX5.step hB6); (have q6 := boxed1 BX6))
                    | (go_at_call 21; (with_reducible refine (HNw.out _ BX6.below).mono ?_); rintro e w7 ⟨rfl, hB7⟩; (have BX7 := (BX6.step hB7).alloc (.cells #[.slice none 0 0] 25)); (have q7 := boxed1 BX7); (have kg7 := Blk.new w7 25 [(.slice none 0 0)]); (have bl7q : w.heap.size < w7.heap.size := hcells_lt (boxed1 (BX6.step hB7))); (have bl7 := (Below.refl w7.heap.size w7).alloc (Nat.le_refl _) (.cells #[.slice none 0 0] 25)))
                    | (go_at_call 22; (with_reducible refine (HAw.out _ BX7.below).mono ?_); rintro e w8 ⟨rfl, hB8⟩; (have BX8 := (BX7.step hB8).alloc (.cells #[.slice none 0 0] 25)); (have q8 := boxed1 BX8); (have kg8 := (kg7.step hB8).step ((Below.refl _ _).alloc (Nat.le_refl _) (.cells #[.slice none 0 0] 25))); (have kj8 := Blk.new w8 25 [(.slice none 0 0)]); (have al1 := (Below.refl (w8.alloc (.cells #[.slice none 0 0] 25)).heap.size (w8.alloc (.cells #[.slice none 0 0] 25))).alloc (Nat.le_refl _) (.cells #[.slice none 0 0] 25)); (have al2 := (Below.refl ((w8.alloc (.cells #[.slice none 0 0] 25)).alloc (.cells #[.slice none 0 0] 25)).heap.size ((w8.alloc (.cells #[.slice none 0 0] 25)).alloc (.cells #[.slice none 0 0] 25))).alloc (Nat.le_refl _) (.cells #[.slice none 0 0] 25)); (have al0 := (Below.refl w8.heap.size w8).alloc (Nat.le_refl _) (.cells #[.slice none 0 0] 25)); (have bl89 := below_call (below_call al0 (Nat.le_refl _) al1) (Nat.le_refl _) al2); (have bl79 := below_call (below_call bl7 (Nat.le_refl _) hB8) (Nat.le_refl _) bl89); (have BX9 := (BX8.step al1).step al2); (have kg9 := (kg8.step al1).step al2); (have kj9 := (kj8.step al1).step al2); (have kx9' := (Blk.new (w8.alloc (.cells #[.slice none 0 0] 25)) 25 [.slice none 0 0]).step al2); (have ky9' := Blk.new ((w8.alloc (.cells #[.slice none 0 0] 25)).alloc (.cells #[.slice none 0 0] 25)) 25 [.slice none 0 0]); (have sz8 : (w8.alloc (.cells #[.slice none 0 0] 25)).heap.size = w8.heap.size + 1 := by simp); (have sz9 : ((w8.alloc (.cells #[.slice none 0 0] 25)).alloc (.cells #[.slice none 0 0] 25)).heap.size = w8.heap.size + 1 + 1 := by simp); (have kx9 := sz8 ▸ kx9'); (have ky9 := sz9 ▸ ky9'); clear kx9' ky9' al0 al1 al2; (have q9 := boxed1 BX9); (have r0 := kg9.cell 0))
                    | (go_at_call 14; (with_reducible refine (HEe.out _).mono ?_); rintro e w9 ⟨rfl, rfl⟩)
                    | (go_at_call 14; (with_reducible refine (HEf.out _).mono ?_); rintro e w9 ⟨rfl, rfl⟩)
                    | (go_at_call 25; (with_reducible refine (HSh.out _).mono ?_); rintro e w11 ⟨rfl, hB11'⟩; (have hB11 := below_call BX9.below (Nat.le_refl _) hB11'); (have kg11 := kg9.step hB11'); (have kj11 := kj9.step hB11'); (have kx11 := kx9.step hB11'); (have ky11 := ky9.step hB11'); (have s0 : w11.cell? ⟨w8.heap.size, 0, none⟩ = some (.slice none 0 0) := kj11.cell 0); (have s1 : w11.cell? ⟨w8.heap.size + 1, 0, none⟩ = some (.slice none 0 0) := kx11.cell 0); (have s2 : w11.cell? ⟨w8.heap.size + 1 + 1, 0, none⟩ = some (.slice none 0 0) := ky11.cell 0); clear HSh; (have HSh2 : Hid (∀ wx, _) := fun wx => heapSame_any [] (.slice none 0 0) (.slice none 0 0) wx (Or.inl ⟨rfl, rfl⟩) (Or.inl ⟨rfl, rfl⟩)))
                    | (go_at_call 25; (with_reducible refine (HSh2.out _).mono ?_); rintro e w12 ⟨rfl, hB12⟩; (have kx12 := kx11.step hB12); (have ky12 := ky11.step hB12); (have u1 : w12.cell? ⟨w8.heap.size + 1, 0, none⟩ = some (.slice none 0 0) := kx12.cell 0); (have u2 : w12.cell? ⟨w8.heap.size + 1 + 1, 0, none⟩ = some (.slice none 0 0) := ky12.cell 0)))
                go_ret
                exact ⟨rfl, below_call hB11 (Nat.le_refl _) hB12⟩
            · skip
              have hE : E = 3 := by rw [hne]; simp [step1]
              have hF : F = 2 := by rw [hae]; cases gn2 <;> rfl
              have HNw : Hid (∀ wx, Below w.heap.size w wx → Calls Tryz.prog 21 #[.slice pl l.length cap, .agg #[.slice ph h.length kh], .string c] wx fun e w' => e = .returned (.tuple #[.agg #[.slice none 0 0], .int .i64 0, .iface 35 (.int .i64 3)]) ∧ Below wx.heap.size wx w') := fun wx hb => (HN0.out wx hb).mono fun e w' hp => make_err hp hE (by decide)
              have HAw : Hid (∀ wx, Below w.heap.size w wx → Calls Tryz.prog 22 #[.slice pl l.length cap, .agg #[.slice ph h.length kh], .string k, .int .i64 n] wx fun e w' => e = .returned (.tuple #[.agg #[.slice none 0 0], .int .i64 0, .iface 35 (.int .i64 2)]) ∧ Below wx.heap.size wx w') := fun wx hb => (HA0.out wx hb).mono fun e w' hp => make_err hp hF (by decide)
              have HEe : Hid (∀ wx, Calls Tryz.prog 14 #[.iface 35 (.int .i64 3), .int .i64 3] wx fun e w' => e = .returned (.bool true) ∧ wx = w') := fun wx => same_is 3 (by decide) wx
              have HEf : Hid (∀ wx, Calls Tryz.prog 14 #[.iface 35 (.int .i64 2), .int .i64 2] wx fun e w' => e = .returned (.bool true) ∧ wx = w') := fun wx => same_is 2 (by decide) wx
              clear hE hF HN0 HA0 HFr HFa HFo hne hae
              go_enter Tryz.func5, Tryz.ntmps5
              have HSh : Hid (∀ wx, _) := fun wx => heapSame_any [] (.slice none 0 0) (.slice none 0 0) wx (Or.inl ⟨rfl, rfl⟩) (Or.inl ⟨rfl, rfl⟩)
              go_wp2_with (first
                  | (go_at_call 10; (with_reducible refine (HHd.out _ BX.out.below).mono ?_); rintro e w2 ⟨rfl, hB2⟩; (have BX2 := BX.out.step hB2); (have q2 := boxed1 BX2))
                  | (go_at_call 13; (with_reducible refine (HRf.out _ BX2.below).mono ?_); rintro e w3 ⟨rfl, hB3⟩; (have BX3 := BX2.step hB3); (have q3 := boxed1 BX3))
                  | (go_at_call 19; (with_reducible refine (HCO.out _ BX3.below).mono ?_); rintro e w4 ⟨pf, kf, pd, kd, pm, km, rfl, _, _, _, hB4, _⟩; (have BX5 := (BX3.step hB4).alloc (.cells #[.string n2, .string s2, .slice pf fc2.length kf, .bool b2, .slice pd d2.length kd, .slice pm m2.length km] 47)); (have q4 := boxed1 BX5))
                  | (go_at_call 16; (with_reducible refine (HTy.out _).mono ?_); rintro e w5 ⟨rfl, rfl⟩)
                  | (go_at_call 20; (with_reducible refine (HDe.out _).mono ?_); rintro e w5 ⟨rfl, rfl⟩)
                  | (go_at_call 17; (with_reducible refine (HKi.out _ BX5.below).mono ?_); rintro e w6 ⟨rfl, hB6⟩; (have BX6 := BX5.step hB6); (have q6 := boxed1 BX6))
                  | (go_at_call 21; (with_reducible refine (HNw.out _ BX6.below).mono ?_); rintro e w7 ⟨rfl, hB7⟩; (have BX7 := (BX6.step hB7).alloc (.cells #[.slice none 0 0] 25)); (have q7 := boxed1 BX7); (have kg7 := Blk.new w7 25 [(.slice none 0 0)]); (have bl7q : w.heap.size < w7.heap.size := hcells_lt (boxed1 (BX6.step hB7))); (have bl7 := (Below.refl w7.heap.size w7).alloc (Nat.le_refl _) (.cells #[.slice none 0 0] 25)))
                  | (go_at_call 22; (with_reducible refine (HAw.out _ BX7.below).mono ?_); rintro e w8 ⟨rfl, hB8⟩; (have BX8 := (BX7.step hB8).alloc (.cells #[.slice none 0 0] 25)); (have q8 := boxed1 BX8); (have kg8 := (kg7.step hB8).step ((Below.refl _ _).alloc (Nat.le_refl _) (.cells #[.slice none 0 0] 25))); (have kj8 := Blk.new w8 25 [(.slice none 0 0)]); (have al1 := (Below.refl (w8.alloc (.cells #[.slice none 0 0] 25)).heap.size (w8.alloc (.cells #[.slice none 0 0] 25))).alloc (Nat.le_refl _) (.cells #[.slice none 0 0] 25)); (have al2 := (Below.refl ((w8.alloc (.cells #[.slice none 0 0] 25)).alloc (.cells #[.slice none 0 0] 25)).heap.size ((w8.alloc (.cells #[.slice none 0 0] 25)).alloc (.cells #[.slice none 0 0] 25))).alloc (Nat.le_refl _) (.cells #[.slice none 0 0] 25)); (have al0 := (Below.refl w8.heap.size w8).alloc (Nat.le_refl _) (.cells #[.slice none 0 0] 25)); (have bl89 := below_call (below_call al0 (Nat.le_refl _) al1) (Nat.le_refl _) al2); (have bl79 := below_call (below_call bl7 (Nat.le_refl _) hB8) (Nat.le_refl _) bl89); (have BX9 := (BX8.step al1).step al2); (have kg9 := (kg8.step al1).step al2); (have kj9 := (kj8.step al1).step al2); (have kx9' := (Blk.new (w8.alloc (.cells #[.slice none 0 0] 25)) 25 [.slice none 0 0]).step al2); (have ky9' := Blk.new ((w8.alloc (.cells #[.slice none 0 0] 25)).alloc (.cells #[.slice none 0 0] 25)) 25 [.slice none 0 0]); (have sz8 : (w8.alloc (.cells #[.slice none 0 0] 25)).heap.size = w8.heap.size + 1 := by simp); (have sz9 : ((w8.alloc (.cells #[.slice none 0 0] 25)).alloc (.cells #[.slice none 0 0] 25)).heap.size = w8.heap.size + 1 + 1 := by simp); (have kx9 := sz8 ▸ kx9'); (have ky9 := sz9 ▸ ky9'); clear kx9' ky9' al0 al1 al2; (have q9 := boxed1 BX9); (have r0 := kg9.cell 0))
                  | (go_at_call 14; (with_reducible refine (HEe.out _).mono ?_); rintro e w9 ⟨rfl, rfl⟩)
                  | (go_at_call 14; (with_reducible refine (HEf.out _).mono ?_); rintro e w9 ⟨rfl, rfl⟩)
                  | (go_at_call 25; (with_reducible refine (HSh.out _).mono ?_); rintro e w11 ⟨rfl, hB11'⟩; (have hB11 := below_call BX9.below (Nat.le_refl _) hB11'); (have kg11 := kg9.step hB11'); (have kj11 := kj9.step hB11'); (have kx11 := kx9.step hB11'); (have ky11 := ky9.step hB11'); (have s0 : w11.cell? ⟨w8.heap.size, 0, none⟩ = some (.slice none 0 0) := kj11.cell 0); (have s1 : w11.cell? ⟨w8.heap.size + 1, 0, none⟩ = some (.slice none 0 0) := kx11.cell 0); (have s2 : w11.cell? ⟨w8.heap.size + 1 + 1, 0, none⟩ = some (.slice none 0 0) := ky11.cell 0); clear HSh; (have HSh2 : Hid (∀ wx, _) := fun wx => heapSame_any [] (.slice none 0 0) (.slice none 0 0) wx (Or.inl ⟨rfl, rfl⟩) (Or.inl ⟨rfl, rfl⟩)))
                  | (go_at_call 25; (with_reducible refine (HSh2.out _).mono ?_); rintro e w12 ⟨rfl, hB12⟩; (have kx12 := kx11.step hB12); (have ky12 := ky11.step hB12); (have u1 : w12.cell? ⟨w8.heap.size + 1, 0, none⟩ = some (.slice none 0 0) := kx12.cell 0); (have u2 : w12.cell? ⟨w8.heap.size + 1 + 1, 0, none⟩ = some (.slice none 0 0) := ky12.cell 0)))
              go_ret
              exact ⟨rfl, below_call hB11 (Nat.le_refl _) hB12⟩
          · have hzF := hk0
            have zk : ((kr : Int) == 0) = false := by simpa using hk0
            have hE : E = 3 := by rw [hne]; simp [step1]
            have hF : F = kr := by rw [hae]; simp [step1, step2, hk0]
            have HNw : Hid (∀ wx, Below w.heap.size w wx → Calls Tryz.prog 21 #[.slice pl l.length cap, .agg #[.slice ph h.length kh], .string c] wx fun e w' => e = .returned (.tuple #[.agg #[.slice none 0 0], .int .i64 0, .iface 35 (.int .i64 3)]) ∧ Below wx.heap.size wx w') := fun wx hb => (HN0.out wx hb).mono fun e w' hp => make_err hp hE (by decide)
            have HAw : Hid (∀ wx, Below w.heap.size w wx → Calls Tryz.prog 22 #[.slice pl l.length cap, .agg #[.slice ph h.length kh], .string k, .int .i64 n] wx fun e w' => e = .returned (.tuple #[.agg #[.slice none 0 0], .int .i64 0, .iface 35 (.int .i64 kr)]) ∧ Below wx.heap.size wx w') := fun wx hb => (HA0.out wx hb).mono fun e w' hp => make_err hp hF hzF
            have HEe : Hid (∀ wx, Calls Tryz.prog 14 #[.iface 35 (.int .i64 3), .int .i64 3] wx fun e w' => e = .returned (.bool true) ∧ wx = w') := fun wx => same_is 3 (by decide) wx
            have HEf : Hid (∀ wx, Calls Tryz.prog 14 #[.iface 35 (.int .i64 kr), .int .i64 kr] wx fun e w' => e = .returned (.bool true) ∧ wx = w') := fun wx => same_is kr hzF wx
            clear hE hF HN0 HA0 HFr HFa HFo hne hae
            go_enter Tryz.func5, Tryz.ntmps5
            have HSh : Hid (∀ wx, _) := fun wx => heapSame_any [] (.slice none 0 0) (.slice none 0 0) wx (Or.inl ⟨rfl, rfl⟩) (Or.inl ⟨rfl, rfl⟩)
            go_wp2_with (first
                | (go_at_call 10; (with_reducible refine (HHd.out _ BX.out.below).mono ?_); rintro e w2 ⟨rfl, hB2⟩; (have BX2 := BX.out.step hB2); (have q2 := boxed1 BX2))
                | (go_at_call 13; (with_reducible refine (HRf.out _ BX2.below).mono ?_); rintro e w3 ⟨rfl, hB3⟩; (have BX3 := BX2.step hB3); (have q3 := boxed1 BX3))
                | (go_at_call 19; (with_reducible refine (HCO.out _ BX3.below).mono ?_); rintro e w4 ⟨pf, kf, pd, kd, pm, km, rfl, _, _, _, hB4, _⟩; (have BX5 := (BX3.step hB4).alloc (.cells #[.string n2, .string s2, .slice pf fc2.length kf, .bool b2, .slice pd d2.length kd, .slice pm m2.length km] 47)); (have q4 := boxed1 BX5))
                | (go_at_call 16; (with_reducible refine (HTy.out _).mono ?_); rintro e w5 ⟨rfl, rfl⟩)
                | (go_at_call 20; (with_reducible refine (HDe.out _).mono ?_); rintro e w5 ⟨rfl, rfl⟩)
                | (go_at_call 17; (with_reducible refine (HKi.out _ BX5.below).mono ?_); rintro e w6 ⟨rfl, hB6⟩; (have BX6 := BX5.step hB6); (have q6 := boxed1 BX6))
                | (go_at_call 21; (with_reducible refine (HNw.out _ BX6.below).mono ?_); rintro e w7 ⟨rfl, hB7⟩; (have BX7 := (BX6.step hB7).alloc (.cells #[.slice none 0 0] 25)); (have q7 := boxed1 BX7); (have kg7 := Blk.new w7 25 [(.slice none 0 0)]); (have bl7q : w.heap.size < w7.heap.size := hcells_lt (boxed1 (BX6.step hB7))); (have bl7 := (Below.refl w7.heap.size w7).alloc (Nat.le_refl _) (.cells #[.slice none 0 0] 25)))
                | (go_at_call 22; (with_reducible refine (HAw.out _ BX7.below).mono ?_); rintro e w8 ⟨rfl, hB8⟩; (have BX8 := (BX7.step hB8).alloc (.cells #[.slice none 0 0] 25)); (have q8 := boxed1 BX8); (have kg8 := (kg7.step hB8).step ((Below.refl _ _).alloc (Nat.le_refl _) (.cells #[.slice none 0 0] 25))); (have kj8 := Blk.new w8 25 [(.slice none 0 0)]); (have al1 := (Below.refl (w8.alloc (.cells #[.slice none 0 0] 25)).heap.size (w8.alloc (.cells #[.slice none 0 0] 25))).alloc (Nat.le_refl _) (.cells #[.slice none 0 0] 25)); (have al2 := (Below.refl ((w8.alloc (.cells #[.slice none 0 0] 25)).alloc (.cells #[.slice none 0 0] 25)).heap.size ((w8.alloc (.cells #[.slice none 0 0] 25)).alloc (.cells #[.slice none 0 0] 25))).alloc (Nat.le_refl _) (.cells #[.slice none 0 0] 25)); (have al0 := (Below.refl w8.heap.size w8).alloc (Nat.le_refl _) (.cells #[.slice none 0 0] 25)); (have bl89 := below_call (below_call al0 (Nat.le_refl _) al1) (Nat.le_refl _) al2); (have bl79 := below_call (below_call bl7 (Nat.le_refl _) hB8) (Nat.le_refl _) bl89); (have BX9 := (BX8.step al1).step al2); (have kg9 := (kg8.step al1).step al2); (have kj9 := (kj8.step al1).step al2); (have kx9' := (Blk.new (w8.alloc (.cells #[.slice none 0 0] 25)) 25 [.slice none 0 0]).step al2); (have ky9' := Blk.new ((w8.alloc (.cells #[.slice none 0 0] 25)).alloc (.cells #[.slice none 0 0] 25)) 25 [.slice none 0 0]); (have sz8 : (w8.alloc (.cells #[.slice none 0 0] 25)).heap.size = w8.heap.size + 1 := by simp); (have sz9 : ((w8.alloc (.cells #[.slice none 0 0] 25)).alloc (.cells #[.slice none 0 0] 25)).heap.size = w8.heap.size + 1 + 1 := by simp); (have kx9 := sz8 ▸ kx9'); (have ky9 := sz9 ▸ ky9'); clear kx9' ky9' al0 al1 al2; (have q9 := boxed1 BX9); (have r0 := kg9.cell 0))
                | (go_at_call 14; (with_reducible refine (HEe.out _).mono ?_); rintro e w9 ⟨rfl, rfl⟩)
                | (go_at_call 14; (with_reducible refine (HEf.out _).mono ?_); rintro e w9 ⟨rfl, rfl⟩)
                | (go_at_call 25; (with_reducible refine (HSh.out _).mono ?_); rintro e w11 ⟨rfl, hB11'⟩; (have hB11 := below_call BX9.below (Nat.le_refl _) hB11'); (have kg11 := kg9.step hB11'); (have kj11 := kj9.step hB11'); (have kx11 := kx9.step hB11'); (have ky11 := ky9.step hB11'); (have s0 : w11.cell? ⟨w8.heap.size, 0, none⟩ = some (.slice none 0 0) := kj11.cell 0); (have s1 : w11.cell? ⟨w8.heap.size + 1, 0, none⟩ = some (.slice none 0 0) := kx11.cell 0); (have s2 : w11.cell? ⟨w8.heap.size + 1 + 1, 0, none⟩ = some (.slice none 0 0) := ky11.cell 0); clear HSh; (have HSh2 : Hid (∀ wx, _) := fun wx => heapSame_any [] (.slice none 0 0) (.slice none 0 0) wx (Or.inl ⟨rfl, rfl⟩) (Or.inl ⟨rfl, rfl⟩)))
                | (go_at_call 25; (with_reducible refine (HSh2.out _).mono ?_); rintro e w12 ⟨rfl, hB12⟩; (have kx12 := kx11.step hB12); (have ky12 := ky11.step hB12); (have u1 : w12.cell? ⟨w8.heap.size + 1, 0, none⟩ = some (.slice none 0 0) := kx12.cell 0); (have u2 : w12.cell? ⟨w8.heap.size + 1 + 1, 0, none⟩ = some (.slice none 0 0) := ky12.cell 0)))
            go_ret
            exact ⟨rfl, below_call hB11 (Nat.le_refl _) hB12⟩
        · skip
          have hE : E = 3 := by rw [hne]; simp [step1]
          have hF : F = 1 := by rw [hae]; rfl
          have HNw : Hid (∀ wx, Below w.heap.size w wx → Calls Tryz.prog 21 #[.slice pl l.length cap, .agg #[.slice ph h.length kh], .string c] wx fun e w' => e = .returned (.tuple #[.agg #[.slice none 0 0], .int .i64 0, .iface 35 (.int .i64 3)]) ∧ Below wx.heap.size wx w') := fun wx hb => (HN0.out wx hb).mono fun e w' hp => make_err hp hE (by decide)
          have HAw : Hid (∀ wx, Below w.heap.size w wx → Calls Tryz.prog 22 #[.slice pl l.length cap, .agg #[.slice ph h.length kh], .string k, .int .i64 n] wx fun e w' => e = .returned (.tuple #[.agg #[.slice none 0 0], .int .i64 0, .iface 35 (.int .i64 1)]) ∧ Below wx.heap.size wx w') := fun wx hb => (HA0.out wx hb).mono fun e w' hp => make_err hp hF (by decide)
          have HEe : Hid (∀ wx, Calls Tryz.prog 14 #[.iface 35 (.int .i64 3), .int .i64 3] wx fun e w' => e = .returned (.bool true) ∧ wx = w') := fun wx => same_is 3 (by decide) wx
          have HEf : Hid (∀ wx, Calls Tryz.prog 14 #[.iface 35 (.int .i64 1), .int .i64 1] wx fun e w' => e = .returned (.bool true) ∧ wx = w') := fun wx => same_is 1 (by decide) wx
          clear hE hF HN0 HA0 HFr HFa HFo hne hae
          go_enter Tryz.func5, Tryz.ntmps5
          have HSh : Hid (∀ wx, _) := fun wx => heapSame_any [] (.slice none 0 0) (.slice none 0 0) wx (Or.inl ⟨rfl, rfl⟩) (Or.inl ⟨rfl, rfl⟩)
          go_wp2_with (first
              | (go_at_call 10; (with_reducible refine (HHd.out _ BX.out.below).mono ?_); rintro e w2 ⟨rfl, hB2⟩; (have BX2 := BX.out.step hB2); (have q2 := boxed1 BX2))
              | (go_at_call 13; (with_reducible refine (HRf.out _ BX2.below).mono ?_); rintro e w3 ⟨rfl, hB3⟩; (have BX3 := BX2.step hB3); (have q3 := boxed1 BX3))
              | (go_at_call 19; (with_reducible refine (HCO.out _ BX3.below).mono ?_); rintro e w4 ⟨pf, kf, pd, kd, pm, km, rfl, _, _, _, hB4, _⟩; (have BX5 := (BX3.step hB4).alloc (.cells #[.string n2, .string s2, .slice pf fc2.length kf, .bool b2, .slice pd d2.length kd, .slice pm m2.length km] 47)); (have q4 := boxed1 BX5))
              | (go_at_call 16; (with_reducible refine (HTy.out _).mono ?_); rintro e w5 ⟨rfl, rfl⟩)
              | (go_at_call 20; (with_reducible refine (HDe.out _).mono ?_); rintro e w5 ⟨rfl, rfl⟩)
              | (go_at_call 21; (with_reducible refine (HNw.out _ BX5.below).mono ?_); rintro e w7 ⟨rfl, hB7⟩; (have BX7 := (BX5.step hB7).alloc (.cells #[.slice none 0 0] 25)); (have q7 := boxed1 BX7); (have kg7 := Blk.new w7 25 [(.slice none 0 0)]); (have bl7q : w.heap.size < w7.heap.size := hcells_lt (boxed1 (BX5.step hB7))); (have bl7 := (Below.refl w7.heap.size w7).alloc (Nat.le_refl _) (.cells #[.slice none 0 0] 25)))
              | (go_at_call 22; (with_reducible refine (HAw.out _ BX7.below).mono ?_); rintro e w8 ⟨rfl, hB8⟩; (have BX8 := (BX7.step hB8).alloc (.cells #[.slice none 0 0] 25)); (have q8 := boxed1 BX8); (have kg8 := (kg7.step hB8).step ((Below.refl _ _).alloc (Nat.le_refl _) (.cells #[.slice none 0 0] 25))); (have kj8 := Blk.new w8 25 [(.slice none 0 0)]); (have al1 := (Below.refl (w8.alloc (.cells #[.slice none 0 0] 25)).heap.size (w8.alloc (.cells #[.slice none 0 0] 25))).alloc (Nat.le_refl _) (.cells #[.slice none 0 0] 25)); (have al2 := (Below.refl ((w8.alloc (.cells #[.slice none 0 0] 25)).alloc (.cells #[.slice none 0 0] 25)).heap.size ((w8.alloc (.cells #[.slice none 0 0] 25)).alloc (.cells #[.slice none 0 0] 25))).alloc (Nat.le_refl _) (.cells #[.slice none 0 0] 25)); (have al0 := (Below.refl w8.heap.size w8).alloc (Nat.le_refl _) (.cells #[.slice none 0 0] 25)); (have bl89 := below_call (below_call al0 (Nat.le_refl _) al1) (Nat.le_refl _) al2); (have bl79 := below_call (below_call bl7 (Nat.le_refl _) hB8) (Nat.le_refl _) bl89); (have BX9 := (BX8.step al1).step al2); (have kg9 := (kg8.step al1).step al2); (have kj9 := (kj8.step al1).step al2); (have kx9' := (Blk.new (w8.alloc (.cells #[.slice none 0 0] 25)) 25 [.slice none 0 0]).step al2); (have ky9' := Blk.new ((w8.alloc (.cells #[.slice none 0 0] 25)).alloc (.cells #[.slice none 0 0] 25)) 25 [.slice none 0 0]); (have sz8 : (w8.alloc (.cells #[.slice none 0 0] 25)).heap.size = w8.heap.size + 1 := by simp); (have sz9 : ((w8.alloc (.cells #[.slice none 0 0] 25)).alloc (.cells #[.slice none 0 0] 25)).heap.size = w8.heap.size + 1 + 1 := by simp); (have kx9 := sz8 ▸ kx9'); (have ky9 := sz9 ▸ ky9'); clear kx9' ky9' al0 al1 al2; (have q9 := boxed1 BX9); (have r0 := kg9.cell 0))
              | (go_at_call 14; (with_reducible refine (HEe.out _).mono ?_); rintro e w9 ⟨rfl, rfl⟩)
              | (go_at_call 14; (with_reducible refine (HEf.out _).mono ?_); rintro e w9 ⟨rfl, rfl⟩)
              | (go_at_call 25; (with_reducible refine (HSh.out _).mono ?_); rintro e w11 ⟨rfl, hB11'⟩; (have hB11 := below_call BX9.below (Nat.le_refl _) hB11'); (have kg11 := kg9.step hB11'); (have kj11 := kj9.step hB11'); (have kx11 := kx9.step hB11'); (have ky11 := ky9.step hB11'); (have s0 : w11.cell? ⟨w8.heap.size, 0, none⟩ = some (.slice none 0 0) := kj11.cell 0); (have s1 : w11.cell? ⟨w8.heap.size + 1, 0, none⟩ = some (.slice none 0 0) := kx11.cell 0); (have s2 : w11.cell? ⟨w8.heap.size + 1 + 1, 0, none⟩ = some (.slice none 0 0) := ky11.cell 0); clear HSh; (have HSh2 : Hid (∀ wx, _) := fun wx => heapSame_any [] (.slice none 0 0) (.slice none 0 0) wx (Or.inl ⟨rfl, rfl⟩) (Or.inl ⟨rfl, rfl⟩)))
              | (go_at_call 25; (with_reducible refine (HSh2.out _).mono ?_); rintro e w12 ⟨rfl, hB12⟩; (have kx12 := kx11.step hB12); (have ky12 := ky11.step hB12); (have u1 : w12.cell? ⟨w8.heap.size + 1, 0, none⟩ = some (.slice none 0 0) := kx12.cell 0); (have u2 : w12.cell? ⟨w8.heap.size + 1 + 1, 0, none⟩ = some (.slice none 0 0) := ky12.cell 0)))
          go_ret
          exact ⟨rfl, below_call hB11 (Nat.le_refl _) hB12⟩
    · cases b2
      · cases g5
        · skip
          cases tyb
          · skip
            have hE : E = 0 := by rw [hne]; rfl
            have hF : F = 1 := by rw [hae]; rfl
            have HNw : Hid (∀ wx, Below w.heap.size w wx → _) := fun wx hb => (HN0.out wx hb).mono fun e w' hp => make_ok hp hE
            have HAw : Hid (∀ wx, Below w.heap.size w wx → Calls Tryz.prog 22 #[.slice pl l.length cap, .agg #[.slice ph h.length kh], .string k, .int .i64 n] wx fun e w' => e = .returned (.tuple #[.agg #[.slice none 0 0], .int .i64 0, .iface 35 (.int .i64 1)]) ∧ Below wx.heap.size wx w') := fun wx hb => (HA0.out wx hb).mono fun e w' hp => make_err hp hF (by decide)
            have HEe := Lib.hid same_ok
            have HEf : Hid (∀ wx, Calls Tryz.prog 14 #[.iface 35 (.int .i64 1), .int .i64 1] wx fun e w' => e = .returned (.bool true) ∧ wx = w') := fun wx => same_is 1 (by decide) wx
            have HFx : Hid (∀ wx, Below w.heap.size w wx → _) := HFr.out rfl rfl
            have h51 := HFo.out rfl
            obtain ⟨i0, hi, hz1, hz2, hz3⟩ := info_parts info_thing
            clear hE hF HN0 HA0 HFr HFa HFo hne hae
            go_enter Tryz.func5, Tryz.ntmps5
            go_upto_region 27 with (first
                | (go_at_call 10; (with_reducible refine (HHd.out _ BX.out.below).mono ?_); rintro e w2 ⟨rfl, hB2⟩; (have BX2 := BX.out.step hB2); (have q2 := boxed1 BX2))
                | (go_at_call 13; (with_reducible refine (HRf.out _ BX2.below).mono ?_); rintro e w3 ⟨rfl, hB3⟩; (have BX3 := BX2.step hB3); (have q3 := boxed1 BX3))
                | (go_at_call 19; (with_reducible refine (HCO.out _ BX3.below).mono ?_); rintro e w4 ⟨pf, kf, pd, kd, pm, km, rfl, _, _, _, hB4, _⟩; (have BX5 := (BX3.step hB4).alloc (.cells #[.string n2, .string s2, .slice pf fc2.length kf, .bool false, .slice pd d2.length kd, .slice pm m2.length km] 47)); (have q4 := boxed1 BX5))
                | (go_at_call 16; (with_reducible refine (HTy.out _).mono ?_); rintro e w5 ⟨rfl, rfl⟩)
                | (go_at_call 20; (with_reducible refine (HDe.out _).mono ?_); rintro e w5 ⟨rfl, rfl⟩)
                | (go_at_call 21; (with_reducible refine (HNw.out _ BX5.below).mono ?_); rintro e w7 ⟨⟨gp, gc, rfl, hg⟩, hB7⟩; (have BX7 := (BX5.step hB7).alloc (.cells #[.slice gp (h.length + 1) gc] 25)); (have q7 := boxed1 BX7); (have kg7 := Blk.new w7 25 [(.slice gp (h.length + 1) gc)]); (have bl7q : w.heap.size < w7.heap.size := hcells_lt (boxed1 (BX5.step hB7))); (have bl7 := (Below.refl w7.heap.size w7).alloc (Nat.le_refl _) (.cells #[.slice gp (h.length + 1) gc] 25)))
                | (go_at_call 22; (with_reducible refine (HAw.out _ BX7.below).mono ?_); rintro e w8 ⟨rfl, hB8⟩; (have BX8 := (BX7.step hB8).alloc (.cells #[.slice none 0 0] 25)); (have q8 := boxed1 BX8); (have kg8 := (kg7.step hB8).step ((Below.refl _ _).alloc (Nat.le_refl _) (.cells #[.slice none 0 0] 25))); (have kj8 := Blk.new w8 25 [(.slice none 0 0)]); (have al1 := (Below.refl (w8.alloc (.cells #[.slice none 0 0] 25)).heap.size (w8.alloc (.cells #[.slice none 0 0] 25))).alloc (Nat.le_refl _) (.cells #[.slice none 0 0] 25)); (have al2 := (Below.refl ((w8.alloc (.cells #[.slice none 0 0] 25)).alloc (.cells #[.slice none 0 0] 25)).heap.size ((w8.alloc (.cells #[.slice none 0 0] 25)).alloc (.cells #[.slice none 0 0] 25))).alloc (Nat.le_refl _) (.cells #[.slice none 0 0] 25)); (have al0 := (Below.refl w8.heap.size w8).alloc (Nat.le_refl _) (.cells #[.slice none 0 0] 25)); (have bl89 := below_call (below_call al0 (Nat.le_refl _) al1) (Nat.le_refl _) al2); (have bl79 := below_call (below_call bl7 (Nat.le_refl _) hB8) (Nat.le_refl _) bl89); (have BX9 := (BX8.step al1).step al2); (have kg9 := (kg8.step al1).step al2); (have kj9 := (kj8.step al1).step al2); (have kx9' := (Blk.new (w8.alloc (.cells #[.slice none 0 0] 25)) 25 [.slice none 0 0]).step al2); (have ky9' := Blk.new ((w8.alloc (.cells #[.slice none 0 0] 25)).alloc (.cells #[.slice none 0 0] 25)) 25 [.slice none 0 0]); (have sz8 : (w8.alloc (.cells #[.slice none 0 0] 25)).heap.size = w8.heap.size + 1 := by simp); (have sz9 : ((w8.alloc (.cells #[.slice none 0 0] 25)).alloc (.cells #[.slice none 0 0] 25)).heap.size = w8.heap.size + 1 + 1 := by simp); (have kx9 := sz8 ▸ kx9'); (have ky9 := sz9 ▸ ky9'); clear kx9' ky9' al0 al1 al2; (have q9 := boxed1 BX9); (have r0 := kg9.cell 0))
                | (go_at_call 14; (with_reducible refine (HEe.out _).mono ?_); rintro e w9 ⟨rfl, rfl⟩)
                | (go_at_call 14; (with_reducible refine (HEf.out _).mono ?_); rintro e w9 ⟨rfl, rfl⟩))
            obtain ⟨W, hW⟩ : ∃ W, W = ((w8.alloc (.cells #[.slice none 0 0] 25)).alloc (.cells #[.slice none 0 0] 25)).alloc (.cells #[.slice none 0 0] 25) := ⟨_, rfl⟩
            have hWs : w8.heap.size + 1 + 1 < W.heap.size := by rw [hW]; simp
            rw [← hW] at BX9 kg9 kj9 kx9 ky9 bl79 bl89 q9 ⊢
            have bW := BX9.below
            have qW := boxed1 BX9
            have bl7s := bl7q
            have bl78s : w7.heap.size < w8.heap.size := Nat.lt_of_lt_of_le (by simp) hB8.size
            clear hW q9 r0 BX9 BX8 BX7 kg7 kg8 kj8 q7 q8 bl7 hB8 hB7 sz8 sz9 HNw HAw HEe HEf HHd HRf HCO HKi HTy HDe
            skip
            have hq : ∀ wz, Below w.heap.size w wz → True := fun _ _ => trivial
            have madex := World.ownsRow_made (base := W.heap.size) (e := 56) (size := 2) W #[] 0 (Nat.le_refl _) (Nat.zero_le _) rfl
            have bmx := below_call bW (Nat.le_refl _) ((Below.refl W.heap.size W).alloc (Nat.le_refl _) (.cells #[] 56))
            have cmx : (ph = none ∧ ps = []) ∨ ∃ ad, ph = some ad ∧ ∀ j u, (ps.flatMap thingVs)[j]? = some u → (W.alloc (.cells #[] 56)).cell? (ad.add j) = some u := HPc.out.imp id (fun ⟨ad, e, hc⟩ => ⟨ad, e, fun j u hj => (bmx.cell (p := ad.add j) (acell_lt (hc j u hj))).trans (hc j u hj)⟩)
            have h8x : ps.length ≤ 8388608 := by rw [HPl.out]; omega
            have hbsx : W.heap.size ≤ (W.alloc (.cells #[] 56)).heap.size := by simp
            have qbx := Lib.cell?_alloc_some (.cells #[] 56) qW
            go_upto_region 29 with (first
                | (at_builtin; refine wpList_put_things rfl _ _ rfl W.heap.size _ rfl madex ph kh h.length ps HPl.out.symm rfl cmx HP1.out h8x HPz.out hbsx ?_; intro vx9 wx9 hownx9 hgx9; obtain ⟨px9, ccx9, rfl⟩ := ownsRow_shape hownx9; (have hBx9 := ((Below.refl W.heap.size W).alloc (Nat.le_refl _) (.cells #[] 56)).grown hgx9 hbsx (fun g e => (madex.lt _ e).1)); (have bwx9 := below_call bW (Nat.le_refl _) hBx9))
                | (go_at_call 23; (with_reducible refine (HFx.out _ bwx9).mono ?_); rintro e wx10 ⟨⟨fpx, fkx, rfl, hfx, hfrx⟩, hBx10⟩; (have hownx10 := ownsRow_belowk hownx9 hBx10); (have hlx8 : h.length ≤ 8388608 := by omega); (have hbtx : W.heap.size ≤ wx10.heap.size := Nat.le_trans hBx9.size hBx10.size))
                | (at_builtin; refine wpList_append_thing rfl _ _ rfl W.heap.size _ _ _ rfl hownx10 xf.type (.slice fpx xf.has.length fkx) rfl wx10.heap.size rfl rfl hlx8 hbtx ?_; intro vx11 wx11 hownx11 hgx11; obtain ⟨gx, cx, rfl, _⟩ := World.ownsRow.form hownx11 (Nat.succ_pos _); (have alx := (Below.refl wx10.heap.size wx10).alloc (Nat.le_refl _) (.cells #[.string xf.type, .slice fpx xf.has.length fkx] 56)); (have hBx11 := (below_call (below_call hBx9 (Nat.le_refl _) hBx10) (Nat.le_refl _) alx).grown hgx11 (Nat.le_trans hbtx alx.size) (fun g e => (hownx9.lt _ e).1)); (have kbx := kx9.step hBx11); (have ex8 : wx11.cell? ⟨w8.heap.size + 1, 0, none⟩ = some (.slice none 0 0) := kbx.cell 0); (have fx8 := kbx.frozen 0)))
            obtain ⟨Wx, hWx⟩ : ∃ Wx, Wx = wx11.setCell ⟨w8.heap.size + 1, 0, none⟩ (.slice (some ⟨gx, 0, none⟩) (h.length + 1) cx) := ⟨_, rfl⟩
            have sWx : Wx.heap.size = wx11.heap.size := by rw [hWx]; simp
            have oWx : ∀ b, b ≠ w8.heap.size + 1 → Wx.heap[b]? = wx11.heap[b]? := fun b hb => by rw [hWx]; exact heap_setCell_other wx11 ⟨w8.heap.size + 1, 0, none⟩ b _ hb
            have kgWx : Blk Wx (w7.heap.size) 25 [(.slice gp (h.length + 1) gc)] := (oWx _ (by have := bl78s; omega)).trans (kg9.step hBx11)
            have kjWx : Blk Wx (w8.heap.size) 25 [(.slice none 0 0)] := (oWx _ (by have := bl78s; omega)).trans (kj9.step hBx11)
            have kxWx : Blk Wx (w8.heap.size + 1) 25 [(.slice (some ⟨gx, 0, none⟩) (h.length + 1) cx)] := by rw [hWx]; exact kbx.store1 _
            have kyWx : Blk Wx (w8.heap.size + 1 + 1) 25 [(.slice none 0 0)] := (oWx _ (by have := bl78s; omega)).trans (ky9.step hBx11)
            have bwWx : Below w.heap.size w Wx := by rw [hWx]; exact (below_call bW (Nat.le_refl _) hBx11).setCell (p := ⟨w8.heap.size + 1, 0, none⟩) (by show w.heap.size ≤ w8.heap.size + 1; have := bl7s; have := bl78s; omega) _
            have b7Wx : Below w7.heap.size w7 Wx := by rw [hWx]; exact (below_call bl79 (Nat.le_refl _) hBx11).setCell (p := ⟨w8.heap.size + 1, 0, none⟩) (by show w7.heap.size ≤ w8.heap.size + 1; have := bl78s; omega) _
            have b8Wx : Below w8.heap.size w8 Wx := by rw [hWx]; exact (below_call bl89 (Nat.le_refl _) hBx11).setCell (p := ⟨w8.heap.size + 1, 0, none⟩) (by show w8.heap.size ≤ w8.heap.size + 1; omega) _
            have hTx : ∀ wz, Below w.heap.size w wz → (∀ b, W.heap.size ≤ b → b < Wx.heap.size → wz.heap[b]? = Wx.heap[b]?) → ThingsAt wz (.slice (some ⟨gx, 0, none⟩) (h.length + 1) cx) (h ++ [xf]) := fun wz hwz hag => put_step HPs.out HPo.out hownx9 hfx hfrx hownx11 HPl.out.symm hgx11 hBx9.size hwz (fun b h1 h2 => (hag b h1 (by rw [sWx]; exact h2)).trans (oWx b (by have := hWs; omega)))
            have qWx : Wx.cell? ⟨w.heap.size, 0, none⟩ = some (.slice ph h.length kh) := (World.cell?_of_block (a := ⟨w.heap.size, 0, none⟩) (oWx w.heap.size (by have := bl7s; have := bl78s; omega))).trans ((hBx11.cell (p := ⟨w.heap.size, 0, none⟩) (hcells_lt qW)).trans qW)
            have hsWx : w8.heap.size + 1 + 1 < Wx.heap.size := by rw [sWx]; exact Nat.lt_of_lt_of_le hWs hBx11.size
            have hzWx : W.heap.size ≤ Wx.heap.size := by rw [sWx]; exact hBx11.size
            have hagWx : ∀ b, b < W.heap.size → b ≠ w8.heap.size + 1 → Wx.heap[b]? = W.heap[b]? := fun b h1 h2 => (oWx b h2).trans (hBx11.block b h1)
            rw [← hWx]
            replace hTx := Lib.hid hTx
            replace hagWx := Lib.hid hagWx
            clear sWx oWx hWx ex8 fx8 kbx hownx9 hownx10 hownx11 hgx9 hgx11 hfx hfrx hBx9 hBx10 hBx11 alx madex cmx bmx bwx9 qbx qW kg9 kj9 kx9 ky9 bW bl79 bl89
            have tx := hTx.out Wx bwWx (fun b h1 h2 => rfl)
            have tg := hg.mono b7Wx
            have ty : ThingsAt Wx (.slice none 0 0) [] := Or.inl ⟨rfl, rfl⟩
            have tj : ThingsAt Wx (.slice none 0 0) [] := Or.inl ⟨rfl, rfl⟩
            have HS1 := Lib.hid (heapSame_any _ _ _ Wx tg tx)
            have HS2 : Hid (∀ wz, Below Wx.heap.size Wx wz → _) := fun wz hb => heapSame_any _ _ _ wz (tj.mono hb) (ty.mono hb)
            have z0 : Wx.cell? ⟨w7.heap.size, 0, none⟩ = some (.slice gp (h.length + 1) gc) := kgWx.cell 0
            have z1 : Wx.cell? ⟨w8.heap.size + 1, 0, none⟩ = some (.slice (some ⟨gx, 0, none⟩) (h.length + 1) cx) := kxWx.cell 0
            clear tx tg ty tj
            go_wp2_with (first
                | (go_at_call 25; (with_reducible refine HS1.out.mono ?_); rintro e w21 ⟨rfl, hB21⟩; (have y0 : w21.cell? ⟨w8.heap.size, 0, none⟩ = some (.slice none 0 0) := (kjWx.step hB21).cell 0); (have y1 : w21.cell? ⟨w8.heap.size + 1 + 1, 0, none⟩ = some (.slice none 0 0) := (kyWx.step hB21).cell 0); clear HS1)
                | (go_at_call 25; (with_reducible refine (HS2.out _ hB21).mono ?_); rintro e w22 ⟨rfl, hB22⟩; (have u0 : w22.cell? ⟨w8.heap.size + 1, 0, none⟩ = some (.slice (some ⟨gx, 0, none⟩) (h.length + 1) cx) := ((kxWx.step hB21).step hB22).cell 0); (have u1 : w22.cell? ⟨w8.heap.size + 1 + 1, 0, none⟩ = some (.slice none 0 0) := ((kyWx.step hB21).step hB22).cell 0)))
            go_ret
            exact ⟨rfl, below_call (below_call bwWx (Nat.le_refl _) hB21) (Nat.le_refl _) hB22⟩
          · cases g3
            · by_cases hk0 : kr = 0
              · subst hk0
                cases gn1
                · cases gn2
                  · obtain ⟨m, rfl⟩ : ∃ m : Nat, n = (m : Int) := ⟨n.toNat, by have := of_decide_eq_false hn1; omega⟩
                    have hm10 : m ≤ 10 := by have := of_decide_eq_false hn2; omega
                    have hE : E = 0 := by rw [hne]; rfl
                    have hF : F = 0 := by rw [hae]; rfl
                    have HNw : Hid (∀ wx, Below w.heap.size w wx → _) := fun wx hb => (HN0.out wx hb).mono fun e w' hp => make_ok hp hE
                    have HAw : Hid (∀ wx, Below w.heap.size w wx → _) := fun wx hb => (HA0.out wx hb).mono fun e w' hp => make_ok hp hF
                    have HEe := Lib.hid same_ok
                    have HEf := Lib.hid same_ok
                    have HFx : Hid (∀ wx, Below w.heap.size w wx → _) := HFr.out rfl rfl
                    have HFy : Hid (∀ wx, _) := HFa.out m hm10
                    rw [Int.toNat_natCast] at HAw
                    generalize freshA k m = xa at HFy HAw
                    have h51 := HFo.out rfl
                    obtain ⟨i0, hi, hz1, hz2, hz3⟩ := info_parts info_thing
                    clear hE hF HN0 HA0 HFr HFa HFo hne hae
                    go_enter Tryz.func5, Tryz.ntmps5
                    go_upto_region 27 with (first
                        | (go_at_call 10; (with_reducible refine (HHd.out _ BX.out.below).mono ?_); rintro e w2 ⟨rfl, hB2⟩; (have BX2 := BX.out.step hB2); (have q2 := boxed1 BX2))
                        | (go_at_call 13; (with_reducible refine (HRf.out _ BX2.below).mono ?_); rintro e w3 ⟨rfl, hB3⟩; (have BX3 := BX2.step hB3); (have q3 := boxed1 BX3))
                        | (go_at_call 19; (with_reducible refine (HCO.out _ BX3.below).mono ?_); rintro e w4 ⟨pf, kf, pd, kd, pm, km, rfl, _, _, _, hB4, _⟩; (have BX5 := (BX3.step hB4).alloc (.cells #[.string n2, .string s2, .slice pf fc2.length kf, .bool false, .slice pd d2.length kd, .slice pm m2.length km] 47)); (have q4 := boxed1 BX5))
                        | (go_at_call 16; (with_reducible refine (HTy.out _).mono ?_); rintro e w5 ⟨rfl, rfl⟩)
                        | (go_at_call 20; (with_reducible refine (HDe.out _).mono ?_); rintro e w5 ⟨rfl, rfl⟩)
                        | (go_at_call 17; (with_reducible refine (HKi.out _ BX5.below).mono ?_); rintro e w6 ⟨rfl, hB6⟩; (have BX6 := BX5.step hB6); (have q6 := boxed1 BX6))
                        | (go_at_call 21; (with_reducible refine (HNw.out _ BX6.below).mono ?_); rintro e w7 ⟨⟨gp, gc, rfl, hg⟩, hB7⟩; (have BX7 := (BX6.step hB7).alloc (.cells #[.slice gp (h.length + 1) gc] 25)); (have q7 := boxed1 BX7); (have kg7 := Blk.new w7 25 [(.slice gp (h.length + 1) gc)]); (have bl7q : w.heap.size < w7.heap.size := hcells_lt (boxed1 (BX6.step hB7))); (have bl7 := (Below.refl w7.heap.size w7).alloc (Nat.le_refl _) (.cells #[.slice gp (h.length + 1) gc] 25)))
                        | (go_at_call 22; (with_reducible refine (HAw.out _ BX7.below).mono ?_); rintro e w8 ⟨⟨jp, jc, rfl, hj⟩, hB8⟩; (have BX8 := (BX7.step hB8).alloc (.cells #[.slice jp (h.length + 1) jc] 25)); (have q8 := boxed1 BX8); (have kg8 := (kg7.step hB8).step ((Below.refl _ _).alloc (Nat.le_refl _) (.cells #[.slice jp (h.length + 1) jc] 25))); (have kj8 := Blk.new w8 25 [(.slice jp (h.length + 1) jc)]); (have al1 := (Below.refl (w8.alloc (.cells #[.slice jp (h.length + 1) jc] 25)).heap.size (w8.alloc (.cells #[.slice jp (h.length + 1) jc] 25))).alloc (Nat.le_refl _) (.cells #[.slice none 0 0] 25)); (have al2 := (Below.refl ((w8.alloc (.cells #[.slice jp (h.length + 1) jc] 25)).alloc (.cells #[.slice none 0 0] 25)).heap.size ((w8.alloc (.cells #[.slice jp (h.length + 1) jc] 25)).alloc (.cells #[.slice none 0 0] 25))).alloc (Nat.le_refl _) (.cells #[.slice none 0 0] 25)); (have al0 := (Below.refl w8.heap.size w8).alloc (Nat.le_refl _) (.cells #[.slice jp (h.length + 1) jc] 25)); (have bl89 := below_call (below_call al0 (Nat.le_refl _) al1) (Nat.le_refl _) al2); (have bl79 := below_call (below_call bl7 (Nat.le_refl _) hB8) (Nat.le_refl _) bl89); (have BX9 := (BX8.step al1).step al2); (have kg9 := (kg8.step al1).step al2); (have kj9 := (kj8.step al1).step al2); (have kx9' := (Blk.new (w8.alloc (.cells #[.slice jp (h.length + 1) jc] 25)) 25 [.slice none 0 0]).step al2); (have ky9' := Blk.new ((w8.alloc (.cells #[.slice jp (h.length + 1) jc] 25)).alloc (.cells #[.slice none 0 0] 25)) 25 [.slice none 0 0]); (have sz8 : (w8.alloc (.cells #[.slice jp (h.length + 1) jc] 25)).heap.size = w8.heap.size + 1 := by simp); (have sz9 : ((w8.alloc (.cells #[.slice jp (h.length + 1) jc] 25)).alloc (.cells #[.slice none 0 0] 25)).heap.size = w8.heap.size + 1 + 1 := by simp); (have kx9 := sz8 ▸ kx9'); (have ky9 := sz9 ▸ ky9'); clear kx9' ky9' al0 al1 al2; (have q9 := boxed1 BX9); (have r0 := kg9.cell 0))
                        | (go_at_call 14; (with_reducible refine (HEe.out _).mono ?_); rintro e w9 ⟨rfl, rfl⟩)
                        | (go_at_call 14; (with_reducible refine (HEf.out _).mono ?_); rintro e w9 ⟨rfl, rfl⟩))
                    obtain ⟨W, hW⟩ : ∃ W, W = ((w8.alloc (.cells #[.slice jp (h.length + 1) jc] 25)).alloc (.cells #[.slice none 0 0] 25)).alloc (.cells #[.slice none 0 0] 25) := ⟨_, rfl⟩
                    have hWs : w8.heap.size + 1 + 1 < W.heap.size := by rw [hW]; simp
                    rw [← hW] at BX9 kg9 kj9 kx9 ky9 bl79 bl89 q9 ⊢
                    have bW := BX9.below
                    have qW := boxed1 BX9
                    have bl7s := bl7q
                    have bl78s : w7.heap.size < w8.heap.size := Nat.lt_of_lt_of_le (by simp) hB8.size
                    clear hW q9 r0 BX9 BX8 BX7 kg7 kg8 kj8 q7 q8 bl7 hB8 hB7 sz8 sz9 HNw HAw HEe HEf HHd HRf HCO HKi HTy HDe
                    skip
                    have hq : ∀ wz, Below w.heap.size w wz → True := fun _ _ => trivial
                    have madex := World.ownsRow_made (base := W.heap.size) (e := 56) (size := 2) W #[] 0 (Nat.le_refl _) (Nat.zero_le _) rfl
                    have bmx := below_call bW (Nat.le_refl _) ((Below.refl W.heap.size W).alloc (Nat.le_refl _) (.cells #[] 56))
                    have cmx : (ph = none ∧ ps = []) ∨ ∃ ad, ph = some ad ∧ ∀ j u, (ps.flatMap thingVs)[j]? = some u → (W.alloc (.cells #[] 56)).cell? (ad.add j) = some u := HPc.out.imp id (fun ⟨ad, e, hc⟩ => ⟨ad, e, fun j u hj => (bmx.cell (p := ad.add j) (acell_lt (hc j u hj))).trans (hc j u hj)⟩)
                    have h8x : ps.length ≤ 8388608 := by rw [HPl.out]; omega
                    have hbsx : W.heap.size ≤ (W.alloc (.cells #[] 56)).heap.size := by simp
                    have qbx := Lib.cell?_alloc_some (.cells #[] 56) qW
                    go_upto_region 29 with (first
                        | (at_builtin; refine wpList_put_things rfl _ _ rfl W.heap.size _ rfl madex ph kh h.length ps HPl.out.symm rfl cmx HP1.out h8x HPz.out hbsx ?_; intro vx9 wx9 hownx9 hgx9; obtain ⟨px9, ccx9, rfl⟩ := ownsRow_shape hownx9; (have hBx9 := ((Below.refl W.heap.size W).alloc (Nat.le_refl _) (.cells #[] 56)).grown hgx9 hbsx (fun g e => (madex.lt _ e).1)); (have bwx9 := below_call bW (Nat.le_refl _) hBx9))
                        | (go_at_call 23; (with_reducible refine (HFx.out _ bwx9).mono ?_); rintro e wx10 ⟨⟨fpx, fkx, rfl, hfx, hfrx⟩, hBx10⟩; (have hownx10 := ownsRow_belowk hownx9 hBx10); (have hlx8 : h.length ≤ 8388608 := by omega); (have hbtx : W.heap.size ≤ wx10.heap.size := Nat.le_trans hBx9.size hBx10.size))
                        | (at_builtin; refine wpList_append_thing rfl _ _ rfl W.heap.size _ _ _ rfl hownx10 xf.type (.slice fpx xf.has.length fkx) rfl wx10.heap.size rfl rfl hlx8 hbtx ?_; intro vx11 wx11 hownx11 hgx11; obtain ⟨gx, cx, rfl, _⟩ := World.ownsRow.form hownx11 (Nat.succ_pos _); (have alx := (Below.refl wx10.heap.size wx10).alloc (Nat.le_refl _) (.cells #[.string xf.type, .slice fpx xf.has.length fkx] 56)); (have hBx11 := (below_call (below_call hBx9 (Nat.le_refl _) hBx10) (Nat.le_refl _) alx).grown hgx11 (Nat.le_trans hbtx alx.size) (fun g e => (hownx9.lt _ e).1)); (have kbx := kx9.step hBx11); (have ex8 : wx11.cell? ⟨w8.heap.size + 1, 0, none⟩ = some (.slice none 0 0) := kbx.cell 0); (have fx8 := kbx.frozen 0)))
                    obtain ⟨Wx, hWx⟩ : ∃ Wx, Wx = wx11.setCell ⟨w8.heap.size + 1, 0, none⟩ (.slice (some ⟨gx, 0, none⟩) (h.length + 1) cx) := ⟨_, rfl⟩
                    have sWx : Wx.heap.size = wx11.heap.size := by rw [hWx]; simp
                    have oWx : ∀ b, b ≠ w8.heap.size + 1 → Wx.heap[b]? = wx11.heap[b]? := fun b hb => by rw [hWx]; exact heap_setCell_other wx11 ⟨w8.heap.size + 1, 0, none⟩ b _ hb
                    have kgWx : Blk Wx (w7.heap.size) 25 [(.slice gp (h.length + 1) gc)] := (oWx _ (by have := bl78s; omega)).trans (kg9.step hBx11)
                    have kjWx : Blk Wx (w8.heap.size) 25 [(.slice jp (h.length + 1) jc)] := (oWx _ (by have := bl78s; omega)).trans (kj9.step hBx11)
                    have kxWx : Blk Wx (w8.heap.size + 1) 25 [(.slice (some ⟨gx, 0, none⟩) (h.length + 1) cx)] := by rw [hWx]; exact kbx.store1 _
                    have kyWx : Blk Wx (w8.heap.size + 1 + 1) 25 [(.slice none 0 0)] := (oWx _ (by have := bl78s; omega)).trans (ky9.step hBx11)
                    have bwWx : Below w.heap.size w Wx := by rw [hWx]; exact (below_call bW (Nat.le_refl _) hBx11).setCell (p := ⟨w8.heap.size + 1, 0, none⟩) (by show w.heap.size ≤ w8.heap.size + 1; have := bl7s; have := bl78s; omega) _
                    have b7Wx : Below w7.heap.size w7 Wx := by rw [hWx]; exact (below_call bl79 (Nat.le_refl _) hBx11).setCell (p := ⟨w8.heap.size + 1, 0, none⟩) (by show w7.heap.size ≤ w8.heap.size + 1; have := bl78s; omega) _
                    have b8Wx : Below w8.heap.size w8 Wx := by rw [hWx]; exact (below_call bl89 (Nat.le_refl _) hBx11).setCell (p := ⟨w8.heap.size + 1, 0, none⟩) (by show w8.heap.size ≤ w8.heap.size + 1; omega) _
                    have hTx : ∀ wz, Below w.heap.size w wz → (∀ b, W.heap.size ≤ b → b < Wx.heap.size → wz.heap[b]? = Wx.heap[b]?) → ThingsAt wz (.slice (some ⟨gx, 0, none⟩) (h.length + 1) cx) (h ++ [xf]) := fun wz hwz hag => put_step HPs.out HPo.out hownx9 hfx hfrx hownx11 HPl.out.symm hgx11 hBx9.size hwz (fun b h1 h2 => (hag b h1 (by rw [sWx]; exact h2)).trans (oWx b (by have := hWs; omega)))
                    have qWx : Wx.cell? ⟨w.heap.size, 0, none⟩ = some (.slice ph h.length kh) := (World.cell?_of_block (a := ⟨w.heap.size, 0, none⟩) (oWx w.heap.size (by have := bl7s; have := bl78s; omega))).trans ((hBx11.cell (p := ⟨w.heap.size, 0, none⟩) (hcells_lt qW)).trans qW)
                    have hsWx : w8.heap.size + 1 + 1 < Wx.heap.size := by rw [sWx]; exact Nat.lt_of_lt_of_le hWs hBx11.size
                    have hzWx : W.heap.size ≤ Wx.heap.size := by rw [sWx]; exact hBx11.size
                    have hagWx : ∀ b, b < W.heap.size → b ≠ w8.heap.size + 1 → Wx.heap[b]? = W.heap[b]? := fun b h1 h2 => (oWx b h2).trans (hBx11.block b h1)
                    rw [← hWx]
                    replace hTx := Lib.hid hTx
                    replace hagWx := Lib.hid hagWx
                    clear sWx oWx hWx ex8 fx8 kbx hownx9 hownx10 hownx11 hgx9 hgx11 hfx hfrx hBx9 hBx10 hBx11 alx madex cmx bmx bwx9 qbx qW kg9 kj9 kx9 ky9 bW bl79 bl89
                    have madey := World.ownsRow_made (base := Wx.heap.size) (e := 56) (size := 2) Wx #[] 0 (Nat.le_refl _) (Nat.zero_le _) rfl
                    have bmy := below_call bwWx (Nat.le_refl _) ((Below.refl Wx.heap.size Wx).alloc (Nat.le_refl _) (.cells #[] 56))
                    have cmy : (ph = none ∧ ps = []) ∨ ∃ ad, ph = some ad ∧ ∀ j u, (ps.flatMap thingVs)[j]? = some u → (Wx.alloc (.cells #[] 56)).cell? (ad.add j) = some u := HPc.out.imp id (fun ⟨ad, e, hc⟩ => ⟨ad, e, fun j u hj => (bmy.cell (p := ad.add j) (acell_lt (hc j u hj))).trans (hc j u hj)⟩)
                    have h8y : ps.length ≤ 8388608 := by rw [HPl.out]; omega
                    have hbsy : Wx.heap.size ≤ (Wx.alloc (.cells #[] 56)).heap.size := by simp
                    have qby := Lib.cell?_alloc_some (.cells #[] 56) qWx
                    go_upto_region 31 with (first
                        | (at_builtin; refine wpList_put_things rfl _ _ rfl Wx.heap.size _ rfl madey ph kh h.length ps HPl.out.symm rfl cmy HP1.out h8y HPz.out hbsy ?_; intro vy9 wy9 howny9 hgy9; obtain ⟨py9, ccy9, rfl⟩ := ownsRow_shape howny9; (have hBy9 := ((Below.refl Wx.heap.size Wx).alloc (Nat.le_refl _) (.cells #[] 56)).grown hgy9 hbsy (fun g e => (madey.lt _ e).1)); (have bwy9 := below_call bwWx (Nat.le_refl _) hBy9))
                        | (go_at_call 24; (with_reducible refine (HFy.out _).mono ?_); rintro e wy10 ⟨⟨fpy, fky, rfl, hfy, hfry⟩, hBy10⟩; (have howny10 := ownsRow_belowk howny9 hBy10); (have hly8 : h.length ≤ 8388608 := by omega); (have hbty : Wx.heap.size ≤ wy10.heap.size := Nat.le_trans hBy9.size hBy10.size))
                        | (at_builtin; refine wpList_append_thing rfl _ _ rfl Wx.heap.size _ _ _ rfl howny10 xa.type (.slice fpy xa.has.length fky) rfl wy10.heap.size rfl rfl hly8 hbty ?_; intro vy11 wy11 howny11 hgy11; obtain ⟨gy, cy, rfl, _⟩ := World.ownsRow.form howny11 (Nat.succ_pos _); (have aly := (Below.refl wy10.heap.size wy10).alloc (Nat.le_refl _) (.cells #[.string xa.type, .slice fpy xa.has.length fky] 56)); (have hBy11 := (below_call (below_call hBy9 (Nat.le_refl _) hBy10) (Nat.le_refl _) aly).grown hgy11 (Nat.le_trans hbty aly.size) (fun g e => (howny9.lt _ e).1)); (have kby := kyWx.step hBy11); (have ey8 : wy11.cell? ⟨w8.heap.size + 1 + 1, 0, none⟩ = some (.slice none 0 0) := kby.cell 0); (have fy8 := kby.frozen 0)))
                    obtain ⟨Wy, hWy⟩ : ∃ Wy, Wy = wy11.setCell ⟨w8.heap.size + 1 + 1, 0, none⟩ (.slice (some ⟨gy, 0, none⟩) (h.length + 1) cy) := ⟨_, rfl⟩
                    have sWy : Wy.heap.size = wy11.heap.size := by rw [hWy]; simp
                    have oWy : ∀ b, b ≠ w8.heap.size + 1 + 1 → Wy.heap[b]? = wy11.heap[b]? := fun b hb => by rw [hWy]; exact heap_setCell_other wy11 ⟨w8.heap.size + 1 + 1, 0, none⟩ b _ hb
                    have kgWy : Blk Wy (w7.heap.size) 25 [(.slice gp (h.length + 1) gc)] := (oWy _ (by have := bl78s; omega)).trans (kgWx.step hBy11)
                    have kjWy : Blk Wy (w8.heap.size) 25 [(.slice jp (h.length + 1) jc)] := (oWy _ (by have := bl78s; omega)).trans (kjWx.step hBy11)
                    have kxWy : Blk Wy (w8.heap.size + 1) 25 [(.slice (some ⟨gx, 0, none⟩) (h.length + 1) cx)] := (oWy _ (by have := bl78s; omega)).trans (kxWx.step hBy11)
                    have kyWy : Blk Wy (w8.heap.size + 1 + 1) 25 [(.slice (some ⟨gy, 0, none⟩) (h.length + 1) cy)] := by rw [hWy]; exact kby.store1 _
                    have bwWy : Below w.heap.size w Wy := by rw [hWy]; exact (below_call bwWx (Nat.le_refl _) hBy11).setCell (p := ⟨w8.heap.size + 1 + 1, 0, none⟩) (by show w.heap.size ≤ w8.heap.size + 1 + 1; have := bl7s; have := bl78s; omega) _
                    have b7Wy : Below w7.heap.size w7 Wy := by rw [hWy]; exact (below_call b7Wx (Nat.le_refl _) hBy11).setCell (p := ⟨w8.heap.size + 1 + 1, 0, none⟩) (by show w7.heap.size ≤ w8.heap.size + 1 + 1; have := bl78s; omega) _
                    have b8Wy : Below w8.heap.size w8 Wy := by rw [hWy]; exact (below_call b8Wx (Nat.le_refl _) hBy11).setCell (p := ⟨w8.heap.size + 1 + 1, 0, none⟩) (by show w8.heap.size ≤ w8.heap.size + 1 + 1; omega) _
                    have hTy : ∀ wz, Below w.heap.size w wz → (∀ b, Wx.heap.size ≤ b → b < Wy.heap.size → wz.heap[b]? = Wy.heap[b]?) → ThingsAt wz (.slice (some ⟨gy, 0, none⟩) (h.length + 1) cy) (h ++ [xa]) := fun wz hwz hag => put_step HPs.out HPo.out howny9 hfy hfry howny11 HPl.out.symm hgy11 hBy9.size hwz (fun b h1 h2 => (hag b h1 (by rw [sWy]; exact h2)).trans (oWy b (by have := hsWx; omega)))
                    have qWy : Wy.cell? ⟨w.heap.size, 0, none⟩ = some (.slice ph h.length kh) := (World.cell?_of_block (a := ⟨w.heap.size, 0, none⟩) (oWy w.heap.size (by have := bl7s; have := bl78s; omega))).trans ((hBy11.cell (p := ⟨w.heap.size, 0, none⟩) (hcells_lt qWx)).trans qWx)
                    have hsWy : w8.heap.size + 1 + 1 < Wy.heap.size := by rw [sWy]; exact Nat.lt_of_lt_of_le hsWx hBy11.size
                    have hzWy : Wx.heap.size ≤ Wy.heap.size := by rw [sWy]; exact hBy11.size
                    have hagWy : ∀ b, b < Wx.heap.size → b ≠ w8.heap.size + 1 + 1 → Wy.heap[b]? = Wx.heap[b]? := fun b h1 h2 => (oWy b h2).trans (hBy11.block b h1)
                    rw [← hWy]
                    replace hTy := Lib.hid hTy
                    replace hagWy := Lib.hid hagWy
                    clear sWy oWy hWy ey8 fy8 kby howny9 howny10 howny11 hgy9 hgy11 hfy hfry hBy9 hBy10 hBy11 aly madey cmy bmy bwy9 qby qWx kgWx kjWx kxWx kyWx bwWx b7Wx b8Wx
                    have tx := hTx.out Wy bwWy (fun b h1 h2 => (hagWy.out b h2 (by have := hWs; omega)))
                    have tg := hg.mono b7Wy
                    have ty := hTy.out Wy bwWy (fun b h1 h2 => rfl)
                    have tj := hj.mono b8Wy
                    have HS1 := Lib.hid (heapSame_any _ _ _ Wy tg tx)
                    have HS2 : Hid (∀ wz, Below Wy.heap.size Wy wz → _) := fun wz hb => heapSame_any _ _ _ wz (tj.mono hb) (ty.mono hb)
                    have z0 : Wy.cell? ⟨w7.heap.size, 0, none⟩ = some (.slice gp (h.length + 1) gc) := kgWy.cell 0
                    have z1 : Wy.cell? ⟨w8.heap.size + 1, 0, none⟩ = some (.slice (some ⟨gx, 0, none⟩) (h.length + 1) cx) := kxWy.cell 0
                    clear tx tg ty tj
                    go_wp2_with (first
                        | (go_at_call 25; (with_reducible refine HS1.out.mono ?_); rintro e w21 ⟨rfl, hB21⟩; (have y0 : w21.cell? ⟨w8.heap.size, 0, none⟩ = some (.slice jp (h.length + 1) jc) := (kjWy.step hB21).cell 0); (have y1 : w21.cell? ⟨w8.heap.size + 1 + 1, 0, none⟩ = some (.slice (some ⟨gy, 0, none⟩) (h.length + 1) cy) := (kyWy.step hB21).cell 0); clear HS1)
                        | (go_at_call 25; (with_reducible refine (HS2.out _ hB21).mono ?_); rintro e w22 ⟨rfl, hB22⟩; (have u0 : w22.cell? ⟨w8.heap.size + 1, 0, none⟩ = some (.slice (some ⟨gx, 0, none⟩) (h.length + 1) cx) := ((kxWy.step hB21).step hB22).cell 0); (have u1 : w22.cell? ⟨w8.heap.size + 1 + 1, 0, none⟩ = some (.slice (some ⟨gy, 0, none⟩) (h.length + 1) cy) := ((kyWy.step hB21).step hB22).cell 0)))
                    go_ret
                    exact ⟨rfl, below_call (below_call bwWy (Nat.le_refl _) hB21) (Nat.le_refl _) hB22⟩
                  · skip
                    have hE : E = 0 := by rw [hne]; rfl
                    have hF : F = 2 := by rw [hae]; rfl
                    have HNw : Hid (∀ wx, Below w.heap.size w wx → _) := fun wx hb => (HN0.out wx hb).mono fun e w' hp => make_ok hp hE
                    have HAw : Hid (∀ wx, Below w.heap.size w wx → Calls Tryz.prog 22 #[.slice pl l.length cap, .agg #[.slice ph h.length kh], .string k, .int .i64 n] wx fun e w' => e = .returned (.tuple #[.agg #[.slice none 0 0], .int .i64 0, .iface 35 (.int .i64 2)]) ∧ Below wx.heap.size wx w') := fun wx hb => (HA0.out wx hb).mono fun e w' hp => make_err hp hF (by decide)
                    have HEe := Lib.hid same_ok
                    have HEf : Hid (∀ wx, Calls Tryz.prog 14 #[.iface 35 (.int .i64 2), .int .i64 2] wx fun e w' => e = .returned (.bool true) ∧ wx = w') := fun wx => same_is 2 (by decide) wx
                    have HFx : Hid (∀ wx, Below w.heap.size w wx → _) := HFr.out rfl rfl
                    have h51 := HFo.out rfl
                    obtain ⟨i0, hi, hz1, hz2, hz3⟩ := info_parts info_thing
                    clear hE hF HN0 HA0 HFr HFa HFo hne hae
                    go_enter Tryz.func5, Tryz.ntmps5
                    go_upto_region 27 with (first
                        | (go_at_call 10; (with_reducible refine (HHd.out _ BX.out.below).mono ?_); rintro e w2 ⟨rfl, hB2⟩; (have BX2 := BX.out.step hB2); (have q2 := boxed1 BX2))
                        | (go_at_call 13; (with_reducible refine (HRf.out _ BX2.below).mono ?_); rintro e w3 ⟨rfl, hB3⟩; (have BX3 := BX2.step hB3); (have q3 := boxed1 BX3))
                        | (go_at_call 19; (with_reducible refine (HCO.out _ BX3.below).mono ?_); rintro e w4 ⟨pf, kf, pd, kd, pm, km, rfl, _, _, _, hB4, _⟩; (have BX5 := (BX3.step hB4).alloc (.cells #[.string n2, .string s2, .slice pf fc2.length kf, .bool false, .slice pd d2.length kd, .slice pm m2.length km] 47)); (have q4 := boxed1 BX5))
                        | (go_at_call 16; (with_reducible refine (HTy.out _).mono ?_); rintro e w5 ⟨rfl, rfl⟩)
                        | (go_at_call 20; (with_reducible refine (HDe.out _).mono ?_); rintro e w5 ⟨rfl, rfl⟩)
                        | (go_at_call 17; (with_reducible refine (HKi.out _ BX5.below).mono ?_); rintro e w6 ⟨rfl, hB6⟩; (have BX6 := BX5.step hB6); (have q6 := boxed1 BX6))
                        | (go_at_call 21; (with_reducible refine (HNw.out _ BX6.below).mono ?_); rintro e w7 ⟨⟨gp, gc, rfl, hg⟩, hB7⟩; (have BX7 := (BX6.step hB7).alloc (.cells #[.slice gp (h.length + 1) gc] 25)); (have q7 := boxed1 BX7); (have kg7 := Blk.new w7 25 [(.slice gp (h.length + 1) gc)]); (have bl7q : w.heap.size < w7.heap.size := hcells_lt (boxed1 (BX6.step hB7))); (have bl7 := (Below.refl w7.heap.size w7).alloc (Nat.le_refl _) (.cells #[.slice gp (h.length + 1) gc] 25)))
                        | (go_at_call 22; (with_reducible refine (HAw.out _ BX7.below).mono ?_); rintro e w8 ⟨rfl, hB8⟩; (have BX8 := (BX7.step hB8).alloc (.cells #[.slice none 0 0] 25)); (have q8 := boxed1 BX8); (have kg8 := (kg7.step hB8).step ((Below.refl _ _).alloc (Nat.le_refl _) (.cells #[.slice none 0 0] 25))); (have kj8 := Blk.new w8 25 [(.slice none 0 0)]); (have al1 := (Below.refl (w8.alloc (.cells #[.slice none 0 0] 25)).heap.size (w8.alloc (.cells #[.slice none 0 0] 25))).alloc (Nat.le_refl _) (.cells #[.slice none 0 0] 25)); (have al2 := (Below.refl ((w8.alloc (.cells #[.slice none 0 0] 25)).alloc (.cells #[.slice none 0 0] 25)).heap.size ((w8.alloc (.cells #[.slice none 0 0] 25)).alloc (.cells #[.slice none 0 0] 25))).alloc (Nat.le_refl _) (.cells #[.slice none 0 0] 25)); (have al0 := (Below.refl w8.heap.size w8).alloc (Nat.le_refl _) (.cells #[.slice none 0 0] 25)); (have bl89 := below_call (below_call al0 (Nat.le_refl _) al1) (Nat.le_refl _) al2); (have bl79 := below_call (below_call bl7 (Nat.le_refl _) hB8) (Nat.le_refl _) bl89); (have BX9 := (BX8.step al1).step al2); (have kg9 := (kg8.step al1).step al2); (have kj9 := (kj8.step al1).step al2); (have kx9' := (Blk.new (w8.alloc (.cells #[.slice none 0 0] 25)) 25 [.slice none 0 0]).step al2); (have ky9' := Blk.new ((w8.alloc (.cells #[.slice none 0 0] 25)).alloc (.cells #[.slice none 0 0] 25)) 25 [.slice none 0 0]); (have sz8 : (w8.alloc (.cells #[.slice none 0 0] 25)).heap.size = w8.heap.size + 1 := by simp); (have sz9 : ((w8.alloc (.cells #[.slice none 0 0] 25)).alloc (.cells #[.slice none 0 0] 25)).heap.size = w8.heap.size + 1 + 1 := by simp); (have kx9 := sz8 ▸ kx9'); (have ky9 := sz9 ▸ ky9'); clear kx9' ky9' al0 al1 al2; (have q9 := boxed1 BX9); (have r0 := kg9.cell 0))
                        | (go_at_call 14; (with_reducible refine (HEe.out _).mono ?_); rintro e w9 ⟨rfl, rfl⟩)
                        | (go_at_call 14; (with_reducible refine (HEf.out _).mono ?_); rintro e w9 ⟨rfl, rfl⟩))
                    obtain ⟨W, hW⟩ : ∃ W, W = ((w8.alloc (.cells #[.slice none 0 0] 25)).alloc (.cells #[.slice none 0 0] 25)).alloc (.cells #[.slice none 0 0] 25) := ⟨_, rfl⟩
                    have hWs : w8.heap.size + 1 + 1 < W.heap.size := by rw [hW]; simp
                    rw [← hW] at BX9 kg9 kj9 kx9 ky9 bl79 bl89 q9 ⊢
                    have bW := BX9.below
                    have qW := boxed1 BX9
                    have bl7s := bl7q
                    have bl78s : w7.heap.size < w8.heap.size := Nat.lt_of_lt_of_le (by simp) hB8.size
                    clear hW q9 r0 BX9 BX8 BX7 kg7 kg8 kj8 q7 q8 bl7 hB8 hB7 sz8 sz9 HNw HAw HEe HEf HHd HRf HCO HKi HTy HDe
                    skip
                    have hq : ∀ wz, Below w.heap.size w wz → True := fun _ _ => trivial
                    have madex := World.ownsRow_made (base := W.heap.size) (e := 56) (size := 2) W #[] 0 (Nat.le_refl _) (Nat.zero_le _) rfl
                    have bmx := below_call bW (Nat.le_refl _) ((Below.refl W.heap.size W).alloc (Nat.le_refl _) (.cells #[] 56))
                    have cmx : (ph = none ∧ ps = []) ∨ ∃ ad, ph = some ad ∧ ∀ j u, (ps.flatMap thingVs)[j]? = some u → (W.alloc (.cells #[] 56)).cell? (ad.add j) = some u := HPc.out.imp id (fun ⟨ad, e, hc⟩ => ⟨ad, e, fun j u hj => (bmx.cell (p := ad.add j) (acell_lt (hc j u hj))).trans (hc j u hj)⟩)
                    have h8x : ps.length ≤ 8388608 := by rw [HPl.out]; omega
                    have hbsx : W.heap.size ≤ (W.alloc (.cells #[] 56)).heap.size := by simp
                    have qbx := Lib.cell?_alloc_some (.cells #[] 56) qW
                    go_upto_region 29 with (first
                        | (at_builtin; refine wpList_put_things rfl _ _ rfl W.heap.size _ rfl madex ph kh h.length ps HPl.out.symm rfl cmx HP1.out h8x HPz.out hbsx ?_; intro vx9 wx9 hownx9 hgx9; obtain ⟨px9, ccx9, rfl⟩ := ownsRow_shape hownx9; (have hBx9 := ((Below.refl W.heap.size W).alloc (Nat.le_refl _) (.cells #[] 56)).grown hgx9 hbsx (fun g e => (madex.lt _ e).1)); (have bwx9 := below_call bW (Nat.le_refl _) hBx9))
                        | (go_at_call 23; (with_reducible refine (HFx.out _ bwx9).mono ?_); rintro e wx10 ⟨⟨fpx, fkx, rfl, hfx, hfrx⟩, hBx10⟩; (have hownx10 := ownsRow_belowk hownx9 hBx10); (have hlx8 : h.length ≤ 8388608 := by omega); (have hbtx : W.heap.size ≤ wx10.heap.size := Nat.le_trans hBx9.size hBx10.size))
                        | (at_builtin; refine wpList_append_thing rfl _ _ rfl W.heap.size _ _ _ rfl hownx10 xf.type (.slice fpx xf.has.length fkx) rfl wx10.heap.size rfl rfl hlx8 hbtx ?_; intro vx11 wx11 hownx11 hgx11; obtain ⟨gx, cx, rfl, _⟩ := World.ownsRow.form hownx11 (Nat.succ_pos _); (have alx := (Below.refl wx10.heap.size wx10).alloc (Nat.le_refl _) (.cells #[.string xf.type, .slice fpx xf.has.length fkx] 56)); (have hBx11 := (below_call (below_call hBx9 (Nat.le_refl _) hBx10) (Nat.le_refl _) alx).grown hgx11 (Nat.le_trans hbtx alx.size) (fun g e => (hownx9.lt _ e).1)); (have kbx := kx9.step hBx11); (have ex8 : wx11.cell? ⟨w8.heap.size + 1, 0, none⟩ = some (.slice none 0 0) := kbx.cell 0); (have fx8 := kbx.frozen 0)))
                    obtain ⟨Wx, hWx⟩ : ∃ Wx, Wx = wx11.setCell ⟨w8.heap.size + 1, 0, none⟩ (.slice (some ⟨gx, 0, none⟩) (h.length + 1) cx) := ⟨_, rfl⟩
                    have sWx : Wx.heap.size = wx11.heap.size := by rw [hWx]; simp
                    have oWx : ∀ b, b ≠ w8.heap.size + 1 → Wx.heap[b]? = wx11.heap[b]? := fun b hb => by rw [hWx]; exact heap_setCell_other wx11 ⟨w8.heap.size + 1, 0, none⟩ b _ hb
                    have kgWx : Blk Wx (w7.heap.size) 25 [(.slice gp (h.length + 1) gc)] := (oWx _ (by have := bl78s; omega)).trans (kg9.step hBx11)
                    have kjWx : Blk Wx (w8.heap.size) 25 [(.slice none 0 0)] := (oWx _ (by have := bl78s; omega)).trans (kj9.step hBx11)
                    have kxWx : Blk Wx (w8.heap.size + 1) 25 [(.slice (some ⟨gx, 0, none⟩) (h.length + 1) cx)] := by rw [hWx]; exact kbx.store1 _
                    have kyWx : Blk Wx (w8.heap.size + 1 + 1) 25 [(.slice none 0 0)] := (oWx _ (by have := bl78s; omega)).trans (ky9.step hBx11)
                    have bwWx : Below w.heap.size w Wx := by rw [hWx]; exact (below_call bW (Nat.le_refl _) hBx11).setCell (p := ⟨w8.heap.size + 1, 0, none⟩) (by show w.heap.size ≤ w8.heap.size + 1; have := bl7s; have := bl78s; omega) _
                    have b7Wx : Below w7.heap.size w7 Wx := by rw [hWx]; exact (below_call bl79 (Nat.le_refl _) hBx11).setCell (p := ⟨w8.heap.size + 1, 0, none⟩) (by show w7.heap.size ≤ w8.heap.size + 1; have := bl78s; omega) _
                    have b8Wx : Below w8.heap.size w8 Wx := by rw [hWx]; exact (below_call bl89 (Nat.le_refl _) hBx11).setCell (p := ⟨w8.heap.size + 1, 0, none⟩) (by show w8.heap.size ≤ w8.heap.size + 1; omega) _
                    have hTx : ∀ wz, Below w.heap.size w wz → (∀ b, W.heap.size ≤ b → b < Wx.heap.size → wz.heap[b]? = Wx.heap[b]?) → ThingsAt wz (.slice (some ⟨gx, 0, none⟩) (h.length + 1) cx) (h ++ [xf]) := fun wz hwz hag => put_step HPs.out HPo.out hownx9 hfx hfrx hownx11 HPl.out.symm hgx11 hBx9.size hwz (fun b h1 h2 => (hag b h1 (by rw [sWx]; exact h2)).trans (oWx b (by have := hWs; omega)))
                    have qWx : Wx.cell? ⟨w.heap.size, 0, none⟩ = some (.slice ph h.length kh) := (World.cell?_of_block (a := ⟨w.heap.size, 0, none⟩) (oWx w.heap.size (by have := bl7s; have := bl78s; omega))).trans ((hBx11.cell (p := ⟨w.heap.size, 0, none⟩) (hcells_lt qW)).trans qW)
                    have hsWx : w8.heap.size + 1 + 1 < Wx.heap.size := by rw [sWx]; exact Nat.lt_of_lt_of_le hWs hBx11.size
                    have hzWx : W.heap.size ≤ Wx.heap.size := by rw [sWx]; exact hBx11.size
                    have hagWx : ∀ b, b < W.heap.size → b ≠ w8.heap.size + 1 → Wx.heap[b]? = W.heap[b]? := fun b h1 h2 => (oWx b h2).trans (hBx11.block b h1)
                    rw [← hWx]
                    replace hTx := Lib.hid hTx
                    replace hagWx := Lib.hid hagWx
                    clear sWx oWx hWx ex8 fx8 kbx hownx9 hownx10 hownx11 hgx9 hgx11 hfx hfrx hBx9 hBx10 hBx11 alx madex cmx bmx bwx9 qbx qW kg9 kj9 kx9 ky9 bW bl79 bl89
                    have tx := hTx.out Wx bwWx (fun b h1 h2 => rfl)
                    have tg := hg.mono b7Wx
                    have ty : ThingsAt Wx (.slice none 0 0) [] := Or.inl ⟨rfl, rfl⟩
                    have tj : ThingsAt Wx (.slice none 0 0) [] := Or.inl ⟨rfl, rfl⟩
                    have HS1 := Lib.hid (heapSame_any _ _ _ Wx tg tx)
                    have HS2 : Hid (∀ wz, Below Wx.heap.size Wx wz → _) := fun wz hb => heapSame_any _ _ _ wz (tj.mono hb) (ty.mono hb)
                    have z0 : Wx.cell? ⟨w7.heap.size, 0, none⟩ = some (.slice gp (h.length + 1) gc) := kgWx.cell 0
                    have z1 : Wx.cell? ⟨w8.heap.size + 1, 0, none⟩ = some (.slice (some ⟨gx, 0, none⟩) (h.length + 1) cx) := kxWx.cell 0
                    clear tx tg ty tj
                    go_wp2_with (first
                        | (go_at_call 25; (with_reducible refine HS1.out.mono ?_); rintro e w21 ⟨rfl, hB21⟩; (have y0 : w21.cell? ⟨w8.heap.size, 0, none⟩ = some (.slice none 0 0) := (kjWx.step hB21).cell 0); (have y1 : w21.cell? ⟨w8.heap.size + 1 + 1, 0, none⟩ = some (.slice none 0 0) := (kyWx.step hB21).cell 0); clear HS1)
                        | (go_at_call 25; (with_reducible refine (HS2.out _ hB21).mono ?_); rintro e w22 ⟨rfl, hB22⟩; (have u0 : w22.cell? ⟨w8.heap.size + 1, 0, none⟩ = some (.slice (some ⟨gx, 0, none⟩) (h.length + 1) cx) := ((kxWx.step hB21).step hB22).cell 0); (have u1 : w22.cell? ⟨w8.heap.size + 1 + 1, 0, none⟩ = some (.slice none 0 0) := ((kyWx.step hB21).step hB22).cell 0)))
                    go_ret
                    exact ⟨rfl, below_call (below_call bwWx (Nat.le_refl _) hB21) (Nat.le_refl _) hB22⟩
                · skip
                  have hE : E = 0 := by rw [hne]; rfl
                  have hF : F = 2 := by rw [hae]; cases gn2 <;> rfl
                  have HNw : Hid (∀ wx, Below w.heap.size w wx → _) := fun wx hb => (HN0.out wx hb).mono fun e w' hp => make_ok hp hE
                  have HAw : Hid (∀ wx, Below w.heap.size w wx → Calls Tryz.prog 22 #[.slice pl l.length cap, .agg #[.slice ph h.length kh], .string k, .int .i64 n] wx fun e w' => e = .returned (.tuple #[.agg #[.slice none 0 0], .int .i64 0, .iface 35 (.int .i64 2)]) ∧ Below wx.heap.size wx w') := fun wx hb => (HA0.out wx hb).mono fun e w' hp => make_err hp hF (by decide)
                  have HEe := Lib.hid same_ok
                  have HEf : Hid (∀ wx, Calls Tryz.prog 14 #[.iface 35 (.int .i64 2), .int .i64 2] wx fun e w' => e = .returned (.bool true) ∧ wx = w') := fun wx => same_is 2 (by decide) wx
                  have HFx : Hid (∀ wx, Below w.heap.size w wx → _) := HFr.out rfl rfl
                  have h51 := HFo.out rfl
                  obtain ⟨i0, hi, hz1, hz2, hz3⟩ := info_parts info_thing
                  clear hE hF HN0 HA0 HFr HFa HFo hne hae
                  go_enter Tryz.func5, Tryz.ntmps5
                  go_upto_region 27 with (first
                      | (go_at_call 10; (with_reducible refine (HHd.out _ BX.out.below).mono ?_); rintro e w2 ⟨rfl, hB2⟩; (have BX2 := BX.out.step hB2); (have q2 := boxed1 BX2))
                      | (go_at_call 13; (with_reducible refine (HRf.out _ BX2.below).mono ?_); rintro e w3 ⟨rfl, hB3⟩; (have BX3 := BX2.step hB3); (have q3 := boxed1 BX3))
                      | (go_at_call 19; (with_reducible refine (HCO.out _ BX3.below).mono ?_); rintro e w4 ⟨pf, kf, pd, kd, pm, km, rfl, _, _, _, hB4, _⟩; (have BX5 := (BX3.step hB4).alloc (.cells #[.string n2, .string s2, .slice pf fc2.length kf, .bool false, .slice pd d2.length kd, .slice pm m2.length km] 47)); (have q4 := boxed1 BX5))
                      | (go_at_call 16; (with_reducible refine (HTy.out _).mono ?_); rintro e w5 ⟨rfl, rfl⟩)
                      | (go_at_call 20; (with_reducible refine (HDe.out _).mono ?_); rintro e w5 ⟨rfl, rfl⟩)
                      | (go_at_call 17; (with_reducible refine (HKi.out _ BX5.below).mono ?_); rintro e w6 ⟨rfl, hB6⟩; (have BX6 := BX5.step hB6); (have q6 := boxed1 BX6))
                      | (go_at_call 21; (with_reducible refine (HNw.out _ BX6.below).mono ?_); rintro e w7 ⟨⟨gp, gc, rfl, hg⟩, hB7⟩; (have BX7 := (BX6.step hB7).alloc (.cells #[.slice gp (h.length + 1) gc] 25)); (have q7 := boxed1 BX7); (have kg7 := Blk.new w7 25 [(.slice gp (h.length + 1) gc)]); (have bl7q : w.heap.size < w7.heap.size := hcells_lt (boxed1 (BX6.step hB7))); (have bl7 := (Below.refl w7.heap.size w7).alloc (Nat.le_refl _) (.cells #[.slice gp (h.length + 1) gc] 25)))
                      | (go_at_call 22; (with_reducible refine (HAw.out _ BX7.below).mono ?_); rintro e w8 ⟨rfl, hB8⟩; (have BX8 := (BX7.step hB8).alloc (.cells #[.slice none 0 0] 25)); (have q8 := boxed1 BX8); (have kg8 := (kg7.step hB8).step ((Below.refl _ _).alloc (Nat.le_refl _) (.cells #[.slice none 0 0] 25))); (have kj8 := Blk.new w8 25 [(.slice none 0 0)]); (have al1 := (Below.refl (w8.alloc (.cells #[.slice none 0 0] 25)).heap.size (w8.alloc (.cells #[.slice none 0 0] 25))).alloc (Nat.le_refl _) (.cells #[.slice none 0 0] 25)); (have al2 := (Below.refl ((w8.alloc (.cells #[.slice none 0 0] 25)).alloc (.cells #[.slice none 0 0] 25)).heap.size ((w8.alloc (.cells #[.slice none 0 0] 25)).alloc (.cells #[.slice none 0 0] 25))).alloc (Nat.le_refl _) (.cells #[.slice none 0 0] 25)); (have al0 := (Below.refl w8.heap.size w8).alloc (Nat.le_refl _) (.cells #[.slice none 0 0] 25)); (have bl89 := below_call (below_call al0 (Nat.le_refl _) al1) (Nat.le_refl _) al2); (have bl79 := below_call (below_call bl7 (Nat.le_refl _) hB8) (Nat.le_refl _) bl89); (have BX9 := (BX8.step al1).step al2); (have kg9 := (kg8.step al1).step al2); (have kj9 := (kj8.step al1).step al2); (have kx9' := (Blk.new (w8.alloc (.cells #[.slice none 0 0] 25)) 25 [.slice none 0 0]).step al2); (have ky9' := Blk.new ((w8.alloc (.cells #[.slice none 0 0] 25)).alloc (.cells #[.slice none 0 0] 25)) 25 [.slice none 0 0]); (have sz8 : (w8.alloc (.cells #[.slice none 0 0] 25)).heap.size = w8.heap.size + 1 := by simp); (have sz9 : ((w8.alloc (.cells #[.slice none 0 0] 25)).alloc (.cells #[.slice none 0 0] 25)).heap.size = w8.heap.size + 1 + 1 := by simp); (have kx9 := sz8 ▸ kx9'); (have ky9 := sz9 ▸ ky9'); clear kx9' ky9' al0 al1 al2; (have q9 := boxed1 BX9); (have r0 := kg9.cell 0))
                      | (go_at_call 14; (with_reducible refine (HEe.out _).mono ?_); rintro e w9 ⟨rfl, rfl⟩)
                      | (go_at_call 14; (with_reducible refine (HEf.out _).mono ?_); rintro e w9 ⟨rfl, rfl⟩))
                  obtain ⟨W, hW⟩ : ∃ W, W = ((w8.alloc (.cells #[.slice none 0 0] 25)).alloc (.cells #[.slice none 0 0] 25)).alloc (.cells #[.slice none 0 0] 25) := ⟨_, rfl⟩
                  have hWs : w8.heap.size + 1 + 1 < W.heap.size := by rw [hW]; simp
                  rw [← hW] at BX9 kg9 kj9 kx9 ky9 bl79 bl89 q9 ⊢
                  have bW := BX9.below
                  have qW := boxed1 BX9
                  have bl7s := bl7q
                  have bl78s : w7.heap.size < w8.heap.size := Nat.lt_of_lt_of_le (by simp) hB8.size
                  clear hW q9 r0 BX9 BX8 BX7 kg7 kg8 kj8 q7 q8 bl7 hB8 hB7 sz8 sz9 HNw HAw HEe HEf HHd HRf HCO HKi HTy HDe
                  skip
                  have hq : ∀ wz, Below w.heap.size w wz → True := fun _ _ => trivial
                  have madex := World.ownsRow_made (base := W.heap.size) (e := 56) (size := 2) W #[] 0 (Nat.le_refl _) (Nat.zero_le _) rfl
                  have bmx := below_call bW (Nat.le_refl _) ((Below.refl W.heap.size W).alloc (Nat.le_refl _) (.cells #[] 56))
                  have cmx : (ph = none ∧ ps = []) ∨ ∃ ad, ph = some ad ∧ ∀ j u, (ps.flatMap thingVs)[j]? = some u → (W.alloc (.cells #[] 56)).cell? (ad.add j) = some u := HPc.out.imp id (fun ⟨ad, e, hc⟩ => ⟨ad, e, fun j u hj => (bmx.cell (p := ad.add j) (acell_lt (hc j u hj))).trans (hc j u hj)⟩)
                  have h8x : ps.length ≤ 8388608 := by rw [HPl.out]; omega
                  have hbsx : W.heap.size ≤ (W.alloc (.cells #[] 56)).heap.size := by simp
                  have qbx := Lib.cell?_alloc_some (.cells #[] 56) qW
                  go_upto_region 29 with (first
                      | (at_builtin; refine wpList_put_things rfl _ _ rfl W.heap.size _ rfl madex ph kh h.length ps HPl.out.symm rfl cmx HP1.out h8x HPz.out hbsx ?_; intro vx9 wx9 hownx9 hgx9; obtain ⟨px9, ccx9, rfl⟩ := ownsRow_shape hownx9; (have hBx9 := ((Below.refl W.heap.size W).alloc (Nat.le_refl _) (.cells #[] 56)).grown hgx9 hbsx (fun g e => (madex.lt _ e).1)); (have bwx9 := below_call bW (Nat.le_refl _) hBx9))
                      | (go_at_call 23; (with_reducible refine (HFx.out _ bwx9).mono ?_); rintro e wx10 ⟨⟨fpx, fkx, rfl, hfx, hfrx⟩, hBx10⟩; (have hownx10 := ownsRow_belowk hownx9 hBx10); (have hlx8 : h.length ≤ 8388608 := by omega); (have hbtx : W.heap.size ≤ wx10.heap.size := Nat.le_trans hBx9.size hBx10.size))
                      | (at_builtin; refine wpList_append_thing rfl _ _ rfl W.heap.size _ _ _ rfl hownx10 xf.type (.slice fpx xf.has.length fkx) rfl wx10.heap.size rfl rfl hlx8 hbtx ?_; intro vx11 wx11 hownx11 hgx11; obtain ⟨gx, cx, rfl, _⟩ := World.ownsRow.form hownx11 (Nat.succ_pos _); (have alx := (Below.refl wx10.heap.size wx10).alloc (Nat.le_refl _) (.cells #[.string xf.type, .slice fpx xf.has.length fkx] 56)); (have hBx11 := (below_call (below_call hBx9 (Nat.le_refl _) hBx10) (Nat.le_refl _) alx).grown hgx11 (Nat.le_trans hbtx alx.size) (fun g e => (hownx9.lt _ e).1)); (have kbx := kx9.step hBx11); (have ex8 : wx11.cell? ⟨w8.heap.size + 1, 0, none⟩ = some (.slice none 0 0) := kbx.cell 0); (have fx8 := kbx.frozen 0)))
                  obtain ⟨Wx, hWx⟩ : ∃ Wx, Wx = wx11.setCell ⟨w8.heap.size + 1, 0, none⟩ (.slice (some ⟨gx, 0, none⟩) (h.length + 1) cx) := ⟨_, rfl⟩
                  have sWx : Wx.heap.size = wx11.heap.size := by rw [hWx]; simp
                  have oWx : ∀ b, b ≠ w8.heap.size + 1 → Wx.heap[b]? = wx11.heap[b]? := fun b hb => by rw [hWx]; exact heap_setCell_other wx11 ⟨w8.heap.size + 1, 0, none⟩ b _ hb
                  have kgWx : Blk Wx (w7.heap.size) 25 [(.slice gp (h.length + 1) gc)] := (oWx _ (by have := bl78s; omega)).trans (kg9.step hBx11)
                  have kjWx : Blk Wx (w8.heap.size) 25 [(.slice none 0 0)] := (oWx _ (by have := bl78s; omega)).trans (kj9.step hBx11)
                  have kxWx : Blk Wx (w8.heap.size + 1) 25 [(.slice (some ⟨gx, 0, none⟩) (h.length + 1) cx)] := by rw [hWx]; exact kbx.store1 _
                  have kyWx : Blk Wx (w8.heap.size + 1 + 1) 25 [(.slice none 0 0)] := (oWx _ (by have := bl78s; omega)).trans (ky9.step hBx11)
                  have bwWx : Below w.heap.size w Wx := by rw [hWx]; exact (below_call bW (Nat.le_refl _) hBx11).setCell (p := ⟨w8.heap.size + 1, 0, none⟩) (by show w.heap.size ≤ w8.heap.size + 1; have := bl7s; have := bl78s; omega) _
                  have b7Wx : Below w7.heap.size w7 Wx := by rw [hWx]; exact (below_call bl79 (Nat.le_refl _) hBx11).setCell (p := ⟨w8.heap.size + 1, 0, none⟩) (by show w7.heap.size ≤ w8.heap.size + 1; have := bl78s; omega) _
                  have b8Wx : Below w8.heap.size w8 Wx := by rw [hWx]; exact (below_call bl89 (Nat.le_refl _) hBx11).setCell (p := ⟨w8.heap.size + 1, 0, none⟩) (by show w8.heap.size ≤ w8.heap.size + 1; omega) _
                  have hTx : ∀ wz, Below w.heap.size w wz → (∀ b, W.heap.size ≤ b → b < Wx.heap.size → wz.heap[b]? = Wx.heap[b]?) → ThingsAt wz (.slice (some ⟨gx, 0, none⟩) (h.length + 1) cx) (h ++ [xf]) := fun wz hwz hag => put_step HPs.out HPo.out hownx9 hfx hfrx hownx11 HPl.out.symm hgx11 hBx9.size hwz (fun b h1 h2 => (hag b h1 (by rw [sWx]; exact h2)).trans (oWx b (by have := hWs; omega)))
                  have qWx : Wx.cell? ⟨w.heap.size, 0, none⟩ = some (.slice ph h.length kh) := (World.cell?_of_block (a := ⟨w.heap.size, 0, none⟩) (oWx w.heap.size (by have := bl7s; have := bl78s; omega))).trans ((hBx11.cell (p := ⟨w.heap.size, 0, none⟩) (hcells_lt qW)).trans qW)
                  have hsWx : w8.heap.size + 1 + 1 < Wx.heap.size := by rw [sWx]; exact Nat.lt_of_lt_of_le hWs hBx11.size
                  have hzWx : W.heap.size ≤ Wx.heap.size := by rw [sWx]; exact hBx11.size
                  have hagWx : ∀ b, b < W.heap.size → b ≠ w8.heap.size + 1 → Wx.heap[b]? = W.heap[b]? := fun b h1 h2 => (oWx b h2).trans (hBx11.block b h1)
                  rw [← hWx]
                  replace hTx := Lib.hid hTx
                  replace hagWx := Lib.hid hagWx
                  clear sWx oWx hWx ex8 fx8 kbx hownx9 hownx10 hownx11 hgx9 hgx11 hfx hfrx hBx9 hBx10 hBx11 alx madex cmx bmx bwx9 qbx qW kg9 kj9 kx9 ky9 bW bl79 bl89
                  have tx := hTx.out Wx bwWx (fun b h1 h2 => rfl)
                  have tg := hg.mono b7Wx
                  have ty : ThingsAt Wx (.slice none 0 0) [] := Or.inl ⟨rfl, rfl⟩
                  have tj : ThingsAt Wx (.slice none 0 0) [] := Or.inl ⟨rfl, rfl⟩
                  have HS1 := Lib.hid (heapSame_any _ _ _ Wx tg tx)
                  have HS2 : Hid (∀ wz, Below Wx.heap.size Wx wz → _) := fun wz hb => heapSame_any _ _ _ wz (tj.mono hb) (ty.mono hb)
                  have z0 : Wx.cell? ⟨w7.heap.size, 0, none⟩ = some (.slice gp (h.length + 1) gc) := kgWx.cell 0
                  have z1 : Wx.cell? ⟨w8.heap.size + 1, 0, none⟩ = some (.slice (some ⟨gx, 0, none⟩) (h.length + 1) cx) := kxWx.cell 0
                  clear tx tg ty tj
                  go_wp2_with (first
                      | (go_at_call 25; (with_reducible refine HS1.out.mono ?_); rintro e w21 ⟨rfl, hB21⟩; (have y0 : w21.cell? ⟨w8.heap.size, 0, none⟩ = some (.slice none 0 0) := (kjWx.step hB21).cell 0); (have y1 : w21.cell? ⟨w8.heap.size + 1 + 1, 0, none⟩ = some (.slice none 0 0) := (kyWx.step hB21).cell 0); clear HS1)
                      | (go_at_call 25; (with_reducible refine (HS2.out _ hB21).mono ?_); rintro e w22 ⟨rfl, hB22⟩; (have u0 : w22.cell? ⟨w8.heap.size + 1, 0, none⟩ = some (.slice (some ⟨gx, 0, none⟩) (h.length + 1) cx) := ((kxWx.step hB21).step hB22).cell 0); (have u1 : w22.cell? ⟨w8.heap.size + 1 + 1, 0, none⟩ = some (.slice none 0 0) := ((kyWx.step hB21).step hB22).cell 0)))
                  go_ret
                  exact ⟨rfl, below_call (below_call bwWx (Nat.le_refl _) hB21) (Nat.le_refl _) hB22⟩
              · have hzF := hk0
                have zk : ((kr : Int) == 0) = false := by simpa using hk0
                have hE : E = 0 := by rw [hne]; rfl
                have hF : F = kr := by rw [hae]; simp [step1, step2, hk0]
                have HNw : Hid (∀ wx, Below w.heap.size w wx → _) := fun wx hb => (HN0.out wx hb).mono fun e w' hp => make_ok hp hE
                have HAw : Hid (∀ wx, Below w.heap.size w wx → Calls Tryz.prog 22 #[.slice pl l.length cap, .agg #[.slice ph h.length kh], .string k, .int .i64 n] wx fun e w' => e = .returned (.tuple #[.agg #[.slice none 0 0], .int .i64 0, .iface 35 (.int .i64 kr)]) ∧ Below wx.heap.size wx w') := fun wx hb => (HA0.out wx hb).mono fun e w' hp => make_err hp hF hzF
                have HEe := Lib.hid same_ok
                have HEf : Hid (∀ wx, Calls Tryz.prog 14 #[.iface 35 (.int .i64 kr), .int .i64 kr] wx fun e w' => e = .returned (.bool true) ∧ wx = w') := fun wx => same_is kr hzF wx
                have HFx : Hid (∀ wx, Below w.heap.size w wx → _) := HFr.out rfl rfl
                have h51 := HFo.out rfl
                obtain ⟨i0, hi, hz1, hz2, hz3⟩ := info_parts info_thing
                clear hE hF HN0 HA0 HFr HFa HFo hne hae
                go_enter Tryz.func5, Tryz.ntmps5
                go_upto_region 27 with (first
                    | (go_at_call 10; (with_reducible refine (HHd.out _ BX.out.below).mono ?_); rintro e w2 ⟨rfl, hB2⟩; (have BX2 := BX.out.step hB2); (have q2 := boxed1 BX2))
                    | (go_at_call 13; (with_reducible refine (HRf.out _ BX2.below).mono ?_); rintro e w3 ⟨rfl, hB3⟩; (have BX3 := BX2.step hB3); (have q3 := boxed1 BX3))
                    | (go_at_call 19; (with_reducible refine (HCO.out _ BX3.below).mono ?_); rintro e w4 ⟨pf, kf, pd, kd, pm, km, rfl, _, _, _, hB4, _⟩; (have BX5 := (BX3.step hB4).alloc (.cells #[.string n2, .string s2, .slice pf fc2.length kf, .bool false, .slice pd d2.length kd, .slice pm m2.length km] 47)); (have q4 := boxed1 BX5))
                    | (go_at_call 16; (with_reducible refine (HTy.out _).mono ?_); rintro e w5 ⟨rfl, rfl⟩)
                    | (go_at_call 20; (with_reducible refine (HDe.out _).mono ?_); rintro e w5 ⟨rfl, rfl⟩)
                    | (go_at_call 17; (with_reducible refine (HKi.out _ BX5.below).mono ?_); rintro e w6 ⟨rfl, hB6⟩; (have BX6 := BX5.step hB6); (have q6 := boxed1 BX6))
                    | (go_at_call 21; (with_reducible refine (HNw.out _ BX6.below).mono ?_); rintro e w7 ⟨⟨gp, gc, rfl, hg⟩, hB7⟩; (have BX7 := (BX6.step hB7).alloc (.cells #[.slice gp (h.length + 1) gc] 25)); (have q7 := boxed1 BX7); (have kg7 := Blk.new w7 25 [(.slice gp (h.length + 1) gc)]); (have bl7q : w.heap.size < w7.heap.size := hcells_lt (boxed1 (BX6.step hB7))); (have bl7 := (Below.refl w7.heap.size w7).alloc (Nat.le_refl _) (.cells #[.slice gp (h.length + 1) gc] 25)))
                    | (go_at_call 22; (with_reducible refine (HAw.out _ BX7.below).mono ?_); rintro e w8 ⟨rfl, hB8⟩; (have BX8 := (BX7.step hB8).alloc (.cells #[.slice none 0 0] 25)); (have q8 := boxed1 BX8); (have kg8 := (kg7.step hB8).step ((Below.refl _ _).alloc (Nat.le_refl _) (.cells #[.slice none 0 0] 25))); (have kj8 := Blk.new w8 25 [(.slice none 0 0)]); (have al1 := (Below.refl (w8.alloc (.cells #[.slice none 0 0] 25)).heap.size (w8.alloc (.cells #[.slice none 0 0] 25))).alloc (Nat.le_refl _) (.cells #[.slice none 0 0] 25)); (have al2 := (Below.refl ((w8.alloc (.cells #[.slice none 0 0] 25)).alloc (.cells #[.slice none 0 0] 25)).heap.size ((w8.alloc (.cells #[.slice none 0 0] 25)).alloc (.cells #[.slice none 0 0] 25))).alloc (Nat.le_refl _) (.cells #[.slice none 0 0] 25)); (have al0 := (Below.refl w8.heap.size w8).alloc (Nat.le_refl _) (.cells #[.slice none 0 0] 25)); (have bl89 := below_call (below_call al0 (Nat.le_refl _) al1) (Nat.le_refl _) al2); (have bl79 := below_call (below_call bl7 (Nat.le_refl _) hB8) (Nat.le_refl _) bl89); (have BX9 := (BX8.step al1).step al2); (have kg9 := (kg8.step al1).step al2); (have kj9 := (kj8.step al1).step al2); (have kx9' := (Blk.new (w8.alloc (.cells #[.slice none 0 0] 25)) 25 [.slice none 0 0]).step al2); (have ky9' := Blk.new ((w8.alloc (.cells #[.slice none 0 0] 25)).alloc (.cells #[.slice none 0 0] 25)) 25 [.slice none 0 0]); (have sz8 : (w8.alloc (.cells #[.slice none 0 0] 25)).heap.size = w8.heap.size + 1 := by simp); (have sz9 : ((w8.alloc (.cells #[.slice none 0 0] 25)).alloc (.cells #[.slice none 0 0] 25)).heap.size = w8.heap.size + 1 + 1 := by simp); (have kx9 := sz8 ▸ kx9'); (have ky9 := sz9 ▸ ky9'); clear kx9' ky9' al0 al1 al2; (have q9 := boxed1 BX9); (have r0 := kg9.cell 0))
                    | (go_at_call 14; (with_reducible refine (HEe.out _).mono ?_); rintro e w9 ⟨rfl, rfl⟩)
                    | (go_at_call 14; (with_reducible refine (HEf.out _).mono ?_); rintro e w9 ⟨rfl, rfl⟩))
                obtain ⟨W, hW⟩ : ∃ W, W = ((w8.alloc (.cells #[.slice none 0 0] 25)).alloc (.cells #[.slice none 0 0] 25)).alloc (.cells #[.slice none 0 0] 25) := ⟨_, rfl⟩
                have hWs : w8.heap.size + 1 + 1 < W.heap.size := by rw [hW]; simp
                rw [← hW] at BX9 kg9 kj9 kx9 ky9 bl79 bl89 q9 ⊢
                have bW := BX9.below
                have qW := boxed1 BX9
                have bl7s := bl7q
                have bl78s : w7.heap.size < w8.heap.size := Nat.lt_of_lt_of_le (by simp) hB8.size
                clear hW q9 r0 BX9 BX8 BX7 kg7 kg8 kj8 q7 q8 bl7 hB8 hB7 sz8 sz9 HNw HAw HEe HEf HHd HRf HCO HKi HTy HDe
                skip
                have hq : ∀ wz, Below w.heap.size w wz → True := fun _ _ => trivial
                have madex := World.ownsRow_made (base := W.heap.size) (e := 56) (size := 2) W #[] 0 (Nat.le_refl _) (Nat.zero_le _) rfl
                have bmx := below_call bW (Nat.le_refl _) ((Below.refl W.heap.size W).alloc (Nat.le_refl _) (.cells #[] 56))
                have cmx : (ph = none ∧ ps = []) ∨ ∃ ad, ph = some ad ∧ ∀ j u, (ps.flatMap thingVs)[j]? = some u → (W.alloc (.cells #[] 56)).cell? (ad.add j) = some u := HPc.out.imp id (fun ⟨ad, e, hc⟩ => ⟨ad, e, fun j u hj => (bmx.cell (p := ad.add j) (acell_lt (hc j u hj))).trans (hc j u hj)⟩)
                have h8x : ps.length ≤ 8388608 := by rw [HPl.out]; omega
                have hbsx : W.heap.size ≤ (W.alloc (.cells #[] 56)).heap.size := by simp
                have qbx := Lib.cell?_alloc_some (.cells #[] 56) qW
                go_upto_region 29 with (first
                    | (at_builtin; refine wpList_put_things rfl _ _ rfl W.heap.size _ rfl madex ph kh h.length ps HPl.out.symm rfl cmx HP1.out h8x HPz.out hbsx ?_; intro vx9 wx9 hownx9 hgx9; obtain ⟨px9, ccx9, rfl⟩ := ownsRow_shape hownx9; (have hBx9 := ((Below.refl W.heap.size W).alloc (Nat.le_refl _) (.cells #[] 56)).grown hgx9 hbsx (fun g e => (madex.lt _ e).1)); (have bwx9 := below_call bW (Nat.le_refl _) hBx9))
                    | (go_at_call 23; (with_reducible refine (HFx.out _ bwx9).mono ?_); rintro e wx10 ⟨⟨fpx, fkx, rfl, hfx, hfrx⟩, hBx10⟩; (have hownx10 := ownsRow_belowk hownx9 hBx10); (have hlx8 : h.length ≤ 8388608 := by omega); (have hbtx : W.heap.size ≤ wx10.heap.size := Nat.le_trans hBx9.size hBx10.size))
                    | (at_builtin; refine wpList_append_thing rfl _ _ rfl W.heap.size _ _ _ rfl hownx10 xf.type (.slice fpx xf.has.length fkx) rfl wx10.heap.size rfl rfl hlx8 hbtx ?_; intro vx11 wx11 hownx11 hgx11; obtain ⟨gx, cx, rfl, _⟩ := World.ownsRow.form hownx11 (Nat.succ_pos _); (have alx := (Below.refl wx10.heap.size wx10).alloc (Nat.le_refl _) (.cells #[.string xf.type, .slice fpx xf.has.length fkx] 56)); (have hBx11 := (below_call (below_call hBx9 (Nat.le_refl _) hBx10) (Nat.le_refl _) alx).grown hgx11 (Nat.le_trans hbtx alx.size) (fun g e => (hownx9.lt _ e).1)); (have kbx := kx9.step hBx11); (have ex8 : wx11.cell? ⟨w8.heap.size + 1, 0, none⟩ = some (.slice none 0 0) := kbx.cell 0); (have fx8 := kbx.frozen 0)))
                obtain ⟨Wx, hWx⟩ : ∃ Wx, Wx = wx11.setCell ⟨w8.heap.size + 1, 0, none⟩ (.slice (some ⟨gx, 0, none⟩) (h.length + 1) cx) := ⟨_, rfl⟩
                have sWx : Wx.heap.size = wx11.heap.size := by rw [hWx]; simp
                have oWx : ∀ b, b ≠ w8.heap.size + 1 → Wx.heap[b]? = wx11.heap[b]? := fun b hb => by rw [hWx]; exact heap_setCell_other wx11 ⟨w8.heap.size + 1, 0, none⟩ b _ hb
                have kgWx : Blk Wx (w7.heap.size) 25 [(.slice gp (h.length + 1) gc)] := (oWx _ (by have := bl78s; omega)).trans (kg9.step hBx11)
                have kjWx : Blk Wx (w8.heap.size) 25 [(.slice none 0 0)] := (oWx _ (by have := bl78s; omega)).trans (kj9.step hBx11)
                have kxWx : Blk Wx (w8.heap.size + 1) 25 [(.slice (some ⟨gx, 0, none⟩) (h.length + 1) cx)] := by rw [hWx]; exact kbx.store1 _
                have kyWx : Blk Wx (w8.heap.size + 1 + 1) 25 [(.slice none 0 0)] := (oWx _ (by have := bl78s; omega)).trans (ky9.step hBx11)
                have bwWx : Below w.heap.size w Wx := by rw [hWx]; exact (below_call bW (Nat.le_refl _) hBx11).setCell (p := ⟨w8.heap.size + 1, 0, none⟩) (by show w.heap.size ≤ w8.heap.size + 1; have := bl7s; have := bl78s; omega) _
                have b7Wx : Below w7.heap.size w7 Wx := by rw [hWx]; exact (below_call bl79 (Nat.le_refl _) hBx11).setCell (p := ⟨w8.heap.size + 1, 0, none⟩) (by show w7.heap.size ≤ w8.heap.size + 1; have := bl78s; omega) _
                have b8Wx : Below w8.heap.size w8 Wx := by rw [hWx]; exact (below_call bl89 (Nat.le_refl _) hBx11).setCell (p := ⟨w8.heap.size + 1, 0, none⟩) (by show w8.heap.size ≤ w8.heap.size + 1; omega) _
                have hTx : ∀ wz, Below w.heap.size w wz → (∀ b, W.heap.size ≤ b → b < Wx.heap.size → wz.heap[b]? = Wx.heap[b]?) → ThingsAt wz (.slice (some ⟨gx, 0, none⟩) (h.length + 1) cx) (h ++ [xf]) := fun wz hwz hag => put_step HPs.out HPo.out hownx9 hfx hfrx hownx11 HPl.out.symm hgx11 hBx9.size hwz (fun b h1 h2 => (hag b h1 (by rw [sWx]; exact h2)).trans (oWx b (by have := hWs; omega)))
                have qWx : Wx.cell? ⟨w.heap.size, 0, none⟩ = some (.slice ph h.length kh) := (World.cell?_of_block (a := ⟨w.heap.size, 0, none⟩) (oWx w.heap.size (by have := bl7s; have := bl78s; omega))).trans ((hBx11.cell (p := ⟨w.heap.size, 0, none⟩) (hcells_lt qW)).trans qW)
                have hsWx : w8.heap.size + 1 + 1 < Wx.heap.size := by rw [sWx]; exact Nat.lt_of_lt_of_le hWs hBx11.size
                have hzWx : W.heap.size ≤ Wx.heap.size := by rw [sWx]; exact hBx11.size
                have hagWx : ∀ b, b < W.heap.size → b ≠ w8.heap.size + 1 → Wx.heap[b]? = W.heap[b]? := fun b h1 h2 => (oWx b h2).trans (hBx11.block b h1)
                rw [← hWx]
                replace hTx := Lib.hid hTx
                replace hagWx := Lib.hid hagWx
                clear sWx oWx hWx ex8 fx8 kbx hownx9 hownx10 hownx11 hgx9 hgx11 hfx hfrx hBx9 hBx10 hBx11 alx madex cmx bmx bwx9 qbx qW kg9 kj9 kx9 ky9 bW bl79 bl89
                have tx := hTx.out Wx bwWx (fun b h1 h2 => rfl)
                have tg := hg.mono b7Wx
                have ty : ThingsAt Wx (.slice none 0 0) [] := Or.inl ⟨rfl, rfl⟩
                have tj : ThingsAt Wx (.slice none 0 0) [] := Or.inl ⟨rfl, rfl⟩
                have HS1 := Lib.hid (heapSame_any _ _ _ Wx tg tx)
                have HS2 : Hid (∀ wz, Below Wx.heap.size Wx wz → _) := fun wz hb => heapSame_any _ _ _ wz (tj.mono hb) (ty.mono hb)
                have z0 : Wx.cell? ⟨w7.heap.size, 0, none⟩ = some (.slice gp (h.length + 1) gc) := kgWx.cell 0
                have z1 : Wx.cell? ⟨w8.heap.size + 1, 0, none⟩ = some (.slice (some ⟨gx, 0, none⟩) (h.length + 1) cx) := kxWx.cell 0
                clear tx tg ty tj
                go_wp2_with (first
                    | (go_at_call 25; (with_reducible refine HS1.out.mono ?_); rintro e w21 ⟨rfl, hB21⟩; (have y0 : w21.cell? ⟨w8.heap.size, 0, none⟩ = some (.slice none 0 0) := (kjWx.step hB21).cell 0); (have y1 : w21.cell? ⟨w8.heap.size + 1 + 1, 0, none⟩ = some (.slice none 0 0) := (kyWx.step hB21).cell 0); clear HS1)
                    | (go_at_call 25; (with_reducible refine (HS2.out _ hB21).mono ?_); rintro e w22 ⟨rfl, hB22⟩; (have u0 : w22.cell? ⟨w8.heap.size + 1, 0, none⟩ = some (.slice (some ⟨gx, 0, none⟩) (h.length + 1) cx) := ((kxWx.step hB21).step hB22).cell 0); (have u1 : w22.cell? ⟨w8.heap.size + 1 + 1, 0, none⟩ = some (.slice none 0 0) := ((kyWx.step hB21).step hB22).cell 0)))
                go_ret
                exact ⟨rfl, below_call (below_call bwWx (Nat.le_refl _) hB21) (Nat.le_refl _) hB22⟩
            · skip
              have hE : E = 0 := by rw [hne]; rfl
              have hF : F = 1 := by rw [hae]; rfl
              have HNw : Hid (∀ wx, Below w.heap.size w wx → _) := fun wx hb => (HN0.out wx hb).mono fun e w' hp => make_ok hp hE
              have HAw : Hid (∀ wx, Below w.heap.size w wx → Calls Tryz.prog 22 #[.slice pl l.length cap, .agg #[.slice ph h.length kh], .string k, .int .i64 n] wx fun e w' => e = .returned (.tuple #[.agg #[.slice none 0 0], .int .i64 0, .iface 35 (.int .i64 1)]) ∧ Below wx.heap.size wx w') := fun wx hb => (HA0.out wx hb).mono fun e w' hp => make_err hp hF (by decide)
              have HEe := Lib.hid same_ok
              have HEf : Hid (∀ wx, Calls Tryz.prog 14 #[.iface 35 (.int .i64 1), .int .i64 1] wx fun e w' => e = .returned (.bool true) ∧ wx = w') := fun wx => same_is 1 (by decide) wx
              have HFx : Hid (∀ wx, Below w.heap.size w wx → _) := HFr.out rfl rfl
              have h51 := HFo.out rfl
              obtain ⟨i0, hi, hz1, hz2, hz3⟩ := info_parts info_thing
              clear hE hF HN0 HA0 HFr HFa HFo hne hae
              go_enter Tryz.func5, Tryz.ntmps5
              go_upto_region 27 with (first
                  | (go_at_call 10; (with_reducible refine (HHd.out _ BX.out.below).mono ?_); rintro e w2 ⟨rfl, hB2⟩; (have BX2 := BX.out.step hB2); (have q2 := boxed1 BX2))
                  | (go_at_call 13; (with_reducible refine (HRf.out _ BX2.below).mono ?_); rintro e w3 ⟨rfl, hB3⟩; (have BX3 := BX2.step hB3); (have q3 := boxed1 BX3))
                  | (go_at_call 19; (with_reducible refine (HCO.out _ BX3.below).mono ?_); rintro e w4 ⟨pf, kf, pd, kd, pm, km, rfl, _, _, _, hB4, _⟩; (have BX5 := (BX3.step hB4).alloc (.cells #[.string n2, .string s2, .slice pf fc2.length kf, .bool false, .slice pd d2.length kd, .slice pm m2.length km] 47)); (have q4 := boxed1 BX5))
                  | (go_at_call 16; (with_reducible refine (HTy.out _).mono ?_); rintro e w5 ⟨rfl, rfl⟩)
                  | (go_at_call 20; (with_reducible refine (HDe.out _).mono ?_); rintro e w5 ⟨rfl, rfl⟩)
                  | (go_at_call 21; (with_reducible refine (HNw.out _ BX5.below).mono ?_); rintro e w7 ⟨⟨gp, gc, rfl, hg⟩, hB7⟩; (have BX7 := (BX5.step hB7).alloc (.cells #[.slice gp (h.length + 1) gc] 25)); (have q7 := boxed1 BX7); (have kg7 := Blk.new w7 25 [(.slice gp (h.length + 1) gc)]); (have bl7q : w.heap.size < w7.heap.size := hcells_lt (boxed1 (BX5.step hB7))); (have bl7 := (Below.refl w7.heap.size w7).alloc (Nat.le_refl _) (.cells #[.slice gp (h.length + 1) gc] 25)))
                  | (go_at_call 22; (with_reducible refine (HAw.out _ BX7.below).mono ?_); rintro e w8 ⟨rfl, hB8⟩; (have BX8 := (BX7.step hB8).alloc (.cells #[.slice none 0 0] 25)); (have q8 := boxed1 BX8); (have kg8 := (kg7.step hB8).step ((Below.refl _ _).alloc (Nat.le_refl _) (.cells #[.slice none 0 0] 25))); (have kj8 := Blk.new w8 25 [(.slice none 0 0)]); (have al1 := (Below.refl (w8.alloc (.cells #[.slice none 0 0] 25)).heap.size (w8.alloc (.cells #[.slice none 0 0] 25))).alloc (Nat.le_refl _) (.cells #[.slice none 0 0] 25)); (have al2 := (Below.refl ((w8.alloc (.cells #[.slice none 0 0] 25)).alloc (.cells #[.slice none 0 0] 25)).heap.size ((w8.alloc (.cells #[.slice none 0 0] 25)).alloc (.cells #[.slice none 0 0] 25))).alloc (Nat.le_refl _) (.cells #[.slice none 0 0] 25)); (have al0 := (Below.refl w8.heap.size w8).alloc (Nat.le_refl _) (.cells #[.slice none 0 0] 25)); (have bl89 := below_call (below_call al0 (Nat.le_refl _) al1) (Nat.le_refl _) al2); (have bl79 := below_call (below_call bl7 (Nat.le_refl _) hB8) (Nat.le_refl _) bl89); (have BX9 := (BX8.step al1).step al2); (have kg9 := (kg8.step al1).step al2); (have kj9 := (kj8.step al1).step al2); (have kx9' := (Blk.new (w8.alloc (.cells #[.slice none 0 0] 25)) 25 [.slice none 0 0]).step al2); (have ky9' := Blk.new ((w8.alloc (.cells #[.slice none 0 0] 25)).alloc (.cells #[.slice none 0 0] 25)) 25 [.slice none 0 0]); (have sz8 : (w8.alloc (.cells #[.slice none 0 0] 25)).heap.size = w8.heap.size + 1 := by simp); (have sz9 : ((w8.alloc (.cells #[.slice none 0 0] 25)).alloc (.cells #[.slice none 0 0] 25)).heap.size = w8.heap.size + 1 + 1 := by simp); (have kx9 := sz8 ▸ kx9'); (have ky9 := sz9 ▸ ky9'); clear kx9' ky9' al0 al1 al2; (have q9 := boxed1 BX9); (have r0 := kg9.cell 0))
                  | (go_at_call 14; (with_reducible refine (HEe.out _).mono ?_); rintro e w9 ⟨rfl, rfl⟩)
                  | (go_at_call 14; (with_reducible refine (HEf.out _).mono ?_); rintro e w9 ⟨rfl, rfl⟩))
              obtain ⟨W, hW⟩ : ∃ W, W = ((w8.alloc (.cells #[.slice none 0 0] 25)).alloc (.cells #[.slice none 0 0] 25)).alloc (.cells #[.slice none 0 0] 25) := ⟨_, rfl⟩
              have hWs : w8.heap.size + 1 + 1 < W.heap.size := by rw [hW]; simp
              rw [← hW] at BX9 kg9 kj9 kx9 ky9 bl79 bl89 q9 ⊢
              have bW := BX9.below
              have qW := boxed1 BX9
              have bl7s := bl7q
              have bl78s : w7.heap.size < w8.heap.size := Nat.lt_of_lt_of_le (by simp) hB8.size
              clear hW q9 r0 BX9 BX8 BX7 kg7 kg8 kj8 q7 q8 bl7 hB8 hB7 sz8 sz9 HNw HAw HEe HEf HHd HRf HCO HKi HTy HDe
              skip
              have hq : ∀ wz, Below w.heap.size w wz → True := fun _ _ => trivial
              have madex := World.ownsRow_made (base := W.heap.size) (e := 56) (size := 2) W #[] 0 (Nat.le_refl _) (Nat.zero_le _) rfl
              have bmx := below_call bW (Nat.le_refl _) ((Below.refl W.heap.size W).alloc (Nat.le_refl _) (.cells #[] 56))
              have cmx : (ph = none ∧ ps = []) ∨ ∃ ad, ph = some ad ∧ ∀ j u, (ps.flatMap thingVs)[j]? = some u → (W.alloc (.cells #[] 56)).cell? (ad.add j) = some u := HPc.out.imp id (fun ⟨ad, e, hc⟩ => ⟨ad, e, fun j u hj => (bmx.cell (p := ad.add j) (acell_lt (hc j u hj))).trans (hc j u hj)⟩)
              have h8x : ps.length ≤ 8388608 := by rw [HPl.out]; omega
              have hbsx : W.heap.size ≤ (W.alloc (.cells #[] 56)).heap.size := by simp
              have qbx := Lib.cell?_alloc_some (.cells #[] 56) qW
              go_upto_region 29 with (first
                  | (at_builtin; refine wpList_put_things rfl _ _ rfl W.heap.size _ rfl madex ph kh h.length ps HPl.out.symm rfl cmx HP1.out h8x HPz.out hbsx ?_; intro vx9 wx9 hownx9 hgx9; obtain ⟨px9, ccx9, rfl⟩ := ownsRow_shape hownx9; (have hBx9 := ((Below.refl W.heap.size W).alloc (Nat.le_refl _) (.cells #[] 56)).grown hgx9 hbsx (fun g e => (madex.lt _ e).1)); (have bwx9 := below_call bW (Nat.le_refl _) hBx9))
                  | (go_at_call 23; (with_reducible refine (HFx.out _ bwx9).mono ?_); rintro e wx10 ⟨⟨fpx, fkx, rfl, hfx, hfrx⟩, hBx10⟩; (have hownx10 := ownsRow_belowk hownx9 hBx10); (have hlx8 : h.length ≤ 8388608 := by omega); (have hbtx : W.heap.size ≤ wx10.heap.size := Nat.le_trans hBx9.size hBx10.size))
                  | (at_builtin; refine wpList_append_thing rfl _ _ rfl W.heap.size _ _ _ rfl hownx10 xf.type (.slice fpx xf.has.length fkx) rfl wx10.heap.size rfl rfl hlx8 hbtx ?_; intro vx11 wx11 hownx11 hgx11; obtain ⟨gx, cx, rfl, _⟩ := World.ownsRow.form hownx11 (Nat.succ_pos _); (have alx := (Below.refl wx10.heap.size wx10).alloc (Nat.le_refl _) (.cells #[.string xf.type, .slice fpx xf.has.length fkx] 56)); (have hBx11 := (below_call (below_call hBx9 (Nat.le_refl _) hBx10) (Nat.le_refl _) alx).grown hgx11 (Nat.le_trans hbtx alx.size) (fun g e => (hownx9.lt _ e).1)); (have kbx := kx9.step hBx11); (have ex8 : wx11.cell? ⟨w8.heap.size + 1, 0, none⟩ = some (.slice none 0 0) := kbx.cell 0); (have fx8 := kbx.frozen 0)))
              obtain ⟨Wx, hWx⟩ : ∃ Wx, Wx = wx11.setCell ⟨w8.heap.size + 1, 0, none⟩ (.slice (some ⟨gx, 0, none⟩) (h.length + 1) cx) := ⟨_, rfl⟩
              have sWx : Wx.heap.size = wx11.heap.size := by rw [hWx]; simp
              have oWx : ∀ b, b ≠ w8.heap.size + 1 → Wx.heap[b]? = wx11.heap[b]? := fun b hb => by rw [hWx]; exact heap_setCell_other wx11 ⟨w8.heap.size + 1, 0, none⟩ b _ hb
              have kgWx : Blk Wx (w7.heap.size) 25 [(.slice gp (h.length + 1) gc)] := (oWx _ (by have := bl78s; omega)).trans (kg9.step hBx11)
              have kjWx : Blk Wx (w8.heap.size) 25 [(.slice none 0 0)] := (oWx _ (by have := bl78s; omega)).trans (kj9.step hBx11)
              have kxWx : Blk Wx (w8.heap.size + 1) 25 [(.slice (some ⟨gx, 0, none⟩) (h.length + 1) cx)] := by rw [hWx]; exact kbx.store1 _
              have kyWx : Blk Wx (w8.heap.size + 1 + 1) 25 [(.slice none 0 0)] := (oWx _ (by have := bl78s; omega)).trans (ky9.step hBx11)
              have bwWx : Below w.heap.size w Wx := by rw [hWx]; exact (below_call bW (Nat.le_refl _) hBx11).setCell (p := ⟨w8.heap.size + 1, 0, none⟩) (by show w.heap.size ≤ w8.heap.size + 1; have := bl7s; have := bl78s; omega) _
              have b7Wx : Below w7.heap.size w7 Wx := by rw [hWx]; exact (below_call bl79 (Nat.le_refl _) hBx11).setCell (p := ⟨w8.heap.size + 1, 0, none⟩) (by show w7.heap.size ≤ w8.heap.size + 1; have := bl78s; omega) _
              have b8Wx : Below w8.heap.size w8 Wx := by rw [hWx]; exact (below_call bl89 (Nat.le_refl _) hBx11).setCell (p := ⟨w8.heap.size + 1, 0, none⟩) (by show w8.heap.size ≤ w8.heap.size + 1; omega) _
              have hTx : ∀ wz, Below w.heap.size w wz → (∀ b, W.heap.size ≤ b → b < Wx.heap.size → wz.heap[b]? = Wx.heap[b]?) → ThingsAt wz (.slice (some ⟨gx, 0, none⟩) (h.length + 1) cx) (h ++ [xf]) := fun wz hwz hag => put_step HPs.out HPo.out hownx9 hfx hfrx hownx11 HPl.out.symm hgx11 hBx9.size hwz (fun b h1 h2 => (hag b h1 (by rw [sWx]; exact h2)).trans (oWx b (by have := hWs; omega)))
              have qWx : Wx.cell? ⟨w.heap.size, 0, none⟩ = some (.slice ph h.length kh) := (World.cell?_of_block (a := ⟨w.heap.size, 0, none⟩) (oWx w.heap.size (by have := bl7s; have := bl78s; omega))).trans ((hBx11.cell (p := ⟨w.heap.size, 0, none⟩) (hcells_lt qW)).trans qW)
              have hsWx : w8.heap.size + 1 + 1 < Wx.heap.size := by rw [sWx]; exact Nat.lt_of_lt_of_le hWs hBx11.size
              have hzWx : W.heap.size ≤ Wx.heap.size := by rw [sWx]; exact hBx11.size
              have hagWx : ∀ b, b < W.heap.size → b ≠ w8.heap.size + 1 → Wx.heap[b]? = W.heap[b]? := fun b h1 h2 => (oWx b h2).trans (hBx11.block b h1)
              rw [← hWx]
              replace hTx := Lib.hid hTx
              replace hagWx := Lib.hid hagWx
              clear sWx oWx hWx ex8 fx8 kbx hownx9 hownx10 hownx11 hgx9 hgx11 hfx hfrx hBx9 hBx10 hBx11 alx madex cmx bmx bwx9 qbx qW kg9 kj9 kx9 ky9 bW bl79 bl89
              have tx := hTx.out Wx bwWx (fun b h1 h2 => rfl)
              have tg := hg.mono b7Wx
              have ty : ThingsAt Wx (.slice none 0 0) [] := Or.inl ⟨rfl, rfl⟩
              have tj : ThingsAt Wx (.slice none 0 0) [] := Or.inl ⟨rfl, rfl⟩
              have HS1 := Lib.hid (heapSame_any _ _ _ Wx tg tx)
              have HS2 : Hid (∀ wz, Below Wx.heap.size Wx wz → _) := fun wz hb => heapSame_any _ _ _ wz (tj.mono hb) (ty.mono hb)
              have z0 : Wx.cell? ⟨w7.heap.size, 0, none⟩ = some (.slice gp (h.length + 1) gc) := kgWx.cell 0
              have z1 : Wx.cell? ⟨w8.heap.size + 1, 0, none⟩ = some (.slice (some ⟨gx, 0, none⟩) (h.length + 1) cx) := kxWx.cell 0
              clear tx tg ty tj
              go_wp2_with (first
                  | (go_at_call 25; (with_reducible refine HS1.out.mono ?_); rintro e w21 ⟨rfl, hB21⟩; (have y0 : w21.cell? ⟨w8.heap.size, 0, none⟩ = some (.slice none 0 0) := (kjWx.step hB21).cell 0); (have y1 : w21.cell? ⟨w8.heap.size + 1 + 1, 0, none⟩ = some (.slice none 0 0) := (kyWx.step hB21).cell 0); clear HS1)
                  | (go_at_call 25; (with_reducible refine (HS2.out _ hB21).mono ?_); rintro e w22 ⟨rfl, hB22⟩; (have u0 : w22.cell? ⟨w8.heap.size + 1, 0, none⟩ = some (.slice (some ⟨gx, 0, none⟩) (h.length + 1) cx) := ((kxWx.step hB21).step hB22).cell 0); (have u1 : w22.cell? ⟨w8.heap.size + 1 + 1, 0, none⟩ = some (.slice none 0 0) := ((kyWx.step hB21).step hB22).cell 0)))
              go_ret
              exact ⟨rfl, below_call (below_call bwWx (Nat.le_refl _) hB21) (Nat.le_refl _) hB22⟩
        · skip
          cases tyb
          · skip
            have hE : E = 4 := by rw [hne]; rfl
            have hF : F = 1 := by rw [hae]; rfl
            have HNw : Hid (∀ wx, Below w.heap.size w wx → Calls Tryz.prog 21 #[.slice pl l.length cap, .agg #[.slice ph h.length kh], .string c] wx fun e w' => e = .returned (.tuple #[.agg #[.slice none 0 0], .int .i64 0, .iface 35 (.int .i64 4)]) ∧ Below wx.heap.size wx w') := fun wx hb => (HN0.out wx hb).mono fun e w' hp => make_err hp hE (by decide)
            have HAw : Hid (∀ wx, Below w.heap.size w wx → Calls Tryz.prog 22 #[.slice pl l.length cap, .agg #[.slice ph h.length kh], .string k, .int .i64 n] wx fun e w' => e = .returned (.tuple #[.agg #[.slice none 0 0], .int .i64 0, .iface 35 (.int .i64 1)]) ∧ Below wx.heap.size wx w') := fun wx hb => (HA0.out wx hb).mono fun e w' hp => make_err hp hF (by decide)
            have HEe : Hid (∀ wx, Calls Tryz.prog 14 #[.iface 35 (.int .i64 4), .int .i64 4] wx fun e w' => e = .returned (.bool true) ∧ wx = w') := fun wx => same_is 4 (by decide) wx
            have HEf : Hid (∀ wx, Calls Tryz.prog 14 #[.iface 35 (.int .i64 1), .int .i64 1] wx fun e w' => e = .returned (.bool true) ∧ wx = w') := fun wx => same_is 1 (by decide) wx
            clear hE hF HN0 HA0 HFr HFa HFo hne hae
            go_enter Tryz.func5, Tryz.ntmps5
            have HSh : Hid (∀ wx, _) := fun wx => heapSame_any [] (.slice none 0 0) (.slice none 0 0) wx (Or.inl ⟨rfl, rfl⟩) (Or.inl ⟨rfl, rfl⟩)
            go_wp2_with (first
                | (go_at_call 10; (with_reducible refine (HHd.out _ BX.out.below).mono ?_); rintro e w2 ⟨rfl, hB2⟩; (have BX2 := BX.out.step hB2); (have q2 := boxed1 BX2))
                | (go_at_call 13; (with_reducible refine (HRf.out _ BX2.below).mono ?_); rintro e w3 ⟨rfl, hB3⟩; (have BX3 := BX2.step hB3); (have q3 := boxed1 BX3))
                | (go_at_call 19; (with_reducible refine (HCO.out _ BX3.below).mono ?_); rintro e w4 ⟨pf, kf, pd, kd, pm, km, rfl, _, _, _, hB4, _⟩; (have BX5 := (BX3.step hB4).alloc (.cells #[.string n2, .string s2, .slice pf fc2.length kf, .bool false, .slice pd d2.length kd, .slice pm m2.length km] 47)); (have q4 := boxed1 BX5))
                | (go_at_call 16; (with_reducible refine (HTy.out _).mono ?_); rintro e w5 ⟨rfl, rfl⟩)
                | (go_at_call 20; (with_reducible refine (HDe.out _).mono ?_); rintro e w5 ⟨rfl, rfl⟩)
                | (go_at_call 21; (with_reducible refine (HNw.out _ BX5.below).mono ?_); rintro e w7 ⟨rfl, hB7⟩; (have BX7 := (BX5.step hB7).alloc (.cells #[.slice none 0 0] 25)); (have q7 := boxed1 BX7); (have kg7 := Blk.new w7 25 [(.slice none 0 0)]); (have bl7q : w.heap.size < w7.heap.size := hcells_lt (boxed1 (BX5.step hB7))); (have bl7 := (Below.refl w7.heap.size w7).alloc (Nat.le_refl _) (.cells #[.slice none 0 0] 25)))
                | (go_at_call 22; (with_reducible refine (HAw.out _ BX7.below).mono ?_); rintro e w8 ⟨rfl, hB8⟩; (have BX8 := (BX7.step hB8).alloc (.cells #[.slice none 0 0] 25)); (have q8 := boxed1 BX8); (have kg8 := (kg7.step hB8).step ((Below.refl _ _).alloc (Nat.le_refl _) (.cells #[.slice none 0 0] 25))); (have kj8 := Blk.new w8 25 [(.slice none 0 0)]); (have al1 := (Below.refl (w8.alloc (.cells #[.slice none 0 0] 25)).heap.size (w8.alloc (.cells #[.slice none 0 0] 25))).alloc (Nat.le_refl _) (.cells #[.slice none 0 0] 25)); (have al2 := (Below.refl ((w8.alloc (.cells #[.slice none 0 0] 25)).alloc (.cells #[.slice none 0 0] 25)).heap.size ((w8.alloc (.cells #[.slice none 0 0] 25)).alloc (.cells #[.slice none 0 0] 25))).alloc (Nat.le_refl _) (.cells #[.slice none 0 0] 25)); (have al0 := (Below.refl w8.heap.size w8).alloc (Nat.le_refl _) (.cells #[.slice none 0 0] 25)); (have bl89 := below_call (below_call al0 (Nat.le_refl _) al1) (Nat.le_refl _) al2); (have bl79 := below_call (below_call bl7 (Nat.le_refl _) hB8) (Nat.le_refl _) bl89); (have BX9 := (BX8.step al1).step al2); (have kg9 := (kg8.step al1).step al2); (have kj9 := (kj8.step al1).step al2); (have kx9' := (Blk.new (w8.alloc (.cells #[.slice none 0 0] 25)) 25 [.slice none 0 0]).step al2); (have ky9' := Blk.new ((w8.alloc (.cells #[.slice none 0 0] 25)).alloc (.cells #[.slice none 0 0] 25)) 25 [.slice none 0 0]); (have sz8 : (w8.alloc (.cells #[.slice none 0 0] 25)).heap.size = w8.heap.size + 1 := by simp); (have sz9 : ((w8.alloc (.cells #[.slice none 0 0] 25)).alloc (.cells #[.slice none 0 0] 25)).heap.size = w8.heap.size + 1 + 1 := by simp); (have kx9 := sz8 ▸ kx9'); (have ky9 := sz9 ▸ ky9'); clear kx9' ky9' al0 al1 al2; (have q9 := boxed1 BX9); (have r0 := kg9.cell 0))
                | (go_at_call 14; (with_reducible refine (HEe.out _).mono ?_); rintro e w9 ⟨rfl, rfl⟩)
                | (go_at_call 14; (with_reducible refine (HEf.out _).mono ?_); rintro e w9 ⟨rfl, rfl⟩)
                | (go_at_call 25; (with_reducible refine (HSh.out _).mono ?_); rintro e w11 ⟨rfl, hB11'⟩; (have hB11 := below_call BX9.below (Nat.le_refl _) hB11'); (have kg11 := kg9.step hB11'); (have kj11 := kj9.step hB11'); (have kx11 := kx9.step hB11'); (have ky11 := ky9.step hB11'); (have s0 : w11.cell? ⟨w8.heap.size, 0, none⟩ = some (.slice none 0 0) := kj11.cell 0); (have s1 : w11.cell? ⟨w8.heap.size + 1, 0, none⟩ = some (.slice none 0 0) := kx11.cell 0); (have s2 : w11.cell? ⟨w8.heap.size + 1 + 1, 0, none⟩ = some (.slice none 0 0) := ky11.cell 0); clear HSh; (have HSh2 : Hid (∀ wx, _) := fun wx => heapSame_any [] (.slice none 0 0) (.slice none 0 0) wx (Or.inl ⟨rfl, rfl⟩) (Or.inl ⟨rfl, rfl⟩)))
                | (go_at_call 25; (with_reducible refine (HSh2.out _).mono ?_); rintro e w12 ⟨rfl, hB12⟩; (have kx12 := kx11.step hB12); (have ky12 := ky11.step hB12); (have u1 : w12.cell? ⟨w8.heap.size + 1, 0, none⟩ = some (.slice none 0 0) := kx12.cell 0); (have u2 : w12.cell? ⟨w8.heap.size + 1 + 1, 0, none⟩ = some (.slice none 0 0) := ky12.cell 0)))
            go_ret
            exact ⟨rfl, below_call hB11 (Nat.le_refl _) hB12⟩
          · cases g3
            · by_cases hk0 : kr = 0
              · subst hk0
                cases gn1
                · cases gn2
                  · obtain ⟨m, rfl⟩ : ∃ m : Nat, n = (m : Int) := ⟨n.toNat, by have := of_decide_eq_false hn1; omega⟩
                    have hm10 : m ≤ 10 := by have := of_decide_eq_false hn2; omega
                    have hE : E = 4 := by rw [hne]; rfl
                    have hF : F = 4 := by rw [hae]; rfl
                    have HNw : Hid (∀ wx, Below w.heap.size w wx → Calls Tryz.prog 21 #[.slice pl l.length cap, .agg #[.slice ph h.length kh], .string c] wx fun e w' => e = .returned (.tuple #[.agg #[.slice none 0 0], .int .i64 0, .iface 35 (.int .i64 4)]) ∧ Below wx.heap.size wx w') := fun wx hb => (HN0.out wx hb).mono fun e w' hp => make_err hp hE (by decide)
                    have HAw : Hid (∀ wx, Below w.heap.size w wx → Calls Tryz.prog 22 #[.slice pl l.length cap, .agg #[.slice ph h.length kh], .string k, .int .i64 (m : Int)] wx fun e w' => e = .returned (.tuple #[.agg #[.slice none 0 0], .int .i64 0, .iface 35 (.int .i64 4)]) ∧ Below wx.heap.size wx w') := fun wx hb => (HA0.out wx hb).mono fun e w' hp => make_err hp hF (by decide)
                    have HEe : Hid (∀ wx, Calls Tryz.prog 14 #[.iface 35 (.int .i64 4), .int .i64 4] wx fun e w' => e = .returned (.bool true) ∧ wx = w') := fun wx => same_is 4 (by decide) wx
                    have HEf : Hid (∀ wx, Calls Tryz.prog 14 #[.iface 35 (.int .i64 4), .int .i64 4] wx fun e w' => e = .returned (.bool true) ∧ wx = w') := fun wx => same_is 4 (by decide) wx
                    clear hE hF HN0 HA0 HFr HFa HFo hne hae
                    go_enter Tryz.func5, Tryz.ntmps5
                    have HSh : Hid (∀ wx, _) := fun wx => heapSame_any [] (.slice none 0 0) (.slice none 0 0) wx (Or.inl ⟨rfl, rfl⟩) (Or.inl ⟨rfl, rfl⟩)
                    go_wp2_with (first
                        | (go_at_call 10; (with_reducible refine (HHd.out _ BX.out.below).mono ?_); rintro e w2 ⟨rfl, hB2⟩; (have BX2 := BX.out.step hB2); (have q2 := boxed1 BX2))
                        | (go_at_call 13; (with_reducible refine (HRf.out _ BX2.below).mono ?_); rintro e w3 ⟨rfl, hB3⟩; (have BX3 := BX2.step hB3); (have q3 := boxed1 BX3))
                        | (go_at_call 19; (with_reducible refine (HCO.out _ BX3.below).mono ?_); rintro e w4 ⟨pf, kf, pd, kd, pm, km, rfl, _, _, _, hB4, _⟩; (have BX5 := (BX3.step hB4).alloc (.cells #[.string n2, .string s2, .slice pf fc2.length kf, .bool false, .slice pd d2.length kd, .slice pm m2.length km] 47)); (have q4 := boxed1 BX5))
                        | (go_at_call 16; (with_reducible refine (HTy.out _).mono ?_); rintro e w5 ⟨rfl, rfl⟩)
                        | (go_at_call 20; (with_reducible refine (HDe.out _).mono ?_); rintro e w5 ⟨rfl, rfl⟩)
                        | (go_at_call 17; (with_reducible refine (HKi.out _ BX5.below).mono ?_); rintro e w6 ⟨rfl, hB6⟩; (have BX6 := BX5.step hB6); (have q6 := boxed1 BX6))
                        | (go_at_call 21; (with_reducible refine (HNw.out _ BX6.below).mono ?_); rintro e w7 ⟨rfl, hB7⟩; (have BX7 := (BX6.step hB7).alloc (.cells #[.slice none 0 0] 25)); (have q7 := boxed1 BX7); (have kg7 := Blk.new w7 25 [(.slice none 0 0)]); (have bl7q : w.heap.size < w7.heap.size := hcells_lt (boxed1 (BX6.step hB7))); (have bl7 := (Below.refl w7.heap.size w7).alloc (Nat.le_refl _) (.cells #[.slice none 0 0] 25)))
                        | (go_at_call 22; (with_reducible refine (HAw.out _ BX7.below).mono ?_); rintro e w8 ⟨rfl, hB8⟩; (have BX8 := (BX7.step hB8).alloc (.cells #[.slice none 0 0] 25)); (have q8 := boxed1 BX8); (have kg8 := (kg7.step hB8).step ((Below.refl _ _).alloc (Nat.le_refl _) (.cells #[.slice none 0 0] 25))); (have kj8 := Blk.new w8 25 [(.slice none 0 0)]); (have al1 := (Below.refl (w8.alloc (.cells #[.slice none 0 0] 25)).heap.size (w8.alloc (.cells #[.slice none 0 0] 25))).alloc (Nat.le_refl _) (.cells #[.slice none 0 0] 25)); (have al2 := (Below.refl ((w8.alloc (.cells #[.slice none 0 0] 25)).alloc (.cells #[.slice none 0 0] 25)).heap.size ((w8.alloc (.cells #[.slice none 0 0] 25)).alloc (.cells #[.slice none 0 0] 25))).alloc (Nat.le_refl _) (.cells #[.slice none 0 0] 25)); (have al0 := (Below.refl w8.heap.size w8).alloc (Nat.le_refl _) (.cells #[.slice none 0 0] 25)); (have bl89 := below_call (below_call al0 (Nat.le_refl _) al1) (Nat.le_refl _) al2); (have bl79 := below_call (below_call bl7 (Nat.le_refl _) hB8) (Nat.le_refl _) bl89); (have BX9 := (BX8.step al1).step al2); (have kg9 := (kg8.step al1).step al2); (have kj9 := (kj8.step al1).step al2); (have kx9' := (Blk.new (w8.alloc (.cells #[.slice none 0 0] 25)) 25 [.slice none 0 0]).step al2); (have ky9' := Blk.new ((w8.alloc (.cells #[.slice none 0 0] 25)).alloc (.cells #[.slice none 0 0] 25)) 25 [.slice none 0 0]); (have sz8 : (w8.alloc (.cells #[.slice none 0 0] 25)).heap.size = w8.heap.size + 1 := by simp); (have sz9 : ((w8.alloc (.cells #[.slice none 0 0] 25)).alloc (.cells #[.slice none 0 0] 25)).heap.size = w8.heap.size + 1 + 1 := by simp); (have kx9 := sz8 ▸ kx9'); (have ky9 := sz9 ▸ ky9'); clear kx9' ky9' al0 al1 al2; (have q9 := boxed1 BX9); (have r0 := kg9.cell 0))
                        | (go_at_call 14; (with_reducible refine (HEe.out _).mono ?_); rintro e w9 ⟨rfl, rfl⟩)
                        | (go_at_call 14; (with_reducible refine (HEf.out _).mono ?_); rintro e w9 ⟨rfl, rfl⟩)
                        | (go_at_call 25; (with_reducible refine (HSh.out _).mono ?_); rintro e w11 ⟨rfl, hB11'⟩; (have hB11 := below_call BX9.below (Nat.le_refl _) hB11'); (have kg11 := kg9.step hB11'); (have kj11 := kj9.step hB11'); (have kx11 := kx9.step hB11'); (have ky11 := ky9.step hB11'); (have s0 : w11.cell? ⟨w8.heap.size, 0, none⟩ = some (.slice none 0 0) := kj11.cell 0); (have s1 : w11.cell? ⟨w8.heap.size + 1, 0, none⟩ = some (.slice none 0 0) := kx11.cell 0); (have s2 : w11.cell? ⟨w8.heap.size + 1 + 1, 0, none⟩ = some (.slice none 0 0) := ky11.cell 0); clear HSh; (have HSh2 : Hid (∀ wx, _) := fun wx => heapSame_any [] (.slice none 0 0) (.slice none 0 0) wx (Or.inl ⟨rfl, rfl⟩) (Or.inl ⟨rfl, rfl⟩)))
                        | (go_at_call 25; (with_reducible refine (HSh2.out _).mono ?_); rintro e w12 ⟨rfl, hB12⟩; (have kx12 := kx11.step hB12); (have ky12 := ky11.step hB12); (have u1 : w12.cell? ⟨w8.heap.size + 1, 0, none⟩ = some (.slice none 0 0) := kx12.cell 0); (have u2 : w12.cell? ⟨w8.heap.size + 1 + 1, 0, none⟩ = some (.slice none 0 0) := ky12.cell 0)))
                    go_ret
                    exact ⟨rfl, below_call hB11 (Nat.le_refl _) hB12⟩
                  · skip
                    have hE : E = 4 := by rw [hne]; rfl
                    have hF : F = 2 := by rw [hae]; rfl
                    have HNw : Hid (∀ wx, Below w.heap.size w wx → Calls Tryz.prog 21 #[.slice pl l.length cap, .agg #[.slice ph h.length kh], .string c] wx fun e w' => e = .returned (.tuple #[.agg #[.slice none 0 0], .int .i64 0, .iface 35 (.int .i64 4)]) ∧ Below wx.heap.size wx w') := fun wx hb => (HN0.out wx hb).mono fun e w' hp => make_err hp hE (by decide)
                    have HAw : Hid (∀ wx, Below w.heap.size w wx → Calls Tryz.prog 22 #[.slice pl l.length cap, .agg #[.slice ph h.length kh], .string k, .int .i64 n] wx fun e w' => e = .returned (.tuple #[.agg #[.slice none 0 0], .int .i64 0, .iface 35 (.int .i64 2)]) ∧ Below wx.heap.size wx w') := fun wx hb => (HA0.out wx hb).mono fun e w' hp => make_err hp hF (by decide)
                    have HEe : Hid (∀ wx, Calls Tryz.prog 14 #[.iface 35 (.int .i64 4), .int .i64 4] wx fun e w' => e = .returned (.bool true) ∧ wx = w') := fun wx => same_is 4 (by decide) wx
                    have HEf : Hid (∀ wx, Calls Tryz.prog 14 #[.iface 35 (.int .i64 2), .int .i64 2] wx fun e w' => e = .returned (.bool true) ∧ wx = w') := fun wx => same_is 2 (by decide) wx
                    clear hE hF HN0 HA0 HFr HFa HFo hne hae
                    go_enter Tryz.func5, Tryz.ntmps5
                    have HSh : Hid (∀ wx, _) := fun wx => heapSame_any [] (.slice none 0 0) (.slice none 0 0) wx (Or.inl ⟨rfl, rfl⟩) (Or.inl ⟨rfl, rfl⟩)
                    go_wp2_with (first
                        | (go_at_call 10; (with_reducible refine (HHd.out _ BX.out.below).mono ?_); rintro e w2 ⟨rfl, hB2⟩; (have BX2 := BX.out.step hB2); (have q2 := boxed1 BX2))
                        | (go_at_call 13; (with_reducible refine (HRf.out _ BX2.below).mono ?_); rintro e w3 ⟨rfl, hB3⟩; (have BX3 := BX2.step hB3); (have q3 := boxed1 BX3))
                        | (go_at_call 19; (with_reducible refine (HCO.out _ BX3.below).mono ?_); rintro e w4 ⟨pf, kf, pd, kd, pm, km, rfl, _, _, _, hB4, _⟩; (have BX5 := (BX3.step hB4).alloc (.cells #[.string n2, .string s2, .slice pf fc2.length kf, .bool false, .slice pd d2.length kd, .slice pm m2.length km] 47)); (have q4 := boxed1 BX5))
                        | (go_at_call 16; (with_reducible refine (HTy.out _).mono ?_); rintro e w5 ⟨rfl, rfl⟩)
                        | (go_at_call 20; (with_reducible refine (HDe.out _).mono ?_); rintro e w5 ⟨rfl, rfl⟩)
                        | (go_at_call 17; (with_reducible refine (HKi.out _ BX5.below).mono ?_); rintro e w6 ⟨rfl, hB6⟩; (have BX6 := BX5.step hB6); (have q6 := boxed1 BX6))
                        | (go_at_call 21; (with_reducible refine (HNw.out _ BX6.below).mono ?_); rintro e w7 ⟨rfl, hB7⟩; (have BX7 := (BX6.step hB7).alloc (.cells #[.slice none 0 0] 25)); (have q7 := boxed1 BX7); (have kg7 := Blk.new w7 25 [(.slice none 0 0)]); (have bl7q : w.heap.size < w7.heap.size := hcells_lt (boxed1 (BX6.step hB7))); (have bl7 := (Below.refl w7.heap.size w7).alloc (Nat.le_refl _) (.cells #[.slice none 0 0] 25)))
                        | (go_at_call 22; (with_reducible refine (HAw.out _ BX7.below).mono ?_); rintro e w8 ⟨rfl, hB8⟩; (have BX8 := (BX7.step hB8).alloc (.cells #[.slice none 0 0] 25)); (have q8 := boxed1 BX8); (have kg8 := (kg7.step hB8).step ((Below.refl _ _).alloc (Nat.le_refl _) (.cells #[.slice none 0 0] 25))); (have kj8 := Blk.new w8 25 [(.slice none 0 0)]); (have al1 := (Below.refl (w8.alloc (.cells #[.slice none 0 0] 25)).heap.size (w8.alloc (.cells #[.slice none 0 0] 25))).alloc (Nat.le_refl _) (.cells #[.slice none 0 0] 25)); (have al2 := (Below.refl ((w8.alloc (.cells #[.slice none 0 0] 25)).alloc (.cells #[.slice none 0 0] 25)).heap.size ((w8.alloc (.cells #[.slice none 0 0] 25)).alloc (.cells #[.slice none 0 0] 25))).alloc (Nat.le_refl _) (.cells #[.slice none 0 0] 25)); (have al0 := (Below.refl w8.heap.size w8).alloc (Nat.le_refl _) (.cells #[.slice none 0 0] 25)); (have bl89 := below_call (below_call al0 (Nat.le_refl _) al1) (Nat.le_refl _) al2); (have bl79 := below_call (below_call bl7 (Nat.le_refl _) hB8) (Nat.le_refl _) bl89); (have BX9 := (BX8.step al1).step al2); (have kg9 := (kg8.step al1).step al2); (have kj9 := (kj8.step al1).step al2); (have kx9' := (Blk.new (w8.alloc (.cells #[.slice none 0 0] 25)) 25 [.slice none 0 0]).step al2); (have ky9' := Blk.new ((w8.alloc (.cells #[.slice none 0 0] 25)).alloc (.cells #[.slice none 0 0] 25)) 25 [.slice none 0 0]); (have sz8 : (w8.alloc (.cells #[.slice none 0 0] 25)).heap.size = w8.heap.size + 1 := by simp); (have sz9 : ((w8.alloc (.cells #[.slice none 0 0] 25)).alloc (.cells #[.slice none 0 0] 25)).heap.size = w8.heap.size + 1 + 1 := by simp); (have kx9 := sz8 ▸ kx9'); (have ky9 := sz9 ▸ ky9'); clear kx9' ky9' al0 al1 al2; (have q9 := boxed1 BX9); (have r0 := kg9.cell 0))
                        | (go_at_call 14; (with_reducible refine (HEe.out _).mono ?_); rintro e w9 ⟨rfl, rfl⟩)
                        | (go_at_call 14; (with_reducible refine (HEf.out _).mono ?_); rintro e w9 ⟨rfl, rfl⟩)
                        | (go_at_call 25; (with_reducible refine (HSh.out _).mono ?_); rintro e w11 ⟨rfl, hB11'⟩; (have hB11 := below_call BX9.below (Nat.le_refl _) hB11'); (have kg11 := kg9.step hB11'); (have kj11 := kj9.step hB11'); (have kx11 := kx9.step hB11'); (have ky11 := ky9.step hB11'); (have s0 : w11.cell? ⟨w8.heap.size, 0, none⟩ = some (.slice none 0 0) := kj11.cell 0); (have s1 : w11.cell? ⟨w8.heap.size + 1, 0, none⟩ = some (.slice none 0 0) := kx11.cell 0); (have s2 : w11.cell? ⟨w8.heap.size + 1 + 1, 0, none⟩ = some (.slice none 0 0) := ky11.cell 0); clear HSh; (have HSh2 : Hid (∀ wx, _) := fun wx => heapSame_any [] (.slice none 0 0) (.slice none 0 0) wx (Or.inl ⟨rfl, rfl⟩) (Or.inl ⟨rfl, rfl⟩)))
                        | (go_at_call 25; (with_reducible refine (HSh2.out _).mono ?_); rintro e w12 ⟨rfl, hB12⟩; (have kx12 := kx11.step hB12); (have ky12 := ky11.step hB12); (have u1 : w12.cell? ⟨w8.heap.size + 1, 0, none⟩ = some (.slice none 0 0) := kx12.cell 0); (have u2 : w12.cell? ⟨w8.heap.size + 1 + 1, 0, none⟩ = some (.slice none 0 0) := ky12.cell 0)))
                    go_ret
                    exact ⟨rfl, below_call hB11 (Nat.le_refl _) hB12⟩
                · skip
                  have hE : E = 4 := by rw [hne]; rfl
                  have hF : F = 2 := by rw [hae]; cases gn2 <;> rfl
                  have HNw : Hid (∀ wx, Below w.heap.size w wx → Calls Tryz.prog 21 #[.slice pl l.length cap, .agg #[.slice ph h.length kh], .string c] wx fun e w' => e = .returned (.tuple #[.agg #[.slice none 0 0], .int .i64 0, .iface 35 (.int .i64 4)]) ∧ Below wx.heap.size wx w') := fun wx hb => (HN0.out wx hb).mono fun e w' hp => make_err hp hE (by decide)
                  have HAw : Hid (∀ wx, Below w.heap.size w wx → Calls Tryz.prog 22 #[.slice pl l.length cap, .agg #[.slice ph h.length kh], .string k, .int .i64 n] wx fun e w' => e = .returned (.tuple #[.agg #[.slice none 0 0], .int .i64 0, .iface 35 (.int .i64 2)]) ∧ Below wx.heap.size wx w') := fun wx hb => (HA0.out wx hb).mono fun e w' hp => make_err hp hF (by decide)
                  have HEe : Hid (∀ wx, Calls Tryz.prog 14 #[.iface 35 (.int .i64 4), .int .i64 4] wx fun e w' => e = .returned (.bool true) ∧ wx = w') := fun wx => same_is 4 (by decide) wx
                  have HEf : Hid (∀ wx, Calls Tryz.prog 14 #[.iface 35 (.int .i64 2), .int .i64 2] wx fun e w' => e = .returned (.bool true) ∧ wx = w') := fun wx => same_is 2 (by decide) wx
                  clear hE hF HN0 HA0 HFr HFa HFo hne hae
                  go_enter Tryz.func5, Tryz.ntmps5
                  have HSh : Hid (∀ wx, _) := fun wx => heapSame_any [] (.slice none 0 0) (.slice none 0 0) wx (Or.inl ⟨rfl, rfl⟩) (Or.inl ⟨rfl, rfl⟩)
                  go_wp2_with (first
                      | (go_at_call 10; (with_reducible refine (HHd.out _ BX.out.below).mono ?_); rintro e w2 ⟨rfl, hB2⟩; (have BX2 := BX.out.step hB2); (have q2 := boxed1 BX2))
                      | (go_at_call 13; (with_reducible refine (HRf.out _ BX2.below).mono ?_); rintro e w3 ⟨rfl, hB3⟩; (have BX3 := BX2.step hB3); (have q3 := boxed1 BX3))
                      | (go_at_call 19; (with_reducible refine (HCO.out _ BX3.below).mono ?_); rintro e w4 ⟨pf, kf, pd, kd, pm, km, rfl, _, _, _, hB4, _⟩; (have BX5 := (BX3.step hB4).alloc (.cells #[.string n2, .string s2, .slice pf fc2.length kf, .bool false, .slice pd d2.length kd, .slice pm m2.length km] 47)); (have q4 := boxed1 BX5))
                      | (go_at_call 16; (with_reducible refine (HTy.out _).mono ?_); rintro e w5 ⟨rfl, rfl⟩)
                      | (go_at_call 20; (with_reducible refine (HDe.out _).mono ?_); rintro e w5 ⟨rfl, rfl⟩)
                      | (go_at_call 17; (with_reducible refine (HKi.out _ BX5.below).mono ?_); rintro e w6 ⟨rfl, hB6⟩; (have BX6 := BX5.step hB6); (have q6 := boxed1 BX6))
                      | (go_at_call 21; (with_reducible refine (HNw.out _ BX6.below).mono ?_); rintro e w7 ⟨rfl, hB7⟩; (have BX7 := (BX6.step hB7).alloc (.cells #[.slice none 0 0] 25)); (have q7 := boxed1 BX7); (have kg7 := Blk.new w7 25 [(.slice none 0 0)]); (have bl7q : w.heap.size < w7.heap.size := hcells_lt (boxed1 (BX6.step hB7))); (have bl7 := (Below.refl w7.heap.size w7).alloc (Nat.le_refl _) (.cells #[.slice none 0 0] 25)))
                      | (go_at_call 22; (with_reducible refine (HAw.out _ BX7.below).mono ?_); rintro e w8 ⟨rfl, hB8⟩; (have BX8 := (BX7.step hB8).alloc (.cells #[.slice none 0 0] 25)); (have q8 := boxed1 BX8); (have kg8 := (kg7.step hB8).step ((Below.refl _ _).alloc (Nat.le_refl _) (.cells #[.slice none 0 0] 25))); (have kj8 := Blk.new w8 25 [(.slice none 0 0)]); (have al1 := (Below.refl (w8.alloc (.cells #[.slice none 0 0] 25)).heap.size (w8.alloc (.cells #[.slice none 0 0] 25))).alloc (Nat.le_refl _) (.cells #[.slice none 0 0] 25)); (have al2 := (Below.refl ((w8.alloc (.cells #[.slice none 0 0] 25)).alloc (.cells #[.slice none 0 0] 25)).heap.size ((w8.alloc (.cells #[.slice none 0 0] 25)).alloc (.cells #[.slice none 0 0] 25))).alloc (Nat.le_refl _) (.cells #[.slice none 0 0] 25)); (have al0 := (Below.refl w8.heap.size w8).alloc (Nat.le_refl _) (.cells #[.slice none 0 0] 25)); (have bl89 := below_call (below_call al0 (Nat.le_refl _) al1) (Nat.le_refl _) al2); (have bl79 := below_call (below_call bl7 (Nat.le_refl _) hB8) (Nat.le_refl _) bl89); (have BX9 := (BX8.step al1).step al2); (have kg9 := (kg8.step al1).step al2); (have kj9 := (kj8.step al1).step al2); (have kx9' := (Blk.new (w8.alloc (.cells #[.slice none 0 0] 25)) 25 [.slice none 0 0]).step al2); (have ky9' := Blk.new ((w8.alloc (.cells #[.slice none 0 0] 25)).alloc (.cells #[.slice none 0 0] 25)) 25 [.slice none 0 0]); (have sz8 : (w8.alloc (.cells #[.slice none 0 0] 25)).heap.size = w8.heap.size + 1 := by simp); (have sz9 : ((w8.alloc (.cells #[.slice none 0 0] 25)).alloc (.cells #[.slice none 0 0] 25)).heap.size = w8.heap.size + 1 + 1 := by simp); (have kx9 := sz8 ▸ kx9'); (have ky9 := sz9 ▸ ky9'); clear kx9' ky9' al0 al1 al2; (have q9 := boxed1 BX9); (have r0 := kg9.cell 0))
                      | (go_at_call 14; (with_reducible refine (HEe.out _).mono ?_); rintro e w9 ⟨rfl, rfl⟩)
                      | (go_at_call 14; (with_reducible refine (HEf.out _).mono ?_); rintro e w9 ⟨rfl, rfl⟩)
                      | (go_at_call 25; (with_reducible refine (HSh.out _).mono ?_); rintro e w11 ⟨rfl, hB11'⟩; (have hB11 := below_call BX9.below (Nat.le_refl _) hB11'); (have kg11 := kg9.step hB11'); (have kj11 := kj9.step hB11'); (have kx11 := kx9.step hB11'); (have ky11 := ky9.step hB11'); (have s0 : w11.cell? ⟨w8.heap.size, 0, none⟩ = some (.slice none 0 0) := kj11.cell 0); (have s1 : w11.cell? ⟨w8.heap.size + 1, 0, none⟩ = some (.slice none 0 0) := kx11.cell 0); (have s2 : w11.cell? ⟨w8.heap.size + 1 + 1, 0, none⟩ = some (.slice none 0 0) := ky11.cell 0); clear HSh; (have HSh2 : Hid (∀ wx, _) := fun wx => heapSame_any [] (.slice none 0 0) (.slice none 0 0) wx (Or.inl ⟨rfl, rfl⟩) (Or.inl ⟨rfl, rfl⟩)))
                      | (go_at_call 25; (with_reducible refine (HSh2.out _).mono ?_); rintro e w12 ⟨rfl, hB12⟩; (have kx12 := kx11.step hB12); (have ky12 := ky11.step hB12); (have u1 : w12.cell? ⟨w8.heap.size + 1, 0, none⟩ = some (.slice none 0 0) := kx12.cell 0); (have u2 : w12.cell? ⟨w8.heap.size + 1 + 1, 0, none⟩ = some (.slice none 0 0) := ky12.cell 0)))
                  go_ret
                  exact ⟨rfl, below_call hB11 (Nat.le_refl _) hB12⟩
              · have hzF := hk0
                have zk : ((kr : Int) == 0) = false := by simpa using hk0
                have hE : E = 4 := by rw [hne]; rfl
                have hF : F = kr := by rw [hae]; simp [step1, step2, hk0]
                have HNw : Hid (∀ wx, Below w.heap.size w wx → Calls Tryz.prog 21 #[.slice pl l.length cap, .agg #[.slice ph h.length kh], .string c] wx fun e w' => e = .returned (.tuple #[.agg #[.slice none 0 0], .int .i64 0, .iface 35 (.int .i64 4)]) ∧ Below wx.heap.size wx w') := fun wx hb => (HN0.out wx hb).mono fun e w' hp => make_err hp hE (by decide)
                have HAw : Hid (∀ wx, Below w.heap.size w wx → Calls Tryz.prog 22 #[.slice pl l.length cap, .agg #[.slice ph h.length kh], .string k, .int .i64 n] wx fun e w' => e = .returned (.tuple #[.agg #[.slice none 0 0], .int .i64 0, .iface 35 (.int .i64 kr)]) ∧ Below wx.heap.size wx w') := fun wx hb => (HA0.out wx hb).mono fun e w' hp => make_err hp hF hzF
                have HEe : Hid (∀ wx, Calls Tryz.prog 14 #[.iface 35 (.int .i64 4), .int .i64 4] wx fun e w' => e = .returned (.bool true) ∧ wx = w') := fun wx => same_is 4 (by decide) wx
                have HEf : Hid (∀ wx, Calls Tryz.prog 14 #[.iface 35 (.int .i64 kr), .int .i64 kr] wx fun e w' => e = .returned (.bool true) ∧ wx = w') := fun wx => same_is kr hzF wx
                clear hE hF HN0 HA0 HFr HFa HFo hne hae
                go_enter Tryz.func5, Tryz.ntmps5
                have HSh : Hid (∀ wx, _) := fun wx => heapSame_any [] (.slice none 0 0) (.slice none 0 0) wx (Or.inl ⟨rfl, rfl⟩) (Or.inl ⟨rfl, rfl⟩)
                go_wp2_with (first
                    | (go_at_call 10; (with_reducible refine (HHd.out _ BX.out.below).mono ?_); rintro e w2 ⟨rfl, hB2⟩; (have BX2 := BX.out.step hB2); (have q2 := boxed1 BX2))
                    | (go_at_call 13; (with_reducible refine (HRf.out _ BX2.below).mono ?_); rintro e w3 ⟨rfl, hB3⟩; (have BX3 := BX2.step hB3); (have q3 := boxed1 BX3))
                    | (go_at_call 19; (with_reducible refine (HCO.out _ BX3.below).mono ?_); rintro e w4 ⟨pf, kf, pd, kd, pm, km, rfl, _, _, _, hB4, _⟩; (have BX5 := (BX3.step hB4).alloc (.cells #[.string n2, .string s2, .slice pf fc2.length kf, .bool false, .slice pd d2.length kd, .slice pm m2.length km] 47)); (have q4 := boxed1 BX5))
                    | (go_at_call 16; (with_reducible refine (HTy.out _).mono ?_); rintro e w5 ⟨rfl, rfl⟩)
                    | (go_at_call 20; (with_reducible refine (HDe.out _).mono ?_); rintro e w5 ⟨rfl, rfl⟩)
                    | (go_at_call 17; (with_reducible refine (HKi.out _ BX5.below).mono ?_); rintro e w6 ⟨rfl, hB6⟩; (have BX6 := BX5.step hB6); (have q6 := boxed1 BX6))
                    | (go_at_call 21; (with_reducible refine (HNw.out _ BX6.below).mono ?_); rintro e w7 ⟨rfl, hB7⟩; (have BX7 := (BX6.step hB7).alloc (.cells #[.slice none 0 0] 25)); (have q7 := boxed1 BX7); (have kg7 := Blk.new w7 25 [(.slice none 0 0)]); (have bl7q : w.heap.size < w7.heap.size := hcells_lt (boxed1 (BX6.step hB7))); (have bl7 := (Below.refl w7.heap.size w7).alloc (Nat.le_refl _) (.cells #[.slice none 0 0] 25)))
                    | (go_at_call 22; (with_reducible refine (HAw.out _ BX7.below).mono ?_); rintro e w8 ⟨rfl, hB8⟩; (have BX8 := (BX7.step hB8).alloc (.cells #[.slice none 0 0] 25)); (have q8 := boxed1 BX8); (have kg8 := (kg7.step hB8).step ((Below.refl _ _).alloc (Nat.le_refl _) (.cells #[.slice none 0 0] 25))); (have kj8 := Blk.new w8 25 [(.slice none 0 0)]); (have al1 := (Below.refl (w8.alloc (.cells #[.slice none 0 0] 25)).heap.size (w8.alloc (.cells #[.slice none 0 0] 25))).alloc (Nat.le_refl _) (.cells #[.slice none 0 0] 25)); (have al2 := (Below.refl ((w8.alloc (.cells #[.slice none 0 0] 25)).alloc (.cells #[.slice none 0 0] 25)).heap.size ((w8.alloc (.cells #[.slice none 0 0] 25)).alloc (.cells #[.slice none 0 0] 25))).alloc (Nat.le_refl _) (.cells #[.slice none 0 0] 25)); (have al0 := (Below.refl w8.heap.size w8).alloc (Nat.le_refl _) (.cells #[.slice none 0 0] 25)); (have bl89 := below_call (below_call al0 (Nat.le_refl _) al1) (Nat.le_refl _) al2); (have bl79 := below_call (below_call bl7 (Nat.le_refl _) hB8) (Nat.le_refl _) bl89); (have BX9 := (BX8.step al1).step al2); (have kg9 := (kg8.step al1).step al2); (have kj9 := (kj8.step al1).step al2); (have kx9' := (Blk.new (w8.alloc (.cells #[.slice none 0 0] 25)) 25 [.slice none 0 0]).step al2); (have ky9' := Blk.new ((w8.alloc (.cells #[.slice none 0 0] 25)).alloc (.cells #[.slice none 0 0] 25)) 25 [.slice none 0 0]); (have sz8 : (w8.alloc (.cells #[.slice none 0 0] 25)).heap.size = w8.heap.size + 1 := by simp); (have sz9 : ((w8.alloc (.cells #[.slice none 0 0] 25)).alloc (.cells #[.slice none 0 0] 25)).heap.size = w8.heap.size + 1 + 1 := by simp); (have kx9 := sz8 ▸ kx9'); (have ky9 := sz9 ▸ ky9'); clear kx9' ky9' al0 al1 al2; (have q9 := boxed1 BX9); (have r0 := kg9.cell 0))
                    | (go_at_call 14; (with_reducible refine (HEe.out _).mono ?_); rintro e w9 ⟨rfl, rfl⟩)
                    | (go_at_call 14; (with_reducible refine (HEf.out _).mono ?_); rintro e w9 ⟨rfl, rfl⟩)
                    | (go_at_call 25; (with_reducible refine (HSh.out _).mono ?_); rintro e w11 ⟨rfl, hB11'⟩; (have hB11 := below_call BX9.below (Nat.le_refl _) hB11'); (have kg11 := kg9.step hB11'); (have kj11 := kj9.step hB11'); (have kx11 := kx9.step hB11'); (have ky11 := ky9.step hB11'); (have s0 : w11.cell? ⟨w8.heap.size, 0, none⟩ = some (.slice none 0 0) := kj11.cell 0); (have s1 : w11.cell? ⟨w8.heap.size + 1, 0, none⟩ = some (.slice none 0 0) := kx11.cell 0); (have s2 : w11.cell? ⟨w8.heap.size + 1 + 1, 0, none⟩ = some (.slice none 0 0) := ky11.cell 0); clear HSh; (have HSh2 : Hid (∀ wx, _) := fun wx => heapSame_any [] (.slice none 0 0) (.slice none 0 0) wx (Or.inl ⟨rfl, rfl⟩) (Or.inl ⟨rfl, rfl⟩)))
                    | (go_at_call 25; (with_reducible refine (HSh2.out _).mono ?_); rintro e w12 ⟨rfl, hB12⟩; (have kx12 := kx11.step hB12); (have ky12 := ky11.step hB12); (have u1 : w12.cell? ⟨w8.heap.size + 1, 0, none⟩ = some (.slice none 0 0) := kx12.cell 0); (have u2 : w12.cell? ⟨w8.heap.size + 1 + 1, 0, none⟩ = some (.slice none 0 0) := ky12.cell 0)))
                go_ret
                exact ⟨rfl, below_call hB11 (Nat.le_refl _) hB12⟩
            · skip
              have hE : E = 4 := by rw [hne]; rfl
              have hF : F = 1 := by rw [hae]; rfl
              have HNw : Hid (∀ wx, Below w.heap.size w wx → Calls Tryz.prog 21 #[.slice pl l.length cap, .agg #[.slice ph h.length kh], .string c] wx fun e w' => e = .returned (.tuple #[.agg #[.slice none 0 0], .int .i64 0, .iface 35 (.int .i64 4)]) ∧ Below wx.heap.size wx w') := fun wx hb => (HN0.out wx hb).mono fun e w' hp => make_err hp hE (by decide)
              have HAw : Hid (∀ wx, Below w.heap.size w wx → Calls Tryz.prog 22 #[.slice pl l.length cap, .agg #[.slice ph h.length kh], .string k, .int .i64 n] wx fun e w' => e = .returned (.tuple #[.agg #[.slice none 0 0], .int .i64 0, .iface 35 (.int .i64 1)]) ∧ Below wx.heap.size wx w') := fun wx hb => (HA0.out wx hb).mono fun e w' hp => make_err hp hF (by decide)
              have HEe : Hid (∀ wx, Calls Tryz.prog 14 #[.iface 35 (.int .i64 4), .int .i64 4] wx fun e w' => e = .returned (.bool true) ∧ wx = w') := fun wx => same_is 4 (by decide) wx
              have HEf : Hid (∀ wx, Calls Tryz.prog 14 #[.iface 35 (.int .i64 1), .int .i64 1] wx fun e w' => e = .returned (.bool true) ∧ wx = w') := fun wx => same_is 1 (by decide) wx
              clear hE hF HN0 HA0 HFr HFa HFo hne hae
              go_enter Tryz.func5, Tryz.ntmps5
              have HSh : Hid (∀ wx, _) := fun wx => heapSame_any [] (.slice none 0 0) (.slice none 0 0) wx (Or.inl ⟨rfl, rfl⟩) (Or.inl ⟨rfl, rfl⟩)
              go_wp2_with (first
                  | (go_at_call 10; (with_reducible refine (HHd.out _ BX.out.below).mono ?_); rintro e w2 ⟨rfl, hB2⟩; (have BX2 := BX.out.step hB2); (have q2 := boxed1 BX2))
                  | (go_at_call 13; (with_reducible refine (HRf.out _ BX2.below).mono ?_); rintro e w3 ⟨rfl, hB3⟩; (have BX3 := BX2.step hB3); (have q3 := boxed1 BX3))
                  | (go_at_call 19; (with_reducible refine (HCO.out _ BX3.below).mono ?_); rintro e w4 ⟨pf, kf, pd, kd, pm, km, rfl, _, _, _, hB4, _⟩; (have BX5 := (BX3.step hB4).alloc (.cells #[.string n2, .string s2, .slice pf fc2.length kf, .bool false, .slice pd d2.length kd, .slice pm m2.length km] 47)); (have q4 := boxed1 BX5))
                  | (go_at_call 16; (with_reducible refine (HTy.out _).mono ?_); rintro e w5 ⟨rfl, rfl⟩)
                  | (go_at_call 20; (with_reducible refine (HDe.out _).mono ?_); rintro e w5 ⟨rfl, rfl⟩)
                  | (go_at_call 21; (with_reducible refine (HNw.out _ BX5.below).mono ?_); rintro e w7 ⟨rfl, hB7⟩; (have BX7 := (BX5.step hB7).alloc (.cells #[.slice none 0 0] 25)); (have q7 := boxed1 BX7); (have kg7 := Blk.new w7 25 [(.slice none 0 0)]); (have bl7q : w.heap.size < w7.heap.size := hcells_lt (boxed1 (BX5.step hB7))); (have bl7 := (Below.refl w7.heap.size w7).alloc (Nat.le_refl _) (.cells #[.slice none 0 0] 25)))
                  | (go_at_call 22; (with_reducible refine (HAw.out _ BX7.below).mono ?_); rintro e w8 ⟨rfl, hB8⟩; (have BX8 := (BX7.step hB8).alloc (.cells #[.slice none 0 0] 25)); (have q8 := boxed1 BX8); (have kg8 := (kg7.step hB8).step ((Below.refl _ _).alloc (Nat.le_refl _) (.cells #[.slice none 0 0] 25))); (have kj8 := Blk.new w8 25 [(.slice none 0 0)]); (have al1 := (Below.refl (w8.alloc (.cells #[.slice none 0 0] 25)).heap.size (w8.alloc (.cells #[.slice none 0 0] 25))).alloc (Nat.le_refl _) (.cells #[.slice none 0 0] 25)); (have al2 := (Below.refl ((w8.alloc (.cells #[.slice none 0 0] 25)).alloc (.cells #[.slice none 0 0] 25)).heap.size ((w8.alloc (.cells #[.slice none 0 0] 25)).alloc (.cells #[.slice none 0 0] 25))).alloc (Nat.le_refl _) (.cells #[.slice none 0 0] 25)); (have al0 := (Below.refl w8.heap.size w8).alloc (Nat.le_refl _) (.cells #[.slice none 0 0] 25)); (have bl89 := below_call (below_call al0 (Nat.le_refl _) al1) (Nat.le_refl _) al2); (have bl79 := below_call (below_call bl7 (Nat.le_refl _) hB8) (Nat.le_refl _) bl89); (have BX9 := (BX8.step al1).step al2); (have kg9 := (kg8.step al1).step al2); (have kj9 := (kj8.step al1).step al2); (have kx9' := (Blk.new (w8.alloc (.cells #[.slice none 0 0] 25)) 25 [.slice none 0 0]).step al2); (have ky9' := Blk.new ((w8.alloc (.cells #[.slice none 0 0] 25)).alloc (.cells #[.slice none 0 0] 25)) 25 [.slice none 0 0]); (have sz8 : (w8.alloc (.cells #[.slice none 0 0] 25)).heap.size = w8.heap.size + 1 := by simp); (have sz9 : ((w8.alloc (.cells #[.slice none 0 0] 25)).alloc (.cells #[.slice none 0 0] 25)).heap.size = w8.heap.size + 1 + 1 := by simp); (have kx9 := sz8 ▸ kx9'); (have ky9 := sz9 ▸ ky9'); clear kx9' ky9' al0 al1 al2; (have q9 := boxed1 BX9); (have r0 := kg9.cell 0))
                  | (go_at_call 14; (with_reducible refine (HEe.out _).mono ?_); rintro e w9 ⟨rfl, rfl⟩)
                  | (go_at_call 14; (with_reducible refine (HEf.out _).mono ?_); rintro e w9 ⟨rfl, rfl⟩)
                  | (go_at_call 25; (with_reducible refine (HSh.out _).mono ?_); rintro e w11 ⟨rfl, hB11'⟩; (have hB11 := below_call BX9.below (Nat.le_refl _) hB11'); (have kg11 := kg9.step hB11'); (have kj11 := kj9.step hB11'); (have kx11 := kx9.step hB11'); (have ky11 := ky9.step hB11'); (have s0 : w11.cell? ⟨w8.heap.size, 0, none⟩ = some (.slice none 0 0) := kj11.cell 0); (have s1 : w11.cell? ⟨w8.heap.size + 1, 0, none⟩ = some (.slice none 0 0) := kx11.cell 0); (have s2 : w11.cell? ⟨w8.heap.size + 1 + 1, 0, none⟩ = some (.slice none 0 0) := ky11.cell 0); clear HSh; (have HSh2 : Hid (∀ wx, _) := fun wx => heapSame_any [] (.slice none 0 0) (.slice none 0 0) wx (Or.inl ⟨rfl, rfl⟩) (Or.inl ⟨rfl, rfl⟩)))
                  | (go_at_call 25; (with_reducible refine (HSh2.out _).mono ?_); rintro e w12 ⟨rfl, hB12⟩; (have kx12 := kx11.step hB12); (have ky12 := ky11.step hB12); (have u1 : w12.cell? ⟨w8.heap.size + 1, 0, none⟩ = some (.slice none 0 0) := kx12.cell 0); (have u2 : w12.cell? ⟨w8.heap.size + 1 + 1, 0, none⟩ = some (.slice none 0 0) := ky12.cell 0)))
              go_ret
              exact ⟨rfl, below_call hB11 (Nat.le_refl _) hB12⟩
      · skip
        cases tyb
        · skip
          have hE : E = 7 := by rw [hne]; simp [step1]
          have hF : F = 1 := by rw [hae]; rfl
          have HNw : Hid (∀ wx, Below w.heap.size w wx → Calls Tryz.prog 21 #[.slice pl l.length cap, .agg #[.slice ph h.length kh], .string c] wx fun e w' => e = .returned (.tuple #[.agg #[.slice none 0 0], .int .i64 0, .iface 35 (.int .i64 7)]) ∧ Below wx.heap.size wx w') := fun wx hb => (HN0.out wx hb).mono fun e w' hp => make_err hp hE (by decide)
          have HAw : Hid (∀ wx, Below w.heap.size w wx → Calls Tryz.prog 22 #[.slice pl l.length cap, .agg #[.slice ph h.length kh], .string k, .int .i64 n] wx fun e w' => e = .returned (.tuple #[.agg #[.slice none 0 0], .int .i64 0, .iface 35 (.int .i64 1)]) ∧ Below wx.heap.size wx w') := fun wx hb => (HA0.out wx hb).mono fun e w' hp => make_err hp hF (by decide)
          have HEe : Hid (∀ wx, Calls Tryz.prog 14 #[.iface 35 (.int .i64 7), .int .i64 7] wx fun e w' => e = .returned (.bool true) ∧ wx = w') := fun wx => same_is 7 (by decide) wx
          have HEf : Hid (∀ wx, Calls Tryz.prog 14 #[.iface 35 (.int .i64 1), .int .i64 1] wx fun e w' => e = .returned (.bool true) ∧ wx = w') := fun wx => same_is 1 (by decide) wx
          clear hE hF HN0 HA0 HFr HFa HFo hne hae
          go_enter Tryz.func5, Tryz.ntmps5
          have HSh : Hid (∀ wx, _) := fun wx => heapSame_any [] (.slice none 0 0) (.slice none 0 0) wx (Or.inl ⟨rfl, rfl⟩) (Or.inl ⟨rfl, rfl⟩)
          go_wp2_with (first
              | (go_at_call 10; (with_reducible refine (HHd.out _ BX.out.below).mono ?_); rintro e w2 ⟨rfl, hB2⟩; (have BX2 := BX.out.step hB2); (have q2 := boxed1 BX2))
              | (go_at_call 13; (with_reducible refine (HRf.out _ BX2.below).mono ?_); rintro e w3 ⟨rfl, hB3⟩; (have BX3 := BX2.step hB3); (have q3 := boxed1 BX3))
              | (go_at_call 19; (with_reducible refine (HCO.out _ BX3.below).mono ?_); rintro e w4 ⟨pf, kf, pd, kd, pm, km, rfl, _, _, _, hB4, _⟩; (have BX5 := (BX3.step hB4).alloc (.cells #[.string n2, .string s2, .slice pf fc2.length kf, .bool true, .slice pd d2.length kd, .slice pm m2.length km] 47)); (have q4 := boxed1 BX5))
              | (go_at_call 16; (with_reducible refine (HTy.out _).mono ?_); rintro e w5 ⟨rfl, rfl⟩)
              | (go_at_call 20; (with_reducible refine (HDe.out _).mono ?_); rintro e w5 ⟨rfl, rfl⟩)
              | (go_at_call 21; (with_reducible refine (HNw.out _ BX5.below).mono ?_); rintro e w7 ⟨rfl, hB7⟩; (have BX7 := (BX5.step hB7).alloc (.cells #[.slice none 0 0] 25)); (have q7 := boxed1 BX7); (have kg7 := Blk.new w7 25 [(.slice none 0 0)]); (have bl7q : w.heap.size < w7.heap.size := hcells_lt (boxed1 (BX5.step hB7))); (have bl7 := (Below.refl w7.heap.size w7).alloc (Nat.le_refl _) (.cells #[.slice none 0 0] 25)))
              | (go_at_call 22; (with_reducible refine (HAw.out _ BX7.below).mono ?_); rintro e w8 ⟨rfl, hB8⟩; (have BX8 := (BX7.step hB8).alloc (.cells #[.slice none 0 0] 25)); (have q8 := boxed1 BX8); (have kg8 := (kg7.step hB8).step ((Below.refl _ _).alloc (Nat.le_refl _) (.cells #[.slice none 0 0] 25))); (have kj8 := Blk.new w8 25 [(.slice none 0 0)]); (have al1 := (Below.refl (w8.alloc (.cells #[.slice none 0 0] 25)).heap.size (w8.alloc (.cells #[.slice none 0 0] 25))).alloc (Nat.le_refl _) (.cells #[.slice none 0 0] 25)); (have al2 := (Below.refl ((w8.alloc (.cells #[.slice none 0 0] 25)).alloc (.cells #[.slice none 0 0] 25)).heap.size ((w8.alloc (.cells #[.slice none 0 0] 25)).alloc (.cells #[.slice none 0 0] 25))).alloc (Nat.le_refl _) (.cells #[.slice none 0 0] 25)); (have al0 := (Below.refl w8.heap.size w8).alloc (Nat.le_refl _) (.cells #[.slice none 0 0] 25)); (have bl89 := below_call (below_call al0 (Nat.le_refl _) al1) (Nat.le_refl _) al2); (have bl79 := below_call (below_call bl7 (Nat.le_refl _) hB8) (Nat.le_refl _) bl89); (have BX9 := (BX8.step al1).step al2); (have kg9 := (kg8.step al1).step al2); (have kj9 := (kj8.step al1).step al2); (have kx9' := (Blk.new (w8.alloc (.cells #[.slice none 0 0] 25)) 25 [.slice none 0 0]).step al2); (have ky9' := Blk.new ((w8.alloc (.cells #[.slice none 0 0] 25)).alloc (.cells #[.slice none 0 0] 25)) 25 [.slice none 0 0]); (have sz8 : (w8.alloc (.cells #[.slice none 0 0] 25)).heap.size = w8.heap.size + 1 := by simp); (have sz9 : ((w8.alloc (.cells #[.slice none 0 0] 25)).alloc (.cells #[.slice none 0 0] 25)).heap.size = w8.heap.size + 1 + 1 := by simp); (have kx9 := sz8 ▸ kx9'); (have ky9 := sz9 ▸ ky9'); clear kx9' ky9' al0 al1 al2; (have q9 := boxed1 BX9); (have r0 := kg9.cell 0))
              | (go_at_call 14; (with_reducible refine (HEe.out _).mono ?_); rintro e w9 ⟨rfl, rfl⟩)
              | (go_at_call 14; (with_reducible refine (HEf.out _).mono ?_); rintro e w9 ⟨rfl, rfl⟩)
              | (go_at_call 25; (with_reducible refine (HSh.out _).mono ?_); rintro e w11 ⟨rfl, hB11'⟩; (have hB11 := below_call BX9.below (Nat.le_refl _) hB11'); (have kg11 := kg9.step hB11'); (have kj11 := kj9.step hB11'); (have kx11 := kx9.step hB11'); (have ky11 := ky9.step hB11'); (have s0 : w11.cell? ⟨w8.heap.size, 0, none⟩ = some (.slice none 0 0) := kj11.cell 0); (have s1 : w11.cell? ⟨w8.heap.size + 1, 0, none⟩ = some (.slice none 0 0) := kx11.cell 0); (have s2 : w11.cell? ⟨w8.heap.size + 1 + 1, 0, none⟩ = some (.slice none 0 0) := ky11.cell 0); clear HSh; (have HSh2 : Hid (∀ wx, _) := fun wx => heapSame_any [] (.slice none 0 0) (.slice none 0 0) wx (Or.inl ⟨rfl, rfl⟩) (Or.inl ⟨rfl, rfl⟩)))
              | (go_at_call 25; (with_reducible refine (HSh2.out _).mono ?_); rintro e w12 ⟨rfl, hB12⟩; (have kx12 := kx11.step hB12); (have ky12 := ky11.step hB12); (have u1 : w12.cell? ⟨w8.heap.size + 1, 0, none⟩ = some (.slice none 0 0) := kx12.cell 0); (have u2 : w12.cell? ⟨w8.heap.size + 1 + 1, 0, none⟩ = some (.slice none 0 0) := ky12.cell 0)))
          go_ret
          exact ⟨rfl, below_call hB11 (Nat.le_refl _) hB12⟩
        · cases g3
          · by_cases hk0 : kr = 0
            · subst hk0
              cases gn1
              · cases gn2
                · obtain ⟨m, rfl⟩ : ∃ m : Nat, n = (m : Int) := ⟨n.toNat, by have := of_decide_eq_false hn1; omega⟩
                  have hm10 : m ≤ 10 := by have := of_decide_eq_false hn2; omega
                  cases g5
                  · skip
                    have hE : E = 7 := by rw [hne]; simp [step1]
                    have hF : F = 0 := by rw [hae]; rfl
                    have HNw : Hid (∀ wx, Below w.heap.size w wx → Calls Tryz.prog 21 #[.slice pl l.length cap, .agg #[.slice ph h.length kh], .string c] wx fun e w' => e = .returned (.tuple #[.agg #[.slice none 0 0], .int .i64 0, .iface 35 (.int .i64 7)]) ∧ Below wx.heap.size wx w') := fun wx hb => (HN0.out wx hb).mono fun e w' hp => make_err hp hE (by decide)
                    have HAw : Hid (∀ wx, Below w.heap.size w wx → _) := fun wx hb => (HA0.out wx hb).mono fun e w' hp => make_ok hp hF
                    have HEe : Hid (∀ wx, Calls Tryz.prog 14 #[.iface 35 (.int .i64 7), .int .i64 7] wx fun e w' => e = .returned (.bool true) ∧ wx = w') := fun wx => same_is 7 (by decide) wx
                    have HEf := Lib.hid same_ok
                    have HFy : Hid (∀ wx, _) := HFa.out m hm10
                    rw [Int.toNat_natCast] at HAw
                    generalize freshA k m = xa at HFy HAw
                    have h51 := HFo.out rfl
                    obtain ⟨i0, hi, hz1, hz2, hz3⟩ := info_parts info_thing
                    clear hE hF HN0 HA0 HFr HFa HFo hne hae
                    go_enter Tryz.func5, Tryz.ntmps5
                    go_upto_region 27 with (first
                        | (go_at_call 10; (with_reducible refine (HHd.out _ BX.out.below).mono ?_); rintro e w2 ⟨rfl, hB2⟩; (have BX2 := BX.out.step hB2); (have q2 := boxed1 BX2))
                        | (go_at_call 13; (with_reducible refine (HRf.out _ BX2.below).mono ?_); rintro e w3 ⟨rfl, hB3⟩; (have BX3 := BX2.step hB3); (have q3 := boxed1 BX3))
                        | (go_at_call 19; (with_reducible refine (HCO.out _ BX3.below).mono ?_); rintro e w4 ⟨pf, kf, pd, kd, pm, km, rfl, _, _, _, hB4, _⟩; (have BX5 := (BX3.step hB4).alloc (.cells #[.string n2, .string s2, .slice pf fc2.length kf, .bool true, .slice pd d2.length kd, .slice pm m2.length km] 47)); (have q4 := boxed1 BX5))
                        | (go_at_call 16; (with_reducible refine (HTy.out _).mono ?_); rintro e w5 ⟨rfl, rfl⟩)
                        | (go_at_call 20; (with_reducible refine (HDe.out _).mono ?_); rintro e w5 ⟨rfl, rfl⟩)
                        | (go_at_call 17; (with_reducible refine (HKi.out _ BX5.below).mono ?_); rintro e w6 ⟨rfl, hB6⟩; (have BX6 := BX5.step hB6); (have q6 := boxed1 BX6))
                        | (go_at_call 21; (with_reducible refine (HNw.out _ BX6.below).mono ?_); rintro e w7 ⟨rfl, hB7⟩; (have BX7 := (BX6.step hB7).alloc (.cells #[.slice none 0 0] 25)); (have q7 := boxed1 BX7); (have kg7 := Blk.new w7 25 [(.slice none 0 0)]); (have bl7q : w.heap.size < w7.heap.size := hcells_lt (boxed1 (BX6.step hB7))); (have bl7 := (Below.refl w7.heap.size w7).alloc (Nat.le_refl _) (.cells #[.slice none 0 0] 25)))
                        | (go_at_call 22; (with_reducible refine (HAw.out _ BX7.below).mono ?_); rintro e w8 ⟨⟨jp, jc, rfl, hj⟩, hB8⟩; (have BX8 := (BX7.step hB8).alloc (.cells #[.slice jp (h.length + 1) jc] 25)); (have q8 := boxed1 BX8); (have kg8 := (kg7.step hB8).step ((Below.refl _ _).alloc (Nat.le_refl _) (.cells #[.slice jp (h.length + 1) jc] 25))); (have kj8 := Blk.new w8 25 [(.slice jp (h.length + 1) jc)]); (have al1 := (Below.refl (w8.alloc (.cells #[.slice jp (h.length + 1) jc] 25)).heap.size (w8.alloc (.cells #[.slice jp (h.length + 1) jc] 25))).alloc (Nat.le_refl _) (.cells #[.slice none 0 0] 25)); (have al2 := (Below.refl ((w8.alloc (.cells #[.slice jp (h.length + 1) jc] 25)).alloc (.cells #[.slice none 0 0] 25)).heap.size ((w8.alloc (.cells #[.slice jp (h.length + 1) jc] 25)).alloc (.cells #[.slice none 0 0] 25))).alloc (Nat.le_refl _) (.cells #[.slice none 0 0] 25)); (have al0 := (Below.refl w8.heap.size w8).alloc (Nat.le_refl _) (.cells #[.slice jp (h.length + 1) jc] 25)); (have bl89 := below_call (below_call al0 (Nat.le_refl _) al1) (Nat.le_refl _) al2); (have bl79 := below_call (below_call bl7 (Nat.le_refl _) hB8) (Nat.le_refl _) bl89); (have BX9 := (BX8.step al1).step al2); (have kg9 := (kg8.step al1).step al2); (have kj9 := (kj8.step al1).step al2); (have kx9' := (Blk.new (w8.alloc (.cells #[.slice jp (h.length + 1) jc] 25)) 25 [.slice none 0 0]).step al2); (have ky9' := Blk.new ((w8.alloc (.cells #[.slice jp (h.length + 1) jc] 25)).alloc (.cells #[.slice none 0 0] 25)) 25 [.slice none 0 0]); (have sz8 : (w8.alloc (.cells #[.slice jp (h.length + 1) jc] 25)).heap.size = w8.heap.size + 1 := by simp); (have sz9 : ((w8.alloc (.cells #[.slice jp (h.length + 1) jc] 25)).alloc (.cells #[.slice none 0 0] 25)).heap.size = w8.heap.size + 1 + 1 := by simp); (have kx9 := sz8 ▸ kx9'); (have ky9 := sz9 ▸ ky9'); clear kx9' ky9' al0 al1 al2; (have q9 := boxed1 BX9); (have r0 := kg9.cell 0))
                        | (go_at_call 14; (with_reducible refine (HEe.out _).mono ?_); rintro e w9 ⟨rfl, rfl⟩)
                        | (go_at_call 14; (with_reducible refine (HEf.out _).mono ?_); rintro e w9 ⟨rfl, rfl⟩))
                    obtain ⟨W, hW⟩ : ∃ W, W = ((w8.alloc (.cells #[.slice jp (h.length + 1) jc] 25)).alloc (.cells #[.slice none 0 0] 25)).alloc (.cells #[.slice none 0 0] 25) := ⟨_, rfl⟩
                    have hWs : w8.heap.size + 1 + 1 < W.heap.size := by rw [hW]; simp
                    rw [← hW] at BX9 kg9 kj9 kx9 ky9 bl79 bl89 q9 ⊢
                    have bW := BX9.below
                    have qW := boxed1 BX9
                    have bl7s := bl7q
                    have bl78s : w7.heap.size < w8.heap.size := Nat.lt_of_lt_of_le (by simp) hB8.size
                    clear hW q9 r0 BX9 BX8 BX7 kg7 kg8 kj8 q7 q8 bl7 hB8 hB7 sz8 sz9 HNw HAw HEe HEf HHd HRf HCO HKi HTy HDe
                    skip
                    have hq : ∀ wz, Below w.heap.size w wz → True := fun _ _ => trivial
                    have madey := World.ownsRow_made (base := W.heap.size) (e := 56) (size := 2) W #[] 0 (Nat.le_refl _) (Nat.zero_le _) rfl
                    have bmy := below_call bW (Nat.le_refl _) ((Below.refl W.heap.size W).alloc (Nat.le_refl _) (.cells #[] 56))
                    have cmy : (ph = none ∧ ps = []) ∨ ∃ ad, ph = some ad ∧ ∀ j u, (ps.flatMap thingVs)[j]? = some u → (W.alloc (.cells #[] 56)).cell? (ad.add j) = some u := HPc.out.imp id (fun ⟨ad, e, hc⟩ => ⟨ad, e, fun j u hj => (bmy.cell (p := ad.add j) (acell_lt (hc j u hj))).trans (hc j u hj)⟩)
                    have h8y : ps.length ≤ 8388608 := by rw [HPl.out]; omega
                    have hbsy : W.heap.size ≤ (W.alloc (.cells #[] 56)).heap.size := by simp
                    have qby := Lib.cell?_alloc_some (.cells #[] 56) qW
                    go_upto_region 31 with (first
                        | (at_builtin; refine wpList_put_things rfl _ _ rfl W.heap.size _ rfl madey ph kh h.length ps HPl.out.symm rfl cmy HP1.out h8y HPz.out hbsy ?_; intro vy9 wy9 howny9 hgy9; obtain ⟨py9, ccy9, rfl⟩ := ownsRow_shape howny9; (have hBy9 := ((Below.refl W.heap.size W).alloc (Nat.le_refl _) (.cells #[] 56)).grown hgy9 hbsy (fun g e => (madey.lt _ e).1)); (have bwy9 := below_call bW (Nat.le_refl _) hBy9))
                        | (go_at_call 24; (with_reducible refine (HFy.out _).mono ?_); rintro e wy10 ⟨⟨fpy, fky, rfl, hfy, hfry⟩, hBy10⟩; (have howny10 := ownsRow_belowk howny9 hBy10); (have hly8 : h.length ≤ 8388608 := by omega); (have hbty : W.heap.size ≤ wy10.heap.size := Nat.le_trans hBy9.size hBy10.size))
                        | (at_builtin; refine wpList_append_thing rfl _ _ rfl W.heap.size _ _ _ rfl howny10 xa.type (.slice fpy xa.has.length fky) rfl wy10.heap.size rfl rfl hly8 hbty ?_; intro vy11 wy11 howny11 hgy11; obtain ⟨gy, cy, rfl, _⟩ := World.ownsRow.form howny11 (Nat.succ_pos _); (have aly := (Below.refl wy10.heap.size wy10).alloc (Nat.le_refl _) (.cells #[.string xa.type, .slice fpy xa.has.length fky] 56)); (have hBy11 := (below_call (below_call hBy9 (Nat.le_refl _) hBy10) (Nat.le_refl _) aly).grown hgy11 (Nat.le_trans hbty aly.size) (fun g e => (howny9.lt _ e).1)); (have kby := ky9.step hBy11); (have ey8 : wy11.cell? ⟨w8.heap.size + 1 + 1, 0, none⟩ = some (.slice none 0 0) := kby.cell 0); (have fy8 := kby.frozen 0)))
                    obtain ⟨Wy, hWy⟩ : ∃ Wy, Wy = wy11.setCell ⟨w8.heap.size + 1 + 1, 0, none⟩ (.slice (some ⟨gy, 0, none⟩) (h.length + 1) cy) := ⟨_, rfl⟩
                    have sWy : Wy.heap.size = wy11.heap.size := by rw [hWy]; simp
                    have oWy : ∀ b, b ≠ w8.heap.size + 1 + 1 → Wy.heap[b]? = wy11.heap[b]? := fun b hb => by rw [hWy]; exact heap_setCell_other wy11 ⟨w8.heap.size + 1 + 1, 0, none⟩ b _ hb
                    have kgWy : Blk Wy (w7.heap.size) 25 [(.slice none 0 0)] := (oWy _ (by have := bl78s; omega)).trans (kg9.step hBy11)
                    have kjWy : Blk Wy (w8.heap.size) 25 [(.slice jp (h.length + 1) jc)] := (oWy _ (by have := bl78s; omega)).trans (kj9.step hBy11)
                    have kxWy : Blk Wy (w8.heap.size + 1) 25 [(.slice none 0 0)] := (oWy _ (by have := bl78s; omega)).trans (kx9.step hBy11)
                    have kyWy : Blk Wy (w8.heap.size + 1 + 1) 25 [(.slice (some ⟨gy, 0, none⟩) (h.length + 1) cy)] := by rw [hWy]; exact kby.store1 _
                    have bwWy : Below w.heap.size w Wy := by rw [hWy]; exact (below_call bW (Nat.le_refl _) hBy11).setCell (p := ⟨w8.heap.size + 1 + 1, 0, none⟩) (by show w.heap.size ≤ w8.heap.size + 1 + 1; have := bl7s; have := bl78s; omega) _
                    have b7Wy : Below w7.heap.size w7 Wy := by rw [hWy]; exact (below_call bl79 (Nat.le_refl _) hBy11).setCell (p := ⟨w8.heap.size + 1 + 1, 0, none⟩) (by show w7.heap.size ≤ w8.heap.size + 1 + 1; have := bl78s; omega) _
                    have b8Wy : Below w8.heap.size w8 Wy := by rw [hWy]; exact (below_call bl89 (Nat.le_refl _) hBy11).setCell (p := ⟨w8.heap.size + 1 + 1, 0, none⟩) (by show w8.heap.size ≤ w8.heap.size + 1 + 1; omega) _
                    have hTy : ∀ wz, Below w.heap.size w wz → (∀ b, W.heap.size ≤ b → b < Wy.heap.size → wz.heap[b]? = Wy.heap[b]?) → ThingsAt wz (.slice (some ⟨gy, 0, none⟩) (h.length + 1) cy) (h ++ [xa]) := fun wz hwz hag => put_step HPs.out HPo.out howny9 hfy hfry howny11 HPl.out.symm hgy11 hBy9.size hwz (fun b h1 h2 => (hag b h1 (by rw [sWy]; exact h2)).trans (oWy b (by have := hWs; omega)))
                    have qWy : Wy.cell? ⟨w.heap.size, 0, none⟩ = some (.slice ph h.length kh) := (World.cell?_of_block (a := ⟨w.heap.size, 0, none⟩) (oWy w.heap.size (by have := bl7s; have := bl78s; omega))).trans ((hBy11.cell (p := ⟨w.heap.size, 0, none⟩) (hcells_lt qW)).trans qW)
                    have hsWy : w8.heap.size + 1 + 1 < Wy.heap.size := by rw [sWy]; exact Nat.lt_of_lt_of_le hWs hBy11.size
                    have hzWy : W.heap.size ≤ Wy.heap.size := by rw [sWy]; exact hBy11.size
                    have hagWy : ∀ b, b < W.heap.size → b ≠ w8.heap.size + 1 + 1 → Wy.heap[b]? = W.heap[b]? := fun b h1 h2 => (oWy b h2).trans (hBy11.block b h1)
                    rw [← hWy]
                    replace hTy := Lib.hid hTy
                    replace hagWy := Lib.hid hagWy
                    clear sWy oWy hWy ey8 fy8 kby howny9 howny10 howny11 hgy9 hgy11 hfy hfry hBy9 hBy10 hBy11 aly madey cmy bmy bwy9 qby qW kg9 kj9 kx9 ky9 bW bl79 bl89
                    have tx : ThingsAt Wy (.slice none 0 0) [] := Or.inl ⟨rfl, rfl⟩
                    have tg : ThingsAt Wy (.slice none 0 0) [] := Or.inl ⟨rfl, rfl⟩
                    have ty := hTy.out Wy bwWy (fun b h1 h2 => rfl)
                    have tj := hj.mono b8Wy
                    have HS1 := Lib.hid (heapSame_any _ _ _ Wy tg tx)
                    have HS2 : Hid (∀ wz, Below Wy.heap.size Wy wz → _) := fun wz hb => heapSame_any _ _ _ wz (tj.mono hb) (ty.mono hb)
                    have z0 : Wy.cell? ⟨w7.heap.size, 0, none⟩ = some (.slice none 0 0) := kgWy.cell 0
                    have z1 : Wy.cell? ⟨w8.heap.size + 1, 0, none⟩ = some (.slice none 0 0) := kxWy.cell 0
                    clear tx tg ty tj
                    go_wp2_with (first
                        | (go_at_call 25; (with_reducible refine HS1.out.mono ?_); rintro e w21 ⟨rfl, hB21⟩; (have y0 : w21.cell? ⟨w8.heap.size, 0, none⟩ = some (.slice jp (h.length + 1) jc) := (kjWy.step hB21).cell 0); (have y1 : w21.cell? ⟨w8.heap.size + 1 + 1, 0, none⟩ = some (.slice (some ⟨gy, 0, none⟩) (h.length + 1) cy) := (kyWy.step hB21).cell 0); clear HS1)
                        | (go_at_call 25; (with_reducible refine (HS2.out _ hB21).mono ?_); rintro e w22 ⟨rfl, hB22⟩; (have u0 : w22.cell? ⟨w8.heap.size + 1, 0, none⟩ = some (.slice none 0 0) := ((kxWy.step hB21).step hB22).cell 0); (have u1 : w22.cell? ⟨w8.heap.size + 1 + 1, 0, none⟩ = some (.slice (some ⟨gy, 0, none⟩) (h.length + 1) cy) := ((kyWy.step hB21).step hB22).cell 0)))
                    go_ret
                    exact ⟨rfl, below_call (below_call bwWy (Nat.le_refl _) hB21) (Nat.le_refl _) hB22⟩
                  · skip
                    have hE : E = 7 := by rw [hne]; simp [step1]
                    have hF : F = 4 := by rw [hae]; rfl
                    have HNw : Hid (∀ wx, Below w.heap.size w wx → Calls Tryz.prog 21 #[.slice pl l.length cap, .agg #[.slice ph h.length kh], .string c] wx fun e w' => e = .returned (.tuple #[.agg #[.slice none 0 0], .int .i64 0, .iface 35 (.int .i64 7)]) ∧ Below wx.heap.size wx w') := fun wx hb => (HN0.out wx hb).mono fun e w' hp => make_err hp hE (by decide)
                    have HAw : Hid (∀ wx, Below w.heap.size w wx → Calls Tryz.prog 22 #[.slice pl l.length cap, .agg #[.slice ph h.length kh], .string k, .int .i64 (m : Int)] wx fun e w' => e = .returned (.tuple #[.agg #[.slice none 0 0], .int .i64 0, .iface 35 (.int .i64 4)]) ∧ Below wx.heap.size wx w') := fun wx hb => (HA0.out wx hb).mono fun e w' hp => make_err hp hF (by decide)
                    have HEe : Hid (∀ wx, Calls Tryz.prog 14 #[.iface 35 (.int .i64 7), .int .i64 7] wx fun e w' => e = .returned (.bool true) ∧ wx = w') := fun wx => same_is 7 (by decide) wx
                    have HEf : Hid (∀ wx, Calls Tryz.prog 14 #[.iface 35 (.int .i64 4), .int .i64 4] wx fun e w' => e = .returned (.bool true) ∧ wx = w') := fun wx => same_is 4 (by decide) wx
                    clear hE hF HN0 HA0 HFr HFa HFo hne hae
                    go_enter Tryz.func5, Tryz.ntmps5
                    have HSh : Hid (∀ wx, _) := fun wx => heapSame_any [] (.slice none 0 0) (.slice none 0 0) wx (Or.inl ⟨rfl, rfl⟩) (Or.inl ⟨rfl, rfl⟩)
                    go_wp2_with (first
                        | (go_at_call 10; (with_reducible refine (HHd.out _ BX.out.below).mono ?_); rintro e w2 ⟨rfl, hB2⟩; (have BX2 := BX.out.step hB2); (have q2 := boxed1 BX2))
                        | (go_at_call 13; (with_reducible refine (HRf.out _ BX2.below).mono ?_); rintro e w3 ⟨rfl, hB3⟩; (have BX3 := BX2.step hB3); (have q3 := boxed1 BX3))
                        | (go_at_call 19; (with_reducible refine (HCO.out _ BX3.below).mono ?_); rintro e w4 ⟨pf, kf, pd, kd, pm, km, rfl, _, _, _, hB4, _⟩; (have BX5 := (BX3.step hB4).alloc (.cells #[.string n2, .string s2, .slice pf fc2.length kf, .bool true, .slice pd d2.length kd, .slice pm m2.length km] 47)); (have q4 := boxed1 BX5))
                        | (go_at_call 16; (with_reducible refine (HTy.out _).mono ?_); rintro e w5 ⟨rfl, rfl⟩)
                        | (go_at_call 20; (with_reducible refine (HDe.out _).mono ?_); rintro e w5 ⟨rfl, rfl⟩)
                        | (go_at_call 17; (with_reducible refine (HKi.out _ BX5.below).mono ?_); rintro e w6 ⟨rfl, hB6⟩; (have BX6 := BX5.step hB6); (have q6 := boxed1 BX6))
                        | (go_at_call 21; (with_reducible refine (HNw.out _ BX6.below).mono ?_); rintro e w7 ⟨rfl, hB7⟩; (have BX7 := (BX6.step hB7).alloc (.cells #[.slice none 0 0] 25)); (have q7 := boxed1 BX7); (have kg7 := Blk.new w7 25 [(.slice none 0 0)]); (have bl7q : w.heap.size < w7.heap.size := hcells_lt (boxed1 (BX6.step hB7))); (have bl7 := (Below.refl w7.heap.size w7).alloc (Nat.le_refl _) (.cells #[.slice none 0 0] 25)))
                        | (go_at_call 22; (with_reducible refine (HAw.out _ BX7.below).mono ?_); rintro e w8 ⟨rfl, hB8⟩; (have BX8 := (BX7.step hB8).alloc (.cells #[.slice none 0 0] 25)); (have q8 := boxed1 BX8); (have kg8 := (kg7.step hB8).step ((Below.refl _ _).alloc (Nat.le_refl _) (.cells #[.slice none 0 0] 25))); (have kj8 := Blk.new w8 25 [(.slice none 0 0)]); (have al1 := (Below.refl (w8.alloc (.cells #[.slice none 0 0] 25)).heap.size (w8.alloc (.cells #[.slice none 0 0] 25))).alloc (Nat.le_refl _) (.cells #[.slice none 0 0] 25)); (have al2 := (Below.refl ((w8.alloc (.cells #[.slice none 0 0] 25)).alloc (.cells #[.slice none 0 0] 25)).heap.size ((w8.alloc (.cells #[.slice none 0 0] 25)).alloc (.cells #[.slice none 0 0] 25))).alloc (Nat.le_refl _) (.cells #[.slice none 0 0] 25)); (have al0 := (Below.refl w8.heap.size w8).alloc (Nat.le_refl _) (.cells #[.slice none 0 0] 25)); (have bl89 := below_call (below_call al0 (Nat.le_refl _) al1) (Nat.le_refl _) al2); (have bl79 := below_call (below_call bl7 (Nat.le_refl _) hB8) (Nat.le_refl _) bl89); (have BX9 := (BX8.step al1).step al2); (have kg9 := (kg8.step al1).step al2); (have kj9 := (kj8.step al1).step al2); (have kx9' := (Blk.new (w8.alloc (.cells #[.slice none 0 0] 25)) 25 [.slice none 0 0]).step al2); (have ky9' := Blk.new ((w8.alloc (.cells #[.slice none 0 0] 25)).alloc (.cells #[.slice none 0 0] 25)) 25 [.slice none 0 0]); (have sz8 : (w8.alloc (.cells #[.slice none 0 0] 25)).heap.size = w8.heap.size + 1 := by simp); (have sz9 : ((w8.alloc (.cells #[.slice none 0 0] 25)).alloc (.cells #[.slice none 0 0] 25)).heap.size = w8.heap.size + 1 + 1 := by simp); (have kx9 := sz8 ▸ kx9'); (have ky9 := sz9 ▸ ky9'); clear kx9' ky9' al0 al1 al2; (have q9 := boxed1 BX9); (have r0 := kg9.cell 0))
                        | (go_at_call 14; (with_reducible refine (HEe.out _).mono ?_); rintro e w9 ⟨rfl, rfl⟩)
                        | (go_at_call 14; (with_reducible refine (HEf.out _).mono ?_); rintro e w9 ⟨rfl, rfl⟩)
                        | (go_at_call 25; (with_reducible refine (HSh.out _).mono ?_); rintro e w11 ⟨rfl, hB11'⟩; (have hB11 := below_call BX9.below (Nat.le_refl _) hB11'); (have kg11 := kg9.step hB11'); (have kj11 := kj9.step hB11'); (have kx11 := kx9.step hB11'); (have ky11 := ky9.step hB11'); (have s0 : w11.cell? ⟨w8.heap.size, 0, none⟩ = some (.slice none 0 0) := kj11.cell 0); (have s1 : w11.cell? ⟨w8.heap.size + 1, 0, none⟩ = some (.slice none 0 0) := kx11.cell 0); (have s2 : w11.cell? ⟨w8.heap.size + 1 + 1, 0, none⟩ = some (.slice none 0 0) := ky11.cell 0); clear HSh; (have HSh2 : Hid (∀ wx, _) := fun wx => heapSame_any [] (.slice none 0 0) (.slice none 0 0) wx (Or.inl ⟨rfl, rfl⟩) (Or.inl ⟨rfl, rfl⟩)))
                        | (go_at_call 25; (with_reducible refine (HSh2.out _).mono ?_); rintro e w12 ⟨rfl, hB12⟩; (have kx12 := kx11.step hB12); (have ky12 := ky11.step hB12); (have u1 : w12.cell? ⟨w8.heap.size + 1, 0, none⟩ = some (.slice none 0 0) := kx12.cell 0); (have u2 : w12.cell? ⟨w8.heap.size + 1 + 1, 0, none⟩ = some (.slice none 0 0) := ky12.cell 0)))
                    go_ret
                    exact ⟨rfl, below_call hB11 (Nat.le_refl _) hB12⟩
                · skip
                  have hE : E = 7 := by rw [hne]; simp [step1]
                  have hF : F = 2 := by rw [hae]; rfl
                  have HNw : Hid (∀ wx, Below w.heap.size w wx → Calls Tryz.prog 21 #[.slice pl l.length cap, .agg #[.slice ph h.length kh], .string c] wx fun e w' => e = .returned (.tuple #[.agg #[.slice none 0 0], .int .i64 0, .iface 35 (.int .i64 7)]) ∧ Below wx.heap.size wx w') := fun wx hb => (HN0.out wx hb).mono fun e w' hp => make_err hp hE (by decide)
                  have HAw : Hid (∀ wx, Below w.heap.size w wx → Calls Tryz.prog 22 #[.slice pl l.length cap, .agg #[.slice ph h.length kh], .string k, .int .i64 n] wx fun e w' => e = .returned (.tuple #[.agg #[.slice none 0 0], .int .i64 0, .iface 35 (.int .i64 2)]) ∧ Below wx.heap.size wx w') := fun wx hb => (HA0.out wx hb).mono fun e w' hp => make_err hp hF (by decide)
                  have HEe : Hid (∀ wx, Calls Tryz.prog 14 #[.iface 35 (.int .i64 7), .int .i64 7] wx fun e w' => e = .returned (.bool true) ∧ wx = w') := fun wx => same_is 7 (by decide) wx
                  have HEf : Hid (∀ wx, Calls Tryz.prog 14 #[.iface 35 (.int .i64 2), .int .i64 2] wx fun e w' => e = .returned (.bool true) ∧ wx = w') := fun wx => same_is 2 (by decide) wx
                  clear hE hF HN0 HA0 HFr HFa HFo hne hae
                  go_enter Tryz.func5, Tryz.ntmps5
                  have HSh : Hid (∀ wx, _) := fun wx => heapSame_any [] (.slice none 0 0) (.slice none 0 0) wx (Or.inl ⟨rfl, rfl⟩) (Or.inl ⟨rfl, rfl⟩)
                  go_wp2_with (first
                      | (go_at_call 10; (with_reducible refine (HHd.out _ BX.out.below).mono ?_); rintro e w2 ⟨rfl, hB2⟩; (have BX2 := BX.out.step hB2); (have q2 := boxed1 BX2))
                      | (go_at_call 13; (with_reducible refine (HRf.out _ BX2.below).mono ?_); rintro e w3 ⟨rfl, hB3⟩; (have BX3 := BX2.step hB3); (have q3 := boxed1 BX3))
                      | (go_at_call 19; (with_reducible refine (HCO.out _ BX3.below).mono ?_); rintro e w4 ⟨pf, kf, pd, kd, pm, km, rfl, _, _, _, hB4, _⟩; (have BX5 := (BX3.step hB4).alloc (.cells #[.string n2, .string s2, .slice pf fc2.length kf, .bool true, .slice pd d2.length kd, .slice pm m2.length km] 47)); (have q4 := boxed1 BX5))
                      | (go_at_call 16; (with_reducible refine (HTy.out _).mono ?_); rintro e w5 ⟨rfl, rfl⟩)
                      | (go_at_call 20; (with_reducible refine (HDe.out _).mono ?_); rintro e w5 ⟨rfl, rfl⟩)
                      | (go_at_call 17; (with_reducible refine (HKi.out _ BX5.below).mono ?_); rintro e w6 ⟨rfl, hB6⟩; (have BX6 := BX5.step hB6); (have q6 := boxed1 BX6))
                      | (go_at_call 21; (with_reducible refine (HNw.out _ BX6.below).mono ?_); rintro e w7 ⟨rfl, hB7⟩; (have BX7 := (BX6.step hB7).alloc (.cells #[.slice none 0 0] 25)); (have q7 := boxed1 BX7); (have kg7 := Blk.new w7 25 [(.slice none 0 0)]); (have bl7q : w.heap.size < w7.heap.size := hcells_lt (boxed1 (BX6.step hB7))); (have bl7 := (Below.refl w7.heap.size w7).alloc (Nat.le_refl _) (.cells #[.slice none 0 0] 25)))
                      | (go_at_call 22; (with_reducible refine (HAw.out _ BX7.below).mono ?_); rintro e w8 ⟨rfl, hB8⟩; (have BX8 := (BX7.step hB8).alloc (.cells #[.slice none 0 0] 25)); (have q8 := boxed1 BX8); (have kg8 := (kg7.step hB8).step ((Below.refl _ _).alloc (Nat.le_refl _) (.cells #[.slice none 0 0] 25))); (have kj8 := Blk.new w8 25 [(.slice none 0 0)]); (have al1 := (Below.refl (w8.alloc (.cells #[.slice none 0 0] 25)).heap.size (w8.alloc (.cells #[.slice none 0 0] 25))).alloc (Nat.le_refl _) (.cells #[.slice none 0 0] 25)); (have al2 := (Below.refl ((w8.alloc (.cells #[.slice none 0 0] 25)).alloc (.cells #[.slice none 0 0] 25)).heap.size ((w8.alloc (.cells #[.slice none 0 0] 25)).alloc (.cells #[.slice none 0 0] 25))).alloc (Nat.le_refl _) (.cells #[.slice none 0 0] 25)); (have al0 := (Below.refl w8.heap.size w8).alloc (Nat.le_refl _) (.cells #[.slice none 0 0] 25)); (have bl89 := below_call (below_call al0 (Nat.le_refl _) al1) (Nat.le_refl _) al2); (have bl79 := below_call (below_call bl7 (Nat.le_refl _) hB8) (Nat.le_refl _) bl89); (have BX9 := (BX8.step al1).step al2); (have kg9 := (kg8.step al1).step al2); (have kj9 := (kj8.step al1).step al2); (have kx9' := (Blk.new (w8.alloc (.cells #[.slice none 0 0] 25)) 25 [.slice none 0 0]).step al2); (have ky9' := Blk.new ((w8.alloc (.cells #[.slice none 0 0] 25)).alloc (.cells #[.slice none 0 0] 25)) 25 [.slice none 0 0]); (have sz8 : (w8.alloc (.cells #[.slice none 0 0] 25)).heap.size = w8.heap.size + 1 := by simp); (have sz9 : ((w8.alloc (.cells #[.slice none 0 0] 25)).alloc (.cells #[.slice none 0 0] 25)).heap.size = w8.heap.size + 1 + 1 := by simp); (have kx9 := sz8 ▸ kx9'); (have ky9 := sz9 ▸ ky9'); clear kx9' ky9' al0 al1 al2; (have q9 := boxed1 BX9); (have r0 := kg9.cell 0))
                      | (go_at_call 14; (with_reducible refine (HEe.out _).mono ?_); rintro e w9 ⟨rfl, rfl⟩)
                      | (go_at_call 14; (with_reducible refine (HEf.out _).mono ?_); rintro e w9 ⟨rfl, rfl⟩)
                      | (go_at_call 25; (with_reducible refine (HSh.out _).mono ?_); rintro e w11 ⟨rfl, hB11'⟩; (have hB11 := below_call BX9.below (Nat.le_refl _) hB11'); (have kg11 := kg9.step hB11'); (have kj11 := kj9.step hB11'); (have kx11 := kx9.step hB11'); (have ky11 := ky9.step hB11'); (have s0 : w11.cell? ⟨w8.heap.size, 0, none⟩ = some (.slice none 0 0) := kj11.cell 0); (have s1 : w11.cell? ⟨w8.heap.size + 1, 0, none⟩ = some (.slice none 0 0) := kx11.cell 0); (have s2 : w11.cell? ⟨w8.heap.size + 1 + 1, 0, none⟩ = some (.slice none 0 0) := ky11.cell 0); clear HSh; (have HSh2 : Hid (∀ wx, _) := fun wx => heapSame_any [] (.slice none 0 0) (.slice none 0 0) wx (Or.inl ⟨rfl, rfl⟩) (Or.inl ⟨rfl, rfl⟩)))
                      | (go_at_call 25; (with_reducible refine (HSh2.out _).mono ?_); rintro e w12 ⟨rfl, hB12⟩; (have kx12 := kx11.step hB12); (have ky12 := ky11.step hB12); (have u1 : w12.cell? ⟨w8.heap.size + 1, 0, none⟩ = some (.slice none 0 0) := kx12.cell 0); (have u2 : w12.cell? ⟨w8.heap.size + 1 + 1, 0, none⟩ = some (.slice none 0 0) := ky12.cell 0)))
                  go_ret
                  exact ⟨rfl, below_call hB11 (Nat.le_refl _) hB12⟩
              · skip
                have hE : E = 7 := by rw [hne]; simp [step1]
                have hF : F = 2 := by rw [hae]; cases gn2 <;> rfl
                have HNw : Hid (∀ wx, Below w.heap.size w wx → Calls Tryz.prog 21 #[.slice pl l.length cap, .agg #[.slice ph h.length kh], .string c] wx fun e w' => e = .returned (.tuple #[.agg #[.slice none 0 0], .int .i64 0, .iface 35 (.int .i64 7)]) ∧ Below wx.heap.size wx w') := fun wx hb => (HN0.out wx hb).mono fun e w' hp => make_err hp hE (by decide)
                have HAw : Hid (∀ wx, Below w.heap.size w wx → Calls Tryz.prog 22 #[.slice pl l.length cap, .agg #[.slice ph h.length kh], .string k, .int .i64 n] wx fun e w' => e = .returned (.tuple #[.agg #[.slice none 0 0], .int .i64 0, .iface 35 (.int .i64 2)]) ∧ Below wx.heap.size wx w') := fun wx hb => (HA0.out wx hb).mono fun e w' hp => make_err hp hF (by decide)
                have HEe : Hid (∀ wx, Calls Tryz.prog 14 #[.iface 35 (.int .i64 7), .int .i64 7] wx fun e w' => e = .returned (.bool true) ∧ wx = w') := fun wx => same_is 7 (by decide) wx
                have HEf : Hid (∀ wx, Calls Tryz.prog 14 #[.iface 35 (.int .i64 2), .int .i64 2] wx fun e w' => e = .returned (.bool true) ∧ wx = w') := fun wx => same_is 2 (by decide) wx
                clear hE hF HN0 HA0 HFr HFa HFo hne hae
                go_enter Tryz.func5, Tryz.ntmps5
                have HSh : Hid (∀ wx, _) := fun wx => heapSame_any [] (.slice none 0 0) (.slice none 0 0) wx (Or.inl ⟨rfl, rfl⟩) (Or.inl ⟨rfl, rfl⟩)
                go_wp2_with (first
                    | (go_at_call 10; (with_reducible refine (HHd.out _ BX.out.below).mono ?_); rintro e w2 ⟨rfl, hB2⟩; (have BX2 := BX.out.step hB2); (have q2 := boxed1 BX2))
                    | (go_at_call 13; (with_reducible refine (HRf.out _ BX2.below).mono ?_); rintro e w3 ⟨rfl, hB3⟩; (have BX3 := BX2.step hB3); (have q3 := boxed1 BX3))
                    | (go_at_call 19; (with_reducible refine (HCO.out _ BX3.below).mono ?_); rintro e w4 ⟨pf, kf, pd, kd, pm, km, rfl, _, _, _, hB4, _⟩; (have BX5 := (BX3.step hB4).alloc (.cells #[.string n2, .string s2, .slice pf fc2.length kf, .bool true, .slice pd d2.length kd, .slice pm m2.length km] 47)); (have q4 := boxed1 BX5))
                    | (go_at_call 16; (with_reducible refine (HTy.out _).mono ?_); rintro e w5 ⟨rfl, rfl⟩)
                    | (go_at_call 20; (with_reducible refine (HDe.out _).mono ?_); rintro e w5 ⟨rfl, rfl⟩)
                    | (go_at_call 17; (with_reducible refine (HKi.out _ BX5.below).mono ?_); rintro e w6 ⟨rfl, hB6⟩; (have BX6 := BX5.step hB6); (have q6 := boxed1 BX6))
                    | (go_at_call 21; (with_reducible refine (HNw.out _ BX6.below).mono ?_); rintro e w7 ⟨rfl, hB7⟩; (have BX7 := (BX6.step hB7).alloc (.cells #[.slice none 0 0] 25)); (have q7 := boxed1 BX7); (have kg7 := Blk.new w7 25 [(.slice none 0 0)]); (have bl7q : w.heap.size < w7.heap.size := hcells_lt (boxed1 (BX6.step hB7))); (have bl7 := (Below.refl w7.heap.size w7).alloc (Nat.le_refl _) (.cells #[.slice none 0 0] 25)))
                    | (go_at_call 22; (with_reducible refine (HAw.out _ BX7.below).mono ?_); rintro e w8 ⟨rfl, hB8⟩; (have BX8 := (BX7.step hB8).alloc (.cells #[.slice none 0 0] 25)); (have q8 := boxed1 BX8); (have kg8 := (kg7.step hB8).step ((Below.refl _ _).alloc (Nat.le_refl _) (.cells #[.slice none 0 0] 25))); (have kj8 := Blk.new w8 25 [(.slice none 0 0)]); (have al1 := (Below.refl (w8.alloc (.cells #[.slice none 0 0] 25)).heap.size (w8.alloc (.cells #[.slice none 0 0] 25))).alloc (Nat.le_refl _) (.cells #[.slice none 0 0] 25)); (have al2 := (Below.refl ((w8.alloc (.cells #[.slice none 0 0] 25)).alloc (.cells #[.slice none 0 0] 25)).heap.size ((w8.alloc (.cells #[.slice none 0 0] 25)).alloc (.cells #[.slice none 0 0] 25))).alloc (Nat.le_refl _) (.cells #[.slice none 0 0] 25)); (have al0 := (Below.refl w8.heap.size w8).alloc (Nat.le_refl _) (.cells #[.slice none 0 0] 25)); (have bl89 := below_call (below_call al0 (Nat.le_refl _) al1) (Nat.le_refl _) al2); (have bl79 := below_call (below_call bl7 (Nat.le_refl _) hB8) (Nat.le_refl _) bl89); (have BX9 := (BX8.step al1).step al2); (have kg9 := (kg8.step al1).step al2); (have kj9 := (kj8.step al1).step al2); (have kx9' := (Blk.new (w8.alloc (.cells #[.slice none 0 0] 25)) 25 [.slice none 0 0]).step al2); (have ky9' := Blk.new ((w8.alloc (.cells #[.slice none 0 0] 25)).alloc (.cells #[.slice none 0 0] 25)) 25 [.slice none 0 0]); (have sz8 : (w8.alloc (.cells #[.slice none 0 0] 25)).heap.size = w8.heap.size + 1 := by simp); (have sz9 : ((w8.alloc (.cells #[.slice none 0 0] 25)).alloc (.cells #[.slice none 0 0] 25)).heap.size = w8.heap.size + 1 + 1 := by simp); (have kx9 := sz8 ▸ kx9'); (have ky9 := sz9 ▸ ky9'); clear kx9' ky9' al0 al1 al2; (have q9 := boxed1 BX9); (have r0 := kg9.cell 0))
                    | (go_at_call 14; (with_reducible refine (HEe.out _).mono ?_); rintro e w9 ⟨rfl, rfl⟩)
                    | (go_at_call 14; (with_reducible refine (HEf.out _).mono ?_); rintro e w9 ⟨rfl, rfl⟩)
                    | (go_at_call 25; (with_reducible refine (HSh.out _).mono ?_); rintro e w11 ⟨rfl, hB11'⟩; (have hB11 := below_call BX9.below (Nat.le_refl _) hB11'); (have kg11 := kg9.step hB11'); (have kj11 := kj9.step hB11'); (have kx11 := kx9.step hB11'); (have ky11 := ky9.step hB11'); (have s0 : w11.cell? ⟨w8.heap.size, 0, none⟩ = some (.slice none 0 0) := kj11.cell 0); (have s1 : w11.cell? ⟨w8.heap.size + 1, 0, none⟩ = some (.slice none 0 0) := kx11.cell 0); (have s2 : w11.cell? ⟨w8.heap.size + 1 + 1, 0, none⟩ = some (.slice none 0 0) := ky11.cell 0); clear HSh; (have HSh2 : Hid (∀ wx, _) := fun wx => heapSame_any [] (.slice none 0 0) (.slice none 0 0) wx (Or.inl ⟨rfl, rfl⟩) (Or.inl ⟨rfl, rfl⟩)))
                    | (go_at_call 25; (with_reducible refine (HSh2.out _).mono ?_); rintro e w12 ⟨rfl, hB12⟩; (have kx12 := kx11.step hB12); (have ky12 := ky11.step hB12); (have u1 : w12.cell? ⟨w8.heap.size + 1, 0, none⟩ = some (.slice none 0 0) := kx12.cell 0); (have u2 : w12.cell? ⟨w8.heap.size + 1 + 1, 0, none⟩ = some (.slice none 0 0) := ky12.cell 0)))
                go_ret
                exact ⟨rfl, below_call hB11 (Nat.le_refl _) hB12⟩
            · have hzF := hk0
              have zk : ((kr : Int) == 0) = false := by simpa using hk0
              have hE : E = 7 := by rw [hne]; simp [step1]
              have hF : F = kr := by rw [hae]; simp [step1, step2, hk0]
              have HNw : Hid (∀ wx, Below w.heap.size w wx → Calls Tryz.prog 21 #[.slice pl l.length cap, .agg #[.slice ph h.length kh], .string c] wx fun e w' => e = .returned (.tuple #[.agg #[.slice none 0 0], .int .i64 0, .iface 35 (.int .i64 7)]) ∧ Below wx.heap.size wx w') := fun wx hb => (HN0.out wx hb).mono fun e w' hp => make_err hp hE (by decide)
              have HAw : Hid (∀ wx, Below w.heap.size w wx → Calls Tryz.prog 22 #[.slice pl l.length cap, .agg #[.slice ph h.length kh], .string k, .int .i64 n] wx fun e w' => e = .returned (.tuple #[.agg #[.slice none 0 0], .int .i64 0, .iface 35 (.int .i64 kr)]) ∧ Below wx.heap.size wx w') := fun wx hb => (HA0.out wx hb).mono fun e w' hp => make_err hp hF hzF
              have HEe : Hid (∀ wx, Calls Tryz.prog 14 #[.iface 35 (.int .i64 7), .int .i64 7] wx fun e w' => e = .returned (.bool true) ∧ wx = w') := fun wx => same_is 7 (by decide) wx
              have HEf : Hid (∀ wx, Calls Tryz.prog 14 #[.iface 35 (.int .i64 kr), .int .i64 kr] wx fun e w' => e = .returned (.bool true) ∧ wx = w') := fun wx => same_is kr hzF wx
              clear hE hF HN0 HA0 HFr HFa HFo hne hae
              go_enter Tryz.func5, Tryz.ntmps5
              have HSh : Hid (∀ wx, _) := fun wx => heapSame_any [] (.slice none 0 0) (.slice none 0 0) wx (Or.inl ⟨rfl, rfl⟩) (Or.inl ⟨rfl, rfl⟩)
              go_wp2_with (first
                  | (go_at_call 10; (with_reducible refine (HHd.out _ BX.out.below).mono ?_); rintro e w2 ⟨rfl, hB2⟩; (have BX2 := BX.out.step hB2); (have q2 := boxed1 BX2))
                  | (go_at_call 13; (with_reducible refine (HRf.out _ BX2.below).mono ?_); rintro e w3 ⟨rfl, hB3⟩; (have BX3 := BX2.step hB3); (have q3 := boxed1 BX3))
                  | (go_at_call 19; (with_reducible refine (HCO.out _ BX3.below).mono ?_); rintro e w4 ⟨pf, kf, pd, kd, pm, km, rfl, _, _, _, hB4, _⟩; (have BX5 := (BX3.step hB4).alloc (.cells #[.string n2, .string s2, .slice pf fc2.length kf, .bool true, .slice pd d2.length kd, .slice pm m2.length km] 47)); (have q4 := boxed1 BX5))
                  | (go_at_call 16; (with_reducible refine (HTy.out _).mono ?_); rintro e w5 ⟨rfl, rfl⟩)
                  | (go_at_call 20; (with_reducible refine (HDe.out _).mono ?_); rintro e w5 ⟨rfl, rfl⟩)
                  | (go_at_call 17; (with_reducible refine (HKi.out _ BX5.below).mono ?_); rintro e w6 ⟨rfl, hB6⟩; (have BX6 := BX5.step hB6); (have q6 := boxed1 BX6))
                  | (go_at_call 21; (with_reducible refine (HNw.out _ BX6.below).mono ?_); rintro e w7 ⟨rfl, hB7⟩; (have BX7 := (BX6.step hB7).alloc (.cells #[.slice none 0 0] 25)); (have q7 := boxed1 BX7); (have kg7 := Blk.new w7 25 [(.slice none 0 0)]); (have bl7q : w.heap.size < w7.heap.size := hcells_lt (boxed1 (BX6.step hB7))); (have bl7 := (Below.refl w7.heap.size w7).alloc (Nat.le_refl _) (.cells #[.slice none 0 0] 25)))
                  | (go_at_call 22; (with_reducible refine (HAw.out _ BX7.below).mono ?_); rintro e w8 ⟨rfl, hB8⟩; (have BX8 := (BX7.step hB8).alloc (.cells #[.slice none 0 0] 25)); (have q8 := boxed1 BX8); (have kg8 := (kg7.step hB8).step ((Below.refl _ _).alloc (Nat.le_refl _) (.cells #[.slice none 0 0] 25))); (have kj8 := Blk.new w8 25 [(.slice none 0 0)]); (have al1 := (Below.refl (w8.alloc (.cells #[.slice none 0 0] 25)).heap.size (w8.alloc (.cells #[.slice none 0 0] 25))).alloc (Nat.le_refl _) (.cells #[.slice none 0 0] 25)); (have al2 := (Below.refl ((w8.alloc (.cells #[.slice none 0 0] 25)).alloc (.cells #[.slice none 0 0] 25)).heap.size ((w8.alloc (.cells #[.slice none 0 0] 25)).alloc (.cells #[.slice none 0 0] 25))).alloc (Nat.le_refl _) (.cells #[.slice none 0 0] 25)); (have al0 := (Below.refl w8.heap.size w8).alloc (Nat.le_refl _) (.cells #[.slice none 0 0] 25)); (have bl89 := below_call (below_call al0 (Nat.le_refl _) al1) (Nat.le_refl _) al2); (have bl79 := below_call (below_call bl7 (Nat.le_refl _) hB8) (Nat.le_refl _) bl89); (have BX9 := (BX8.step al1).step al2); (have kg9 := (kg8.step al1).step al2); (have kj9 := (kj8.step al1).step al2); (have kx9' := (Blk.new (w8.alloc (.cells #[.slice none 0 0] 25)) 25 [.slice none 0 0]).step al2); (have ky9' := Blk.new ((w8.alloc (.cells #[.slice none 0 0] 25)).alloc (.cells #[.slice none 0 0] 25)) 25 [.slice none 0 0]); (have sz8 : (w8.alloc (.cells #[.slice none 0 0] 25)).heap.size = w8.heap.size + 1 := by simp); (have sz9 : ((w8.alloc (.cells #[.slice none 0 0] 25)).alloc (.cells #[.slice none 0 0] 25)).heap.size = w8.heap.size + 1 + 1 := by simp); (have kx9 := sz8 ▸ kx9'); (have ky9 := sz9 ▸ ky9'); clear kx9' ky9' al0 al1 al2; (have q9 := boxed1 BX9); (have r0 := kg9.cell 0))
                  | (go_at_call 14; (with_reducible refine (HEe.out _).mono ?_); rintro e w9 ⟨rfl, rfl⟩)
                  | (go_at_call 14; (with_reducible refine (HEf.out _).mono ?_); rintro e w9 ⟨rfl, rfl⟩)
                  | (go_at_call 25; (with_reducible refine (HSh.out _).mono ?_); rintro e w11 ⟨rfl, hB11'⟩; (have hB11 := below_call BX9.below (Nat.le_refl _) hB11'); (have kg11 := kg9.step hB11'); (have kj11 := kj9.step hB11'); (have kx11 := kx9.step hB11'); (have ky11 := ky9.step hB11'); (have s0 : w11.cell? ⟨w8.heap.size, 0, none⟩ = some (.slice none 0 0) := kj11.cell 0); (have s1 : w11.cell? ⟨w8.heap.size + 1, 0, none⟩ = some (.slice none 0 0) := kx11.cell 0); (have s2 : w11.cell? ⟨w8.heap.size + 1 + 1, 0, none⟩ = some (.slice none 0 0) := ky11.cell 0); clear HSh; (have HSh2 : Hid (∀ wx, _) := fun wx => heapSame_any [] (.slice none 0 0) (.slice none 0 0) wx (Or.inl ⟨rfl, rfl⟩) (Or.inl ⟨rfl, rfl⟩)))
                  | (go_at_call 25; (with_reducible refine (HSh2.out _).mono ?_); rintro e w12 ⟨rfl, hB12⟩; (have kx12 := kx11.step hB12); (have ky12 := ky11.step hB12); (have u1 : w12.cell? ⟨w8.heap.size + 1, 0, none⟩ = some (.slice none 0 0) := kx12.cell 0); (have u2 : w12.cell? ⟨w8.heap.size + 1 + 1, 0, none⟩ = some (.slice none 0 0) := ky12.cell 0)))
              go_ret
              exact ⟨rfl, below_call hB11 (Nat.le_refl _) hB12⟩
          · skip
            have hE : E = 7 := by rw [hne]; simp [step1]
            have hF : F = 1 := by rw [hae]; rfl
            have HNw : Hid (∀ wx, Below w.heap.size w wx → Calls Tryz.prog 21 #[.slice pl l.length cap, .agg #[.slice ph h.length kh], .string c] wx fun e w' => e = .returned (.tuple #[.agg #[.slice none 0 0], .int .i64 0, .iface 35 (.int .i64 7)]) ∧ Below wx.heap.size wx w') := fun wx hb => (HN0.out wx hb).mono fun e w' hp => make_err hp hE (by decide)
            have HAw : Hid (∀ wx, Below w.heap.size w wx → Calls Tryz.prog 22 #[.slice pl l.length cap, .agg #[.slice ph h.length kh], .string k, .int .i64 n] wx fun e w' => e = .returned (.tuple #[.agg #[.slice none 0 0], .int .i64 0, .iface 35 (.int .i64 1)]) ∧ Below wx.heap.size wx w') := fun wx hb => (HA0.out wx hb).mono fun e w' hp => make_err hp hF (by decide)
            have HEe : Hid (∀ wx, Calls Tryz.prog 14 #[.iface 35 (.int .i64 7), .int .i64 7] wx fun e w' => e = .returned (.bool true) ∧ wx = w') := fun wx => same_is 7 (by decide) wx
            have HEf : Hid (∀ wx, Calls Tryz.prog 14 #[.iface 35 (.int .i64 1), .int .i64 1] wx fun e w' => e = .returned (.bool true) ∧ wx = w') := fun wx => same_is 1 (by decide) wx
            clear hE hF HN0 HA0 HFr HFa HFo hne hae
            go_enter Tryz.func5, Tryz.ntmps5
            have HSh : Hid (∀ wx, _) := fun wx => heapSame_any [] (.slice none 0 0) (.slice none 0 0) wx (Or.inl ⟨rfl, rfl⟩) (Or.inl ⟨rfl, rfl⟩)
            go_wp2_with (first
                | (go_at_call 10; (with_reducible refine (HHd.out _ BX.out.below).mono ?_); rintro e w2 ⟨rfl, hB2⟩; (have BX2 := BX.out.step hB2); (have q2 := boxed1 BX2))
                | (go_at_call 13; (with_reducible refine (HRf.out _ BX2.below).mono ?_); rintro e w3 ⟨rfl, hB3⟩; (have BX3 := BX2.step hB3); (have q3 := boxed1 BX3))
                | (go_at_call 19; (with_reducible refine (HCO.out _ BX3.below).mono ?_); rintro e w4 ⟨pf, kf, pd, kd, pm, km, rfl, _, _, _, hB4, _⟩; (have BX5 := (BX3.step hB4).alloc (.cells #[.string n2, .string s2, .slice pf fc2.length kf, .bool true, .slice pd d2.length kd, .slice pm m2.length km] 47)); (have q4 := boxed1 BX5))
                | (go_at_call 16; (with_reducible refine (HTy.out _).mono ?_); rintro e w5 ⟨rfl, rfl⟩)
                | (go_at_call 20; (with_reducible refine (HDe.out _).mono ?_); rintro e w5 ⟨rfl, rfl⟩)
                | (go_at_call 21; (with_reducible refine (HNw.out _ BX5.below).mono ?_); rintro e w7 ⟨rfl, hB7⟩; (have BX7 := (BX5.step hB7).alloc (.cells #[.slice none 0 0] 25)); (have q7 := boxed1 BX7); (have kg7 := Blk.new w7 25 [(.slice none 0 0)]); (have bl7q : w.heap.size < w7.heap.size := hcells_lt (boxed1 (BX5.step hB7))); (have bl7 := (Below.refl w7.heap.size w7).alloc (Nat.le_refl _) (.cells #[.slice none 0 0] 25)))
                | (go_at_call 22; (with_reducible refine (HAw.out _ BX7.below).mono ?_); rintro e w8 ⟨rfl, hB8⟩; (have BX8 := (BX7.step hB8).alloc (.cells #[.slice none 0 0] 25)); (have q8 := boxed1 BX8); (have kg8 := (kg7.step hB8).step ((Below.refl _ _).alloc (Nat.le_refl _) (.cells #[.slice none 0 0] 25))); (have kj8 := Blk.new w8 25 [(.slice none 0 0)]); (have al1 := (Below.refl (w8.alloc (.cells #[.slice none 0 0] 25)).heap.size (w8.alloc (.cells #[.slice none 0 0] 25))).alloc (Nat.le_refl _) (.cells #[.slice none 0 0] 25)); (have al2 := (Below.refl ((w8.alloc (.cells #[.slice none 0 0] 25)).alloc (.cells #[.slice none 0 0] 25)).heap.size ((w8.alloc (.cells #[.slice none 0 0] 25)).alloc (.cells #[.slice none 0 0] 25))).alloc (Nat.le_refl _) (.cells #[.slice none 0 0] 25)); (have al0 := (Below.refl w8.heap.size w8).alloc (Nat.le_refl _) (.cells #[.slice none 0 0] 25)); (have bl89 := below_call (below_call al0 (Nat.le_refl _) al1) (Nat.le_refl _) al2); (have bl79 := below_call (below_call bl7 (Nat.le_refl _) hB8) (Nat.le_refl _) bl89); (have BX9 := (BX8.step al1).step al2); (have kg9 := (kg8.step al1).step al2); (have kj9 := (kj8.step al1).step al2); (have kx9' := (Blk.new (w8.alloc (.cells #[.slice none 0 0] 25)) 25 [.slice none 0 0]).step al2); (have ky9' := Blk.new ((w8.alloc (.cells #[.slice none 0 0] 25)).alloc (.cells #[.slice none 0 0] 25)) 25 [.slice none 0 0]); (have sz8 : (w8.alloc (.cells #[.slice none 0 0] 25)).heap.size = w8.heap.size + 1 := by simp); (have sz9 : ((w8.alloc (.cells #[.slice none 0 0] 25)).alloc (.cells #[.slice none 0 0] 25)).heap.size = w8.heap.size + 1 + 1 := by simp); (have kx9 := sz8 ▸ kx9'); (have ky9 := sz9 ▸ ky9'); clear kx9' ky9' al0 al1 al2; (have q9 := boxed1 BX9); (have r0 := kg9.cell 0))
                | (go_at_call 14; (with_reducible refine (HEe.out _).mono ?_); rintro e w9 ⟨rfl, rfl⟩)
                | (go_at_call 14; (with_reducible refine (HEf.out _).mono ?_); rintro e w9 ⟨rfl, rfl⟩)
                | (go_at_call 25; (with_reducible refine (HSh.out _).mono ?_); rintro e w11 ⟨rfl, hB11'⟩; (have hB11 := below_call BX9.below (Nat.le_refl _) hB11'); (have kg11 := kg9.step hB11'); (have kj11 := kj9.step hB11'); (have kx11 := kx9.step hB11'); (have ky11 := ky9.step hB11'); (have s0 : w11.cell? ⟨w8.heap.size, 0, none⟩ = some (.slice none 0 0) := kj11.cell 0); (have s1 : w11.cell? ⟨w8.heap.size + 1, 0, none⟩ = some (.slice none 0 0) := kx11.cell 0); (have s2 : w11.cell? ⟨w8.heap.size + 1 + 1, 0, none⟩ = some (.slice none 0 0) := ky11.cell 0); clear HSh; (have HSh2 : Hid (∀ wx, _) := fun wx => heapSame_any [] (.slice none 0 0) (.slice none 0 0) wx (Or.inl ⟨rfl, rfl⟩) (Or.inl ⟨rfl, rfl⟩)))
                | (go_at_call 25; (with_reducible refine (HSh2.out _).mono ?_); rintro e w12 ⟨rfl, hB12⟩; (have kx12 := kx11.step hB12); (have ky12 := ky11.step hB12); (have u1 : w12.cell? ⟨w8.heap.size + 1, 0, none⟩ = some (.slice none 0 0) := kx12.cell 0); (have u2 : w12.cell? ⟨w8.heap.size + 1 + 1, 0, none⟩ = some (.slice none 0 0) := ky12.cell 0)))
            go_ret
            exact ⟨rfl, below_call hB11 (Nat.le_refl _) hB12⟩
  · have hzE := hz0
    have hzF := hz0
    have zf : ((f0 : Int) == 0) = false := by simpa using hz0
    have hE : E = f0 := by rw [hne]; simp [step1, hz0]
    have hF : F = f0 := by rw [hae]; simp [step1, step2, hz0]
    have HNw : Hid (∀ wx, Below w.heap.size w wx → Calls Tryz.prog 21 #[.slice pl l.length cap, .agg #[.slice ph h.length kh], .string c] wx fun e w' => e = .returned (.tuple #[.agg #[.slice none 0 0], .int .i64 0, .iface 35 (.int .i64 f0)]) ∧ Below wx.heap.size wx w') := fun wx hb => (HN0.out wx hb).mono fun e w' hp => make_err hp hE hzE
    have HAw : Hid (∀ wx, Below w.heap.size w wx → Calls Tryz.prog 22 #[.slice pl l.length cap, .agg #[.slice ph h.length kh], .string k, .int .i64 n] wx fun e w' => e = .returned (.tuple #[.agg #[.slice none 0 0], .int .i64 0, .iface 35 (.int .i64 f0)]) ∧ Below wx.heap.size wx w') := fun wx hb => (HA0.out wx hb).mono fun e w' hp => make_err hp hF hzF
    have HEe : Hid (∀ wx, Calls Tryz.prog 14 #[.iface 35 (.int .i64 f0), .int .i64 f0] wx fun e w' => e = .returned (.bool true) ∧ wx = w') := fun wx => same_is f0 hzE wx
    have HEf : Hid (∀ wx, Calls Tryz.prog 14 #[.iface 35 (.int .i64 f0), .int .i64 f0] wx fun e w' => e = .returned (.bool true) ∧ wx = w') := fun wx => same_is f0 hzF wx
    clear hE hF HN0 HA0 HFr HFa HFo hne hae
    go_enter Tryz.func5, Tryz.ntmps5
    have HSh : Hid (∀ wx, _) := fun wx => heapSame_any [] (.slice none 0 0) (.slice none 0 0) wx (Or.inl ⟨rfl, rfl⟩) (Or.inl ⟨rfl, rfl⟩)
    go_wp2_with (first
        | (go_at_call 10; (with_reducible refine (HHd.out _ BX.out.below).mono ?_); rintro e w2 ⟨rfl, hB2⟩; (have BX2 := BX.out.step hB2); (have q2 := boxed1 BX2))
        | (go_at_call 13; (with_reducible refine (HRf.out _ BX2.below).mono ?_); rintro e w3 ⟨rfl, hB3⟩; (have BX3 := BX2.step hB3); (have q3 := boxed1 BX3))
        | (go_at_call 19; (with_reducible refine (HCO.out _ BX3.below).mono ?_); rintro e w4 ⟨pf, kf, pd, kd, pm, km, rfl, _, _, _, hB4, _⟩; (have BX5 := (BX3.step hB4).alloc (.cells #[.string n2, .string s2, .slice pf fc2.length kf, .bool b2, .slice pd d2.length kd, .slice pm m2.length km] 47)); (have q4 := boxed1 BX5))
        | (go_at_call 16; (with_reducible refine (HTy.out _).mono ?_); rintro e w5 ⟨rfl, rfl⟩)
        | (go_at_call 20; (with_reducible refine (HDe.out _).mono ?_); rintro e w5 ⟨rfl, rfl⟩)
        | (go_at_call 21; (with_reducible refine (HNw.out _ BX5.below).mono ?_); rintro e w7 ⟨rfl, hB7⟩; (have BX7 := (BX5.step hB7).alloc (.cells #[.slice none 0 0] 25)); (have q7 := boxed1 BX7); (have kg7 := Blk.new w7 25 [(.slice none 0 0)]); (have bl7q : w.heap.size < w7.heap.size := hcells_lt (boxed1 (BX5.step hB7))); (have bl7 := (Below.refl w7.heap.size w7).alloc (Nat.le_refl _) (.cells #[.slice none 0 0] 25)))
        | (go_at_call 22; (with_reducible refine (HAw.out _ BX7.below).mono ?_); rintro e w8 ⟨rfl, hB8⟩; (have BX8 := (BX7.step hB8).alloc (.cells #[.slice none 0 0] 25)); (have q8 := boxed1 BX8); (have kg8 := (kg7.step hB8).step ((Below.refl _ _).alloc (Nat.le_refl _) (.cells #[.slice none 0 0] 25))); (have kj8 := Blk.new w8 25 [(.slice none 0 0)]); (have al1 := (Below.refl (w8.alloc (.cells #[.slice none 0 0] 25)).heap.size (w8.alloc (.cells #[.slice none 0 0] 25))).alloc (Nat.le_refl _) (.cells #[.slice none 0 0] 25)); (have al2 := (Below.refl ((w8.alloc (.cells #[.slice none 0 0] 25)).alloc (.cells #[.slice none 0 0] 25)).heap.size ((w8.alloc (.cells #[.slice none 0 0] 25)).alloc (.cells #[.slice none 0 0] 25))).alloc (Nat.le_refl _) (.cells #[.slice none 0 0] 25)); (have al0 := (Below.refl w8.heap.size w8).alloc (Nat.le_refl _) (.cells #[.slice none 0 0] 25)); (have bl89 := below_call (below_call al0 (Nat.le_refl _) al1) (Nat.le_refl _) al2); (have bl79 := below_call (below_call bl7 (Nat.le_refl _) hB8) (Nat.le_refl _) bl89); (have BX9 := (BX8.step al1).step al2); (have kg9 := (kg8.step al1).step al2); (have kj9 := (kj8.step al1).step al2); (have kx9' := (Blk.new (w8.alloc (.cells #[.slice none 0 0] 25)) 25 [.slice none 0 0]).step al2); (have ky9' := Blk.new ((w8.alloc (.cells #[.slice none 0 0] 25)).alloc (.cells #[.slice none 0 0] 25)) 25 [.slice none 0 0]); (have sz8 : (w8.alloc (.cells #[.slice none 0 0] 25)).heap.size = w8.heap.size + 1 := by simp); (have sz9 : ((w8.alloc (.cells #[.slice none 0 0] 25)).alloc (.cells #[.slice none 0 0] 25)).heap.size = w8.heap.size + 1 + 1 := by simp); (have kx9 := sz8 ▸ kx9'); (have ky9 := sz9 ▸ ky9'); clear kx9' ky9' al0 al1 al2; (have q9 := boxed1 BX9); (have r0 := kg9.cell 0))
        | (go_at_call 14; (with_reducible refine (HEe.out _).mono ?_); rintro e w9 ⟨rfl, rfl⟩)
        | (go_at_call 14; (with_reducible refine (HEf.out _).mono ?_); rintro e w9 ⟨rfl, rfl⟩)
        | (go_at_call 25; (with_reducible refine (HSh.out _).mono ?_); rintro e w11 ⟨rfl, hB11'⟩; (have hB11 := below_call BX9.below (Nat.le_refl _) hB11'); (have kg11 := kg9.step hB11'); (have kj11 := kj9.step hB11'); (have kx11 := kx9.step hB11'); (have ky11 := ky9.step hB11'); (have s0 : w11.cell? ⟨w8.heap.size, 0, none⟩ = some (.slice none 0 0) := kj11.cell 0); (have s1 : w11.cell? ⟨w8.heap.size + 1, 0, none⟩ = some (.slice none 0 0) := kx11.cell 0); (have s2 : w11.cell? ⟨w8.heap.size + 1 + 1, 0, none⟩ = some (.slice none 0 0) := ky11.cell 0); clear HSh; (have HSh2 : Hid (∀ wx, _) := fun wx => heapSame_any [] (.slice none 0 0) (.slice none 0 0) wx (Or.inl ⟨rfl, rfl⟩) (Or.inl ⟨rfl, rfl⟩)))
        | (go_at_call 25; (with_reducible refine (HSh2.out _).mono ?_); rintro e w12 ⟨rfl, hB12⟩; (have kx12 := kx11.step hB12); (have ky12 := ky11.step hB12); (have u1 : w12.cell? ⟨w8.heap.size + 1, 0, none⟩ = some (.slice none 0 0) := kx12.cell 0); (have u2 : w12.cell? ⟨w8.heap.size + 1 + 1, 0, none⟩ = some (.slice none 0 0) := ky12.cell 0)))
    go_ret
    exact ⟨rfl, below_call hB11 (Nat.le_refl _) hB12⟩
end Go.Proofs.YtbakcdgjibmceaaGreatDoor
