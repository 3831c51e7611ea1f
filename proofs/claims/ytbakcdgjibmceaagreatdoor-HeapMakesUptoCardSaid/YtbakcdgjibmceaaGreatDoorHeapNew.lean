/-
  WALKS over heap.Fresh, More. Conditions: a right world, a class that is there; a heap of the call's own.
  WALK over heap.Array. Conditions: as in XRead; texts of at most 4194304 signs.
-/
import Derived.Test.YtbakcdgjibmceaaGreatDoorHeapOps
import Derived.Laws.Concat
namespace Go.Proofs.YtbakcdgjibmceaaGreatDoor
open Go.RowKit Go.Shelf Go.Lib
theorem made_pair (a : Value) (n : Nat) : madeCells #[a, a] (n * 2) = Array.replicate (n * 2) a := by
  apply Array.ext
  · simp [madeCells]
  · intro i h1 h2
    simp only [madeCells, Array.getElem_map, Array.getElem_range, Array.getElem_replicate]
    have : i % 2 = 0 ∨ i % 2 = 1 := by omega
    rcases this with h | h <;> simp [h]
def zVal : Val := ⟨0, 0⟩
theorem zVals_flat : ∀ n : Nat, (List.replicate n zVal).flatMap valVs = List.replicate (n * 2) (Value.int .i64 0)
  | 0 => rfl
  | n + 1 => by
    rw [List.replicate_succ, List.flatMap_cons, zVals_flat n, show (n + 1) * 2 = n * 2 + 1 + 1 by omega, List.replicate_succ, List.replicate_succ]; rfl
theorem make_vals (n : Nat) (hn : n ≤ 16777216) (w : World) : (Instr.makeSlice 54 (.int .i64 (n : Int)) (.int .i64 (n : Int))).run Tryz.prog w = .ok (.slice (some ⟨w.heap.size, 0, none⟩) n n) (w.alloc (.cells (Array.replicate (n * 2) (Value.int .i64 0)) 27)) := by
  obtain ⟨i0, hi, hz0, hz1, hz2⟩ := info_parts info_val
  have hr := run_make (P := Tryz.prog) w 54 27 i0 (.agg #[.int .i64 0, .int .i64 0]) Tryz.underlying54 hi hz0 .i64 .i64 n n (by omega) (Int.le_refl _) (by rw [hz2]; omega) (by omega)
  rw [Int.toNat_natCast, hz1, show (Value.agg #[Value.int .i64 0, .int .i64 0]).cells = #[Value.int .i64 0, .int .i64 0] from rfl, made_pair] at hr
  exact hr
theorem vals_made (w : World) (n : Nat) (hn : n ≤ 16777216) : (w.alloc (.cells (Array.replicate (n * 2) (Value.int .i64 0)) 27)).ownsRow w.heap.size 27 2 (.slice (some ⟨w.heap.size, 0, none⟩) n n) (List.replicate n zVal).length ((List.replicate n zVal).flatMap valVs) := by
  have h := World.ownsRow_lit (base := w.heap.size) (e := 27) (size := 2) w (Array.replicate (n * 2) (Value.int .i64 0)) n (Nat.le_refl _) (by unfold maxLen; omega) (by simp)
  rw [List.length_replicate, zVals_flat, ← Array.toList_replicate]
  exact h
/-- what Fresh leaves: a thing whose values lie in memory of the call's own -/
def FreshPost (w : World) (c : Str) (n : Nat) (e : Ending) (w' : World) : Prop :=
  (∃ p k, e = .returned (.agg #[.string (thText c), .slice p n k]) ∧ w'.ownsRow w.heap.size 27 2 (.slice p n k) (List.replicate n zVal).length ((List.replicate n zVal).flatMap valVs)) ∧ Below w.heap.size w w'
set_option maxHeartbeats 1000000 in
set_option maxRecDepth 100000 in
theorem fresh_any (w0 w : World) (B : Nat) (l : List Class) (hm : WorldMap w0 w B l) (c : Str) (hk : (findC (allC l) c).isSome = true) :
    Calls Tryz.prog 52 #[.map (some B), .string c] w (FreshPost w c (typesOf (layC (allC l) c)).length) := by
  have HLa : Hid (∀ wx, Below w.heap.size w wx → _) := fun wx hb => layTypes_any w0 wx B l (hm.step hb) c hk
  have hs20 := class_name20 hm.faults hk
  have HTh : Hid (∀ wx, _) := fun wx => thing_any c wx (by omega)
  have hsmall : (typesOf (layC (allC l) c)).length ≤ 4194304 := by have := lay_small hm.right hm.faults hk; unfold typesOf; rw [List.length_map]; omega
  unfold RowPost at HLa
  unfold FreshPost
  generalize typesOf (layC (allC l) c) = T at *
  clear hm hk hs20
  have hmk := make_vals T.length (by omega)
  have hB1 := Lib.hid ((Below.refl w.heap.size w).alloc (Nat.le_refl _) (.cells #[.string ⟨#[]⟩, .slice none 0 0] 56))
  have hk1 := Lib.hid (Blk.new w 56 [.string ⟨#[]⟩, .slice none 0 0])
  go_enter Tryz.func52, Tryz.ntmps52
  go_wp2_with (first
    | (go_at_call 85; (with_reducible refine (HTh.out _).mono ?_); rintro e w3 ⟨rfl, rfl⟩)
    | (go_at_call 86; (with_reducible refine (HLa.out _ hB1.out).mono ?_); rintro e w4 ⟨⟨v4, rfl, hv4⟩, hB4⟩; obtain ⟨p4, k4, rfl⟩ := ownsRow_shape hv4; (have hk4 := hk1.out.step hB4); (have q0 : w4.cell? ⟨w.heap.size, 0, none⟩ = some (.string ⟨#[]⟩) := hk4.cell 0); (have q1 : w4.cell? ⟨w.heap.size, 1, none⟩ = some (.slice none 0 0) := hk4.cell 1); (have f0 := hk4.frozen 0); (have f1 := hk4.frozen 1); (have hlt := hk4.lt)))
  have hown := vals_made ((w4.setCell ⟨w.heap.size, 0, none⟩ (.string (thText c))).setCell ⟨w.heap.size, 1, none⟩ (.slice (some ⟨w4.heap.size, 0, none⟩) T.length T.length)) T.length (by omega)
  have hsz : ((w4.setCell ⟨w.heap.size, 0, none⟩ (.string (thText c))).setCell ⟨w.heap.size, 1, none⟩ (.slice (some ⟨w4.heap.size, 0, none⟩) T.length T.length)).heap.size = w4.heap.size := by simp
  have hbel := (below_set2 (below_call hB1.out (Nat.le_refl _) hB4) (Nat.le_refl w.heap.size) (.string (thText c)) (.slice (some ⟨w4.heap.size, 0, none⟩) T.length T.length)).alloc (by rw [hsz]; omega) (.cells (Array.replicate (T.length * 2) (Value.int .i64 0)) 27)
  rw [hsz] at hown
  refine bodyPost_ret (v := .agg #[.string (thText c), .slice (some ⟨w4.heap.size, 0, none⟩) T.length T.length]) (by simp [results, Tryz.results52, go_sem, *]) rfl ?_
  exact ⟨⟨_, _, rfl, ownsRow_base hown (by omega)⟩, hbel⟩
theorem vals_set {l : List Val} {k : Nat} {v : Val} (hk : k < l.length) : ((l.flatMap valVs).set (k * 2) (.int .i64 v.kind)).set (k * 2 + 1) (.int .i64 v.n) = (l.set k v).flatMap valVs := by
  induction l generalizing k with
  | nil => simp at hk
  | cons y r ih =>
    cases k with
    | zero => simp [valVs]
    | succ k =>
      rw [List.set_cons_succ, List.flatMap_cons, List.flatMap_cons, ← ih (by simpa using hk), show (k + 1) * 2 = k * 2 + 1 + 1 by omega]
      rfl
theorem vals_stored {w : World} {base : Nat} {t : TypeId} {g n cap : Nat} {l : List Val} (h : w.ownsRow base t 2 (.slice (some ⟨g, 0, none⟩) n cap) n (l.flatMap valVs)) {k : Nat} (hk : k < l.length) (v : Val) :
    ((w.setCell ⟨g, k * 2, none⟩ (.int .i64 v.kind)).setCell ⟨g, k * 2 + 1, none⟩ (.int .i64 v.n)).ownsRow base t 2 (.slice (some ⟨g, 0, none⟩) n cap) n ((l.set k v).flatMap valVs) := by
  rw [← vals_set hk]
  exact ((h.stored (k * 2) (.int .i64 v.kind)).1.stored (k * 2 + 1) (.int .i64 v.n)).1
theorem take_set {l : List Val} {T : List Str} {k : Nat} {t : Str} (hl : l.length = T.length) (h : l.take k = (T.take k).map zeroOf) (ht : T[k]? = some t) : (l.set k (zeroOf t)).take (k + 1) = (T.take (k + 1)).map zeroOf := by
  obtain ⟨hk, rfl⟩ := List.getElem?_eq_some_iff.1 ht
  rw [List.take_succ_eq_append_getElem hk, List.map_append, ← h, List.take_succ_eq_append_getElem (by simpa [hl] using hk), List.take_set_of_le (Nat.le_refl k)]
  simp
theorem row_snoc {base : Nat} {wr w8 : World} {v : Value} {m g cap : Nat} {ps : List (Thing × Value)} {x : Thing} {v6 : Value} {cs : Array Value}
    (hhas : HasAt base wr v ps) (hv6 : SliceOf wr 2 ValCells v6 x.has) (hfr : ∀ g, v6.ownBlock = some g → base ≤ g ∧ g < wr.heap.size ∧ v.ownBlock ≠ some g)
    (hgrow : (wr.alloc (.cells cs 56)).grownBy w8 v.ownBlock) (hat : v.ownBlock = some g ∨ g = wr.heap.size + 1) :
    HasAt base w8 (.slice (some ⟨g, 0, none⟩) m cap) (ps ++ [(x, v6)]) := by
  have hBn : Below wr.heap.size wr (wr.alloc (.cells cs 56)) := (Below.refl _ _).alloc (Nat.le_refl _) _
  have hsz : (wr.alloc (.cells cs 56)).heap.size = wr.heap.size + 1 := by simp
  have hg : (Value.slice (some ⟨g, 0, none⟩) m cap).ownBlock = some g := rfl
  have h2 := hgrow.size
  rw [hsz] at h2
  refine ((hhas.step hBn).grown hgrow ?_).snoc (p := (x, v6)) ((hv6.mono hBn (by decide) (fun _ _ h => h)).block ?_) ?_
  · rw [hg, hsz]
    rcases hat with h | h
    · exact Or.inl h.symm
    · exact Or.inr (by rw [h])
  · intro g' e'
    have h1 := hfr g' e'
    exact hgrow.block g' (by rw [hsz]; omega) (fun he => h1.2.2 he.symm)
  · intro g' e'
    have h1 := hfr g' e'
    refine ⟨h1.1, by omega, ?_⟩
    rw [hg]
    intro he
    injection he with he
    rcases hat with h | h
    · exact h1.2.2 (by rw [h, he])
    · omega
theorem things_set {w : World} {base b n g cap : Nat} {ps : List (Thing × Value)} {x : Thing} {v6 u : Value} (h : w.ownsRow base 56 2 (.slice (some ⟨g, 0, none⟩) n cap) (ps.length + 1) (ps.flatMap thingVs ++ [.string x.type, v6])) (hv : g ≠ b)
    (hh : HasAt base w (.slice (some ⟨g, 0, none⟩) n cap) (ps ++ [(x, v6)])) (hb : ∀ p ∈ ps ++ [(x, v6)], p.2.ownBlock ≠ some b) :
    ∃ ps', ps'.map (·.1) = ps.map (·.1) ++ [x] ∧ (w.setCell ⟨b, 0, none⟩ u).ownsRow base 56 2 (.slice (some ⟨g, 0, none⟩) n cap) ps'.length (ps'.flatMap thingVs) ∧ HasAt base (w.setCell ⟨b, 0, none⟩ u) (.slice (some ⟨g, 0, none⟩) n cap) ps' := by
  have h1 : (w.setCell ⟨b, 0, none⟩ u).ownsRow base 56 2 (.slice (some ⟨g, 0, none⟩) n cap) (ps ++ [(x, v6)]).length ((ps ++ [(x, v6)]).flatMap thingVs) := by
    rw [List.length_append, List.flatMap_append]
    rcases h with ⟨h1, h2 | ⟨g', cap', cur, k1, k2, k3, k4⟩⟩
    · exact absurd h2.1 (by simp)
    · injection k1 with e1 e2 e3
      injection e1 with e1
      injection e1 with e1
      subst e1 e3
      exact ⟨by simpa [thingVs] using h1, Or.inr ⟨g, cap, cur, by simpa using e2, k2, (heap_setCell_other w ⟨b, 0, none⟩ g u hv).trans k3, by simpa [thingVs] using k4⟩⟩
  have h2 : HasAt base (w.setCell ⟨b, 0, none⟩ u) (.slice (some ⟨g, 0, none⟩) n cap) (ps ++ [(x, v6)]) := fun p hp =>
    ⟨(hh p hp).1.block fun g' e => heap_setCell_other w ⟨b, 0, none⟩ g' u (fun he => hb p hp (by rw [e]; exact congrArg some he)), fun g' e => ⟨((hh p hp).2 g' e).1, by have := ((hh p hp).2 g' e).2.1; simpa using this, ((hh p hp).2 g' e).2.2⟩⟩
  exact ⟨_, List.map_append, h1, h2⟩
/-- what More leaves -/
def MorePost (base : Nat) (w : World) (h : List Thing) (ty : Str) (T : List Str) (e : Ending) (w' : World) : Prop :=
  Below base w w' ∧ ((50 ≤ h.length ∧ e = .returned (.tuple #[.agg #[.slice none 0 0], .int .i64 0, .iface 35 (.int .i64 4)])) ∨
   (h.length < 50 ∧ ∃ v ps, e = .returned (.tuple #[.agg #[v], .int .i64 ((h.length : Int) + 1), .nilIface]) ∧ ps.map (·.1) = h ++ [⟨ty, T.map zeroOf⟩] ∧ w'.ownsRow base 56 2 v ps.length (ps.flatMap thingVs) ∧ HasAt base w' v ps))
theorem owns_ne {w : World} {base b size n : Nat} {t : TypeId} {v : Value} {xs : List Value} (h : w.ownsRow base t size v n xs) (hb : v.ownBlock ≠ some b) (j : Nat) (u : Value) : (w.setCell ⟨b, j, none⟩ u).ownsRow base t size v n xs := by
  rcases h with ⟨h1, h2 | ⟨g, cap, cur, k1, k2, k3, k4⟩⟩
  · exact ⟨h1, Or.inl h2⟩
  · exact ⟨h1, Or.inr ⟨g, cap, cur, k1, k2, (heap_setCell_other w ⟨b, j, none⟩ g u (fun e => hb (by rw [k1, e]; rfl))).trans k3, k4⟩⟩
theorem HasAt.set_ne {base b : Nat} {w : World} {v : Value} {ps : List (Thing × Value)} (h : HasAt base w v ps) (hb : ∀ p ∈ ps, p.2.ownBlock ≠ some b) (j : Nat) (u : Value) : HasAt base (w.setCell ⟨b, j, none⟩ u) v ps := fun p hp =>
  ⟨(h p hp).1.block fun g e => heap_setCell_other w ⟨b, j, none⟩ g u (fun he => hb p hp (by rw [e]; exact congrArg some he)), fun g e => ⟨((h p hp).2 g e).1, by have := ((h p hp).2 g e).2.1; simpa using this, ((h p hp).2 g e).2.2⟩⟩
set_option maxHeartbeats 4000000 in
set_option maxRecDepth 100000 in
theorem more_any (w0 w : World) (B : Nat) (l : List Class) (hm : WorldMap w0 w B l) (base : Nat) (hbase : base ≤ w.heap.size) (hv : Value) (h : List Thing) (ps : List (Thing × Value)) (hps : ps.map (·.1) = h) (hrow : w.ownsRow base 56 2 hv ps.length (ps.flatMap thingVs)) (hhas : HasAt base w hv ps)
    (ty : Str) (tt : Ty) (xp : Option Addr) (xk n : Nat) (hx : w.ownsRow base 27 2 (.slice xp n xk) (List.replicate n zVal).length ((List.replicate n zVal).flatMap valVs)) (hap : ∀ g, (Value.slice xp n xk).ownBlock = some g → hv.ownBlock ≠ some g ∧ ∀ p ∈ ps, p.2.ownBlock ≠ some g) (htt : ThingTy (allC l) ⟨ty, List.replicate n zVal⟩ tt) (hsz : ty.size ≤ maxLen) (hn10 : ∀ e, tt = .ar e → n ≤ 10) (T : List Str) (hT : typesT (allC l) ⟨ty, List.replicate n zVal⟩ = T) (hTn : T.length = n) :
    Calls Tryz.prog 50 #[.map (some B), .agg #[hv], .agg #[.string ty, .slice xp n xk]] w (MorePost base w h ty T) := by
  have hlen : h.length = ps.length := by rw [← hps, List.length_map]
  obtain ⟨va, vc, rfl⟩ := ownsRow_shape hrow
  unfold MorePost
  rw [hlen]
  obtain ⟨wq, hwq⟩ : ∃ wq, wq = ((w.alloc (.cells #[.slice va ps.length vc] 25)).alloc (.cells #[.string ty, .slice xp n xk] 56)).alloc (.cells #[.slice none 0 0] 25) := ⟨_, rfl⟩
  have hBq : Below w.heap.size w wq := by rw [hwq]; exact (((Below.refl _ _).alloc (Nat.le_refl _) _).alloc (by simp) _).alloc (by simp; omega) _
  by_cases h50 : 50 ≤ ps.length
  · have z1 : decide ((50 : Int) ≤ (ps.length : Int)) = true := by simp; omega
    have hE := Lib.hid (hBq.mono hbase)
    clear hm hrow hhas hx htt hT hBq
    subst hwq
    go_enter Tryz.func50, Tryz.ntmps50
    go_wp2_with (first | fail)
    exact bodyPost_ret (v := .tuple #[.agg #[.slice none 0 0], .int .i64 0, .iface 35 (.int .i64 4)]) (by simp [results, Tryz.results50, go_sem]) rfl ⟨hE.out, Or.inl ⟨h50, rfl⟩⟩
  · have z1 : decide ((50 : Int) ≤ (ps.length : Int)) = false := by simp; omega
    have HTy : Hid (∀ wx, Below w.heap.size w wx → _) := fun wx hb => heapTypes_any w0 wx B l (hm.step hb) ⟨ty, List.replicate n zVal⟩ (.slice xp n xk) tt htt ((vals_slice hx).mono hb (by decide) (fun _ _ h => h)) hsz (by simpa using hn10)
    rw [hT] at HTy
    dsimp only at HTy
    unfold RowPost at HTy
    obtain ⟨i0, hi, hz0, hz1, hz2⟩ := info_parts info_thing
    have kA : Blk wq w.heap.size 25 [.slice va ps.length vc] := by
      rw [hwq]
      exact ((Blk.new w 25 [.slice va ps.length vc]).step ((Below.refl _ _).alloc (Nat.le_refl _) _)).step ((Below.refl _ _).alloc (Nat.le_refl _) _)
    have kX : Blk wq (w.heap.size + 1) 56 [.string ty, .slice xp n xk] := by
      rw [hwq]
      have := (Blk.new (w.alloc (.cells #[.slice va ps.length vc] 25)) 56 [.string ty, .slice xp n xk]).step ((Below.refl _ _).alloc (Nat.le_refl _) (.cells #[.slice none 0 0] 25))
      simpa using this
    have kR : Blk wq (w.heap.size + 1 + 1) 25 [.slice none 0 0] := by
      rw [hwq]
      have := Blk.new ((w.alloc (.cells #[.slice va ps.length vc] 25)).alloc (.cells #[.string ty, .slice xp n xk] 56)) 25 [.slice none 0 0]
      simpa using this
    have hsq : wq.heap.size = w.heap.size + 3 := by rw [hwq]; simp
    have hxq := ownsRow_belowk hx hBq
    have hXl := Lib.hid (hx.lt)
    have hn63 : T.length ≤ 9223372036854775807 := by
      obtain ⟨_, _, _, g1, g2, _⟩ := (vals_slice hx).open
      rw [List.length_replicate] at g1
      unfold maxLen at g2
      omega
    have hB1q := Lib.hid (hBq.mono hbase)
    have hrow1 := ownsRow_belowk hrow hBq
    have hhas1 := hhas.step hBq
    have hrl := hrow.lt
    have HBq := Lib.hid hBq
    clear hm hx htt hT hBq hsz
    subst hwq
    have HA := Lib.hid kA
    have HX := Lib.hid kX
    have HR := Lib.hid kR
    have HO := Lib.hid hxq
    have HRow := Lib.hid hrow1
    have HHs := Lib.hid hhas1
    have HHas := Lib.hid hhas
    have q1 : (((w.alloc (.cells #[.slice va ps.length vc] 25)).alloc (.cells #[.string ty, .slice xp n xk] 56)).alloc (.cells #[.slice none 0 0] 25)).cell? ⟨w.heap.size + 1, 1, none⟩ = some (.slice xp n xk) := kX.cell 1
    clear kA kX kR hxq hrow hhas hrow1 hhas1
    go_enter Tryz.func50, Tryz.ntmps50
    go_wp2_with (go_at_call 82; (with_reducible refine (HTy.out _ HBq.out).mono ?_); rintro e w6 ⟨⟨v6, rfl, hv6⟩, hB6⟩; obtain ⟨p6, k6, rfl⟩ := ownsRow_shape hv6)
    rw [hsq] at hv6
    have HA6 := Lib.hid (HA.out.step hB6)
    have HX6 := Lib.hid (HX.out.step hB6)
    have HR6 := Lib.hid (HR.out.step hB6)
    have HO6 := Lib.hid (ownsRow_belowk HO.out hB6)
    have HB6 := Lib.hid (below_call hB1q.out hbase hB6)
    have HV6 := Lib.hid hv6
    have HW6 := Lib.hid (ownsRow_belowk HRow.out hB6)
    have HH6 := Lib.hid (HHs.out.step hB6)
    clear HA HX HR HO hB6 hv6 q1 hB1q HTy HRow HHs
    go_loopw [21] (fun x wr => ∃ (k : Nat) (zs : List Val), k ≤ T.length ∧ Hid (zs.length = n) ∧ Hid (zs.take k = (T.take k).map zeroOf) ∧ Hid (Blk wr w.heap.size 25 [.slice va ps.length vc]) ∧ Hid (Blk wr (w.heap.size + 1) 56 [.string ty, .slice xp n xk]) ∧ Hid (Blk wr (w.heap.size + 1 + 1) 25 [.slice none 0 0]) ∧ Hid (wr.ownsRow base 27 2 (.slice xp n xk) n (zs.flatMap valVs)) ∧ Hid (wr.ownsRow (w.heap.size + 3) 9 1 (.slice p6 T.length k6) T.length (T.map Value.string)) ∧ Hid (wr.ownsRow base 56 2 (.slice va ps.length vc) ps.length (ps.flatMap thingVs)) ∧ Hid (HasAt base wr (.slice va ps.length vc) ps) ∧ Hid (Below base w wr) ∧ x = .int .i64 k) (fun x _ => T.length - (intOf x).toNat)
    case atStart => exact ⟨0, List.replicate n zVal, by omega, by unfold Hid; simp, by unfold Hid; simp, HA6.out, HX6.out, HR6.out, by have := HO6.out; unfold Hid; simpa using this, HV6.out, HW6.out, HH6.out, HB6.out, rfl⟩
    case round =>
      clear HA6 HX6 HR6 HO6 HB6 HV6 HW6 HH6
      obtain ⟨k, zs, hk, hzl, hzt, kA, kX, kR, kO, kT, kW, kH, kB, rfl⟩ := hrel
      by_cases hkl : k < T.length
      · obtain ⟨t, ht⟩ : ∃ a, T[k]? = some a := ⟨T[k], by simp [hkl]⟩
        have hkn : k < n := by omega
        obtain ⟨g6, c6, he6, _⟩ := World.ownsRow.form kT.out (by omega)
        simp only [Value.slice.injEq, true_and] at he6
        obtain ⟨rfl, rfl⟩ := he6
        obtain ⟨gx, cx, hex, _⟩ := World.ownsRow.form kO.out (by omega)
        simp only [Value.slice.injEq, true_and] at hex
        obtain ⟨rfl, rfl⟩ := hex
        have hXg := hXl.out gx rfl
        have hXa := hap gx rfl
        have t0 : wr.cell? ⟨g6, k, none⟩ = some (.string t) := by
          rw [kT.out.cellAt k (by omega), List.getElem?_map, ht]; rfl
        have x1 : wr.cell? ⟨w.heap.size + 1, 1, none⟩ = some (.slice (some ⟨gx, 0, none⟩) n xk) := kX.out.cell 1
        have hzk : k * 2 + 1 < zs.length * 2 := by rw [hzl.out]; omega
        have hfl : (zs.flatMap valVs).length = zs.length * 2 := flat_length valVs_2 zs
        obtain ⟨u0, hu0⟩ : ∃ u, (zs.flatMap valVs)[k * 2]? = some u := ⟨_, List.getElem?_eq_getElem (by omega)⟩
        obtain ⟨u1, hu1⟩ : ∃ u, (zs.flatMap valVs)[k * 2 + 1]? = some u := ⟨_, List.getElem?_eq_getElem (by omega)⟩
        have y0 : wr.cell? ⟨gx, k * 2, none⟩ = some u0 := by rw [kO.out.cellAt (k * 2) (by omega), hu0]
        have y1 : wr.cell? ⟨gx, k * 2 + 1, none⟩ = some u1 := by rw [kO.out.cellAt (k * 2 + 1) (by omega), hu1]
        have hz2' := Lib.hid (take_set (by rw [hzl.out, hTn]) hzt.out ht)
        obtain ⟨zv, hzv⟩ : ∃ z, zeroOf t = z := ⟨_, rfl⟩
        have HZ : Hid (∀ wx, Below wr.heap.size wr wx → Calls Tryz.prog 83 #[.string t] wx fun e w' => e = .returned (.agg #[.int .i64 zv.kind, .int .i64 zv.n]) ∧ Below wr.heap.size wr w' ∧ w'.cell? ⟨w.heap.size + 1, 1, none⟩ = some (.slice (some ⟨gx, 0, none⟩) n xk) ∧ w'.cell? ⟨gx, k * 2, none⟩ = some u0 ∧ w'.cell? ⟨gx, k * 2 + 1, none⟩ = some u1 ∧ w'.frozen? ⟨gx, k * 2, none⟩ = false ∧ w'.frozen? ⟨gx, k * 2 + 1, none⟩ = false) := fun wx hb =>
          (zero_any t wx).mono fun e w' ⟨h1, h2⟩ => by
            have h3 := below_call hb (Nat.le_refl _) h2
            have h4 := ownsRow_belowk kO.out h3
            exact ⟨by rw [h1, hzv]; rfl, h3, (h3.cell (p := ⟨w.heap.size + 1, 1, none⟩) (hcells_lt x1)).trans x1, (h3.cell (p := ⟨gx, k * 2, none⟩) (hcells_lt y0)).trans y0, (h3.cell (p := ⟨gx, k * 2 + 1, none⟩) (hcells_lt y1)).trans y1, h4.frozenAt _, h4.frozenAt _⟩
        rw [hzv] at hz2'
        have hn1 : ¬ gx = w.heap.size + 1 := by omega
        have hn2 : ¬ w.heap.size + 1 = gx := by omega
        have hi1 : (0 : Int) ≤ (k : Int) := by omega
        have hi2 : (k : Int) < (n : Int) := by omega
        have hBd := (Below.refl wr.heap.size wr).drew
        clear hu0 hu1 y0 y1 hzv hzt
        go_wp2_with (first | fail)
        go_region_held3 (fun w' => w'.cell? ⟨w.heap.size + 1, 1, none⟩ = some (.slice (some ⟨gx, 0, none⟩) n xk)) (go_keep)
          (first | (go_at_call 83; refine (HZ.out _ ?_).mono ?_; (simp [*]); rintro e w7 ⟨rfl, hB7, z0, z1, z2, z3, z4⟩))
        all_goals
          have hk7 := Lib.hid ((((kA.out.step hB7).other' (a := ⟨gx, k * 2, none⟩) (by show gx ≠ _; omega) (.int .i64 zv.kind)).other' (a := ⟨gx, k * 2 + 1, none⟩) (by show gx ≠ _; omega) (.int .i64 zv.n)))
          have hx7 := Lib.hid ((((kX.out.step hB7).other' (a := ⟨gx, k * 2, none⟩) (by show gx ≠ _; omega) (.int .i64 zv.kind)).other' (a := ⟨gx, k * 2 + 1, none⟩) (by show gx ≠ _; omega) (.int .i64 zv.n)))
          have hr7 := Lib.hid ((((kR.out.step hB7).other' (a := ⟨gx, k * 2, none⟩) (by show gx ≠ _; omega) (.int .i64 zv.kind)).other' (a := ⟨gx, k * 2 + 1, none⟩) (by show gx ≠ _; omega) (.int .i64 zv.n)))
          have ho7 := Lib.hid (vals_stored (ownsRow_belowk kO.out hB7) (show k < zs.length by rw [hzl.out]; omega) zv)
          have ht7 := Lib.hid (owns_other' (owns_other' (ownsRow_belowk kT.out hB7) (show gx < w.heap.size + 3 by omega) (k * 2) (.int .i64 zv.kind)) (show gx < w.heap.size + 3 by omega) (k * 2 + 1) (.int .i64 zv.n))
          have hb7 := Lib.hid (((below_call kB.out hbase hB7).setCell (p := ⟨gx, k * 2, none⟩) hXg.1 (.int .i64 zv.kind)).setCell (p := ⟨gx, k * 2 + 1, none⟩) hXg.1 (.int .i64 zv.n))
          have hw7 := Lib.hid (owns_ne (owns_ne (ownsRow_belowk kW.out hB7) hXa.1 (k * 2) (.int .i64 zv.kind)) hXa.1 (k * 2 + 1) (.int .i64 zv.n))
          have hh7 := Lib.hid (((kH.out.step hB7).set_ne hXa.2 (k * 2) (.int .i64 zv.kind)).set_ne hXa.2 (k * 2 + 1) (.int .i64 zv.n))
          have hl7 : Hid ((zs.set k zv).length = n) := by unfold Hid; rw [List.length_set]; exact hzl.out
          clear kA kX kR kO kT kW kH kB hB7 z0 z1 z2 z3 z4 t0 x1 HZ
          go_wp2_with (first | fail)
          go_roundw
          case rel => exact ⟨k + 1, zs.set k zv, by omega, hl7, hz2', hk7, hx7, hr7, ho7, ht7, hw7, hh7, hb7, by simp⟩
          case measure => simp [intOf]; omega
      · obtain rfl : k = T.length := by omega
        have hzs : zs = T.map zeroOf := by
          have h1 := hzt.out
          rwa [List.take_length, List.take_of_length_le (by rw [hzl.out, hTn]; exact Nat.le_refl _)] at h1
        have a0 : wr.cell? ⟨w.heap.size, 0, none⟩ = some (.slice va ps.length vc) := kA.out.cell 0
        have a1 : wr.cell? ⟨w.heap.size + 1, 0, none⟩ = some (.string ty) := kX.out.cell 0
        have a2 : wr.cell? ⟨w.heap.size + 1, 1, none⟩ = some (.slice xp n xk) := kX.out.cell 1
        have hBd := (Below.refl wr.heap.size wr).drew
        have hBa := hBd.alloc hBd.size (.cells #[.string ty, .slice xp n xk] 56)
        have hown7 := ownsRow_belowk kW.out hBa
        have hb63 : ps.length + 1 ≤ maxLen := by unfold maxLen; omega
        have hb40 : (ps.length + 1) * 40 ≤ 140737488355328 := by omega
        have hbase7 : base ≤ (wr.drew.alloc (.cells #[.string ty, .slice xp n xk] 56)).heap.size := Nat.le_trans hbase (Nat.le_trans kB.out.size hBa.size)
        have hsw := HBq.out.size
        have hno : ∀ b, w.heap.size ≤ b → (Value.slice va ps.length vc).ownBlock ≠ some b := fun b hb e => by have := (hrl _ e).2; omega
        have kA7 := kA.out.step hBa
        have kX7 := kX.out.step hBa
        have kR7 := kR.out.step hBa
        have hh := kH.out
        have hm1 : ¬ w.heap.size = w.heap.size + 1 + 1 := by omega
        have hm2 : ¬ w.heap.size + 1 + 1 = w.heap.size := by omega
        have hN0 := hno _ (Nat.le_refl _)
        have hN1 := hno (w.heap.size + 1) (by omega)
        have hN2 := hno (w.heap.size + 1 + 1) (by omega)
        go_wp2_with (first | fail)
        go_region_held3 (fun w' => w'.cell? ⟨w.heap.size, 0, none⟩ = some (.slice va ps.length vc) ∧ w'.cell? ⟨w.heap.size + 1, 0, none⟩ = some (.string ty) ∧ w'.cell? ⟨w.heap.size + 1, 1, none⟩ = some (.slice xp n xk)) (go_keep)
          (first | (refine step_append_lies _ (by rfl) _ _ 23 (by rfl) base 56 i0 (.agg #[.string .empty, .slice none 0 0]) 2 40 Tryz.underlying23 hi hz0 hz1 hz2 rfl (by decide) _ ps.length _ (by rfl) hown7 ⟨wr.heap.size, 0, none⟩ 1 1 [.string ty, .slice xp n xk] (by rfl) rfl (cell_duo_new wr.drew _ _ 56) (duo_one _ _ _ _) (by decide) hb63 hb40 hbase7 (wr.heap.size + 1) (by simp) ?_; intro g cap w8 hown8 hgrow hat hlt; (have kA8 := kA7.grown hgrow hN0); (have kX8 := kX7.grown hgrow hN1); (have kR8 := kR7.grown hgrow hN2); (have e0 : w8.cell? ⟨w.heap.size, 0, none⟩ = some (.slice va ps.length vc) := kA8.cell 0); (have e1 : w8.cell? ⟨w.heap.size + 1, 0, none⟩ = some (.string ty) := kX8.cell 0); (have e2 : w8.cell? ⟨w.heap.size + 1, 1, none⟩ = some (.slice xp n xk) := kX8.cell 1); (have e3 : w8.cell? ⟨w.heap.size + 1 + 1, 0, none⟩ = some (.slice none 0 0) := kR8.cell 0); (have e4 := kR8.frozen 0)))
        all_goals
          have hkO : wr.ownsRow base 27 2 (.slice xp n xk) zs.length (zs.flatMap valVs) := by rw [hzl.out]; exact kO.out
          have hlw := kR.out.lt
          have hst := row_snoc (m := ps.length + 1) (cap := cap) (x := ⟨ty, zs⟩) (v6 := .slice xp n xk) (hh.step hBd) (vals_slice (ownsRow_belowk hkO hBd)) (fun g' e' => ⟨(hXl.out g' e').1, by have := (hXl.out g' e').2; show g' < wr.heap.size; omega, (hap g' e').1⟩) hgrow hat
          have hgn : g ≠ w.heap.size + 1 + 1 := by
            intro he
            rcases hat with h1 | h1
            · exact hN2 (by rw [h1, he])
            · omega
          have hTh := things_set (b := w.heap.size + 1 + 1) (u := .slice (some ⟨g, 0, none⟩) (ps.length + 1) cap) (x := ⟨ty, zs⟩) hown8 hgn hst (fun p hp => by
            intro he
            rcases List.mem_append.1 hp with hp | hp
            · have := ((HHas.out p hp).2 _ he).2.1; omega
            · rw [List.mem_singleton.1 hp] at he
              have := (hXl.out _ he).2; omega)
          have hBe := Lib.hid (((below_call kB.out hbase hBa).grown hgrow hbase7 (fun g' e' => (hrl _ e').1)).setCell (p := ⟨w.heap.size + 1 + 1, 0, none⟩) (by show base ≤ w.heap.size + 1 + 1; omega) (.slice (some ⟨g, 0, none⟩) (ps.length + 1) cap))
          rw [hps, hzs] at hTh
          have HTh := Lib.hid hTh
          have hw50 : IntKind.i64.wrap ((ps.length : Int) + 1) = (ps.length : Int) + 1 := IntWalk.i64_in _ (by omega)
          clear hkO hst hTh hgn hown8 hgrow hat hlt kA8 kX8 kR8 kA7 kX7 kR7 hh hown7 hBa hBd hN0 hN1 hN2 hno hrl kO kT kA kX kR kW kH kB
          go_wp2_with (first | fail)
          exact bodyPost_ret (v := .tuple #[.agg #[.slice (some ⟨g, 0, none⟩) (ps.length + 1) cap], .int .i64 ((ps.length : Int) + 1), .nilIface]) (by simp [results, Tryz.results50, go_sem, *]) rfl ⟨hBe.out, Or.inr ⟨by omega, _, HTh.out.choose, rfl, HTh.out.choose_spec⟩⟩
theorem thText_eq (c : Str) : thText c = thingS c := by
  have h := lst_th c
  unfold thingS
  rw [show (76 :: (lst c ++ [59]) : List UInt8) = tyText (.cl c) from rfl, ← h, str_lst]
theorem thing_of {l : List Class} {c : Str} (hk : (findC (allC l) c).isSome = true) (n : Nat) : ThingTy (allC l) ⟨thText c, List.replicate n zVal⟩ (.cl c) := ⟨(lst_th c).symm, hk, rfl, by simp [deepTy]⟩
theorem thing_types_of (cs : List Class) (c : Str) (n : Nat) : typesT cs ⟨thText c, List.replicate n zVal⟩ = typesOf (layC cs c) := by
  unfold typesT
  rw [tyOf_text (lst_th c).symm]
theorem has_small {l : List Class} (hR : Right l) (hcf : ∀ c ∈ l, classFault c = 0) {x : Thing} (h : thingFault (allC l) x = 0) : x.has.length ≤ 4194304 := by
  obtain ⟨_, _, t, ht⟩ := thing_zero h
  have h1 := thing_shape h
  rw [← h1]
  cases t with
  | i => exact absurd ht.ref (by decide)
  | j => exact absurd ht.ref (by decide)
  | ar e => have := thing_small h ht; omega
  | cl c =>
    have := lay_small hR hcf ht.good
    unfold typesT typesOf
    rw [ht.of]
    rw [List.length_map]; omega
/-- what New and Array leave -/
def MakePost (w : World) (f : Nat) (h : List Thing) (x : Thing) (e : Ending) (w' : World) : Prop :=
  Below w.heap.size w w' ∧ ((f = 0 ∧ ∃ v, e = .returned (.tuple #[.agg #[v], .int .i64 ((h.length : Int) + 1), .nilIface]) ∧ ThingsAt w' v (h ++ [x])) ∨ (f ≠ 0 ∧ e = .returned (.tuple #[.agg #[.slice none 0 0], .int .i64 0, .iface 35 (.int .i64 f)])))
theorem make_no {w w' : World} {f k : Nat} {h : List Thing} {x : Thing} (hb : Below w.heap.size w w') (hk : f = k) (hn : k ≠ 0) : MakePost w f h x (.returned (.tuple #[.agg #[.slice none 0 0], .int .i64 0, .iface 35 (.int .i64 k)])) w' := by
  subst hk; exact ⟨hb, Or.inr ⟨hn, rfl⟩⟩
/-- what is wrong ahead of New -/
def newR (l : List Class) (h : List Thing) (c : Str) : Nat :=
  if heapFault l h ≠ 0 then heapFault l h else if (findC (allC l) c).isSome = false then 3 else if (classC (allC l) c).face then 7 else if 50 ≤ h.length then 4 else 0
theorem apart_of {w3 w4 : World} {base n size : Nat} {t : TypeId} {v x : Value} {xs : List Value} {ps : List (Thing × Value)} (hrow : w3.ownsRow base 56 2 v ps.length (ps.flatMap thingVs)) (hhas : HasAt base w3 v ps) (hx : w4.ownsRow w3.heap.size t size x n xs) :
    ∀ g, x.ownBlock = some g → v.ownBlock ≠ some g ∧ ∀ p ∈ ps, p.2.ownBlock ≠ some g := fun g e =>
  ⟨fun he => by have := (hrow.lt _ he).2; have := (hx.lt _ e).1; omega, fun p hp he => by have := ((hhas p hp).2 _ he).2.1; have := (hx.lt _ e).1; omega⟩
theorem Blk.stepB {B : Nat} {w w' : World} {b : Nat} {t : TypeId} {vals : List Value} (h : Blk w b t vals) (hb : Below B w w') (hlt : b < B) : Blk w' b t vals := (hb.block b hlt).trans h
set_option maxHeartbeats 4000000 in
set_option maxRecDepth 100000 in
theorem heapNew_any (l : List Class) (lv : Value) (h : List Thing) (hv : Value) (c : Str) (w : World) (hl : Laid w) (ho : ∀ c ∈ l, ClassOk c) (hlv : ClassesAt w lv l) (hh : ThingsAt w hv h) (hS : Short h) (hc : c.size ≤ maxLen) :
    Calls Tryz.prog 21 #[lv, .agg #[hv], .string c] w (MakePost w (newR l h c) h (freshT (allC l) c)) := by
  have HRd : Hid (∀ wx, Below w.heap.size w wx → _) := fun wx hb => heapRead_any l lv h hv wx (hl.mono hb hl.1) ho (hlv.mono hb) (hh.mono hb) hS
  obtain ⟨pl, cap, rfl, _⟩ := hlv.open
  have HT : Hid (∀ wx, Below w.heap.size w wx → ThingsAt wx hv h) := fun wx hb => hh.mono hb
  obtain ⟨ph, kh, rfl, _⟩ := hh.open
  have hBq := ((Below.refl w.heap.size w).alloc (Nat.le_refl _) (.cells #[.slice ph h.length kh] 25)).alloc (by simp) (.cells #[.slice none 0 0] 25)
  have kH : Blk ((w.alloc (.cells #[.slice ph h.length kh] 25)).alloc (.cells #[.slice none 0 0] 25)) w.heap.size 25 [.slice ph h.length kh] := (Blk.new w 25 [.slice ph h.length kh]).step ((Below.refl _ _).alloc (Nat.le_refl _) _)
  have kR : Blk ((w.alloc (.cells #[.slice ph h.length kh] 25)).alloc (.cells #[.slice none 0 0] 25)) (w.heap.size + 1) 25 [.slice none 0 0] := by
    have := Blk.new (w.alloc (.cells #[.slice ph h.length kh] 25)) 25 [.slice none 0 0]
    simpa using this
  have HBq := Lib.hid hBq
  have KH := Lib.hid kH
  have KR := Lib.hid kR
  clear hl ho hlv hh hS hBq kH kR
  unfold HeapReadPost at HRd
  by_cases hf : heapFault l h = 0
  · have HZ := Lib.hid hf
    have HF : Hid (newR l h c = if (findC (allC l) c).isSome = false then 3 else if (classC (allC l) c).face then 7 else if 50 ≤ h.length then 4 else 0) := by unfold Hid newR; rw [if_neg (by rw [hf]; decide)]
    have HFo := Lib.hid (heap_zero (heapFault_zero hf).2)
    clear hf
    go_enter Tryz.func21, Tryz.ntmps21
    go_upto_region 4 with (go_at_call 38; (with_reducible refine (HRd.out _ HBq.out).mono ?_); rintro e w2 ⟨hB2, ⟨_, w0, B, rfl, hm⟩ | ⟨hz, v, rfl⟩⟩; rotate_left; (exact absurd HZ.out hz))
    obtain ⟨p1, k1, p2, k2, p3, k3, _, _, _, hlk, _⟩ := hm.map.look2 hm.right.nodup c hc
    have hcf : ((findC (allC l) c).getD noClass).face = (classC (allC l) c).face := rfl
    obtain ⟨d, hd⟩ : ∃ d, (findC (allC l) c).getD noClass = d := ⟨_, rfl⟩
    rw [hd] at hlk hcf
    obtain ⟨n2, s2, f2, b2, d2, m2⟩ := d
    unfold classV at hlk
    dsimp only at hlk hcf
    obtain ⟨q, hq⟩ : ∃ q, (findC (allC l) c).isSome = q := ⟨_, rfl⟩
    rw [hq] at hlk
    have hF := HF.out
    rw [hq, ← hcf] at hF
    clear hcf
    have hBw := below_call HBq.out (Nat.le_refl _) hB2
    have hBa : Below w2.heap.size w2 (w2.alloc (.cells #[.string n2, .string s2, .slice p1 f2.length k1, .bool b2, .slice p2 d2.length k2, .slice p3 m2.length k3] 47)) := (Below.refl _ _).alloc (Nat.le_refl _) _
    have kR2 := KR.out.step hB2
    have e0 : w2.cell? ⟨w.heap.size + 1, 0, none⟩ = some (.slice none 0 0) := kR2.cell 0
    have e1 := kR2.frozen 0
    have elt := kR2.lt
    have hEnd := Lib.hid ((hBw.setCell (p := ⟨w.heap.size + 1, 0, none⟩) (by show w.heap.size ≤ w.heap.size + 1; omega) (.slice none 0 0)).alloc (by have := hBw.size; simpa using this) (.cells #[.string n2, .string s2, .slice p1 f2.length k1, .bool b2, .slice p2 d2.length k2, .slice p3 m2.length k3] 47))
    cases q with
    | false =>
      rw [if_pos rfl] at hF
      have HF2 := Lib.hid hF
      clear hF HF hm hBa hd
      go_wp2_with (first | fail)
      exact bodyPost_ret (v := .tuple #[.agg #[.slice none 0 0], .int .i64 0, .iface 35 (.int .i64 3)]) (by simp [results, Tryz.results21, go_sem, *]) rfl (make_no hEnd.out HF2.out (by decide))
    | true =>
      rw [if_neg (by decide)] at hF
      cases b2 with
      | true =>
        rw [if_pos rfl] at hF
        have HF2 := Lib.hid hF
        clear hF HF hm hBa hd
        go_wp2_with (first | fail)
        exact bodyPost_ret (v := .tuple #[.agg #[.slice none 0 0], .int .i64 0, .iface 35 (.int .i64 7)]) (by simp [results, Tryz.results21, go_sem, *]) rfl (make_no hEnd.out HF2.out (by decide))
      | false =>
        rw [if_neg (by decide)] at hF
        have HF2 := Lib.hid hF
        have hsm := lay_small hm.right hm.faults hq
        have hs20 := class_name20 hm.faults hq
        have hHas : ∀ x ∈ h, x.has.length ≤ 4194304 := fun x hx => has_small hm.right hm.faults (HFo.out.2.1 x hx)
        have HCp : Hid (∀ wx, Below w2.heap.size w2 wx → _) := fun wx hb => copy_any wx h (.slice ph h.length kh) (HT.out wx (below_call hBw (Nat.le_refl _) hb)) hHas HFo.out.1
        have HFr : Hid (∀ wx, Below w2.heap.size w2 wx → _) := fun wx hb => fresh_any w0 wx B l (hm.step hb) c hq
        have HMo : Hid (∀ wx base v ps xp xk, Below w2.heap.size w2 wx → base ≤ wx.heap.size → ps.map (·.1) = h → wx.ownsRow base 56 2 v ps.length (ps.flatMap thingVs) → HasAt base wx v ps → wx.ownsRow base 27 2 (.slice xp (typesOf (layC (allC l) c)).length xk) (List.replicate (typesOf (layC (allC l) c)).length zVal).length ((List.replicate (typesOf (layC (allC l) c)).length zVal).flatMap valVs) → (∀ g, (Value.slice xp (typesOf (layC (allC l) c)).length xk).ownBlock = some g → v.ownBlock ≠ some g ∧ ∀ p ∈ ps, p.2.ownBlock ≠ some g) → _) := fun wx base v ps xp xk h0 h1 h3 h4 h5 h6 h7 =>
          more_any w0 wx B l (hm.step h0) base h1 v h ps h3 h4 h5 (thText c) (.cl c) xp xk _ h6 h7 (thing_of hq _) (by unfold maxLen; rw [th_size]; omega) (fun _ h => by cases h) _ (thing_types_of _ _ _) rfl
        have HX : Hid (freshT (allC l) c = ⟨thText c, (typesOf (layC (allC l) c)).map zeroOf⟩) := by unfold Hid freshT; rw [thText_eq]
        have kH2 := KH.out.step hB2
        have e2 : (w2.alloc (.cells #[.string n2, .string s2, .slice p1 f2.length k1, .bool false, .slice p2 d2.length k2, .slice p3 m2.length k3] 47)).cell? ⟨w.heap.size, 0, none⟩ = some (.slice ph h.length kh) := (kH2.step hBa).cell 0
        have kR3 := kR2.step hBa
        have hBw2 := Lib.hid hBw
        have HBa := Lib.hid hBa
        have HKR := Lib.hid kR3
        clear hF HF hm hd hBa hBw hEnd hHas kR2 kR3 e0 e1 elt hs20 hsm
        unfold CopyPost at HCp
        unfold FreshPost at HFr
        unfold MorePost at HMo
        generalize typesOf (layC (allC l) c) = T at *
        go_wp2_with (first
          | (go_at_call 51; (with_reducible refine (HCp.out _ HBa.out).mono ?_); rintro e w3 ⟨⟨v3, ps, rfl, hps, hrow, hhas⟩, hB3⟩; obtain ⟨pa, ka, rfl⟩ := ownsRow_shape hrow; (have hB23 := below_call HBa.out (Nat.le_refl _) hB3))
          | (go_at_call 52; (with_reducible refine (HFr.out _ hB23).mono ?_); rintro e w4 ⟨⟨p4, k4, rfl, hx4⟩, hB4⟩; (have hap4 := apart_of hrow hhas hx4))
          | (go_at_call 50; (with_reducible refine (HMo.out _ _ _ ps _ _ (below_call hB23 (Nat.le_refl _) hB4) (Nat.le_trans hB3.size hB4.size) hps (ownsRow_belowk hrow hB4) (hhas.step hB4) (ownsRow_base hx4 hB3.size) hap4).mono ?_); rintro e w5 ⟨hB5, hor⟩; (have kR5 := ((HKR.out.step hB3).step hB4).stepB hB5 HKR.out.lt); (have e0 : w5.cell? ⟨w.heap.size + 1, 0, none⟩ = some (.slice none 0 0) := kR5.cell 0); (have e1 := kR5.frozen 0); obtain ⟨h50, rfl⟩ | ⟨h50, v5, ps5, rfl, hps5, hrow5, hhas5⟩ := hor; rotate_left; obtain ⟨pb, kb, rfl⟩ := ownsRow_shape hrow5; rotate_left))
        all_goals
          have hE5 := below_call (below_call hBw2.out (Nat.le_refl _) HBa.out) (Nat.le_refl _) ((below_call hB3 (Nat.le_refl _) hB4).trans hB5)
          have hF := HF2.out
        · rw [if_pos h50] at hF
          exact bodyPost_ret (v := .tuple #[.agg #[.slice none 0 0], .int .i64 0, .iface 35 (.int .i64 4)]) (by simp [results, Tryz.results21, go_sem, *]) rfl (make_no (hE5.setCell (p := ⟨w.heap.size + 1, 0, none⟩) (by show w.heap.size ≤ w.heap.size + 1; omega) _) hF (by decide))
        · rw [if_neg (by omega)] at hF
          have hlt5 := HKR.out.lt
          have hTh := things_slice (owns_other' hrow5 hlt5 0 (.slice pb ps5.length kb)) (hhas5.set hlt5 0 (.slice pb ps5.length kb))
          rw [hps5, ← HX.out] at hTh
          exact bodyPost_ret (v := .tuple #[.agg #[.slice pb ps5.length kb], .int .i64 ((h.length : Int) + 1), .nilIface]) (by simp [results, Tryz.results21, go_sem, *]) rfl ⟨hE5.setCell (p := ⟨w.heap.size + 1, 0, none⟩) (by show w.heap.size ≤ w.heap.size + 1; omega) _, Or.inl ⟨hF, _, rfl, hTh⟩⟩
  · have hF : newR l h c = heapFault l h := by unfold newR; rw [if_pos hf]
    have HF := Lib.hid hF
    have HZ := Lib.hid hf
    clear hF hf
    go_enter Tryz.func21, Tryz.ntmps21
    go_wp2_with (go_at_call 38; (with_reducible refine (HRd.out _ HBq.out).mono ?_); rintro e w2 ⟨hB2, ⟨hz, _⟩ | ⟨_, v, rfl⟩⟩; (exact absurd hz HZ.out); (have kR2 := KR.out.step hB2); (have e0 : w2.cell? ⟨w.heap.size + 1, 0, none⟩ = some (.slice none 0 0) := kR2.cell 0); (have e1 := kR2.frozen 0))
    exact bodyPost_ret (v := .tuple #[.agg #[.slice none 0 0], .int .i64 0, .iface 35 (.int .i64 (heapFault l h))]) (by simp [results, Tryz.results21, go_sem, *]) rfl (make_no ((below_call HBq.out (Nat.le_refl _) hB2).setCell (p := ⟨w.heap.size + 1, 0, none⟩) (by show w.heap.size ≤ w.heap.size + 1; omega) _) HF.out HZ.out)
end Go.Proofs.YtbakcdgjibmceaaGreatDoor
namespace Go.Proofs.YtbakcdgjibmceaaGreatDoor
open Go.RowKit Go.Shelf Go.Lib
/-- what is wrong ahead of Array -/
def arrR (l : List Class) (h : List Thing) (k : Str) (n : Int) : Nat :=
  if heapFault l h ≠ 0 then heapFault l h else if typeB (91 :: lst k) = false then 1 else if kindR (allC l) k ≠ 0 then kindR (allC l) k else if n < 0 ∨ 10 < n then 2 else if 50 ≤ h.length then 4 else 0
theorem lst_arr (k : Str) : lst (⟨#[91]⟩ ++ k) = 91 :: lst k := by
  unfold lst
  rw [ByteArray.data_append, Array.toList_append]; rfl
theorem arr_elem {k : Str} (h : typeB (91 :: lst k) = true) : ∃ e, tyText e = lst k ∧ nameOk e = true ∧ deepTy (.ar e) ≤ 3 := by
  obtain ⟨x, h1, _, h3⟩ := typeB_ty _ h
  have h4 := deep_of_type (x := x) (by rw [h1]; exact h)
  cases x with
  | i => simp [tyText] at h1
  | j => simp [tyText] at h1
  | cl c => simp [tyText] at h1
  | ar e => exact ⟨e, by simpa [tyText] using h1, h3, h4⟩
theorem kd_of_ty {k : Str} {x : Kd} {e : Ty} (hx : kdText x = lst k) (he : tyText e = lst k) : x = .ty e := by
  cases x with
  | n => rw [← hx] at he; cases e <;> simp [tyText, kdText] at he
  | t => rw [← hx] at he; cases e <;> simp [tyText, kdText] at he
  | ty y => rw [← tyOf_text hx, tyOf_text he]
theorem arr_thing {cs : List Class} {k a : Str} (ha : lst a = 91 :: lst k) {e : Ty} (he : tyText e = lst k) (hd : deepTy (.ar e) ≤ 3) (hk : kindR cs k = 0) (n : Nat) : ThingTy cs ⟨a, List.replicate n zVal⟩ (.ar e) := by
  obtain ⟨x, hx, hg⟩ := kind_of hk
  obtain rfl := kd_of_ty hx he
  exact ⟨by show tyText (.ar e) = lst a; rw [ha, ← he]; rfl, hg, rfl, hd⟩
theorem arr_types {cs : List Class} {k a : Str} (ha : lst a = 91 :: lst k) {e : Ty} (he : tyText e = lst k) (n : Nat) : typesT cs ⟨a, List.replicate n zVal⟩ = List.replicate n k := by
  unfold typesT
  rw [show tyOf a = .ar e from tyOf_text (by rw [ha, ← he]; rfl)]
  dsimp only
  rw [List.length_replicate, he, str_lst]
theorem arr_text {k a : Str} (ha : lst a = 91 :: lst k) : a = str (91 :: lst k) := by rw [← ha, str_lst]
/-- a heap and a row of values that the call owns, apart -/
def ArrOk (base : Nat) (w : World) (v : Value) (ps : List (Thing × Value)) (xp : Option Addr) (n xk : Nat) : Prop :=
  base ≤ w.heap.size ∧ w.ownsRow base 56 2 v ps.length (ps.flatMap thingVs) ∧ HasAt base w v ps ∧ w.ownsRow base 27 2 (.slice xp n xk) (List.replicate n zVal).length ((List.replicate n zVal).flatMap valVs) ∧
    ∀ g, (Value.slice xp n xk).ownBlock = some g → v.ownBlock ≠ some g ∧ ∀ p ∈ ps, p.2.ownBlock ≠ some g
theorem arr_first {w2 w3 : World} {v : Value} {ps : List (Thing × Value)} {n : Nat} (hn : n ≤ 16777216) (hrow : w3.ownsRow w2.heap.size 56 2 v ps.length (ps.flatMap thingVs)) (hhas : HasAt w2.heap.size w3 v ps) (hB : Below w2.heap.size w2 w3) :
    ArrOk w2.heap.size (w3.alloc (.cells (Array.replicate (n * 2) (Value.int .i64 0)) 27)) v ps (some ⟨w3.heap.size, 0, none⟩) n n := by
  have hb : Below w3.heap.size w3 (w3.alloc (.cells (Array.replicate (n * 2) (Value.int .i64 0)) 27)) := (Below.refl _ _).alloc (Nat.le_refl _) _
  have hx := vals_made w3 n hn
  exact ⟨Nat.le_trans hB.size hb.size, ownsRow_belowk hrow hb, hhas.step hb, ownsRow_base hx hB.size, apart_of hrow hhas hx⟩
theorem arr_second {w2 w3 : World} {v : Value} {ps : List (Thing × Value)} {n : Nat} (hn : n ≤ 16777216) (hrow : w3.ownsRow (w2.alloc (.cells (Array.replicate (n * 2) (Value.int .i64 0)) 27)).heap.size 56 2 v ps.length (ps.flatMap thingVs)) (hhas : HasAt (w2.alloc (.cells (Array.replicate (n * 2) (Value.int .i64 0)) 27)).heap.size w3 v ps)
    (hB : Below (w2.alloc (.cells (Array.replicate (n * 2) (Value.int .i64 0)) 27)).heap.size (w2.alloc (.cells (Array.replicate (n * 2) (Value.int .i64 0)) 27)) w3) : ArrOk w2.heap.size w3 v ps (some ⟨w2.heap.size, 0, none⟩) n n := by
  have hb : Below w2.heap.size w2 (w2.alloc (.cells (Array.replicate (n * 2) (Value.int .i64 0)) 27)) := (Below.refl _ _).alloc (Nat.le_refl _) _
  have hx := vals_made w2 n hn
  have hs : (w2.alloc (.cells (Array.replicate (n * 2) (Value.int .i64 0)) 27)).heap.size = w2.heap.size + 1 := by simp
  refine ⟨Nat.le_trans hb.size hB.size, ownsRow_base hrow hb.size, hhas.base hb.size, ownsRow_belowk hx hB, fun g e => ?_⟩
  have hg : w2.heap.size = g := by injection e
  subst hg
  exact ⟨fun he => by have := (hrow.lt _ he).1; omega, fun p hp he => by have := ((hhas p hp).2 _ he).1; omega⟩
theorem make_end {w wx w6 : World} {b base : Nat} {pb : Option Addr} {nb kb : Nat} {nn : Int} {ee : Value} {h : List Thing} {ty : Str} {T : List Str} {f : Nat} {x : Thing}
    (hmp : MorePost base wx h ty T (.returned (.tuple #[.agg #[.slice pb nb kb], .int .i64 nn, ee])) w6) (hB : Below w.heap.size w wx) (hlt : b < base) (hbw : w.heap.size ≤ b) (hF : f = if 50 ≤ h.length then 4 else 0) (hX : x = ⟨ty, T.map zeroOf⟩) :
    MakePost w f h x (.returned (.tuple #[.agg #[.slice pb nb kb], .int .i64 nn, ee])) (w6.setCell ⟨b, 0, none⟩ (.slice pb nb kb)) := by
  have hBe := (hB.trans (hmp.1.mono (by omega))).setCell (p := ⟨b, 0, none⟩) hbw (.slice pb nb kb)
  rcases hmp with ⟨hB5, ⟨h50, he⟩ | ⟨h50, v5, ps5, he, hps5, hrow5, hhas5⟩⟩
  · rw [if_pos h50] at hF
    refine ⟨hBe, Or.inr ⟨by rw [hF]; decide, ?_⟩⟩
    rw [he, hF]; rfl
  · rw [if_neg (by omega)] at hF
    have hv : v5 = .slice pb nb kb := by
      simp only [Ending.returned.injEq, Value.tuple.injEq, Array.mk.injEq, List.cons.injEq, Value.agg.injEq, and_true] at he
      exact he.1.symm
    subst hv
    have hTh := things_slice (owns_other' hrow5 hlt 0 (.slice pb nb kb)) (hhas5.set hlt 0 (.slice pb nb kb))
    rw [hps5, ← hX] at hTh
    exact ⟨hBe, Or.inl ⟨hF, _, he, hTh⟩⟩
set_option maxHeartbeats 4000000 in
set_option maxRecDepth 100000 in
theorem heapArray_any (l : List Class) (lv : Value) (h : List Thing) (hv : Value) (k : Str) (n : Int) (w : World) (hl : Laid w) (ho : ∀ c ∈ l, ClassOk c) (hlv : ClassesAt w lv l) (hh : ThingsAt w hv h) (hS : Short h) (hk : k.size ≤ 4194304) :
    Calls Tryz.prog 22 #[lv, .agg #[hv], .string k, .int .i64 n] w (MakePost w (arrR l h k n) h (freshA k n.toNat)) := by
  have hkm : k.size ≤ maxLen := by unfold maxLen; omega
  have hka : (⟨#[91]⟩ ++ k : ByteArray).size ≤ maxLen := by rw [ByteArray.size_append]; show 1 + k.size ≤ _; unfold maxLen; omega
  have hla := lst_arr k
  obtain ⟨ak, hak⟩ : ∃ ak, (⟨#[91]⟩ ++ k : ByteArray) = ak := ⟨_, rfl⟩
  rw [hak] at hka hla
  have hcat : ∀ wx, (Op.stringOp .add ⟨#[91]⟩ k).run Tryz.prog wx = .ok (.string ak) wx := fun wx => by
    rw [← hak]
    exact run_string_add_sum wx ⟨#[91]⟩ k (by show 1 + k.size ≤ _; omega)
  clear hak
  have HRd : Hid (∀ wx, Below w.heap.size w wx → _) := fun wx hb => heapRead_any l lv h hv wx (hl.mono hb hl.1) ho (hlv.mono hb) (hh.mono hb) hS
  have HKi : Hid (∀ w0 wx B, WorldMap w0 wx B l → _) := fun w0 wx B hm => kind_any w0 wx B (allC l) hm.map hm.right.nodup k hkm
  obtain ⟨pl, cap, rfl, _⟩ := hlv.open
  have HT : Hid (∀ wx, Below w.heap.size w wx → ThingsAt wx hv h) := fun wx hb => hh.mono hb
  obtain ⟨ph, kh, rfl, _⟩ := hh.open
  have hBq := ((Below.refl w.heap.size w).alloc (Nat.le_refl _) (.cells #[.slice ph h.length kh] 25)).alloc (by simp) (.cells #[.slice none 0 0] 25)
  have kH : Blk ((w.alloc (.cells #[.slice ph h.length kh] 25)).alloc (.cells #[.slice none 0 0] 25)) w.heap.size 25 [.slice ph h.length kh] := (Blk.new w 25 [.slice ph h.length kh]).step ((Below.refl _ _).alloc (Nat.le_refl _) _)
  have kR : Blk ((w.alloc (.cells #[.slice ph h.length kh] 25)).alloc (.cells #[.slice none 0 0] 25)) (w.heap.size + 1) 25 [.slice none 0 0] := by
    have := Blk.new (w.alloc (.cells #[.slice ph h.length kh] 25)) 25 [.slice none 0 0]
    simpa using this
  have HBq := Lib.hid hBq
  have KH := Lib.hid kH
  have KR := Lib.hid kR
  clear hl ho hlv hh hS hBq kH kR
  unfold HeapReadPost at HRd
  by_cases hf : heapFault l h = 0
  · have HZ := Lib.hid hf
    have HF : Hid (arrR l h k n = if typeB (91 :: lst k) = false then 1 else if kindR (allC l) k ≠ 0 then kindR (allC l) k else if n < 0 ∨ 10 < n then 2 else if 50 ≤ h.length then 4 else 0) := by unfold Hid arrR; rw [if_neg (by rw [hf]; decide)]
    have HFo := Lib.hid (heap_zero (heapFault_zero hf).2)
    clear hf
    cases hty : typeB (91 :: lst k) with
    | false =>
      have hF := HF.out
      rw [hty, if_pos rfl] at hF
      have HF2 := Lib.hid hF
      have hga : typeB ak.data.toList = false := by
        have e := hla
        unfold lst at e
        rw [e]; exact hty
      have HD : Hid (∀ wx, _) := fun wx => descCheck_bad hka hga wx
      clear hga
      clear hF HF hty HKi
      go_enter Tryz.func22, Tryz.ntmps22
      go_wp2_with (first
        | (go_at_call 38; (with_reducible refine (HRd.out _ HBq.out).mono ?_); rintro e w2 ⟨hB2, ⟨_, w0, B, rfl, hm⟩ | ⟨hz, v, rfl⟩⟩; rotate_left; (exact absurd HZ.out hz); (have kR2 := KR.out.step hB2))
        | (go_at_call 39; (with_reducible refine (HD.out _).mono ?_); rintro e w3 ⟨rfl, hB3⟩; (have kR3 := kR2.step hB3); (have e0 : w3.cell? ⟨w.heap.size + 1, 0, none⟩ = some (.slice none 0 0) := kR3.cell 0); (have e1 := kR3.frozen 0)))
      exact bodyPost_ret (v := .tuple #[.agg #[.slice none 0 0], .int .i64 0, .iface 35 (.int .i64 1)]) (by simp [results, Tryz.results22, go_sem, *]) rfl (make_no ((below_call (below_call HBq.out (Nat.le_refl _) hB2) (Nat.le_refl _) hB3).setCell (p := ⟨w.heap.size + 1, 0, none⟩) (by show w.heap.size ≤ w.heap.size + 1; omega) _) HF2.out (by decide))
    | true =>
      obtain ⟨el, hel, _, hdl⟩ := arr_elem hty
      have hF := HF.out
      rw [hty, if_neg (by decide)] at hF
      have hga : typeB ak.data.toList = true := by
        have e := hla
        unfold lst at e
        rw [e]; exact hty
      have HD : Hid (∀ wx, _) := fun wx => descCheck_good hka hga wx
      clear hga hty
      by_cases hr : kindR (allC l) k = 0
      · rw [if_neg (show ¬ kindR (allC l) k ≠ 0 by rw [hr]; decide)] at hF
        rw [hr, show errV 0 = .nilIface from rfl] at HKi
        by_cases hn : n < 0 ∨ 10 < n
        · rw [if_pos hn] at hF
          have HF2 := Lib.hid hF
          obtain ⟨b1, hb1⟩ : ∃ b, decide (n < 0) = b := ⟨_, rfl⟩
          obtain ⟨b2, hb2⟩ : ∃ b, decide (10 < n) = b := ⟨_, rfl⟩
          have hor : (b1 || b2) = true := by rw [← hb1, ← hb2]; simpa using hn
          clear hF HF hr hel hdl hn
          cases b1 <;> cases b2
          all_goals first
            | (exact absurd hor (by decide))
            | (clear hor
               go_enter Tryz.func22, Tryz.ntmps22
               go_wp2_with (first
        | (go_at_call 38; (with_reducible refine (HRd.out _ HBq.out).mono ?_); rintro e w2 ⟨hB2, ⟨_, w0, B, rfl, hm⟩ | ⟨hz, v, rfl⟩⟩; rotate_left; (exact absurd HZ.out hz); (have kR2 := KR.out.step hB2); (have kH2 := KH.out.step hB2))
        | (go_at_call 39; (with_reducible refine (HD.out _).mono ?_); rintro e w3 ⟨rfl, hB3⟩; (have hm3 := hm.step hB3); (have kR3 := kR2.step hB3); (have kH3 := kH2.step hB3))
        | (go_at_call 40; (with_reducible refine (HKi.out _ _ _ hm3).mono ?_); rintro e w4 ⟨rfl, hB4⟩; (have hm4 := hm3.step hB4); (have kR4 := kR3.step hB4); (have kH4 := kH3.step hB4); (have e0 : w4.cell? ⟨w.heap.size + 1, 0, none⟩ = some (.slice none 0 0) := kR4.cell 0); (have e1 := kR4.frozen 0)))
               exact bodyPost_ret (v := .tuple #[.agg #[.slice none 0 0], .int .i64 0, .iface 35 (.int .i64 2)]) (by simp [results, Tryz.results22, go_sem, *]) rfl (make_no ((below_call (below_call (below_call HBq.out (Nat.le_refl _) hB2) (Nat.le_refl _) hB3) (Nat.le_refl _) hB4).setCell (p := ⟨w.heap.size + 1, 0, none⟩) (by show w.heap.size ≤ w.heap.size + 1; omega) _) HF2.out (by decide)))
        · rw [if_neg hn] at hF
          obtain ⟨m, rfl⟩ : ∃ m : Nat, n = (m : Int) := ⟨n.toNat, by omega⟩
          have hb1 : decide ((m : Int) < 0) = false := by simp
          have hb2 : decide ((10 : Int) < (m : Int)) = false := by simp; omega
          have hm10 : m ≤ 10 := by omega
          have HF2 := Lib.hid hF
          have hmk := make_vals m (by omega)
          have HX : Hid (freshA k (m : Int).toNat = ⟨ak, (List.replicate m k).map zeroOf⟩) := by unfold Hid freshA; rw [Int.toNat_natCast, arr_text hla, List.map_replicate]
          have HTh := Lib.hid (arr_thing (cs := allC l) hla hel hdl hr m)
          have HTy := Lib.hid (arr_types (cs := allC l) hla hel m)
          clear hF HF hr hel hdl hn
          go_enter Tryz.func22, Tryz.ntmps22
          go_upto_region 11 with (first
        | (go_at_call 38; (with_reducible refine (HRd.out _ HBq.out).mono ?_); rintro e w2 ⟨hB2, ⟨_, w0, B, rfl, hm⟩ | ⟨hz, v, rfl⟩⟩; rotate_left; (exact absurd HZ.out hz); (have kR2 := KR.out.step hB2); (have kH2 := KH.out.step hB2))
        | (go_at_call 39; (with_reducible refine (HD.out _).mono ?_); rintro e w3 ⟨rfl, hB3⟩; (have hm3 := hm.step hB3); (have kR3 := kR2.step hB3); (have kH3 := kH2.step hB3))
        | (go_at_call 40; (with_reducible refine (HKi.out _ _ _ hm3).mono ?_); rintro e w4 ⟨rfl, hB4⟩; (have hm4 := hm3.step hB4); (have kR4 := kR3.step hB4); (have kH4 := kH3.step hB4); (have e0 : w4.cell? ⟨w.heap.size + 1, 0, none⟩ = some (.slice none 0 0) := kR4.cell 0); (have e1 := kR4.frozen 0)))
          have hBw := below_call (below_call (below_call HBq.out (Nat.le_refl _) hB2) (Nat.le_refl _) hB3) (Nat.le_refl _) hB4
          have hBd := (Below.refl w4.heap.size w4).drew
          have hBm := hBd.alloc hBd.size (.cells (Array.replicate (m * 2) (Value.int .i64 0)) 27)
          have c0 : w4.cell? ⟨w.heap.size, 0, none⟩ = some (.slice ph h.length kh) := kH4.cell 0
          have hlt4 := kR4.lt
          have hHas : ∀ x ∈ h, x.has.length ≤ 4194304 := fun x hx => has_small hm4.right hm4.faults (HFo.out.2.1 x hx)
          have HCp : Hid (∀ wx, Below w4.heap.size w4 wx → Calls Tryz.prog 51 #[.agg #[.slice ph h.length kh]] wx fun e w' => CopyPost wx h e w' ∧ w'.cell? ⟨w.heap.size, 0, none⟩ = some (.slice ph h.length kh)) := fun wx hb =>
            (copy_any wx h (.slice ph h.length kh) (HT.out wx (below_call hBw (Nat.le_refl _) hb)) hHas HFo.out.1).mono fun e w' hp => ⟨hp, ((below_call hb (Nat.le_refl _) hp.2).cell (p := ⟨w.heap.size, 0, none⟩) (hcells_lt c0)).trans c0⟩
          have HMo : Hid (∀ wx v ps xp xk, Below w4.heap.size w4 wx → ps.map (·.1) = h → ArrOk w4.heap.size wx v ps xp m xk → Calls Tryz.prog 50 #[.map (some B), .agg #[v], .agg #[.string ak, .slice xp m xk]] wx fun e w' =>
              ∃ pa na ca nn ee, e = .returned (.tuple #[.agg #[.slice pa na ca], .int .i64 nn, ee]) ∧ MorePost w4.heap.size wx h ak (List.replicate m k) (.returned (.tuple #[.agg #[.slice pa na ca], .int .i64 nn, ee])) w' ∧ w'.cell? ⟨w.heap.size, 0, none⟩ = some (.slice ph h.length kh) ∧ w'.cell? ⟨w.heap.size + 1, 0, none⟩ = some (.slice none 0 0) ∧ w'.frozen? ⟨w.heap.size + 1, 0, none⟩ = false) := fun wx v ps xp xk hb hps hok =>
            (more_any w0 wx B l (hm4.step hb) w4.heap.size hok.1 v h ps hps hok.2.1 hok.2.2.1 ak (.ar el) xp xk m hok.2.2.2.1 hok.2.2.2.2 HTh.out hka (fun _ _ => hm10) _ HTy.out (by simp)).mono fun e w' hp => by
              have k1 := (kR4.step hb).stepB hp.1 hlt4
              have k2 := (kH4.step hb).stepB hp.1 (Nat.lt_of_succ_lt hlt4)
              have hp2 := hp
              rcases hp with ⟨hB5, ⟨h50, rfl⟩ | ⟨h50, v5, ps5, rfl, hps5, hrow5, hhas5⟩⟩
              · exact ⟨_, _, _, _, _, rfl, hp2, k2.cell 0, k1.cell 0, k1.frozen 0⟩
              · obtain ⟨pb, kb, rfl⟩ := ownsRow_shape hrow5
                exact ⟨_, _, _, _, _, rfl, hp2, k2.cell 0, k1.cell 0, k1.frozen 0⟩
          have hm16 : m ≤ 16777216 := by omega
          have hne1 : ¬ w.heap.size = w.heap.size + 1 := by omega
          have hne2 : ¬ w.heap.size + 1 = w.heap.size := by omega
          go_region_held3 (fun w' => w'.cell? ⟨w.heap.size, 0, none⟩ = some (.slice ph h.length kh)) (go_keep)
            (first
              | (go_at_call 51; refine (HCp.out _ ?_).mono ?_; (first | exact hBd | exact hBm); rintro e w5 ⟨⟨⟨v3, ps, rfl, hps, hrow, hhas⟩, hB5⟩, d0⟩; obtain ⟨pa, ka, rfl⟩ := ownsRow_shape hrow; (have hB45 : Below w4.heap.size w4 w5 := by first | exact below_call hBd (Nat.le_refl _) hB5 | exact below_call hBm (Nat.le_refl _) hB5))
              | (go_at_call 50; refine (HMo.out _ _ ps _ _ ?_ hps ?_).mono ?_; (first | exact hB45 | exact hB45.alloc hB45.size _); (first | exact arr_first (w2 := w4.drew) hm16 hrow hhas hB5 | exact arr_second (w2 := w4.drew) hm16 hrow hhas hB5); rintro e w6 ⟨pb, nb, kb, nn, ee, rfl, hmp, f0, f1, f2⟩))
          all_goals
            have hfin := make_end hmp (below_call hBw (Nat.le_refl _) (by first | exact hB45 | exact hB45.alloc hB45.size _)) hlt4 (show w.heap.size ≤ w.heap.size + 1 by omega) HF2.out HX.out
            clear hmp hB45 hrow hhas hB5 HCp HMo hmk hBm hBd
            go_wp2_with (first | fail)
            exact bodyPost_ret (v := .tuple #[.agg #[.slice pb nb kb], .int .i64 nn, ee]) (by simp [results, Tryz.results22, go_sem, *]) rfl hfin
      · rw [if_pos hr] at hF
        have HF2 := Lib.hid hF
        rcases errV_cases (kindR (allC l) k) with ⟨_, hz⟩ | ⟨he, _⟩
        · exact absurd hz hr
        rw [he] at HKi
        have HR := Lib.hid hr
        clear hF HF hr hel hdl he
        generalize kindR (allC l) k = f at *
        go_enter Tryz.func22, Tryz.ntmps22
        go_wp2_with (first
        | (go_at_call 38; (with_reducible refine (HRd.out _ HBq.out).mono ?_); rintro e w2 ⟨hB2, ⟨_, w0, B, rfl, hm⟩ | ⟨hz, v, rfl⟩⟩; rotate_left; (exact absurd HZ.out hz); (have kR2 := KR.out.step hB2); (have kH2 := KH.out.step hB2))
        | (go_at_call 39; (with_reducible refine (HD.out _).mono ?_); rintro e w3 ⟨rfl, hB3⟩; (have hm3 := hm.step hB3); (have kR3 := kR2.step hB3); (have kH3 := kH2.step hB3))
        | (go_at_call 40; (with_reducible refine (HKi.out _ _ _ hm3).mono ?_); rintro e w4 ⟨rfl, hB4⟩; (have hm4 := hm3.step hB4); (have kR4 := kR3.step hB4); (have kH4 := kH3.step hB4); (have e0 : w4.cell? ⟨w.heap.size + 1, 0, none⟩ = some (.slice none 0 0) := kR4.cell 0); (have e1 := kR4.frozen 0)))
        exact bodyPost_ret (v := .tuple #[.agg #[.slice none 0 0], .int .i64 0, .iface 35 (.int .i64 f)]) (by simp [results, Tryz.results22, go_sem, *]) rfl (make_no ((below_call (below_call (below_call HBq.out (Nat.le_refl _) hB2) (Nat.le_refl _) hB3) (Nat.le_refl _) hB4).setCell (p := ⟨w.heap.size + 1, 0, none⟩) (by show w.heap.size ≤ w.heap.size + 1; omega) _) HF2.out HR.out)
  · have hF : arrR l h k n = heapFault l h := by unfold arrR; rw [if_pos hf]
    have HF := Lib.hid hF
    have HZ := Lib.hid hf
    clear hF hf HKi
    go_enter Tryz.func22, Tryz.ntmps22
    go_wp2_with (go_at_call 38; (with_reducible refine (HRd.out _ HBq.out).mono ?_); rintro e w2 ⟨hB2, ⟨hz, _⟩ | ⟨_, v, rfl⟩⟩; (exact absurd hz HZ.out); (have kR2 := KR.out.step hB2); (have e0 : w2.cell? ⟨w.heap.size + 1, 0, none⟩ = some (.slice none 0 0) := kR2.cell 0); (have e1 := kR2.frozen 0))
    exact bodyPost_ret (v := .tuple #[.agg #[.slice none 0 0], .int .i64 0, .iface 35 (.int .i64 (heapFault l h))]) (by simp [results, Tryz.results22, go_sem, *]) rfl (make_no ((below_call HBq.out (Nat.le_refl _) hB2).setCell (p := ⟨w.heap.size + 1, 0, none⟩) (by show w.heap.size ≤ w.heap.size + 1; omega) _) HF.out HZ.out)
end Go.Proofs.YtbakcdgjibmceaaGreatDoor
