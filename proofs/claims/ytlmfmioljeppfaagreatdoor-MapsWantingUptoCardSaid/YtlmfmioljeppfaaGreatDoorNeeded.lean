/-
  PLAIN LAW for MapsSound: what accepted maps say of the least frames. No program in sight.
  PLAIN LAW for MapsEnough, MapsWanting: the least frames where they are needed. No program in sight.
  WALK over the law's needed. Conditions: few maps, few numbers.
-/
import Derived.Test.YtlmfmioljeppfaaGreatDoorAcceptLaw
import Derived.Test.YtlmfmioljeppfaaGreatDoorMethodMaps
import Derived.Test.YtlmfmioljeppfaaGreatDoorNeeds
namespace Go.Proofs.YtlmfmioljeppfaaGreatDoor
open Go.RowKit Go.Shelf Go.Lib
theorem methGood_one {m : Method} {args args' : List Str} {g g' : Str} {many many' : Nat} (h : MethGood m args g many) (k : MethGood m args' g' many') : args' = args ∧ g' = g ∧ many' = many := by
  have e1 := h.type
  rw [k.type] at e1
  injection e1 with e1
  injection e1 with e1 e2
  have e3 : (many' : Int) = (many : Int) := k.locals.symm.trans h.locals
  exact ⟨e1, e2, by omega⟩
theorem acceptIs_one {l : List Class} {cls : Str} {at' : Int} {xs : List (Int × Frm)} {n n' : Nat} (h : AcceptIs l cls at' xs n) (k : AcceptIs l cls at' xs n') : n = n' := by
  rcases h with ⟨h0, h1⟩ | ⟨h0, m, args, g, many, h1, _, h3, h4⟩
  · rcases k with ⟨_, k1⟩ | ⟨k0, _⟩
    · rw [h1, k1]
    · exact absurd k0 h0
  · rcases k with ⟨k0, _⟩ | ⟨_, m', args', g', many', k1, _, k3, k4⟩
    · exact absurd h0 k0
    · rw [h1] at k1
      obtain rfl := Option.some.inj k1
      obtain ⟨rfl, rfl, rfl⟩ := methGood_one h3 k3
      rw [h4, k4]
theorem named_read {l : List Class} {cls : Str} {at' : Int} (hz : namedN l cls at' = 0) : readFault l = 0 := by
  unfold namedN at hz
  split at hz
  · rename_i h0; exact absurd hz h0
  · rename_i h0; exact Decidable.not_not.1 h0
end Go.Proofs.YtlmfmioljeppfaaGreatDoor
namespace Go.Proofs.YtlmfmioljeppfaaGreatDoor
open Go.RowKit Go.Shelf Go.Lib
theorem checkIs_one {l : List Class} (hcf : readFault l = 0 → ∀ c ∈ l, classFault c = 0) {cls : Str} {at' : Int} {n n' : Nat} {F F' : Option (Method × Asg Frm)} (h : CheckIs l cls at' n F) (k : CheckIs l cls at' n' F') : n = n' ∧ F = F' := by
  rcases h with ⟨h0, rfl, rfl⟩ | ⟨h0, m, args, g, many, h1, _, h3, G, h4, h5⟩
  · rcases k with ⟨_, rfl, rfl⟩ | ⟨k0, _⟩
    · exact ⟨rfl, rfl⟩
    · exact absurd k0 h0
  · rcases k with ⟨k0, _⟩ | ⟨_, m', args', g', many', k1, _, k3, G', k4, k5⟩
    · exact absurd h0 k0
    · rw [h1] at k1
      obtain rfl := Option.some.inj k1
      obtain ⟨rfl, rfl, rfl⟩ := methGood_one h3 k3
      have hz := named_read h0
      obtain rfl := methodFrames_one (right_of hz) (hcf hz) h3.code h3.hands (firstL_len h3) h4 k4
      cases G with
      | none =>
        obtain ⟨rfl, rfl⟩ := h5
        obtain ⟨rfl, rfl⟩ := k5
        exact ⟨rfl, rfl⟩
      | some A =>
        obtain ⟨rfl, rfl⟩ := h5
        obtain ⟨rfl, rfl⟩ := k5
        exact ⟨rfl, rfl⟩
theorem handEdges_mem {cs : List Class} {at' : Nat} {f : Frm} : ∀ {hs : List Handler} {t : List (Nat × Frm)}, handEdges cs at' f hs = some t → ∀ h ∈ hs, h.lo ≤ (at' : Int) → (at' : Int) < h.hi → ∃ q ∈ t, q.1 = h.dest.toNat
  | [], _, _, h, hh, _, _ => by cases hh
  | x :: r, t, e, h, hh, h1, h2 => by
    unfold handEdges at e
    split at e
    · split at e
      · obtain ⟨t', e', rfl⟩ := map_spec e
        rcases List.mem_cons.1 hh with rfl | hh
        · exact ⟨_, List.mem_cons_self .., rfl⟩
        · obtain ⟨q, hq, k⟩ := handEdges_mem e' h hh h1 h2
          exact ⟨q, List.mem_cons_of_mem _ hq, k⟩
      · cases e
    · rename_i hc
      rcases List.mem_cons.1 hh with rfl | hh
      · exact absurd ⟨h1, h2⟩ hc
      · exact handEdges_mem e h hh h1 h2
theorem jump_next {x : Ins} {i : Nat} (hj : jumpsB x.op = true) (h0 : 0 ≤ x.a) : x.a.toNat ∈ nextL x i := by
  unfold nextL
  by_cases hc1 : (x.op == 14 || x.a != (i : Int) + 1) = true
  · rw [hj, hc1]
    exact List.mem_append_right _ (List.mem_singleton.2 rfl)
  · have hc2 : (x.op == 14) = false ∧ (x.a != (i : Int) + 1) = false := by
      cases h1 : (x.op == 14) <;> cases h2 : (x.a != (i : Int) + 1) <;> simp_all
    have hxa : x.a = (i : Int) + 1 := by simpa using hc2.2
    have he : endsB x.op = false := by
      have h14 : x.op ≠ 14 := by simpa using hc2.1
      unfold jumpsB at hj
      unfold endsB
      have hop : x.op = 12 ∨ x.op = 13 ∨ x.op = 14 := by simpa [or_assoc] using hj
      rcases hop with h | h | h
      · rw [h]; decide
      · rw [h]; decide
      · exact absurd h h14
    rw [he, if_neg (by decide)]
    exact List.mem_append_left _ (List.mem_singleton.2 (by have := h0; omega))
theorem closed_needs {cs : List Class} {cls g : Str} {m : Method} {start : Frm} {A : Asg Frm} (hc : CodeOk m.code) (hA : (checkW cs cls g m start).Closed A) {p : Nat} (h : NeedP m A p) : (A p).isSome = true := by
  obtain ⟨i, hi, hp⟩ := h
  obtain ⟨f, hf⟩ := Option.isSome_iff_exists.1 hi
  have hin : i < m.code.length := (hA.1 i f hf).1
  obtain ⟨x, hx⟩ : ∃ x, m.code[i]? = some x := ⟨m.code[i], by simp [hin]⟩
  obtain ⟨lb, hb, hsat⟩ := hA.2.1 i f hf
  have hb : edgesF cs cls g m i f = some lb := hb
  unfold edgesF at hb
  obtain ⟨tb, b1, b2⟩ := bind_spec hb
  obtain ⟨sb, b3, rfl⟩ := map_spec b2
  unfold stepEdges at b3
  rw [hx] at b3
  dsimp only at b3
  obtain ⟨q, _, rfl⟩ := map_spec b3
  unfold placeNeeds at hp
  rw [hx] at hp
  dsimp only at hp
  rcases List.mem_append.1 hp with hp | hp
  · split at hp
    · rename_i hj
      rw [List.mem_singleton.1 hp]
      obtain ⟨h, e, _⟩ := hsat (x.a.toNat, ⟨q.1, q.2⟩) (List.mem_append_right _ (List.mem_map.2 ⟨_, jump_next hj (hc.jumps x (List.mem_of_getElem? hx) hj).1, rfl⟩))
      dsimp only at e
      rw [e]; rfl
    · cases hp
  · obtain ⟨y, hy, rfl⟩ := List.mem_map.1 hp
    rw [List.mem_filter, Bool.and_eq_true, decide_eq_true_eq, decide_eq_true_eq] at hy
    obtain ⟨r, hr, e⟩ := handEdges_mem b1 y hy.1 hy.2.1 hy.2.2
    obtain ⟨h, e2, _⟩ := hsat r (List.mem_append_left _ hr)
    rw [e] at e2
    rw [e2]; rfl
def mapsN (xs : List (Nat × Frm)) : List (Int × Frm) := xs.map fun p => ((p.1 : Int), p.2)
def neededL (xs : List (Nat × Frm)) (ns : List Int) : List (Nat × Frm) := xs.flatMap fun p => (ns.filter fun x => x == (p.1 : Int)).map fun _ => p
theorem filter_one {a : Int} : ∀ {ns : List Int}, ns.Pairwise (· < ·) → ns.filter (fun x => x == a) = if a ∈ ns then [a] else []
  | [], _ => rfl
  | y :: r, h => by
    obtain ⟨h1, h2⟩ := List.pairwise_cons.1 h
    rw [List.filter_cons, filter_one h2]
    by_cases e : y = a
    · subst e
      have hn : y ∉ r := fun hm => absurd (h1 y hm) (by omega)
      rw [if_neg hn, if_pos (List.mem_cons_self ..), if_pos (beq_self_eq_true y)]
    · have h3 : (a ∈ y :: r) = (a ∈ r) := by
        apply propext
        rw [List.mem_cons]
        exact ⟨fun k => k.resolve_left fun k => e k.symm, Or.inr⟩
      rw [if_neg (by simpa using e)]
      simp only [h3]
theorem neededL_filter {ns : List Int} (h : ns.Pairwise (· < ·)) : ∀ xs : List (Nat × Frm), neededL xs ns = xs.filter fun p => decide ((p.1 : Int) ∈ ns)
  | [] => rfl
  | p :: r => by
    have ih := neededL_filter h r
    unfold neededL at ih ⊢
    rw [List.flatMap_cons, ih, filter_one h, List.filter_cons]
    by_cases hm : (p.1 : Int) ∈ ns
    · rw [if_pos hm, decide_eq_true hm]; rfl
    · rw [if_neg hm, decide_eq_false hm]; rfl
theorem mapsN_fault {cs : List Class} {n : Nat} : ∀ {ys : List (Nat × Frm)} {p : Int}, (ys.Pairwise fun a b => a.1 < b.1) → (∀ y ∈ ys, p < (y.1 : Int) ∧ y.1 < n ∧ frameR cs y.2 = 0) → mapsFault cs n p (mapsN ys) = 0
  | [], _, _, _ => rfl
  | y :: r, p, h, k => by
    obtain ⟨h1, h2⟩ := List.pairwise_cons.1 h
    obtain ⟨k1, k2, k3⟩ := k y (List.mem_cons_self ..)
    unfold mapsN
    rw [List.map_cons]
    unfold mapsFault
    dsimp only
    rw [if_neg (by omega), if_neg (by rw [k3]; decide)]
    exact mapsN_fault h2 fun z hz => by
      obtain ⟨_, z2, z3⟩ := k z (List.mem_cons_of_mem _ hz)
      have := h1 z hz
      exact ⟨by omega, z2, z3⟩
theorem accept_of {l : List Class} {cls : Str} {at' : Int} {m : Method} {args : List Str} {g : Str} {many : Nat} {A : Asg Frm} (hcf : readFault l = 0 → ∀ c ∈ l, classFault c = 0) (h0 : namedN l cls at' = 0) (h1 : namedM cls at' l = some m) (h2 : m.abs = false) (h3 : MethGood m args g many)
    (h4 : startB (allC l) (firstL cls m.static args many) g = true) (h5 : (checkW (allC l) cls g m ⟨firstL cls m.static args many, []⟩).Least A) {ns : List Int} :
    ((∀ p, NeedP m A p → (p : Int) ∈ ns) → AcceptIs l cls at' (mapsN ((mapsL A m.code.length).filter fun p => decide ((p.1 : Int) ∈ ns))) 0) ∧ ((∃ p, NeedP m A p ∧ (p : Int) ∉ ns) → AcceptIs l cls at' (mapsN ((mapsL A m.code.length).filter fun p => decide ((p.1 : Int) ∈ ns))) 7) := by
  have hz := named_read h0
  have hst := startB_frame (firstL_len h3) h4
  have hco := codeOk_of h3.code
  generalize hys : (mapsL A m.code.length).filter (fun p => decide ((p.1 : Int) ∈ ns)) = ys
  have hmem : ∀ i f, (i, f) ∈ ys ↔ (i < m.code.length ∧ A i = some f) ∧ (i : Int) ∈ ns := fun i f => by
    rw [← hys, List.mem_filter, mapsL_mem, decide_eq_true_eq]
  have hpw : ys.Pairwise fun a b => a.1 < b.1 := by
    rw [← hys]
    exact mapsL_lt.sublist List.filter_sublist
  have hlen : ys.length ≤ 40 := by
    have := mapsL_len A m.code.length
    have := hco.small
    have h := List.length_filter_le (fun p : Nat × Frm => decide ((p.1 : Int) ∈ ns)) (mapsL A m.code.length)
    rw [hys] at h
    omega
  have hmf : mapsFault (allC l) m.code.length (-1) (mapsN ys) = 0 := mapsN_fault hpw fun y hy => by
    obtain ⟨⟨k1, k2⟩, _⟩ := (hmem y.1 y.2).1 hy
    exact ⟨by omega, k1, (h5.1.1 _ _ k2).2⟩
  have hM : ∀ i f, asgL (mapsN ys) (fun _ => none) i = some f ↔ A i = some f ∧ (i : Int) ∈ ns := fun i f => by
    rw [asgL_spec hmf]
    unfold mapsN
    rw [List.mem_map]
    constructor
    · rintro ⟨⟨k, f'⟩, hk, e⟩
      injection e with e1 e2
      have e1 : k = i := by have e1 : (k : Int) = (i : Int) := e1; omega
      subst e1 e2
      obtain ⟨⟨_, k2⟩, k3⟩ := (hmem _ _).1 hk
      exact ⟨k2, k3⟩
    · rintro ⟨k2, k3⟩
      exact ⟨(i, f), (hmem i f).2 ⟨⟨(h5.1.1 i f k2).1, k2⟩, k3⟩, rfl⟩
  have hN : ∀ n, n = (if walkB (allC l) cls g m (asgL (mapsN ys) fun _ => none) (firstL cls m.static args many) then 0 else 7) → AcceptIs l cls at' (mapsN ys) n := fun n hn => by
    refine Or.inr ⟨h0, m, args, g, many, h1, h2, h3, ?_⟩
    unfold acceptN
    rw [if_neg (by unfold mapsN; rw [List.length_map]; omega), if_neg (by rw [hmf]; decide)]
    exact hn
  constructor
  · intro hn
    refine hN 0 ?_
    have hw := walk_enough (right_of hz) (hcf hz) h3.code h3.hands hst h5.1 (M := asgL (mapsN ys) fun _ => none) (fun i f e => ((hM i f).1 e).1) (needs_iff.2 fun p hp _ => by
      obtain ⟨f, hf⟩ := Option.isSome_iff_exists.1 (closed_needs hco h5.1 hp)
      rw [(hM p f).2 ⟨hf, hn p hp⟩]; rfl)
    unfold walkB
    rw [h4, hw]; rfl
  · rintro ⟨p, hp, hpn⟩
    refine hN 7 ?_
    have hw := walk_wanting (right_of hz) (hcf hz) h3.code h3.hands hst (M := asgL (mapsN ys) fun _ => none) (fun i f e => (h5.1.1 i f ((hM i f).1 e).1).2) h5 (fun hn => by
      obtain ⟨i, hi, hpi⟩ := hp
      obtain ⟨f, hf⟩ := Option.isSome_iff_exists.1 hi
      have hin : i < m.code.length := (h5.1.1 i f hf).1
      have := needs_iff.1 hn p ⟨i, hi, hpi⟩ ⟨i, f, m.code[i], hf, by simp [hin], hpi⟩
      obtain ⟨q, hq⟩ := Option.isSome_iff_exists.1 this
      exact hpn ((hM p q).1 hq).2)
    unfold walkB
    rw [h4, hw]; rfl
theorem enough_law {l : List Class} {cls : Str} {at' : Int} (hcf : readFault l = 0 → ∀ c ∈ l, classFault c = 0) {m : Method} {A : Asg Frm} (h : CheckIs l cls at' 0 (some (m, A))) {ns : List Int} (hn : NeedL m A ns) :
    AcceptIs l cls at' (mapsN (neededL (mapsL A m.code.length) ns)) 0 ∧ AcceptIs l cls at' (mapsN (mapsL A m.code.length)) 0 ∧ ∀ k, k < ns.length → AcceptIs l cls at' (mapsN (neededL (mapsL A m.code.length) (ns.eraseIdx k))) 7 := by
  rcases h with ⟨_, _, h⟩ | ⟨h0, m', args, g, many, h1, h2, h3, G, h4, h5⟩
  · cases h
  · cases G with
    | none => cases h5.2
    | some A' =>
      obtain ⟨_, h5⟩ := h5
      injection h5 with h5
      injection h5 with e1 e2
      subst e1 e2
      have key := fun ns' => accept_of hcf h0 h1 h2 h3 h4.1 h4.2 (ns := ns')
      refine ⟨?_, ?_, fun k hk => ?_⟩
      · rw [neededL_filter hn.1]
        exact (key ns).1 fun p hp => (hn.2 p).2 ⟨p, rfl, hp⟩
      · have := (key ((mapsL A m.code.length).map fun p => (p.1 : Int))).1 fun p hp => by
          obtain ⟨f, hf⟩ := Option.isSome_iff_exists.1 (closed_needs (codeOk_of h3.code) h4.2.1 hp)
          exact List.mem_map.2 ⟨(p, f), mapsL_mem.2 ⟨(h4.2.1.1 p f hf).1, hf⟩, rfl⟩
        rwa [List.filter_eq_self.2 fun p hp => decide_eq_true (List.mem_map.2 ⟨p, hp, rfl⟩)] at this
      · rw [neededL_filter (hn.1.sublist (List.eraseIdx_sublist _ _))]
        refine (key _).2 ?_
        obtain ⟨p, hp1, hp2⟩ := (hn.2 ns[k]).1 (List.getElem_mem hk)
        refine ⟨p, hp2, fun hm => ?_⟩
        rw [← hp1, List.mem_eraseIdx_iff_getElem] at hm
        obtain ⟨j, hj, hne, e⟩ := hm
        rcases Nat.lt_or_ge j k with hlt | hge
        · have := List.pairwise_iff_getElem.1 hn.1 j k hj hk hlt
          omega
        · have := List.pairwise_iff_getElem.1 hn.1 k j hk hj (by omega)
          omega
end Go.Proofs.YtlmfmioljeppfaaGreatDoor
namespace Go.Proofs.YtlmfmioljeppfaaGreatDoor
open Go.RowKit Go.Shelf Go.Lib
theorem needL_len {cs : List Class} {cls g : Str} {m : Method} {start : Frm} {A : Asg Frm} (hc : CodeOk m.code) (hA : (checkW cs cls g m start).Closed A) {ns : List Int} (h : NeedL m A ns) : ns.length ≤ 40 := by
  have h1 := nodup_le m.code.length (ns.map Int.toNat) (by
    refine List.pairwise_map.2 (h.1.imp_of_mem fun ha hb hlt => ?_)
    obtain ⟨p, rfl, _⟩ := (h.2 _).1 ha
    obtain ⟨q, rfl, _⟩ := (h.2 _).1 hb
    simp
    omega) fun x hx => by
      obtain ⟨y, hy, rfl⟩ := List.mem_map.1 hx
      obtain ⟨p, rfl, hp⟩ := (h.2 _).1 hy
      obtain ⟨f, hf⟩ := Option.isSome_iff_exists.1 (closed_needs hc hA hp)
      rw [Int.toNat_natCast]
      exact (hA.1 p f hf).1
  rw [List.length_map] at h1
  have := hc.small
  omega
theorem neededL_snoc {xs : List (Nat × Frm)} {ns : List Int} {j : Nat} {x : Nat × Frm} (hx : xs[j]? = some x) : neededL (xs.take (j + 1)) ns = neededL (xs.take j) ns ++ (ns.filter fun y => y == (x.1 : Int)).map fun _ => x := by
  unfold neededL
  rw [List.take_add_one, hx, List.flatMap_append]
  simp
theorem neededL_len (xs : List (Nat × Frm)) (ns : List Int) : (neededL xs ns).length ≤ xs.length * ns.length := by
  induction xs with
  | nil => simp [neededL]
  | cons x r ih =>
    unfold neededL at ih ⊢
    rw [List.flatMap_cons, List.length_append, List.length_map, List.length_cons, Nat.succ_mul]
    have := List.length_filter_le (fun y : Int => y == (x.1 : Int)) ns
    omega
def NeededPost (w : World) (xs : List (Nat × Frm)) (ns : List Int) (e : Ending) (w' : World) : Prop := Below w.heap.size w w' ∧ ∃ v, e = .returned v ∧ MapsAt w' v (neededL xs ns)
set_option maxHeartbeats 4000000 in
set_option maxRecDepth 100000 in
theorem needed_any (xs : List (Nat × Frm)) (ns : List Int) (xv nv : Value) (w : World) (hx : MapsAt w xv xs) (hn : IntsAt w nv ns) (hxl : xs.length ≤ 40) (hnl : ns.length ≤ 40) :
    Calls Tryz.prog 35 #[xv, nv] w (NeededPost w xs ns) := by
  have HA : Hid (∀ (wx : World) (o : Obj), Below wx.heap.size wx (wx.alloc o)) := fun wx o => (Below.refl _ _).alloc (Nat.le_refl _) o
  obtain ⟨px, kx, rfl, hx1, hx2, hxc⟩ := hx.open
  obtain ⟨pn, kn, rfl, hn1, hn2, hnc⟩ := hn.open
  have HXc := Lib.hid hxc
  have HNc := Lib.hid hnc
  clear hx hn hxc hnc hx1 hx2 hn1 hn2
  go_enter Tryz.func35, Tryz.ntmps35
  go_wp2_with (first | fail)
  go_loopw [5, 6] (fun v x wr => ∃ (j : Nat) (ys : List Value), j ≤ xs.length ∧ x = .int .i64 j ∧ Hid (Below w.heap.size w wr) ∧ Hid (MRow wr w.heap.size v (neededL (xs.take j) ns).length ys) ∧ Hid (MapVals wr (neededL (xs.take j) ns) ys)) (fun _ x _ => xs.length - (intOf x).toNat)
  case atStart => exact ⟨0, [], Nat.zero_le _, rfl, Below.refl _ _, MRow.empty _ _, rfl⟩
  case round =>
    obtain ⟨j, ys, hj, rfl, hB, hR, hV⟩ := hrel
    obtain ⟨va, vc, rfl⟩ := hR.out.shape
    by_cases hjl : j < xs.length
    · obtain ⟨⟨i, f⟩, hxj⟩ : ∃ x, xs[j]? = some x := ⟨xs[j], by simp [hjl]⟩
      obtain ⟨b, o, vs, rfl, ⟨lv, sv, rfl, hf⟩, _, hcells⟩ := HXc.out j _ hxj
      have HCe := Lib.hid hcells
      have HFe := Lib.hid hf
      have Hsn := Lib.hid (neededL_snoc (ns := ns) hxj)
      have hTl : (neededL (xs.take j) ns).length ≤ 1600 := by
        have h1 := neededL_len (xs.take j) ns
        have h2 : (xs.take j).length ≤ 40 := by rw [List.length_take]; omega
        have h3 : (xs.take j).length * ns.length ≤ 40 * 40 := Nat.mul_le_mul h2 hnl
        omega
      generalize neededL (xs.take j) ns = T at *
      have hjI : (j : Int) < (xs.length : Int) := by omega
      have hj0 : (0 : Int) ≤ (j : Int) := Int.natCast_nonneg _
      clear hxj hcells hf
      go_wp2_with (first | fail)
      go_loopw [5, 7] (fun v x wr => ∃ (k : Nat) (zs : List Value), k ≤ ns.length ∧ x = .int .i64 k ∧ Hid (Below w.heap.size w wr) ∧ Hid (MRow wr w.heap.size v (T ++ ((ns.take k).filter fun y => y == (i : Int)).map fun _ => (i, f)).length zs) ∧ Hid (MapVals wr (T ++ ((ns.take k).filter fun y => y == (i : Int)).map fun _ => (i, f)) zs)) (fun _ x _ => ns.length - (intOf x).toNat)
      case atStart => exact ⟨0, ys, Nat.zero_le _, rfl, hB.out, by unfold Hid; simpa using hR.out, by unfold Hid; simpa using hV.out⟩
      case round =>
        obtain ⟨k, zs, hk, rfl, hBk, hRk, hVk⟩ := hrel
        obtain ⟨va2, vc2, rfl⟩ := hRk.out.shape
        by_cases hkl : k < ns.length
        · obtain ⟨y, hy⟩ : ∃ x, ns[k]? = some x := ⟨ns[k], by simp [hkl]⟩
          obtain ⟨b2, o2, vs, rfl, hyv, _, hc2⟩ := HNc.out k _ hy
          unfold IntCells at hyv
          subst hyv
          have hc2 := hc2.mono hBk.out hc2.lt
          have hcells := HCe.out.mono hBk.out HCe.out.lt
          obtain ⟨d0, _⟩ := hc2
          rw [Nat.mul_one] at d0
          obtain ⟨c0, c1, c2, _⟩ := hcells
          replace c0 : wr.cell? ⟨b, o + j * 3, none⟩ = some (.int .i64 (i : Int)) := c0
          have hkI : (k : Int) < (ns.length : Int) := by omega
          have hk0 : (0 : Int) ≤ (k : Int) := Int.natCast_nonneg _
          have hsn : ((ns.take (k + 1)).filter fun y => y == (i : Int)) = ((ns.take k).filter fun y => y == (i : Int)) ++ (if (y == (i : Int)) = true then [y] else []) := by
            rw [List.take_add_one, hy, List.filter_append]
            congr 1
            cases hc : (y == (i : Int)) <;> simp [hc]
          have hT2l : (T ++ ((ns.take k).filter fun y => y == (i : Int)).map (fun _ => (i, f))).length ≤ 1640 := by
            rw [List.length_append, List.length_map]
            have h1 := List.length_filter_le (fun y : Int => y == (i : Int)) (ns.take k)
            rw [List.length_take] at h1
            omega
          have Hsn2 : Hid (T ++ ((ns.take (k + 1)).filter fun y => y == (i : Int)).map (fun _ => (i, f)) = if (y == (i : Int)) = true then (T ++ ((ns.take k).filter fun y => y == (i : Int)).map (fun _ => (i, f))) ++ [(i, f)] else T ++ ((ns.take k).filter fun y => y == (i : Int)).map (fun _ => (i, f))) := by
            unfold Hid
            rw [hsn, List.map_append, ← List.append_assoc]
            cases y == (i : Int) <;> simp
          generalize T ++ ((ns.take k).filter fun y => y == (i : Int)).map (fun _ => (i, f)) = T2 at *
          have Hf := Lib.hid (HFe.out.mono hBk.out)
          clear hsn hy
          by_cases hyi : y = (i : Int)
          · subst hyi
            have hT3 : Hid (T ++ ((ns.take (k + 1)).filter fun y => y == (i : Int)).map (fun _ => (i, f)) = T2 ++ [(i, f)]) := by
              have := Hsn2.out
              rw [if_pos (beq_self_eq_true _)] at this
              exact this
            obtain ⟨⟨p1, n1, rfl, hz1⟩, ⟨p2, n2, rfl, hz2⟩⟩ := And.intro Hf.out.1.open Hf.out.2.open
            have Ba := fun q => HA.out (wr.drewN q) (.cells #[.int .i64 (i : Int), .slice p1 f.locals.length n1, .slice p2 f.stack.length n2] 62)
            have Bq := fun q => below_call (below_drewN (Below.refl wr.heap.size wr) q) (Nat.le_refl _) (Ba q)
            have HV8 := Lib.hid (fun q => hVk.out.keepS (KeepS.below (Bq q)))
            have Hv8 := Lib.hid (fun q => Hf.out.mono (Bq q))
            have HB8 := Lib.hid (fun q => below_call hBk.out (Nat.le_refl _) (Bq q))
            have HR8 := Lib.hid (fun q => hRk.out.below (Bq q))
            have hbs : ∀ q, w.heap.size ≤ ((wr.drewN q).alloc (.cells #[.int .i64 (i : Int), .slice p1 f.locals.length n1, .slice p2 f.stack.length n2] 62)).heap.size := fun q => (HB8.out q).size
            have hone : ∀ u ∈ [Value.int .i64 (i : Int), .slice p1 f.locals.length n1, .slice p2 f.stack.length n2], u.oneCell' = true := fun u hu => by
              simp at hu
              rcases hu with rfl | rfl | rfl <;> rfl
            have hcel : ∀ (q k : Nat) (u : Value), [Value.int .i64 (i : Int), .slice p1 f.locals.length n1, .slice p2 f.stack.length n2][k]? = some u → ((wr.drewN q).alloc (.cells #[.int .i64 (i : Int), .slice p1 f.locals.length n1, .slice p2 f.stack.length n2] 62)).cell? ((⟨wr.heap.size, 0, none⟩ : Addr).add k) = some u := fun q k u hu => by
              rw [add_eq' rfl, Nat.zero_add]
              exact ((Blk.new (wr.drewN q) 62 [Value.int .i64 (i : Int), .slice p1 f.locals.length n1, .slice p2 f.stack.length n2]).cell k).trans hu
            have h63 : T2.length + 1 ≤ maxLen := by unfold maxLen; omega
            have h56 : (T2.length + 1) * 56 ≤ 140737488355328 := by omega
            have Hbs := Lib.hid hbs
            have Hone := Lib.hid hone
            have Hcel := Lib.hid hcel
            clear hz1 hz2 Ba Bq Hsn2 hbs hone hcel
            go_upto_region 8 with (first | fail)
            go_quiet (fail)
            go_wp2_with (at_builtin; go_must (refine wpList_append_mrow rfl _ _ rfl w.heap.size _ T2.length zs rfl (HR8.out _) (Hbs.out _) (.int .i64 (i : Int)) (.slice p1 f.locals.length n1) (.slice p2 f.stack.length n2) ⟨wr.heap.size, 0, none⟩ 1 rfl (Hcel.out _) Hone.out (by simp [NoText]) h63 h56 ?_); intro v9 w9 hR9 hg9 _; (have HR9 := Lib.hid hR9); (have Hg9 := Lib.hid hg9); (have HS9 := Lib.hid ((HR8.out _).keepS hg9)); clear hR9 hg9)
            go_roundw
            case rel =>
              refine ⟨k + 1, zs ++ [.int .i64 (i : Int), .slice p1 f.locals.length n1, .slice p2 f.stack.length n2], by omega, by simp, (HB8.out _).grown Hg9.out (HB8.out _).size (fun g e => (MRow.lt (HR8.out 0) g e).1), ?_, ?_⟩
              · unfold Hid
                rw [hT3.out, List.length_append]
                exact HR9.out
              · unfold Hid
                rw [hT3.out]
                exact MapVals.snoc ((Hv8.out _).keepS HS9.out) ((HV8.out _).keepS HS9.out)
            case measure => simp [intOf]; omega
          · have hne : (y == (i : Int)) = false := by simpa using hyi
            have hT3 : Hid (T ++ ((ns.take (k + 1)).filter fun y => y == (i : Int)).map (fun _ => (i, f)) = T2) := by
              have := Hsn2.out
              rw [hne, if_neg (by decide)] at this
              exact this
            clear hyi Hsn2
            go_upto_region 8 with (first | fail)
            go_quiet (fail)
            go_wp2_with (first | fail)
            go_roundw
            case rel =>
              exact ⟨k + 1, zs, by omega, by simp, below_drewN hBk.out _, by unfold Hid; rw [hT3.out]; exact hRk.out.below (below_drewN (Below.refl _ _) _), by unfold Hid; rw [hT3.out]; exact hVk.out.keepS (KeepS.below (below_drewN (Below.refl _ _) _))⟩
            case measure => simp [intOf]; omega
        · obtain rfl : k = ns.length := by omega
          have hT3 : Hid (neededL (xs.take (j + 1)) ns = T ++ ((ns.take ns.length).filter fun y => y == (i : Int)).map (fun _ => (i, f))) := by
            unfold Hid
            rw [Hsn.out, List.take_length]
          go_wp2_with (first | fail)
          go_roundw
          case rel => exact ⟨j + 1, zs, by omega, by simp, hBk.out, by unfold Hid; rw [hT3.out]; exact hRk.out, by unfold Hid; rw [hT3.out]; exact hVk.out⟩
          case measure => simp [intOf]; omega
    · obtain rfl : j = xs.length := by omega
      have hM : Hid (MapsAt wr (.slice va (neededL (xs.take xs.length) ns).length vc) (neededL xs ns)) := by
        have := hR.out.maps hV.out
        rw [List.take_length] at this ⊢
        exact this
      go_wp2_with (first | fail)
      go_ret
      exact ⟨hB.out, _, rfl, hM.out⟩
end Go.Proofs.YtlmfmioljeppfaaGreatDoor
