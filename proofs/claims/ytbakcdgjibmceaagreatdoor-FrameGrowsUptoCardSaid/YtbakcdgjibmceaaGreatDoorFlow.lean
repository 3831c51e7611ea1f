/-
  WALKS over package flow: Ends, Check. Conditions: as in XInsCheck, for each instruction.
-/
import Derived.Test.YtbakcdgjibmceaaGreatDoorInsCheck
namespace Go.Proofs.YtbakcdgjibmceaaGreatDoor
open Go.RowKit Go.Shelf Go.Lib
theorem ends_any (op : Int) (w : World) : Calls Tryz.prog 208 #[.int .i64 op] w fun e w' => e = .returned (.bool (endsB op)) ∧ w = w' := by
  go_enter Tryz.func208, Tryz.ntmps208
  go_wp2
  all_goals
    go_ret
    exact ⟨ret_bool (by simp [endsB, *]), rfl⟩
theorem insCheck_any (x : Ins) (w : World) (hl : Laid w) (hs : InsOk x) : Calls Tryz.prog 68 #[insV x] w fun e w' => e = .returned (errV (insFault x)) ∧ Below w.heap.size w w' := by
  by_cases h : x.op < 1 ∨ 28 < x.op
  · exact insCheck_bad x w h
  · obtain ⟨op, a, b, type, cls, name⟩ := x
    obtain ⟨n, rfl⟩ := Int.eq_ofNat_of_zero_le (show 0 ≤ op by simp at h; omega)
    simp at h
    exact insCheck_good n a b type cls name w (by omega) (by omega) hl hs
def insVals (x : Ins) : List Value := [.int .i64 x.op, .int .i64 x.a, .int .i64 x.b, .string x.type, .string x.cls, .string x.name]
theorem firstFault_drop {α : Type} (f : α → Nat) (l : List α) (k : Nat) (x : α) (h : l[k]? = some x) : firstFault f (l.drop k) = if f x = 0 then firstFault f (l.drop (k + 1)) else f x := by
  obtain ⟨hk, rfl⟩ := List.getElem?_eq_some_iff.1 h
  rw [List.drop_eq_getElem_cons hk]; rfl
theorem any_drop {α : Type} (f : α → Bool) (l : List α) (k : Nat) (x : α) (h : l[k]? = some x) : (l.drop k).any f = (f x || (l.drop (k + 1)).any f) := by
  obtain ⟨hk, rfl⟩ := List.getElem?_eq_some_iff.1 h
  rw [List.drop_eq_getElem_cons hk]; rfl
theorem errV_cases (n : Nat) : (errV n = .nilIface ∧ n = 0) ∨ (errV n = .iface 35 (.int .i64 n) ∧ n ≠ 0) := by
  unfold errV; by_cases h : n = 0
  · exact Or.inl ⟨by rw [if_pos h], h⟩
  · exact Or.inr ⟨by rw [if_neg h], h⟩
theorem below_call {B : Nat} {w w1 w2 : World} (h1 : Below B w w1) (hB : B ≤ w.heap.size) (h2 : Below w1.heap.size w1 w2) : Below B w w2 := h1.trans (h2.mono (Nat.le_trans hB h1.size))
set_option maxHeartbeats 1000000 in
set_option maxRecDepth 100000 in
theorem flowCheck_some (l : List Ins) (b o cap : Nat) (w : World) (hl : Laid w) (hs : ∀ x ∈ l, InsOk x) (h0 : 0 < l.length) (h40 : l.length ≤ 40) (_hcap : l.length ≤ cap) (_hm : cap ≤ maxLen)
    (hc : ∀ i x, l[i]? = some x → Cells w b (o + i * 6) (insVals x)) (v : Value) (hv : errV (codeFault l) = v) :
    Calls Tryz.prog 186 #[.slice (some ⟨b, o, none⟩) l.length cap] w fun e w' => e = .returned v ∧ Below w.heap.size w w' := by
  have hC : Hid (∀ w2, Below w.heap.size w w2 → ∀ x ∈ l, _) := fun w2 hb x hx => insCheck_any x w2 (hl.mono hb hl.1) (hs x hx)
  have HC : Hid (∀ i x, l[i]? = some x → Cells w b (o + i * 6) (insVals x)) := hc
  have hcf : Hid (v = errV (if firstFault insFault l ≠ 0 then firstFault insFault l
     else if l.any fun x => jumpsB x.op && decide ((l.length : Int) ≤ x.a) then 2
     else if endsB (l[l.length - 1]'(by omega)).op then 0 else 8)) := by
    unfold Hid; rw [← hv]; unfold codeFault
    rw [if_neg (by omega), List.getLast?_eq_getElem?, List.getElem?_eq_getElem (by omega)]
  have hlast : Hid (l[l.length - 1]? = some (l[l.length - 1]'(by omega))) := by simp [Hid]
  generalize (l[l.length - 1]'(by omega)) = z at hcf hlast
  clear hc hs hl hv
  go_enter Tryz.func186, Tryz.ntmps186
  go_wp2_with (first | fail)
  go_loopw [14] (fun x wr => ∃ k, k ≤ l.length ∧ Hid (firstFault insFault (l.drop k) = firstFault insFault l) ∧ Below w.heap.size w wr ∧ x = .int .i64 k) (fun x _ => l.length - (intOf x).toNat)
  case atStart => exact ⟨0, by omega, rfl, Below.refl _ _, rfl⟩
  case round =>
    obtain ⟨k, hk, hff, hB, rfl⟩ := hrel
    by_cases hkl : k < l.length
    · obtain ⟨x, hx⟩ : ∃ x, l[k]? = some x := ⟨l[k], by simp [hkl]⟩
      have hcells := (HC.out k x hx).mono hB (HC.out k x hx).lt
      have hxm : Hid (x ∈ l) := List.mem_of_getElem? hx
      have hstep := firstFault_drop insFault l k x hx
      have HX := Lib.hid hx; clear hx
      obtain ⟨c0, c1, c2, c3, c4, c5, _⟩ := hcells
      rcases errV_cases (insFault x) with ⟨hv, hz⟩ | ⟨hv, hz⟩
      · have hC2 : Hid (∀ w2, Below w.heap.size w w2 → Calls Tryz.prog 68 #[insV x] w2 fun e w' => e = .returned .nilIface ∧ Below w2.heap.size w2 w') := fun w2 h2 => hv ▸ hC.out w2 h2 x hxm.out
        unfold insV at hC2
        rw [if_pos hz, hff.out] at hstep
        have hst := Lib.hid hstep.symm
        clear hstep hC HC hcf hlast hv hz
        go_wp2_with (first | (go_at_call 68; (with_reducible refine (hC2.out _ (hB.alloc hB.size _)).mono ?_); rintro e w2 ⟨rfl, hB2⟩))
        exact ⟨⟨k + 1, by omega, hst.out, below_call (hB.alloc hB.size _) (Nat.le_refl _) hB2, by simp⟩, by simp [intOf]; omega⟩
      · have hC2 : Hid (∀ w2, Below w.heap.size w w2 → Calls Tryz.prog 68 #[insV x] w2 fun e w' => e = .returned (.iface 35 (.int .i64 (insFault x))) ∧ Below w2.heap.size w2 w') := fun w2 h2 => hv ▸ hC.out w2 h2 x hxm.out
        unfold insV at hC2
        rw [if_neg hz, hff.out] at hstep
        have hfin : Hid (v = .iface 35 (.int .i64 (insFault x))) := by
          rw [hcf.out, hstep, if_pos hz]; exact hv
        clear hstep hC HC hcf hlast hv hz hff
        generalize insFault x = fx at hC2 hfin
        go_wp2_with (first | (go_at_call 68; (with_reducible refine (hC2.out _ (hB.alloc hB.size _)).mono ?_); rintro e w2 ⟨rfl, hB2⟩))
        cases hfin.out
        go_ret
        exact ⟨rfl, below_call (hB.alloc hB.size _) (Nat.le_refl _) hB2⟩
    · have hff0 : Hid (firstFault insFault l = 0) := by
        rw [← hff.out, List.drop_eq_nil_of_le (by omega)]; rfl
      clear hff
      obtain rfl : k = l.length := by omega
      go_wp2_with (first | fail)
      go_loopw [26] (fun x wr => ∃ k, k ≤ l.length ∧ Hid (((l.drop k).any fun x => jumpsB x.op && decide ((l.length : Int) ≤ x.a)) = (l.any fun x => jumpsB x.op && decide ((l.length : Int) ≤ x.a))) ∧ Below w.heap.size w wr ∧ x = .int .i64 k) (fun x _ => l.length - (intOf x).toNat)
      case atStart => exact ⟨0, by omega, rfl, hB, rfl⟩
      case round =>
        obtain ⟨k, hk, hff, hB, rfl⟩ := hrel
        by_cases hkl : k < l.length
        · obtain ⟨x, hx⟩ : ∃ x, l[k]? = some x := ⟨l[k], by simp [hkl]⟩
          have hcells := (HC.out k x hx).mono hB (HC.out k x hx).lt
          have hstep := any_drop (fun x => jumpsB x.op && decide ((l.length : Int) ≤ x.a)) l k x hx
          rw [hff.out] at hstep
          have hj : ∀ w1, _ := fun w1 => jumps_any x.op w1
          cases hjb : jumpsB x.op with
          | false =>
            rw [hjb] at hstep hj
            have hst := Lib.hid hstep
            have HX := Lib.hid hx; clear hx hstep
            have HJ := Lib.hid hj; clear hj
            obtain ⟨c0, c1, c2, c3, c4, c5, _⟩ := hcells
            go_wp2_with (first | (go_at_call 136; (with_reducible refine (HJ.out _).mono ?_); rintro e w2 ⟨rfl, rfl⟩))
            exact ⟨⟨k + 1, by omega, by simpa [Hid] using hst.out.symm, hB.alloc hB.size _, by simp⟩, by simp [intOf]; omega⟩
          | true =>
            rw [hjb] at hstep hj
            have hst := Lib.hid hstep
            have HX := Lib.hid hx; clear hx hstep
            have HJ := Lib.hid hj; clear hj
            obtain ⟨c0, c1, c2, c3, c4, c5, _⟩ := hcells
            go_wp2_with (first | (go_at_call 136; (with_reducible refine (HJ.out _).mono ?_); rintro e w2 ⟨rfl, rfl⟩))
            · rename_i hge
              have hfin : Hid (v = .iface 35 (.int .i64 2)) := by
                rw [hcf.out, if_neg (by rw [hff0.out]; simp), if_pos (by rw [hst.out]; simp; left; omega)]; rfl
              clear hcf
              cases hfin.out
              go_ret
              exact ⟨rfl, hB.alloc hB.size _⟩
            · rename_i hge
              exact ⟨⟨k + 1, by omega, by rw [hst.out]; simp [Hid]; omega, hB.alloc hB.size _, by simp⟩, by simp [intOf]; omega⟩
        · obtain rfl : k = l.length := by omega
          have hno : Hid ((l.any fun x => jumpsB x.op && decide ((l.length : Int) ≤ x.a)) = false) := by
            rw [← hff.out, List.drop_eq_nil_of_le (by omega)]; rfl
          have hcells := (HC.out _ _ hlast.out).mono hB (HC.out _ _ hlast.out).lt
          obtain ⟨c0, _⟩ := hcells
          have h0' := List.length_pos_iff.1 h0
          have hne : ((l.length : Int) == 0) = false := by simpa using h0' 
          have hend : ∀ w1, _ := fun w1 => ends_any z.op w1
          clear hff
          cases he : endsB z.op with
          | false =>
            rw [he] at hend
            have hfin : Hid (v = .iface 35 (.int .i64 8)) := by
              rw [hcf.out, if_neg (by rw [hff0.out]; simp), if_neg (by rw [hno.out]; simp), he]; rfl
            have HE := Lib.hid hend; clear hend he
            go_wp2_with (first | (go_at_call 208; (with_reducible refine (HE.out _).mono ?_); rintro e w2 ⟨rfl, rfl⟩))
            all_goals first | (exfalso; omega) | skip
            clear hcf
            cases hfin.out
            go_ret
            exact ⟨rfl, hB⟩
          | true =>
            rw [he] at hend
            have hfin : Hid (v = .nilIface) := by
              rw [hcf.out, if_neg (by rw [hff0.out]; simp), if_neg (by rw [hno.out]; simp), he]; rfl
            have HE := Lib.hid hend; clear hend he
            go_wp2_with (first | (go_at_call 208; (with_reducible refine (HE.out _).mono ?_); rintro e w2 ⟨rfl, rfl⟩))
            all_goals first | (exfalso; omega) | skip
            clear hcf
            cases hfin.out
            go_ret
            exact ⟨rfl, hB⟩
set_option maxHeartbeats 1000000 in
theorem flowCheck_long (p : Option Addr) (n : Nat) (cap : Nat) (w : World) (h : 40 < n) :
    Calls Tryz.prog 186 #[.slice p n cap] w fun e w' => e = .returned (.iface 35 (.int .i64 4)) ∧ Below w.heap.size w w' := by
  go_enter Tryz.func186, Tryz.ntmps186
  go_wp2_with (first | fail)
  all_goals first | (exfalso; omega) | skip
  go_ret
  exact ⟨rfl, Below.refl _ _⟩
set_option maxHeartbeats 1000000 in
set_option maxRecDepth 100000 in
theorem flowCheck_none (p : Option Addr) (cap : Nat) (w : World) :
    Calls Tryz.prog 186 #[.slice p 0 cap] w fun e w' => e = .returned (.iface 35 (.int .i64 8)) ∧ Below w.heap.size w w' := by
  go_enter Tryz.func186, Tryz.ntmps186
  go_wp2_with (first | fail)
  go_loopw [14] (fun x wr => w = wr ∧ x = .int .i64 0) (fun x _ => 0)
  case atStart => exact ⟨rfl, rfl⟩
  case round =>
    obtain ⟨rfl, rfl⟩ := hrel
    go_wp2_with (first | fail)
    go_loopw [26] (fun x wr => w = wr ∧ x = .int .i64 0) (fun x _ => 0)
    case atStart => exact ⟨rfl, rfl⟩
    case round =>
      obtain ⟨rfl, rfl⟩ := hrel
      go_wp2_with (first | fail)
      go_ret
      exact ⟨rfl, Below.refl _ _⟩
theorem insCells_of {l : List Ins} {w : World} {v : Value} (h : SliceOf w 6 InsCells v l) : (v = .slice none 0 0 ∧ l = []) ∨ ∃ b o cap, v = .slice (some ⟨b, o, none⟩) l.length cap ∧ l.length ≤ cap ∧ cap ≤ maxLen ∧ (∀ i x, l[i]? = some x → Cells w b (o + i * 6) (insVals x)) ∨ ∃ a cap, v = .slice (some a) 0 cap ∧ l = [] := by
  rcases h with h | ⟨a, cap, h1, h2, h3, h4⟩
  · exact Or.inl h
  · cases l with
    | nil => exact Or.inr ⟨a.block, a.off, cap, Or.inr ⟨a, cap, h1, rfl⟩⟩
    | cons y r =>
      refine Or.inr ⟨a.block, a.off, cap, Or.inl ⟨?_, h2, h3, ?_⟩⟩
      · obtain ⟨_, _, _, hp, _⟩ := h4 0 y rfl
        rw [h1]; congr 2
      · intro i x hx
        obtain ⟨vs, r1, _, _, r4⟩ := h4 i x hx
        unfold InsCells at r1; subst r1; exact r4
theorem codeFault_nil : errV (codeFault []) = .iface 35 (.int .i64 8) := by simp [codeFault, firstFault, errV]
theorem errV_4 : errV 4 = .iface 35 (.int .i64 4) := by simp [errV]
theorem flowCheck_any (l : List Ins) (cv : Value) (w : World) (hl : Laid w) (hs : ∀ x ∈ l, InsOk x) (h : SliceOf w 6 InsCells cv l) :
    Calls Tryz.prog 186 #[cv] w fun e w' => e = .returned (errV (codeFault l)) ∧ Below w.heap.size w w' := by
  rcases insCells_of h with ⟨rfl, rfl⟩ | ⟨b, o, cap, ⟨rfl, h2, h3, h4⟩ | ⟨a, cap, rfl, rfl⟩⟩
  · rw [codeFault_nil]; exact flowCheck_none _ _ _
  · by_cases h0 : l.length = 0
    · obtain rfl := List.length_eq_zero_iff.1 h0
      rw [codeFault_nil]; exact flowCheck_none _ _ _
    by_cases h40 : 40 < l.length
    · have : codeFault l = 4 := by unfold codeFault; rw [if_pos h40]
      rw [this, errV_4]; exact flowCheck_long _ _ _ _ h40
    · exact flowCheck_some l b o cap w hl hs (by omega) (by omega) h2 h3 h4 _ rfl
  · rw [codeFault_nil]; exact flowCheck_none _ _ _
end Go.Proofs.YtbakcdgjibmceaaGreatDoor
