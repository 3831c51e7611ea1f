/-
  WALK over world.round. Conditions: as in XEvery.
-/
import Derived.Test.YtbakcdgjibmceaaGreatDoorEvery
import Derived.Deep.DeepCutAuto
import Derived.Deep.RegionWith
namespace Go.Proofs.YtbakcdgjibmceaaGreatDoor
open Go.RowKit Go.Shelf Go.Lib
theorem memB_sort (l : List Str) (x : Str) : memB (sortS l) x = memB l x := by
  rw [Bool.eq_iff_iff, memB_iff, memB_iff]
  unfold sortS
  rw [List.mem_map]
  constructor
  · rintro ⟨y, hy, rfl⟩
    rw [List.mem_mergeSort, List.mem_map] at hy
    obtain ⟨z, hz, rfl⟩ := hy
    exact hz
  · intro hx
    exact ⟨x.data.toList, by rw [List.mem_mergeSort, List.mem_map]; exact ⟨x, hx, rfl⟩, rfl⟩
set_option maxHeartbeats 1000000 in
theorem round1_any (w0 w : World) (B : Nat) (cs : List Class) (hm : ClassMap w0 w B cs) (hn : (cs.map (·.name)).Nodup) (h8 : ∀ c ∈ cs, c.faces.length ≤ 8) (h12 : cs.length ≤ 12) (hcl : Closed cs) (a n : Str) (hk : (findC cs a).isSome = true)
    (b1 b2 : Nat) (h1 : w.cell? ⟨b1, 0, none⟩ = some (.map (some B))) (h2 : w.cell? ⟨b2, 0, none⟩ = some (.string n)) (hb2 : b2 < w.heap.size) :
    Calls Tryz.prog 133 #[.string a, .pointer (some ⟨b1, 0, none⟩), .pointer (some ⟨b2, 0, none⟩)] w fun e w' => e = .returned (.bool (memB (everyC cs a) n)) ∧ Below w.heap.size w w' := by
  have HE := Lib.hid (every_any w0 w.drew B cs (hm.step ((Below.refl _ _).drew)) hn h8 h12 hcl a hk)
  have HC : Hid (∀ v wx, StrsAt wx v (sortS (everyC cs a)) → _) := fun v wx h => contains_any (sortS (everyC cs a)) v n wx h
  rw [memB_sort] at HC
  generalize memB (everyC cs a) n = r at *
  generalize sortS (everyC cs a) = l at *
  clear hm hn h8 hcl hk
  go_enter Tryz.func133, Tryz.ntmps133
  go_upto_region 1 with (first | fail)
  go_region_with (first
    | (go_at_call 119; (with_reducible refine HE.out.mono ?_); rintro e w2 ⟨⟨v, rfl, hv⟩, hB2⟩; obtain ⟨p, k, rfl, _⟩ := hv.open; (have h3 := (hB2.cell (p := ⟨b2, 0, none⟩) hb2).trans h2))
    | (go_at_call 118; (with_reducible refine (HC.out _ _ hv).mono ?_); rintro e w3 ⟨rfl, rfl⟩))
  all_goals
    go_wp2
    go_ret
    exact ⟨rfl, below_call (Below.refl _ _).drew (Nat.le_refl _) hB2⟩
def roundC (cs : List Class) (n : Str) : Bool := (aboveC cs n).any fun a => memB (everyC cs a) n
set_option maxHeartbeats 1000000 in
theorem round_any (w0 w : World) (B : Nat) (cs : List Class) (hm : ClassMap w0 w B cs) (hn : (cs.map (·.name)).Nodup) (h8 : ∀ c ∈ cs, c.faces.length ≤ 8) (h12 : cs.length ≤ 12) (hcl : Closed cs) (n : Str) (hk : (findC cs n).isSome = true) :
    Calls Tryz.prog 98 #[.map (some B), .string n] w fun e w' => e = .returned (.bool (roundC cs n)) ∧ Below w.heap.size w w' := by
  have hmf : ∀ fn first cap w, (Instr.makeFunc fn first cap).run Tryz.prog w = .ok (.func fn first cap) w := fun _ _ _ _ => rfl
  have HB := Lib.hid (below_alloc2 w (.cells #[.map (some B)] 82) (.cells #[.string n] 9))
  have HAb := Lib.hid (above_any w0 _ B cs (hm.step HB.out) hn h8 n (hm.names hk))
  have HAn : Hid (∀ v wx, StrsAt wx v (aboveC cs n) → Below w.heap.size w wx → w.heap.size + 1 < wx.heap.size → wx.cell? ⟨w.heap.size, 0, none⟩ = some (.map (some B)) → wx.cell? ⟨w.heap.size + 1, 0, none⟩ = some (.string n) →
      Calls Tryz.prog 131 #[v, .func (.func 133) #[] #[.pointer (some ⟨w.heap.size, 0, none⟩), .pointer (some ⟨w.heap.size + 1, 0, none⟩)]] wx fun e w' => e = .returned (.bool (roundC cs n)) ∧ Below wx.heap.size wx w') := by
    intro v wx hv hb hs h1 h2
    refine anyFunc_string StrCells (fun a => memB (everyC cs a) n) 133 _ (enters_of Tryz.func133 (by kernel_rfl) rfl) (aboveC cs n) v wx hv ?_
    rintro W x a0 hx hh hW
    unfold StrCells at hh
    simp only [List.cons.injEq, and_true] at hh
    subst hh
    show Calls Tryz.prog 133 #[.string x, .pointer (some ⟨w.heap.size, 0, none⟩), .pointer (some ⟨w.heap.size + 1, 0, none⟩)] W _
    exact round1_any w0 W B cs ((hm.step hb).step hW) hn h8 h12 hcl x n (hcl n hk x hx) _ _ ((hW.cell (p := ⟨_, 0, none⟩) (show w.heap.size < wx.heap.size by omega)).trans h1) ((hW.cell (p := ⟨_, 0, none⟩) hs).trans h2) (Nat.lt_of_lt_of_le (by omega) hW.size)
  clear hm hn h8 hcl hk
  generalize roundC cs n = r at *
  generalize aboveC cs n = abv at *
  go_enter Tryz.func98, Tryz.ntmps98
  go_wp2_with (first
    | (go_at_call 132; (with_reducible refine HAb.out.mono ?_); rintro e w2 ⟨⟨v, rfl, hv, _⟩, hB2⟩; obtain ⟨p, k, rfl, _⟩ := hv.open)
    | (go_at_call 131; (with_reducible refine (HAn.out _ _ hv (below_call HB.out (Nat.le_refl _) hB2) (Nat.lt_of_lt_of_le (by simp) hB2.size) ((hB2.cell (p := ⟨_, 0, none⟩) (by simp; omega)).trans (by simp)) ((hB2.cell (p := ⟨_, 0, none⟩) (by simp)).trans (by simp))).mono ?_); rintro e w3 ⟨rfl, hB3⟩))
  go_ret
  exact ⟨rfl, below_call (below_call HB.out (Nat.le_refl _) hB2) (Nat.le_refl _) hB3⟩
end Go.Proofs.YtbakcdgjibmceaaGreatDoor
