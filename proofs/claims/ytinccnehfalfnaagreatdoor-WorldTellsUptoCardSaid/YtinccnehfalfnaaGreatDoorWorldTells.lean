/-
  WALK over the law WorldTells. Conditions: as in XRead; a text of at most maxLen signs.
-/
import Derived.Test.YtinccnehfalfnaaGreatDoorRefNames
import Derived.Test.YtinccnehfalfnaaGreatDoorLived
namespace Go.Proofs.YtinccnehfalfnaaGreatDoor
open Go.RowKit Go.Shelf Go.Lib
theorem name_ne {s : List UInt8} (h : nameB s = true) : s ≠ [] := by rintro rfl; cases h
theorem classFault_name {c : Class} (h : classFault c = 0) : c.name.size ≠ 0 := by
  unfold classFault at h
  split at h
  · cases h
  · rename_i h1
    rw [Bool.not_eq_true, Bool.or_eq_false_iff, Bool.not_eq_false'] at h1
    intro h0
    have : lst c.name = [] := by
      unfold lst; rw [← List.length_eq_zero_iff]; exact h0
    exact name_ne h1.1 this
theorem known_ne {l : List Class} (hcf : ∀ c ∈ l, classFault c = 0) (x : Str) (hx : (findC (allC l) x).isSome = true) : x.size ≠ 0 := by
  obtain ⟨c, hc, rfl⟩ := findC_mem hx
  unfold allC at hc
  rcases List.mem_cons.1 hc with rfl | hc
  · decide
  · rcases List.mem_cons.1 hc with rfl | hc
    · decide
    · exact classFault_name (hcf c hc)
theorem fold_faults {l : List Class} : ∀ a : List Class, foldFault readStep a l = 0 → ∀ c ∈ l, classFault c = 0 := by
  induction l with
  | nil => intro a _ c hc; cases hc
  | cons d r ih =>
    intro a h c hc
    rw [foldFault] at h
    by_cases h0 : readStep d a = 0
    · rw [if_pos h0] at h
      rcases List.mem_cons.1 hc with rfl | hc
      · unfold readStep at h0
        by_cases h1 : classFault c ≠ 0
        · rw [if_pos h1] at h0; exact absurd h0 h1
        · simpa using h1
      · exact ih _ h c hc
    · rw [if_neg h0] at h; exact absurd h h0
theorem read_faults {l : List Class} (h : readFault l = 0) : ∀ c ∈ l, classFault c = 0 := by
  unfold readFault at h
  split at h
  · cases h
  · split at h
    · rename_i h1; exact absurd h h1
    · rename_i h1; exact fold_faults [] (by simpa using h1)
theorem named_zero {l : List Class} {n : Str} (h : namedFault l n = 0) : readFault l = 0 ∧ (findC (allC l) n).isSome = true := by
  unfold namedFault at h
  by_cases h1 : readFault l ≠ 0
  · rw [if_pos h1] at h; exact absurd h h1
  · rw [if_neg h1] at h
    refine ⟨by simpa using h1, ?_⟩
    cases hq : (findC (allC l) n).isSome with
    | true => rfl
    | false => rw [hq] at h; cases h
set_option maxHeartbeats 2000000 in
set_option maxRecDepth 100000 in
theorem worldTells_any (l : List Class) (lv : Value) (n : Str) (w : World) (hl : Laid w) (ho : ∀ c ∈ l, ClassOk c) (hlv : ClassesAt w lv l) (hn : n.size ≤ maxLen) :
    Calls Tryz.prog 4 #[lv, .string n] w fun e w' => e = .returned (.bool true) ∧ Below w.heap.size w w' := by
  have HLi : Hid (∀ wx, Below w.heap.size w wx → _) := fun wx hb => lived_any wx (hl.mono hb hl.1)
  have HCk : Hid (∀ wx, Below w.heap.size w wx → _) := fun wx hb => worldCheck_any l lv wx (hl.mono hb hl.1) ho (hlv.mono hb)
  have HRW : Hid (∀ wx, Below w.heap.size w wx → _) := fun wx hb => refWorld_any l lv wx ho (hlv.mono hb)
  have HRN : Hid (∀ wx, Below w.heap.size w wx → _) := fun wx hb => refNamed_any l lv n wx ho (hlv.mono hb)
  have HSu : Hid (∀ wx, Below w.heap.size w wx → _) := fun wx hb => supers_any l lv n wx (hl.mono hb hl.1) ho (hlv.mono hb) hn
  have HAl : Hid (∀ wx, Below w.heap.size w wx → _) := fun wx hb => all_any l lv n wx (hl.mono hb hl.1) ho (hlv.mono hb) hn
  have HLV : Hid (∀ wx, Below w.heap.size w wx → ClassesAt wx lv l) := fun wx hb => hlv.mono hb
  by_cases hz : namedFault l n = 0
  · obtain ⟨hr, hk⟩ := named_zero hz
    have hR := right_of hr
    have hcf := read_faults hr
    have HRS : Hid (∀ wx, Below w.heap.size w wx → _) := fun wx hb => refSupers_fuel l lv hR _ n wx (HLV.out wx hb) hk (Nat.le_refl _)
    have HRE : Hid (∀ wx, Below w.heap.size w wx → _) := fun wx hb => refEvery_any l lv n wx hR hcf (HLV.out wx hb) hk (known_ne hcf)
    have HE : Hid (∀ wx, Calls Tryz.prog 11 #[.nilIface, .int .i64 0] wx fun e w' => e = .returned (.bool true) ∧ wx = w') := fun wx => error_any 0 0 wx
    obtain ⟨pl, cap, rfl, _⟩ := hlv.open
    rw [hr] at HCk HRW
    rw [hz] at HRN HSu HAl
    rw [show errV 0 = .nilIface from rfl] at HCk
    clear hl ho hlv hR hcf hk hr hz hn HLV
    unfold RowPost at HRS HRE
    generalize lineC (allC l) n = L1 at *
    generalize sortS (everyC (allC l) n) = L2 at *
    have HT : Hid (∀ wx L va vb, StrsAt wx va L → StrsAt wx vb L → Calls Tryz.prog 13 #[va, vb] wx fun e w' => e = .returned (.bool true) ∧ Below wx.heap.size wx w') := fun wx L va vb h1 h2 => by
      have := texts_any L L va vb wx h1 h2
      rwa [decide_eq_true rfl] at this
    go_enter Tryz.func4, Tryz.ntmps4
    go_wp2_with (first
      | (go_at_call 14; (with_reducible refine (HLi.out _ (Below.refl _ _)).mono ?_); rintro e w2 ⟨rfl, hB2⟩)
      | (go_at_call 8; (with_reducible refine (HRW.out _ hB2).mono ?_); rintro e w3 ⟨rfl, hB3'⟩; (have hB3 := below_call hB2 (Nat.le_refl _) hB3'); clear hB3')
      | (go_at_call 15; (with_reducible refine (HCk.out _ hB3).mono ?_); rintro e w4 ⟨rfl, hB4'⟩; (have hB4 := below_call hB3 (Nat.le_refl _) hB4'); clear hB4')
      | (go_at_call 11; (with_reducible refine (HE.out _).mono ?_); rintro e w5 ⟨rfl, rfl⟩)
      | (go_at_call 16; (with_reducible refine (HRN.out _ hB4).mono ?_); rintro e w6 ⟨rfl, hB6'⟩; (have hB6 := below_call hB4 (Nat.le_refl _) hB6'); clear hB6')
      | (go_at_call 17; (with_reducible refine (HSu.out _ hB6).mono ?_); rintro e w7 ⟨hB7', ⟨_, v7, rfl, hv7⟩ | ⟨hz, _⟩⟩; rotate_left; (exact absurd rfl hz); (have hB7 := below_call hB6 (Nat.le_refl _) hB7'); clear hB7')
      | (go_at_call 18; (with_reducible refine (HAl.out _ hB7).mono ?_); rintro e w8 ⟨hB8', ⟨_, v8, rfl, hv8⟩ | ⟨hz, _⟩⟩; rotate_left; (exact absurd rfl hz); (have hB8 := below_call hB7 (Nat.le_refl _) hB8'); (have hv78 := hv7.mono hB8'); clear hB8' hv7)
      | (go_at_call 19; (with_reducible refine (HRS.out _ hB8).mono ?_); rintro e w9 ⟨⟨v9, rfl, hv9⟩, hB9'⟩; (have hB9 := below_call hB8 (Nat.le_refl _) hB9'); (have hv79 := hv78.mono hB9'); (have hv89 := hv8.mono hB9'); (have hv99 := strsAt_of_owns hv9); clear hB9' hv78 hv8 hv9)
      | (go_at_call 20; (with_reducible refine (HRE.out _ hB9).mono ?_); rintro e w10 ⟨⟨v10, rfl, hv10⟩, hB10'⟩; (have hB10 := below_call hB9 (Nat.le_refl _) hB10'); (have hv7a := hv79.mono hB10'); (have hv8a := hv89.mono hB10'); (have hv9a := hv99.mono hB10'); (have hvaa := strsAt_of_owns hv10); clear hB10' hv79 hv89 hv99 hv10)
      | (go_at_call 13; (with_reducible refine (HT.out _ _ _ _ hv7a hv9a).mono ?_); rintro e w11 ⟨rfl, hB11'⟩; (have hB11 := below_call hB10 (Nat.le_refl _) hB11'); (have hv8b := hv8a.mono hB11'); (have hvab := hvaa.mono hB11'); clear hB11' hv7a hv9a hv8a hvaa)
      | (go_at_call 13; (with_reducible refine (HT.out _ _ _ _ hv8b hvab).mono ?_); rintro e w12 ⟨rfl, hB12'⟩; (have hB12 := below_call hB11 (Nat.le_refl _) hB12')))
    go_ret
    exact ⟨rfl, hB12⟩
  · have HZ := Lib.hid hz
    have hf0 : ((namedFault l n : Int) == 0) = false := by simpa using hz
    have HE1 : Hid (∀ wx, Calls Tryz.prog 11 #[errV (readFault l), .int .i64 (readFault l)] wx fun e w' => e = .returned (.bool true) ∧ wx = w') := fun wx => by
      have := error_any (readFault l) (readFault l) wx
      rwa [decide_eq_true rfl] at this
    have HE2 : Hid (∀ wx, Calls Tryz.prog 11 #[.iface 25 (.int .i64 (namedFault l n)), .int .i64 (namedFault l n)] wx fun e w' => e = .returned (.bool true) ∧ wx = w') := fun wx => by
      have := error_any (namedFault l n) (namedFault l n) wx
      rcases errV_cases (namedFault l n) with ⟨_, h⟩ | ⟨h, _⟩
      · exact absurd h hz
      · rwa [decide_eq_true rfl, h] at this
    have HT : Hid (∀ wx, Calls Tryz.prog 13 #[.slice none 0 0, .slice none 0 0] wx fun e w' => e = .returned (.bool true) ∧ Below wx.heap.size wx w') := fun wx =>
      texts_any [] [] _ _ wx (Or.inl ⟨rfl, rfl⟩) (Or.inl ⟨rfl, rfl⟩)
    obtain ⟨pl, cap, rfl, _⟩ := hlv.open
    clear hl ho hlv hz hn HLV
    generalize errV (readFault l) = ev at *
    generalize readFault l = r at *
    generalize namedFault l n = f at *
    go_enter Tryz.func4, Tryz.ntmps4
    go_wp2_with (first
      | (go_at_call 14; (with_reducible refine (HLi.out _ (Below.refl _ _)).mono ?_); rintro e w2 ⟨rfl, hB2⟩)
      | (go_at_call 8; (with_reducible refine (HRW.out _ hB2).mono ?_); rintro e w3 ⟨rfl, hB3'⟩; (have hB3 := below_call hB2 (Nat.le_refl _) hB3'); clear hB3')
      | (go_at_call 15; (with_reducible refine (HCk.out _ hB3).mono ?_); rintro e w4 ⟨rfl, hB4'⟩; (have hB4 := below_call hB3 (Nat.le_refl _) hB4'); clear hB4')
      | (go_at_call 11; (with_reducible refine (HE1.out _).mono ?_); rintro e w5 ⟨rfl, rfl⟩)
      | (go_at_call 11; (with_reducible refine (HE2.out _).mono ?_); rintro e w5 ⟨rfl, rfl⟩)
      | (go_at_call 16; (with_reducible refine (HRN.out _ hB4).mono ?_); rintro e w6 ⟨rfl, hB6'⟩; (have hB6 := below_call hB4 (Nat.le_refl _) hB6'); clear hB6')
      | (go_at_call 17; (with_reducible refine (HSu.out _ hB6).mono ?_); rintro e w7 ⟨hB7', ⟨hz, _⟩ | ⟨_, rfl⟩⟩; (exact absurd hz HZ.out); (have hB7 := below_call hB6 (Nat.le_refl _) hB7'); clear hB7')
      | (go_at_call 18; (with_reducible refine (HAl.out _ hB7).mono ?_); rintro e w8 ⟨hB8', ⟨hz, _⟩ | ⟨_, rfl⟩⟩; (exact absurd hz HZ.out); (have hB8 := below_call hB7 (Nat.le_refl _) hB8'); clear hB8')
      | (go_at_call 13; (have hB12 := hB11); (with_reducible refine (HT.out _).mono ?_); rintro e w12 ⟨rfl, hB12'⟩; (have hB13 := below_call hB12 (Nat.le_refl _) hB12'))
      | (go_at_call 13; (with_reducible refine (HT.out _).mono ?_); rintro e w11 ⟨rfl, hB11'⟩; (have hB11 := below_call hB8 (Nat.le_refl _) hB11'); clear hB11'))
    go_ret
    exact ⟨rfl, hB13⟩
end Go.Proofs.YtinccnehfalfnaaGreatDoor
