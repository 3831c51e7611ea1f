/-
  WALK over the reference's MethodOf. Conditions: a text of at most 1048576 signs.
-/
import Derived.Test.YtinccnehfalfnaaGreatDoorRefIns
namespace Go.Proofs.YtinccnehfalfnaaGreatDoor
open Go.RowKit Go.Shelf Go.Lib
theorem hasPrefix_one (l : List UInt8) (c : UInt8) : Lib.hasPrefix l [c] = (match l with | [] => false | d :: _ => d == c) := by
  unfold Lib.hasPrefix
  cases l with
  | nil => rfl
  | cons d r =>
    show (c == d && List.isPrefixOf [] r) = (d == c)
    rw [Bool.eq_iff_iff]; simp [List.isPrefixOf]; exact eq_comm
theorem rest_list (s : ByteArray) (i : Nat) : (s.extract i s.size).data.toList = s.data.toList.drop i := by
  rw [Lib.extract_data]
  exact List.take_of_length_le (by simp)
theorem rest_eq (s : ByteArray) (i : Nat) : (⟨(s.data.toList.drop i).toArray⟩ : ByteArray) = s.extract i s.size := by
  apply ByteArray.ext
  apply Array.toList_inj.1
  rw [rest_list]
theorem rest_head {s : ByteArray} {i : Nat} (h : i < s.size) (c : UInt8) : Lib.hasPrefix (s.extract i s.size).data.toList [c] = (s[i] == c) := by
  rw [rest_list, hasPrefix_one, List.drop_eq_getElem_cons (by simpa using h)]
  rfl
theorem methodR_open {s : ByteArray} (h : 0 < s.size) (h0 : s[0] = 40) : methodR s = methodFin (argsFin (s.extract 1 s.size) true []) := by
  have hp : Lib.hasPrefix s.data.toList [40] = true := by
    have := rest_head h 40
    rw [rest_list, List.drop_zero] at this
    rw [this, h0]; rfl
  unfold methodR
  rw [hp]
  unfold Lib.trimPrefix
  rw [hp, if_pos rfl]
  show methodFin (argsFin ⟨(List.drop 1 s.data.toList).toArray⟩ true []) = _
  rw [rest_eq]
theorem methodR_shut {s : ByteArray} (h : ∀ h : 0 < s.size, s[0] ≠ 40) : methodR s = none := by
  have hp : Lib.hasPrefix s.data.toList [40] = false := by
    by_cases h0 : 0 < s.size
    · have := rest_head h0 40
      rw [rest_list, List.drop_zero] at this
      rw [this]; simpa using h h0
    · have : s.data.toList = [] := by apply List.length_eq_zero_iff.1; rw [length_eq]; omega
      rw [this]; rfl
  unfold methodR
  rw [hp]
  simp [argsFin, methodFin]
theorem givesOf_rest {s : ByteArray} {i : Nat} (h : i < s.size) (hc : s[i] = 41) : givesOf (s.extract i s.size) = s.extract (i + 1) s.size := by
  unfold givesOf Lib.trimPrefix
  rw [rest_head h, hc, if_pos (by decide), rest_list, List.drop_drop]
  show (⟨(List.drop (i + 1) s.data.toList).toArray⟩ : ByteArray) = _
  rw [rest_eq]
theorem rest_rest (s : ByteArray) (i n : Nat) (_hi : i ≤ s.size) : (s.extract i s.size).extract n (s.extract i s.size).size = s.extract (i + n) s.size := by
  apply ByteArray.ext
  apply Array.toList_inj.1
  rw [rest_list, rest_list, rest_list, List.drop_drop]
theorem rest_first (s : ByteArray) (i n : Nat) : (s.extract i s.size).extract 0 n = s.extract i (i + n) := by
  apply ByteArray.ext
  apply Array.toList_inj.1
  rw [Lib.extract_data, rest_list, Lib.extract_data]
  simp
def RefMethodPost (w : World) (m : Option (List ByteArray × ByteArray)) (e : Ending) (w' : World) : Prop :=
  Below w.heap.size w w' ∧ match m with
    | none => e = .returned (.tuple #[.slice none 0 0, .string .empty, .bool false])
    | some (args, g) => ∃ v, e = .returned (.tuple #[v, .string g, .bool true]) ∧ StrsAt w' v args
theorem refMethod_no {w w' : World} {m : Option (List ByteArray × ByteArray)} (hm : m = none) (hb : Below w.heap.size w w') :
    RefMethodPost w m (.returned (.tuple #[.slice none 0 0, .string .empty, .bool false])) w' := by subst hm; exact ⟨hb, rfl⟩
theorem refMethod_yes {w w' : World} {m : Option (List ByteArray × ByteArray)} {args : List ByteArray} {g : ByteArray} {v : Value} (hm : m = some (args, g)) (hb : Below w.heap.size w w') (hv : StrsAt w' v args) :
    RefMethodPost w m (.returned (.tuple #[v, .string g, .bool true])) w' := by subst hm; exact ⟨hb, v, rfl, hv⟩
set_option maxRecDepth 100000 in
set_option maxHeartbeats 1000000 in
theorem refMethod_any (s : ByteArray) (w : World) (hs : s.size ≤ 1048576) : Calls Tryz.prog 46 #[.string s] w (RefMethodPost w (methodR s)) := by
  have hm : s.size ≤ maxLen := maxLen_of (Nat.le_trans hs (by decide))
  obtain ⟨i0, hi, hz0, hz1, hz2⟩ := info_parts info_string
  by_cases hp : 0 < s.size
  · have hz : ((s.size : Int) == 0) = false := by rw [beq_eq_false_iff_ne]; omega
    by_cases h40 : s[0] = 40
    · have hc := sign_isn (h := hp) h40 (n := 40) rfl
      have HM : Hid (methodFin (argsFin (s.extract 1 s.size) true []) = methodR s) := (methodR_open hp h40).symm
      have HS := Lib.hid hm
      generalize methodR s = m at *
      clear h40 hm
      go_enter Tryz.func46, Tryz.ntmps46
      go_wp2_with fail
      go_loopw [5, 6] (fun v x wr => ∃ (i : Nat) (acc : List ByteArray), Hid (methodFin (argsFin (s.extract i s.size) true acc) = m) ∧ acc.length + 1 ≤ i ∧ i ≤ s.size ∧ wr.ownsRow w.heap.size 9 1 v acc.length (acc.map Value.string) ∧ Below w.heap.size w wr ∧ x = .int .i64 i) (fun _ x _ => s.size - (intOf x).toNat)
      case atStart => exact ⟨1, [], HM, by simp, by omega, World.ownsRow_nil _ _ _ _, Below.refl _ _, rfl⟩
      case round =>
        clear HM hc hz
        obtain ⟨i, acc, hfin, hla, hle, hown, hbel, rfl⟩ := hrel
        obtain ⟨va, vc, rfl⟩ := ownsRow_shape hown
        by_cases hlt : i < s.size
        · have hph := rest_head hlt 41
          by_cases h41 : s[i] = 41
          · have hc := sign_isn (h := hlt) h41 (n := 41) rfl
            have HF : Hid (methodFin (s.extract i s.size, acc, true) = m) := by
              unfold Hid; rw [← fin_stop (acc := acc) (by rw [hph, h41]; rfl)]; exact hfin.out
            have hg := givesOf_rest hlt h41
            have hgs : (s.extract (i + 1) s.size).size ≤ maxLen := extract_small HS.out
            clear h41 hph hfin
            generalize hge : s.extract (i + 1) s.size = g at *
            by_cases h5 : acc.length ≤ 5
            · cases hV : (g.toList == [86]) with
              | true =>
                have hyes : Hid (m = some (acc, g)) := by unfold Hid; rw [← HF.out]; exact methodFin_yes h5 hg (by simp [goodGives, hV])
                have hv := Lib.hid (strsAt_of_owns hown)
                clear hown HF hg hgs
                go_wp2_with (first | fail)
                all_goals first | (exfalso; omega) | skip
                go_ret3
                exact refMethod_yes hyes.out hbel hv.out
              | false =>
                cases hT : typeB g.data.toList with
                | true =>
                  have hyes : Hid (m = some (acc, g)) := by unfold Hid; rw [← HF.out]; exact methodFin_yes h5 hg (by simp [goodGives, hT])
                  have hC := refIsType_any g
                  rw [hT] at hC
                  have HC : Hid (∀ wx, _) := fun wx => hC wx hgs
                  have hv := Lib.hid (strsAt_of_owns hown)
                  clear hown HF hg hgs hT hC
                  go_wp2_with (go_at_call 33; (with_reducible refine (HC.out _).mono ?_); rintro e w2 ⟨rfl, rfl⟩)
                  all_goals first | (exfalso; omega) | skip
                  go_ret3
                  exact refMethod_yes hyes.out hbel hv.out
                | false =>
                  have hno : Hid (m = none) := by unfold Hid; rw [← HF.out]; exact methodFin_bad hg (by simp [goodGives, hT, hV])
                  have hC := refIsType_any g
                  rw [hT] at hC
                  have HC : Hid (∀ wx, _) := fun wx => hC wx hgs
                  clear hown HF hg hgs hT hC
                  go_wp2_with (go_at_call 33; (with_reducible refine (HC.out _).mono ?_); rintro e w2 ⟨rfl, rfl⟩)
                  all_goals first | (exfalso; omega) | skip
                  go_ret3
                  exact refMethod_no hno.out hbel
            · have hno : Hid (m = none) := by unfold Hid; rw [← HF.out]; exact methodFin_len h5
              clear HF hg hgs hown
              go_wp2_with (first | fail)
              all_goals first | (exfalso; omega) | skip
              go_ret3
              exact refMethod_no hno.out hbel
          · have hc := sign_isnt (h := hlt) h41 (n := 41) rfl
            rw [show (s[i] == 41) = false by simpa using h41] at hph
            have HT := Lib.hid (typeAt_any s i wr HS.out hle)
            have htn : typeAtN s i = if typeLen (s.extract i s.size).data.toList = 0 then 0 else (i : Int) + typeLen (s.extract i s.size).data.toList := by
              unfold typeAtN; rw [rest_list]
            cases ht : typeLen (s.extract i s.size).data.toList with
            | zero =>
              have HN : Hid (m = none) := by
                unfold Hid; rw [← hfin.out, fin_bad hph ht]; simp [argsFin, methodFin]
              rw [htn, ht] at HT
              simp only [if_true] at HT
              clear hfin hown ht htn hph h41
              go_wp2_with (go_at_call 45; (with_reducible refine HT.out.mono ?_); rintro e w2 ⟨rfl, rfl⟩)
              go_ret3
              exact refMethod_no HN.out hbel
            | succ n =>
              have hle2 := typeLen_le (s.extract i s.size).data.toList
              rw [rest_list, List.length_drop, length_eq, ← rest_list, ht] at hle2
              have HN : Hid (methodFin (argsFin (s.extract (i + (n + 1)) s.size) true (acc ++ [s.extract i (i + (n + 1))])) = m) := by
                unfold Hid; rw [← hfin.out, fin_step hph ht, rest_rest _ _ _ hle, rest_first]
              rw [htn, ht, if_neg (by omega)] at HT
              have hne : (((i : Int) + ((n + 1 : Nat) : Int)) == 0) = false := by rw [beq_eq_false_iff_ne]; omega
              clear hfin ht htn hph h41
              have c2 : ∀ x : Str, ∀ u ∈ [Value.string x], u.oneCell' = true := fun x u hu => by simp at hu; subst hu; rfl
              have c3 : acc.length + 1 ≤ maxLen := maxLen_of (by omega)
              have c4 : (acc.length + 1) * 16 ≤ 140737488355328 := by omega
              have c5 := hbel.size
              have HB := Lib.hid hbel
              have HO := Lib.hid hown
              generalize hx : s.extract i (i + (n + 1)) = x1 at HN
              go_wp2_with (first | (go_at_call 45; (with_reducible refine HT.out.mono ?_); rintro e w2 ⟨rfl, rfl⟩) | (at_builtin; refine wpList_append_own _ rfl _ _ 23 rfl w.heap.size 9 i0 (.string .empty) 1 16 Tryz.underlying23 hi hz0 hz1 hz2 rfl (by decide) _ _ _ rfl (hown.alloc _) ⟨wr.heap.size, 0, none⟩ 1 1 [.string x1] rfl rfl (cell_one_new _ _ _) (c2 x1) c3 c4 (by simpa using Nat.le_succ_of_le c5) ?_; intro v2 w3 hown3 hgrow3 _))
              have hb2 := HB.out.alloc c5 (.cells #[.string x1] 9)
              have hb3 := hb2.grown hgrow3 hb2.size (fun k hk => (HO.out.lt k hk).1)
              have hown4 : w3.ownsRow w.heap.size 9 1 v2 (acc ++ [x1]).length ((acc ++ [x1]).map Value.string) := by simpa using hown3
              go_roundw
              case rel => exact ⟨i + (n + 1), acc ++ [x1], HN, by simp; omega, by omega, hown4, hb3, by simp⟩
              case measure => simp [intOf]; omega
        · obtain rfl : i = s.size := by omega
          have HN : Hid (m = none) := by
            have hl : (s.extract s.size s.size).data.toList = [] := by rw [rest_list]; simp
            unfold Hid; rw [← hfin.out, fin_bad (by rw [hl]; rfl) (by rw [hl]; rfl)]; simp [argsFin, methodFin]
          clear hfin hown
          go_wp2_with (first | fail)
          all_goals first | (exfalso; omega) | skip
          go_ret3
          exact refMethod_no HN.out hbel
    · have hc := sign_isnt (h := hp) h40 (n := 40) rfl
      have hno : Hid (methodR s = none) := methodR_shut (fun _ => h40)
      clear h40
      go_enter Tryz.func46, Tryz.ntmps46
      go_wp2_with fail
      go_ret3
      exact refMethod_no hno.out (Below.refl _ _)
  · have hno : Hid (methodR s = none) := methodR_shut (fun h => absurd h hp)
    have hz : ((s.size : Int) == 0) = true := by rw [beq_iff_eq]; omega
    clear hp
    go_enter Tryz.func46, Tryz.ntmps46
    go_wp2_with fail
    go_ret3
    exact refMethod_no hno.out (Below.refl _ _)
end Go.Proofs.YtinccnehfalfnaaGreatDoor
