/-
  WALKS over package desc: Check, Number, Word. Conditions: a text as long as a string can be.
  WALKS over package desc: Method. Conditions: a text of at most 1048576 signs.
-/
import Derived.Test.YtlmfmioljeppfaaGreatDoorCut
namespace Go.Proofs.YtlmfmioljeppfaaGreatDoor
open Go.RowKit Go.Shelf Go.Lib
theorem cut_bad {s : ByteArray} (hs : s.size ≤ maxLen) (h : typeLen s.data.toList = 0) (w : World) :
    Calls Tryz.prog 98 #[.string s] w fun e w' => e = .returned (.tuple #[.string .empty, .string s, .bool false]) ∧ Below w.heap.size w w' := by
  have := cut_any s w hs
  unfold cutV at this
  rwa [if_pos h] at this
theorem cut_good {s : ByteArray} {n : Nat} (hs : s.size ≤ maxLen) (h : typeLen s.data.toList = n + 1) (w : World) :
    Calls Tryz.prog 98 #[.string s] w fun e w' => e = .returned (.tuple #[.string (s.extract 0 (n + 1)), .string (s.extract (n + 1) s.size), .bool true]) ∧ Below w.heap.size w w' := by
  have := cut_any s w hs
  unfold cutV at this
  rw [if_neg (by omega), h] at this
  exact this
theorem coreLen_le (l : List UInt8) : coreLen l ≤ l.length := by
  unfold coreLen
  cases l with
  | nil => simp
  | cons c q =>
    simp only [List.length_cons]
    split
    · omega
    · split
      · split
        · rename_i h; omega
        · omega
      · omega
theorem typeLen_le (l : List UInt8) : typeLen l ≤ l.length := by
  unfold typeLen
  split
  · have := coreLen_le (l.drop (deepOf l)); simp at this; have := deepOf_le l; omega
  · omega
def typeFault (s : ByteArray) : Nat := if typeB s.data.toList = true then 0 else 1
theorem typeB_iff (s : ByteArray) : typeB s.data.toList = true ↔ 0 < s.size ∧ typeLen s.data.toList = s.size := by
  have := length_eq s
  unfold typeB
  cases h : s.data.toList with
  | nil => rw [h] at this; simp at this; simp [← this]
  | cons c r => rw [h] at this; rw [← this]; simp
set_option maxHeartbeats 400000 in
theorem descCheck_any (s : ByteArray) (w : World) (hs : s.size ≤ maxLen) :
    Calls Tryz.prog 53 #[.string s] w fun e w' => e = .returned (errV (typeFault s)) ∧ Below w.heap.size w w' := by
  have hle := typeLen_le s.data.toList
  rw [length_eq] at hle
  have hT := typeB_iff s
  cases hn : typeLen s.data.toList with
  | zero =>
    have hf : typeFault s = 1 := by unfold typeFault; rw [if_neg]; rw [hT]; omega
    rw [hf]
    have H := Lib.hid hn
    clear hn hf hT hle
    go_enter Tryz.func53, Tryz.ntmps53
    go_wp2_with (go_at_call 98; (with_reducible refine (cut_bad hs H.out _).mono ?_); rintro e w' ⟨rfl, hB⟩)
    go_ret
    exact ⟨rfl, hB⟩
  | succ n =>
    have H := Lib.hid hn
    by_cases hf : n + 1 = s.size
    · have hf2 : typeFault s = 0 := by unfold typeFault; rw [if_pos]; rw [hT]; omega
      have he : (s.extract (n + 1) s.size).toList.isEmpty = true := by rw [empty_iff]; simp; omega
      rw [hf2]
      clear hn hf hT hle hf2
      go_enter Tryz.func53, Tryz.ntmps53
      go_wp2_with (go_at_call 98; (with_reducible refine (cut_good hs H.out _).mono ?_); rintro e w' ⟨rfl, hB⟩)
      go_ret
      exact ⟨rfl, hB⟩
    · have hf2 : typeFault s = 1 := by unfold typeFault; rw [if_neg]; rw [hT]; omega
      have he : (s.extract (n + 1) s.size).toList.isEmpty = false := by rw [empty_iff]; simp; omega
      rw [hf2]
      clear hn hf hT hle hf2
      go_enter Tryz.func53, Tryz.ntmps53
      go_wp2_with (go_at_call 98; (with_reducible refine (cut_good hs H.out _).mono ?_); rintro e w' ⟨rfl, hB⟩)
      go_ret
      exact ⟨rfl, hB⟩
theorem number_any (s : ByteArray) (w : World) :
    Calls Tryz.prog 131 #[.string s] w fun e w' => e = .returned (.bool (wordB s.data.toList)) ∧ w = w' := by
  rw [← ByteArray.toList_eq]
  go_enter Tryz.func131, Tryz.ntmps131
  go_wp2
  all_goals
    go_ret
    simp [wordB, *]
end Go.Proofs.YtlmfmioljeppfaaGreatDoor
namespace Go.Proofs.YtlmfmioljeppfaaGreatDoor
open Go.RowKit Go.Shelf Go.Lib
theorem ownsRow_below {w w' : World} {base : Nat} {e : TypeId} {size : Nat} {v : Value} {n : Nat} {xs : List Value} (h : w.ownsRow base e size v n xs) (hb : Below w.heap.size w w') : w'.ownsRow base e size v n xs := by
  refine ⟨h.1, ?_⟩
  rcases h.2 with hn | ⟨g, cap, cur, rfl, h1, h2, h3⟩
  · exact .inl hn
  · have hg : g < w.heap.size := (Array.getElem?_eq_some_iff.1 h2).1
    exact .inr ⟨g, cap, cur, rfl, h1, by rw [hb.block g hg]; exact h2, h3⟩
theorem strsAt_of_owns {w : World} {base : Nat} {e : TypeId} {v : Value} {l : List ByteArray} (h : w.ownsRow base e 1 v l.length (l.map Value.string)) : StrsAt w v l := by
  rcases h.2 with ⟨h1, h2⟩ | ⟨g, cap, cur, rfl, h1, h2, h3, h4, h5, h6⟩
  · exact Or.inl ⟨h1, List.length_eq_zero_iff.1 h2⟩
  · refine Or.inr ⟨⟨g, 0, none⟩, cap, rfl, h3, h4, fun i x hi => ⟨[.string x], rfl, rfl, rfl, ?_, trivial⟩⟩
    rw [cell_of_row w g (0 + i * 1) cur e (0, 0) h2]
    have : cur.toList[i]? = some (.string x) := by
      have h7 : (cur.toList.take (l.length * 1))[i]? = some (.string x) := by rw [h6]; simp [hi]
      have hil : i < l.length := (List.getElem?_eq_some_iff.1 hi).1
      rw [List.getElem?_take_of_lt (by omega)] at h7
      exact h7
    simpa using this
theorem argsGo_more : ∀ (n m : Nat) (r : ByteArray) (acc : List ByteArray), r.size < n → r.size < m → argsGo n r acc = argsGo m r acc
  | 0, _, _, _, h, _ => absurd h (Nat.not_lt_zero _)
  | _ + 1, 0, _, _, _, h => absurd h (Nat.not_lt_zero _)
  | n + 1, m + 1, r, acc, h1, h2 => by
    unfold argsGo
    split
    · rfl
    · split
      · rfl
      · rename_i h3
        have hle := typeLen_le r.data.toList
        rw [length_eq] at hle
        have hs : (r.extract (typeLen r.data.toList) r.size).size = r.size - typeLen r.data.toList := by simp
        exact argsGo_more n m _ _ (by omega) (by omega)
theorem fin_stop {r : ByteArray} {acc : List ByteArray} (h : Lib.hasPrefix r.data.toList [41] = true) : argsFin r true acc = (r, acc, true) := by
  unfold argsFin argsGo; rw [if_pos rfl, if_pos h]
theorem fin_bad {r : ByteArray} {acc : List ByteArray} (h : Lib.hasPrefix r.data.toList [41] = false) (h2 : typeLen r.data.toList = 0) : argsFin r true acc = argsFin r false acc := by
  unfold argsFin argsGo; rw [if_pos rfl, if_neg (by rw [h]; decide), if_pos h2]; rfl
theorem fin_step {r : ByteArray} {acc : List ByteArray} {n : Nat} (h : Lib.hasPrefix r.data.toList [41] = false) (h2 : typeLen r.data.toList = n + 1) : argsFin r true acc = argsFin (r.extract (n + 1) r.size) true (acc ++ [r.extract 0 (n + 1)]) := by
  have hle := typeLen_le r.data.toList
  rw [length_eq] at hle
  have hs : (r.extract (n + 1) r.size).size = r.size - (n + 1) := by simp
  have e : argsFin r true acc = argsGo r.size (r.extract (n + 1) r.size) (acc ++ [r.extract 0 (n + 1)]) := by
    conv => lhs; unfold argsFin argsGo
    rw [if_pos rfl, if_neg (by rw [h]; decide), if_neg (by omega), h2]
  rw [e]
  unfold argsFin
  rw [if_pos rfl]
  exact argsGo_more _ _ _ _ (by omega) (by omega)
def strSize : Value → Nat | .string s => s.size | _ => 0
def boolOf : Value → Bool | .bool b => b | _ => false
theorem info_string : (Tryz.prog.info? 9).map (fun i => (i.zero, i.size, i.bytes)) = some (some (.string .empty), 1, 16) := by kernel_rfl
theorem cutPrefix_any (s p : ByteArray) (w : World) : Calls Tryz.prog 175 #[.string s, .string p] w fun e w' => e = .returned (.tuple #[.string ⟨(Lib.trimPrefix s.data.toList p.data.toList).toArray⟩, .bool (Lib.hasPrefix s.data.toList p.data.toList)]) ∧ w = w' :=
  (Tryz.strings_CutPrefix s p w).mono fun _ _ h => ⟨h.1, h.2.symm⟩
theorem hasPrefix_any (s p : ByteArray) (w : World) : Calls Tryz.prog 145 #[.string s, .string p] w fun e w' => e = .returned (.bool (Lib.hasPrefix s.data.toList p.data.toList)) ∧ w = w' :=
  (Tryz.strings_HasPrefix s p w).mono fun _ _ h => ⟨h.1, h.2.symm⟩
theorem trimPrefix_any (s p : ByteArray) (w : World) : Calls Tryz.prog 176 #[.string s, .string p] w fun e w' => e = .returned (.string ⟨(Lib.trimPrefix s.data.toList p.data.toList).toArray⟩) ∧ w = w' :=
  (Tryz.strings_TrimPrefix s p w).mono fun _ _ h => ⟨h.1, h.2.symm⟩
theorem trimParen_any (r : ByteArray) (w : World) : Calls Tryz.prog 176 #[.string r, .string ⟨#[41]⟩] w fun e w' => e = .returned (.string (givesOf r)) ∧ w = w' := trimPrefix_any r ⟨#[41]⟩ w
theorem gives_size (r : ByteArray) : (givesOf r).size ≤ r.size := by
  have h : (Lib.trimPrefix r.data.toList [41]).length ≤ r.data.toList.length := by unfold Lib.trimPrefix; split <;> simp
  rw [length_eq] at h
  have e : (givesOf r).size = (Lib.trimPrefix r.data.toList [41]).length := by simp [givesOf, ByteArray.size]
  omega
theorem descCheck_good {g : ByteArray} (hs : g.size ≤ maxLen) (h : typeB g.data.toList = true) (w : World) : Calls Tryz.prog 53 #[.string g] w fun e w' => e = .returned .nilIface ∧ Below w.heap.size w w' := by
  have := descCheck_any g w hs
  unfold typeFault at this
  rwa [if_pos h] at this
theorem descCheck_bad {g : ByteArray} (hs : g.size ≤ maxLen) (h : typeB g.data.toList = false) (w : World) : Calls Tryz.prog 53 #[.string g] w fun e w' => e = .returned (.iface 29 (.int .i64 1)) ∧ Below w.heap.size w w' := by
  have := descCheck_any g w hs
  unfold typeFault at this
  rwa [if_neg (by rw [h]; decide)] at this
theorem maxLen_of {n : Nat} (h : n ≤ 9223372036854775807) : n ≤ maxLen := h
theorem methodFin_yes {r g : ByteArray} {acc : List ByteArray} (h5 : acc.length ≤ 5) (hr : givesOf r = g) (hg : goodGives g = true) : methodFin (r, acc, true) = some (acc, g) := by
  subst hr; unfold methodFin; exact if_pos ⟨rfl, h5, hg⟩
theorem methodFin_len {r : ByteArray} {acc : List ByteArray} (h5 : ¬ acc.length ≤ 5) : methodFin (r, acc, true) = none := if_neg fun h => h5 h.2.1
theorem methodFin_bad {r g : ByteArray} {acc : List ByteArray} (hr : givesOf r = g) (hg : goodGives g = false) : methodFin (r, acc, true) = none := by
  subst hr; exact if_neg fun h => by have := h.2.2; rw [hg] at this; cases this
theorem ownsRow_shape {w : World} {base : Nat} {e : TypeId} {size : Nat} {v : Value} {n : Nat} {xs : List Value} (h : w.ownsRow base e size v n xs) : ∃ a c, v = .slice a n c := by
  rcases h.2 with ⟨h1, h2⟩ | ⟨g, cap, cur, h1, _⟩
  · exact ⟨none, 0, by rw [h1, h2]⟩
  · exact ⟨_, _, h1⟩
def MethodPost (w : World) (m : Option (List ByteArray × ByteArray)) (e : Ending) (w' : World) : Prop :=
  Below w.heap.size w w' ∧ match m with
    | none => e = .returned (.tuple #[.slice none 0 0, .string .empty, .iface 29 (.int .i64 1)])
    | some (args, g) => ∃ v, e = .returned (.tuple #[v, .string g, .nilIface]) ∧ StrsAt w' v args
theorem method_no {w w' : World} {m : Option (List ByteArray × ByteArray)} (hm : m = none) (hb : Below w.heap.size w w') :
    MethodPost w m (.returned (.tuple #[.slice none 0 0, .string .empty, .iface 29 (.int .i64 1)])) w' := by subst hm; exact ⟨hb, rfl⟩
theorem method_yes {w w' : World} {m : Option (List ByteArray × ByteArray)} {args : List ByteArray} {g : ByteArray} {v : Value} (hm : m = some (args, g)) (hb : Below w.heap.size w w') (hv : StrsAt w' v args) :
    MethodPost w m (.returned (.tuple #[v, .string g, .nilIface])) w' := by subst hm; exact ⟨hb, v, rfl, hv⟩
set_option maxRecDepth 100000 in
set_option maxHeartbeats 1000000 in
theorem method_loop (s r0 : ByteArray) (is0 : Bool) (w : World) (hs : s.size ≤ 1048576) (hr0 : r0.size ≤ s.size) (h0 : Lib.trimPrefix s.data.toList [40] = r0.data.toList) (hi0 : Lib.hasPrefix s.data.toList [40] = is0) (r : ByteArray) (acc : List ByteArray) (is : Bool) (hf : argsFin r0 is0 [] = (r, acc, is)) (m : Option (List ByteArray × ByteArray)) (hm : methodFin (r, acc, is) = m) :
    Calls Tryz.prog 132 #[.string s] w (MethodPost w m) := by
  have HMF := Lib.hid hm
  clear hm
  have HF := Lib.hid hf
  obtain ⟨i0, hi, hz0, hz1, hz2⟩ := info_parts info_string
  clear hf
  go_enter Tryz.func132, Tryz.ntmps132
  go_wp2_with (go_at_call 175; (with_reducible refine (cutPrefix_any _ _ _).mono ?_); rintro e w' ⟨rfl, rfl⟩)
  clear h0 hi0
  go_loopw [5, 6, 7] (fun x y v wr => ∃ (r1 : ByteArray) (is1 : Bool) (acc1 : List ByteArray), Hid (argsFin r1 is1 acc1 = (r, acc, is)) ∧ r1.size + acc1.length ≤ s.size ∧ wr.ownsRow w.heap.size 9 1 v acc1.length (acc1.map Value.string) ∧ Below w.heap.size w wr ∧ x = .string r1 ∧ y = .bool is1)
    (fun x y _ _ => if boolOf y then strSize x + 1 else 0)
  case atStart => exact ⟨r0, is0, [], HF, by simpa using hr0, World.ownsRow_nil _ _ _ _, Below.refl _ _, rfl, rfl⟩
  case round =>
    clear HF
    obtain ⟨r1, is1, acc1, hfin, hsz, hown, hbel, rfl, rfl⟩ := hrel
    cases is1 with
    | false =>
      have hfo := hfin.out
      unfold argsFin at hfo
      simp only [Bool.false_eq_true, if_false, Prod.mk.injEq] at hfo
      obtain ⟨rfl, rfl, rfl⟩ := hfo
      have hno : Hid (m = none) := by unfold Hid; rw [← HMF.out]; simp [methodFin]
      clear hfin HMF hown
      go_wp2_with (go_at_call 176; (with_reducible refine (trimParen_any _ _).mono ?_); rintro e w' ⟨rfl, rfl⟩)
      go_ret3
      exact method_no hno.out hbel
    | true =>
      cases hp : Lib.hasPrefix r1.data.toList [41] with
      | true =>
        have hfo := hfin.out
        rw [fin_stop hp] at hfo
        simp only [Prod.mk.injEq] at hfo
        obtain ⟨rfl, rfl, rfl⟩ := hfo
        clear hfin
        have hgs : (givesOf r1).size ≤ maxLen := maxLen_of (by have := gives_size r1; omega)
        have HMF2 : Hid (methodFin (r1, acc1, true) = m) := HMF.out
        clear HMF
        obtain ⟨va, vc, rfl⟩ := ownsRow_shape hown
        generalize hg : givesOf r1 = g at *
        by_cases h5 : acc1.length ≤ 5
        · cases hV : (g.toList == [86]) with
          | true =>
            have hyes : Hid (m = some (acc1, g)) := by unfold Hid; rw [← HMF2.out]; exact methodFin_yes h5 hg (by simp [goodGives, hV])
            have hv := Lib.hid (strsAt_of_owns hown)
            have HG := Lib.hid hgs
            clear hown HMF2 hgs
            go_wp2_with (first | (go_at_call 145; (with_reducible refine (hasPrefix_any _ _ _).mono ?_); rintro e w' ⟨rfl, rfl⟩) | (go_at_call 176; (with_reducible refine (trimParen_any _ _).mono ?_); rintro e w' ⟨rfl, rfl⟩))
            go_ret3
            exact method_yes hyes.out hbel hv.out
          | false =>
            cases hT : typeB g.data.toList with
            | true =>
              have hyes : Hid (m = some (acc1, g)) := by unfold Hid; rw [← HMF2.out]; exact methodFin_yes h5 hg (by simp [goodGives, hT])
              have hC := Lib.hid (descCheck_good hgs hT)
              have HO := Lib.hid hown
              clear hown HMF2 hgs hT
              go_wp2_with (first | (go_at_call 145; (with_reducible refine (hasPrefix_any _ _ _).mono ?_); rintro e w' ⟨rfl, rfl⟩) | (go_at_call 176; (with_reducible refine (trimParen_any _ _).mono ?_); rintro e w' ⟨rfl, rfl⟩) | (go_at_call 53; (with_reducible refine (hC.out _).mono ?_); rintro e w2 ⟨rfl, hB⟩))
              go_ret3
              exact method_yes hyes.out (hbel.trans (hB.mono hbel.size)) (strsAt_of_owns (ownsRow_below HO.out hB))
            | false =>
              have hno : Hid (m = none) := by unfold Hid; rw [← HMF2.out]; exact methodFin_bad hg (by simp [goodGives, hT, hV])
              have hC := Lib.hid (descCheck_bad hgs hT)
              clear hown HMF2 hgs hT
              go_wp2_with (first | (go_at_call 145; (with_reducible refine (hasPrefix_any _ _ _).mono ?_); rintro e w' ⟨rfl, rfl⟩) | (go_at_call 176; (with_reducible refine (trimParen_any _ _).mono ?_); rintro e w' ⟨rfl, rfl⟩) | (go_at_call 53; (with_reducible refine (hC.out _).mono ?_); rintro e w2 ⟨rfl, hB⟩))
              go_ret3
              exact method_no hno.out (hbel.trans (hB.mono hbel.size))
        · have hno : Hid (m = none) := by unfold Hid; rw [← HMF2.out]; exact methodFin_len h5
          clear HMF2 hgs hown
          go_wp2_with (first | (go_at_call 145; (with_reducible refine (hasPrefix_any _ _ _).mono ?_); rintro e w' ⟨rfl, rfl⟩) | (go_at_call 176; (with_reducible refine (trimParen_any _ _).mono ?_); rintro e w' ⟨rfl, rfl⟩))
          go_ret3
          exact method_no hno.out hbel
      | false =>
        cases ht : typeLen r1.data.toList with
        | zero =>
          have HT := Lib.hid ht
          have HN : Hid (argsFin r1 false acc1 = (r, acc, is)) := by unfold Hid; rw [← fin_bad hp ht]; exact hfin.out
          clear ht hfin
          go_wp2_with (first | (go_at_call 145; (with_reducible refine (hasPrefix_any _ _ _).mono ?_); rintro e w' ⟨rfl, rfl⟩) | (go_at_call 98; (with_reducible refine (cut_bad (maxLen_of (by omega)) HT.out _).mono ?_); rintro e w2 ⟨rfl, hB⟩))
          go_roundw
          case rel => exact ⟨r1, false, acc1, HN, hsz, ownsRow_below hown hB, hbel.trans (hB.mono hbel.size), rfl, rfl⟩
          case measure => simp [boolOf]
        | succ n =>
          have hle := typeLen_le r1.data.toList
          rw [length_eq, ht] at hle
          have HT := Lib.hid ht
          have HN : Hid (argsFin (r1.extract (n + 1) r1.size) true (acc1 ++ [r1.extract 0 (n + 1)]) = (r, acc, is)) := by unfold Hid; rw [← fin_step hp ht]; exact hfin.out
          have hx1 : (r1.extract (n + 1) r1.size).size = r1.size - (n + 1) := by simp
          have HX := Lib.hid hx1
          clear ht hfin hx1
          generalize hr2 : r1.extract (n + 1) r1.size = r2 at HN HX
          generalize hx : r1.extract 0 (n + 1) = x1 at HN
          go_wp2_with (go_at_call 145; (with_reducible refine (hasPrefix_any _ _ _).mono ?_); rintro e w' ⟨rfl, rfl⟩)
          (with_reducible refine (cut_good (maxLen_of (by omega)) HT.out _).mono ?_)
          rintro e w2 ⟨rfl, hB⟩
          have ho := ownsRow_below hown hB
          have hb2 : Below w.heap.size w (w2.alloc (.cells #[.string x1] 9)) := (hbel.trans (hB.mono hbel.size)).alloc (Nat.le_trans hbel.size hB.size) _
          have c2 : ∀ u ∈ [Value.string x1], u.oneCell' = true := fun u hu => by simp at hu; subst hu; rfl
          have c3 : acc1.length + 1 ≤ maxLen := maxLen_of (by omega)
          have c4 : (acc1.length + 1) * 16 ≤ 140737488355328 := by omega
          have c5 := hb2.size
          have HB2 := Lib.hid hb2
          have HZ : Hid ((r2.size : Nat) + (acc1 ++ [x1]).length ≤ s.size) := by unfold Hid; rw [HX.out]; simp; omega
          have HM : Hid (r2.size < r1.size) := by unfold Hid; rw [HX.out]; omega
          clear hown hB hbel hb2 hle hsz hr0 HX HT
          go_wp2_with (at_builtin; refine wpList_append_own _ rfl _ _ 25 rfl w.heap.size 9 i0 (.string .empty) 1 16 Tryz.underlying25 hi hz0 hz1 hz2 rfl (by decide) _ _ _ rfl (ho.alloc _) ⟨w2.heap.size, 0, none⟩ 1 1 [.string x1] rfl rfl (cell_one_new _ _ _) c2 c3 c4 c5 ?_; intro v2 w3 hown3 hgrow3 _)
          have hb3 : Below w.heap.size w w3 := HB2.out.grown hgrow3 c5 (fun k hk => (ho.lt k hk).1)
          have hown4 : w3.ownsRow w.heap.size 9 1 v2 (acc1 ++ [x1]).length ((acc1 ++ [x1]).map Value.string) := by simpa using hown3
          go_roundw
          case rel => exact ⟨r2, true, acc1 ++ [x1], HN, HZ.out, hown4, hb3, rfl, rfl⟩
          case measure => have := HM.out; simp [boolOf, strSize]; omega
theorem descMethod_any (s : ByteArray) (w : World) (hs : s.size ≤ 1048576) : Calls Tryz.prog 132 #[.string s] w (MethodPost w (methodR s)) := by
  have hsz : (Lib.trimPrefix s.data.toList [40]).length ≤ s.data.toList.length := by unfold Lib.trimPrefix; split <;> simp
  rw [length_eq] at hsz
  exact method_loop s ⟨(Lib.trimPrefix s.data.toList [40]).toArray⟩ (Lib.hasPrefix s.data.toList [40]) w hs (by show (Lib.trimPrefix s.data.toList [40]).toArray.size ≤ s.size; rw [List.size_toArray]; exact hsz) rfl rfl _ _ _ rfl _ rfl
end Go.Proofs.YtlmfmioljeppfaaGreatDoor
