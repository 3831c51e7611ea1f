/-
  WALKS over find.Field, Method. Conditions: as in XRead; names of at most maxLen signs.
-/
import Derived.Test.YtpjkpmmjehnahaaGreatDoorFind
namespace Go.Proofs.YtpjkpmmjehnahaaGreatDoor
open Go.RowKit Go.Shelf Go.Lib
def fieldN (l : List Class) (c n : Str) : Option (Str × Field) := if namedFault l c = 0 then fieldC (allC l) c n else none
def fieldFaultN (l : List Class) (c n : Str) : Nat := if namedFault l c = 0 then (if (fieldC (allC l) c n).isSome then 0 else 3) else namedFault l c
/-- what Field hands back, beside the error -/
def fieldE (v : Value) : Option (Str × Field) → Value
  | some (c, f) => .tuple #[.string c, .agg #[.string f.name, .string f.type], v]
  | none => .tuple #[.string ⟨#[]⟩, .agg #[.string ⟨#[]⟩, .string ⟨#[]⟩], v]
set_option maxHeartbeats 2000000 in
set_option maxRecDepth 100000 in
theorem findField_any (l : List Class) (lv : Value) (c n : Str) (w : World) (hl : Laid w) (ho : ∀ c ∈ l, ClassOk c) (hlv : ClassesAt w lv l) (hn : c.size ≤ maxLen) :
    Calls Tryz.prog 25 #[lv, .string c, .string n] w fun e w' => e = .returned (fieldE (errV (fieldFaultN l c n)) (fieldN l c n)) ∧ Below w.heap.size w w' := by
  have HW : Hid (∀ wx, Below w.heap.size w wx → _) := fun wx hb => with_any l lv c wx (hl.mono hb hl.1) ho (hlv.mono hb) hn
  have HFO : Hid (∀ w0 wx B, WorldMap w0 wx B l → (findC (allC l) c).isSome = true → _) := fun w0 wx B hm hk => fieldOf_any w0 wx B l hm c n hk
  obtain ⟨pl, capl, rfl, _⟩ := hlv.open
  have hblk : Blk (w.alloc (.cells #[.string ⟨#[]⟩, .string ⟨#[]⟩] 50)) w.heap.size 50 zField := Blk.new w _ zField
  have hB1 : Below w.heap.size w (w.alloc (.cells #[.string ⟨#[]⟩, .string ⟨#[]⟩] 50)) := (Below.refl _ _).alloc (Nat.le_refl _) _
  unfold WithPost at HW
  clear hl ho hlv hn
  by_cases hz : namedFault l c = 0
  · have HZ := Lib.hid hz
    have hF : fieldFaultN l c n = if (fieldC (allC l) c n).isSome then 0 else 3 := by unfold fieldFaultN; rw [if_pos hz]
    have hN : fieldN l c n = fieldC (allC l) c n := by unfold fieldN; rw [if_pos hz]
    rw [hF, hN]
    clear hz hF hN
    cases hq : fieldC (allC l) c n with
    | some x =>
      obtain ⟨d, f⟩ := x
      rw [hq] at HFO
      simp only [fieldV] at HFO
      clear hq
      go_enter Tryz.func25, Tryz.ntmps25
      go_upto_region 7 with (first
        | (go_at_call 57; (with_reducible refine (HW.out _ hB1).mono ?_); rintro e w2 ⟨hB2, ⟨_, rfl, hN⟩ | ⟨hz, _⟩⟩; rotate_left; (exact absurd HZ.out hz); (have hW2 := hN.world); simp only [World.size_alloc] at hW2)
        | (go_at_call 60; (with_reducible refine (HFO.out _ _ _ hW2 hN.known).mono ?_); rintro e w3 ⟨rfl, hB3⟩))
      have hBl := (hblk.step hB2).step hB3
      obtain ⟨q0, q1⟩ := hBl.field
      have hfz := hBl.frozen
      have hlt := hBl.lt
      have hBe := below_call (below_call hB1 (Nat.le_refl _) hB2) (Nat.le_refl _) hB3
      have HE := Lib.hid ((below_set2 hBe (Nat.le_refl w.heap.size) (.string f.name) (.string f.type)).alloc (Nat.le_trans hBe.size (by simp)) (.cells #[.string f.name, .string f.type] 50)).drew
      clear hBl hBe hblk hB1 hB2 hB3 hN hW2
      go_region
      all_goals go_wp2
      all_goals exact bodyPost_ret (v := .tuple #[.string d, .agg #[.string f.name, .string f.type], .nilIface]) (by simp [results, Tryz.results25, go_sem, *]) rfl ⟨rfl, HE.out⟩
    | none =>
      rw [hq] at HFO
      simp only [fieldV] at HFO
      clear hq
      go_enter Tryz.func25, Tryz.ntmps25
      go_upto_region 6 with (first
        | (go_at_call 57; (with_reducible refine (HW.out _ hB1).mono ?_); rintro e w2 ⟨hB2, ⟨_, rfl, hN⟩ | ⟨hz, _⟩⟩; rotate_left; (exact absurd HZ.out hz); (have hW2 := hN.world); simp only [World.size_alloc] at hW2)
        | (go_at_call 60; (with_reducible refine (HFO.out _ _ _ hW2 hN.known).mono ?_); rintro e w3 ⟨rfl, hB3⟩))
      have hBl := (hblk.step hB2).step hB3
      obtain ⟨q0, q1⟩ := hBl.field
      have hfz := hBl.frozen
      have hlt := hBl.lt
      have hBe := below_call (below_call hB1 (Nat.le_refl _) hB2) (Nat.le_refl _) hB3
      have HE := Lib.hid ((below_set2 hBe (Nat.le_refl w.heap.size) (.string ⟨#[]⟩) (.string ⟨#[]⟩)).alloc (Nat.le_trans hBe.size (by simp)) (.cells #[.string ⟨#[]⟩, .string ⟨#[]⟩] 50))
      clear hBl hBe hblk hB1 hB2 hB3 hN hW2
      go_wp2_with (first | fail)
      exact bodyPost_ret (v := .tuple #[.string ⟨#[]⟩, .agg #[.string ⟨#[]⟩, .string ⟨#[]⟩], .iface 24 (.int .i64 3)]) (by simp [results, Tryz.results25, go_sem, *]) rfl ⟨rfl, HE.out⟩
  · have HZ := Lib.hid hz
    have hF : fieldFaultN l c n = namedFault l c := by unfold fieldFaultN; rw [if_neg hz]
    have hN : fieldN l c n = none := by unfold fieldN; rw [if_neg hz]
    rw [hF, hN]
    rcases errV_cases (namedFault l c) with ⟨_, h0⟩ | ⟨hv, _⟩
    · exact absurd h0 hz
    rw [hv]
    clear hz hF hN hv HFO
    generalize namedFault l c = f at *
    go_enter Tryz.func25, Tryz.ntmps25
    go_upto_region 3 with (go_at_call 57; (with_reducible refine (HW.out _ hB1).mono ?_); rintro e w2 ⟨hB2, ⟨hz, _⟩ | ⟨_, rfl⟩⟩; (exact absurd hz HZ.out))
    have hBl := hblk.step hB2
    obtain ⟨q0, q1⟩ := hBl.field
    have hfz := hBl.frozen
    have hlt := hBl.lt
    have hBe := below_call hB1 (Nat.le_refl _) hB2
    have HE := Lib.hid (below_set2 hBe (Nat.le_refl w.heap.size) (.string ⟨#[]⟩) (.string ⟨#[]⟩))
    clear hBl hBe hblk hB1 hB2
    go_wp2_with (first | fail)
    exact bodyPost_ret (v := .tuple #[.string ⟨#[]⟩, .agg #[.string ⟨#[]⟩, .string ⟨#[]⟩], .iface 24 (.int .i64 f)]) (by simp [results, Tryz.results25, go_sem, *]) rfl ⟨rfl, HE.out⟩
def methodN (l : List Class) (c n t : Str) : Option (Str × Method) := if namedFault l c = 0 then methodC (allC l) c n t else none
def methodFaultN (l : List Class) (c n t : Str) : Nat := if namedFault l c = 0 then (if (methodC (allC l) c n t).isSome then 0 else 3) else namedFault l c
/-- a method without its code and handlers -/
def bareV (m : Method) : Value := .agg #[.string m.name, .string m.type, .bool m.static, .bool m.abs, .bool m.priv, .int .i64 m.locals, .slice none 0 0, .slice none 0 0]
/-- what Method hands back, beside the error -/
def methodE (v : Value) : Option (Str × Method) → Value
  | some (c, m) => .tuple #[.string c, bareV m, v]
  | none => .tuple #[.string ⟨#[]⟩, bareV noMethod, v]
set_option maxHeartbeats 2000000 in
set_option maxRecDepth 100000 in
theorem findMethod_any (l : List Class) (lv : Value) (c n t : Str) (w : World) (hl : Laid w) (ho : ∀ c ∈ l, ClassOk c) (hlv : ClassesAt w lv l) (hn : c.size ≤ maxLen) :
    Calls Tryz.prog 26 #[lv, .string c, .string n, .string t] w fun e w' => e = .returned (methodE (errV (methodFaultN l c n t)) (methodN l c n t)) ∧ Below w.heap.size w w' := by
  have HW : Hid (∀ wx, Below w.heap.size w wx → _) := fun wx hb => with_any l lv c wx (hl.mono hb hl.1) ho (hlv.mono hb) hn
  have HFO : Hid (∀ w0 wx B, WorldMap w0 wx B l → (findC (allC l) c).isSome = true → _) := fun w0 wx B hm hk => methodOf_any w0 wx B l hm c n t hk
  obtain ⟨pl, capl, rfl, _⟩ := hlv.open
  have hblk : Blk (w.alloc (.cells #[.string ⟨#[]⟩, .string ⟨#[]⟩, .bool false, .bool false, .bool false, .int .i64 0, .slice none 0 0, .slice none 0 0] 56)) w.heap.size 56 zMethod := Blk.new w _ zMethod
  have hB1 : Below w.heap.size w (w.alloc (.cells #[.string ⟨#[]⟩, .string ⟨#[]⟩, .bool false, .bool false, .bool false, .int .i64 0, .slice none 0 0, .slice none 0 0] 56)) := (Below.refl _ _).alloc (Nat.le_refl _) _
  unfold WithPost at HW
  unfold MethodPost3 at HFO
  clear hl ho hlv hn
  by_cases hz : namedFault l c = 0
  · have HZ := Lib.hid hz
    have hF : methodFaultN l c n t = if (methodC (allC l) c n t).isSome then 0 else 3 := by unfold methodFaultN; rw [if_pos hz]
    have hN : methodN l c n t = methodC (allC l) c n t := by unfold methodN; rw [if_pos hz]
    rw [hF, hN]
    clear hz hF hN
    cases hq : methodC (allC l) c n t with
    | some x =>
      obtain ⟨d, m⟩ := x
      rw [hq] at HFO
      simp only [methodV3, Option.map_some, Option.getD_some] at HFO
      clear hq
      go_enter Tryz.func26, Tryz.ntmps26
      go_upto_region 8 with (first
        | (go_at_call 57; (with_reducible refine (HW.out _ hB1).mono ?_); rintro e w2 ⟨hB2, ⟨_, rfl, hN⟩ | ⟨hz, _⟩⟩; rotate_left; (exact absurd HZ.out hz); (have hW2 := hN.world); simp only [World.size_alloc] at hW2)
        | (go_at_call 61; (with_reducible refine (HFO.out _ _ _ hW2 hN.known).mono ?_); rintro e w3 ⟨⟨v3, rfl, pc, kc, ph, kh, rfl, _, _⟩, hB3⟩))
      have hBl := (hblk.step hB2).step hB3
      obtain ⟨q0, q1, q2, q3, q4, q5, q6, q7⟩ := hBl.method
      have hfz := hBl.frozen
      have hlt := hBl.lt
      have hBe := below_call (below_call hB1 (Nat.le_refl _) hB2) (Nat.le_refl _) hB3
      have HE := Lib.hid ((below_set8 hBe (Nat.le_refl w.heap.size) (.string m.name) (.string m.type) (.bool m.static) (.bool m.abs) (.bool m.priv) (.int .i64 m.locals) (.slice none 0 0) (.slice none 0 0)).alloc (Nat.le_trans hBe.size (by simp)) (.cells #[.string m.name, .string m.type, .bool m.static, .bool m.abs, .bool m.priv, .int .i64 m.locals, .slice none 0 0, .slice none 0 0] 56)).drew
      clear hBl hBe hblk hB1 hB2 hB3 hN hW2
      go_region
      all_goals go_wp2
      all_goals exact bodyPost_ret (v := .tuple #[.string d, bareV m, .nilIface]) (by simp [results, Tryz.results26, go_sem, *, bareV]) rfl ⟨rfl, HE.out⟩
    | none =>
      rw [hq] at HFO
      simp only [methodV3, Option.map_none, Option.getD_none] at HFO
      clear hq
      go_enter Tryz.func26, Tryz.ntmps26
      go_upto_region 6 with (first
        | (go_at_call 57; (with_reducible refine (HW.out _ hB1).mono ?_); rintro e w2 ⟨hB2, ⟨_, rfl, hN⟩ | ⟨hz, _⟩⟩; rotate_left; (exact absurd HZ.out hz); (have hW2 := hN.world); simp only [World.size_alloc] at hW2)
        | (go_at_call 61; (with_reducible refine (HFO.out _ _ _ hW2 hN.known).mono ?_); rintro e w3 ⟨⟨v3, rfl, pc, kc, ph, kh, rfl, _, _⟩, hB3⟩))
      have hBl := (hblk.step hB2).step hB3
      obtain ⟨q0, q1, q2, q3, q4, q5, q6, q7⟩ := hBl.method
      have hfz := hBl.frozen
      have hlt := hBl.lt
      have hBe := below_call (below_call hB1 (Nat.le_refl _) hB2) (Nat.le_refl _) hB3
      clear hBl hblk hB1 hB2 hB3 hN hW2
      have HE := Lib.hid ((below_set8 hBe (Nat.le_refl w.heap.size) (.string ⟨#[]⟩) (.string ⟨#[]⟩) (.bool false) (.bool false) (.bool false) (.int .i64 0) (.slice none 0 0) (.slice none 0 0)).alloc (Nat.le_trans hBe.size (by simp)) (.cells #[.string noMethod.name, .string noMethod.type, .bool noMethod.static, .bool noMethod.abs, .bool noMethod.priv, .int .i64 noMethod.locals, .slice pc noMethod.code.length kc, .slice ph noMethod.handlers.length kh] 56))
      clear hBe
      go_wp2_with (first | fail)
      exact bodyPost_ret (v := .tuple #[.string ⟨#[]⟩, bareV noMethod, .iface 24 (.int .i64 3)]) (by simp [results, Tryz.results26, go_sem, *, bareV]; exact ⟨rfl, rfl, rfl, rfl, rfl, rfl⟩) rfl ⟨rfl, HE.out⟩
  · have HZ := Lib.hid hz
    have hF : methodFaultN l c n t = namedFault l c := by unfold methodFaultN; rw [if_neg hz]
    have hN : methodN l c n t = none := by unfold methodN; rw [if_neg hz]
    rw [hF, hN]
    rcases errV_cases (namedFault l c) with ⟨_, h0⟩ | ⟨hv, _⟩
    · exact absurd h0 hz
    rw [hv]
    clear hz hF hN hv HFO
    generalize namedFault l c = f at *
    go_enter Tryz.func26, Tryz.ntmps26
    go_upto_region 3 with (go_at_call 57; (with_reducible refine (HW.out _ hB1).mono ?_); rintro e w2 ⟨hB2, ⟨hz, _⟩ | ⟨_, rfl⟩⟩; (exact absurd hz HZ.out))
    have hBl := hblk.step hB2
    obtain ⟨q0, q1, q2, q3, q4, q5, q6, q7⟩ := hBl.method
    have hfz := hBl.frozen
    have hlt := hBl.lt
    have hBe := below_call hB1 (Nat.le_refl _) hB2
    have HE := Lib.hid (below_set8 hBe (Nat.le_refl w.heap.size) (.string ⟨#[]⟩) (.string ⟨#[]⟩) (.bool false) (.bool false) (.bool false) (.int .i64 0) (.slice none 0 0) (.slice none 0 0))
    clear hBl hBe hblk hB1 hB2
    go_wp2_with (first | fail)
    exact bodyPost_ret (v := .tuple #[.string ⟨#[]⟩, bareV noMethod, .iface 24 (.int .i64 f)]) (by simp [results, Tryz.results26, go_sem, *, bareV, noMethod]; rfl) rfl ⟨rfl, HE.out⟩
end Go.Proofs.YtpjkpmmjehnahaaGreatDoor
