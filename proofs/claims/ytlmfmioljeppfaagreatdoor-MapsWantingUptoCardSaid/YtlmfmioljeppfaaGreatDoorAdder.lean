/-
  The law's own small class: an adder of two numbers; its frames. WALK over adder, checked.
-/
import Derived.Test.YtlmfmioljeppfaaGreatDoorMethodMaps
import Derived.Test.YtlmfmioljeppfaaGreatDoorLooked
namespace Go.Proofs.YtlmfmioljeppfaaGreatDoor
open Go.RowKit Go.Shelf Go.Lib
def adI (op a : Int) (t : Str) : Ins := ⟨op, a, 0, t, ⟨#[]⟩, ⟨#[]⟩⟩
def adK : Str := ⟨#[73]⟩
def adName : Str := ⟨#[65]⟩
def adM : Method := ⟨⟨#[97, 100, 100]⟩, ⟨#[40, 73, 73, 41, 73]⟩, true, false, false, 2, [adI 4 0 ⟨#[]⟩, adI 4 1 ⟨#[]⟩, adI 9 1 adK, adI 27 0 ⟨#[]⟩], []⟩
def adC : Class := ⟨adName, ⟨#[79, 98, 106, 101, 99, 116]⟩, [], false, [], [adM]⟩
theorem ad_type : methodR adM.type = some ([adK, adK], adK) := by kernel_rfl
theorem ad_named : namedM adName 0 [adC] = some adM := by kernel_rfl
theorem cells_get {w : World} {b : Nat} : ∀ {vs : List Value} {o : Nat}, (∀ (j : Nat) (u : Value), vs[j]? = some u → w.cell? ⟨b, o + j, none⟩ = some u) → Cells w b o vs
  | [], _, _ => trivial
  | _ :: r, o, h => ⟨h 0 _ rfl, cells_get (vs := r) (o := o + 1) fun j u hj => by
    rw [show o + 1 + j = o + (j + 1) by omega]
    exact h (j + 1) u (by simpa using hj)⟩
theorem slice_sole {α : Type} {w : World} {k b : Nat} {t : TypeId} {R : α → List Value → Prop} {x : α} {vs : List Value} (hk : Blk w b t vs) (hr : R x vs) (hl : vs.length = k) : SliceOf w k R (.slice (some ⟨b, 0, none⟩) 1 1) [x] := by
  refine Or.inr ⟨⟨b, 0, none⟩, 1, rfl, Nat.le_refl _, by decide, fun i y hi => ?_⟩
  cases i with
  | zero =>
    have hi : x = y := by simpa using hi
    subst hi
    exact ⟨vs, hr, hl, rfl, cells_get fun j u hj => (hk.cell _).trans (by simpa using hj)⟩
  | succ i => simp at hi
def adCode : List Value := [.int .i64 4, .int .i64 0, .int .i64 0, .string ⟨#[]⟩, .string ⟨#[]⟩, .string ⟨#[]⟩, .int .i64 4, .int .i64 1, .int .i64 0, .string ⟨#[]⟩, .string ⟨#[]⟩, .string ⟨#[]⟩, .int .i64 9, .int .i64 1, .int .i64 0, .string ⟨#[73]⟩, .string ⟨#[]⟩, .string ⟨#[]⟩, .int .i64 27, .int .i64 0, .int .i64 0, .string ⟨#[]⟩, .string ⟨#[]⟩, .string ⟨#[]⟩]
theorem ad_cells {w : World} {b : Nat} {t : TypeId} (hk : Blk w b t adCode) : SliceOf w 6 InsCells (.slice (some ⟨b, 0, none⟩) 4 4) adM.code := by
  refine Or.inr ⟨⟨b, 0, none⟩, 4, rfl, Nat.le_refl _, by decide, fun i y hi => ?_⟩
  have hc : ∀ j u, adCode[j]? = some u → w.cell? ⟨b, j, none⟩ = some u := fun j u h => (hk.cell j).trans h
  match i, hi with
  | 0, hi =>
    obtain rfl : adI 4 0 ⟨#[]⟩ = y := Option.some.inj hi
    exact ⟨_, rfl, rfl, rfl, hc 0 _ rfl, hc 1 _ rfl, hc 2 _ rfl, hc 3 _ rfl, hc 4 _ rfl, hc 5 _ rfl, trivial⟩
  | 1, hi =>
    obtain rfl : adI 4 1 ⟨#[]⟩ = y := Option.some.inj hi
    exact ⟨_, rfl, rfl, rfl, hc 6 _ rfl, hc 7 _ rfl, hc 8 _ rfl, hc 9 _ rfl, hc 10 _ rfl, hc 11 _ rfl, trivial⟩
  | 2, hi =>
    obtain rfl : adI 9 1 adK = y := Option.some.inj hi
    exact ⟨_, rfl, rfl, rfl, hc 12 _ rfl, hc 13 _ rfl, hc 14 _ rfl, hc 15 _ rfl, hc 16 _ rfl, hc 17 _ rfl, trivial⟩
  | 3, hi =>
    obtain rfl : adI 27 0 ⟨#[]⟩ = y := Option.some.inj hi
    exact ⟨_, rfl, rfl, rfl, hc 18 _ rfl, hc 19 _ rfl, hc 20 _ rfl, hc 21 _ rfl, hc 22 _ rfl, hc 23 _ rfl, trivial⟩
  | i + 4, hi => cases hi
set_option maxHeartbeats 4000000 in
set_option maxRecDepth 100000 in
theorem adder_any (w : World) : Calls Tryz.prog 56 #[] w fun e w' => ∃ a, e = .returned (.slice (some a) 1 1) ∧ ClassesAt w' (.slice (some a) 1 1) [adC] ∧ Below w.heap.size w w' := by
  have HA : Hid (∀ (wx : World) (o : Obj), Below wx.heap.size wx (wx.alloc o)) := fun wx o => (Below.refl _ _).alloc (Nat.le_refl _) o
  have K1 := Blk.new w 24 adCode
  have K2 := K1.step (HA.out _ (.cells #[.string ⟨#[97, 100, 100]⟩, .string ⟨#[40, 73, 73, 41, 73]⟩, .bool true, .bool false, .bool false, .int .i64 2, .slice (some ⟨w.heap.size, 0, none⟩) 4 4, .slice none 0 0] 53))
  have K3 := K2.step (HA.out _ (.cells #[.string ⟨#[97, 100, 100]⟩, .string ⟨#[40, 73, 73, 41, 73]⟩, .bool true, .bool false, .bool false, .int .i64 2, .slice (some ⟨w.heap.size, 0, none⟩) 4 4, .slice none 0 0] 53))
  have K4 := K3.step (HA.out _ (.cells #[.string ⟨#[65]⟩, .string ⟨#[79, 98, 106, 101, 99, 116]⟩, .slice none 0 0, .bool false, .slice none 0 0, .slice (some ⟨w.heap.size + 1 + 1, 0, none⟩) 1 1] 36))
  have M3 := Blk.new ((w.alloc (.cells adCode.toArray 24)).alloc (.cells #[.string ⟨#[97, 100, 100]⟩, .string ⟨#[40, 73, 73, 41, 73]⟩, .bool true, .bool false, .bool false, .int .i64 2, .slice (some ⟨w.heap.size, 0, none⟩) 4 4, .slice none 0 0] 53)) 53 [.string ⟨#[97, 100, 100]⟩, .string ⟨#[40, 73, 73, 41, 73]⟩, .bool true, .bool false, .bool false, .int .i64 2, .slice (some ⟨w.heap.size, 0, none⟩) 4 4, .slice none 0 0]
  have M4 := M3.step (HA.out _ (.cells #[.string ⟨#[65]⟩, .string ⟨#[79, 98, 106, 101, 99, 116]⟩, .slice none 0 0, .bool false, .slice none 0 0, .slice (some ⟨w.heap.size + 1 + 1, 0, none⟩) 1 1] 36))
  have C4 := Blk.new (((w.alloc (.cells adCode.toArray 24)).alloc (.cells #[.string ⟨#[97, 100, 100]⟩, .string ⟨#[40, 73, 73, 41, 73]⟩, .bool true, .bool false, .bool false, .int .i64 2, .slice (some ⟨w.heap.size, 0, none⟩) 4 4, .slice none 0 0] 53)).alloc (.cells #[.string ⟨#[97, 100, 100]⟩, .string ⟨#[40, 73, 73, 41, 73]⟩, .bool true, .bool false, .bool false, .int .i64 2, .slice (some ⟨w.heap.size, 0, none⟩) 4 4, .slice none 0 0] 53)) 36 [.string ⟨#[65]⟩, .string ⟨#[79, 98, 106, 101, 99, 116]⟩, .slice none 0 0, .bool false, .slice none 0 0, .slice (some ⟨w.heap.size + 1 + 1, 0, none⟩) 1 1]
  have B4 : Below w.heap.size w ((((w.alloc (.cells adCode.toArray 24)).alloc (.cells #[.string ⟨#[97, 100, 100]⟩, .string ⟨#[40, 73, 73, 41, 73]⟩, .bool true, .bool false, .bool false, .int .i64 2, .slice (some ⟨w.heap.size, 0, none⟩) 4 4, .slice none 0 0] 53)).alloc (.cells #[.string ⟨#[97, 100, 100]⟩, .string ⟨#[40, 73, 73, 41, 73]⟩, .bool true, .bool false, .bool false, .int .i64 2, .slice (some ⟨w.heap.size, 0, none⟩) 4 4, .slice none 0 0] 53)).alloc (.cells #[.string ⟨#[65]⟩, .string ⟨#[79, 98, 106, 101, 99, 116]⟩, .slice none 0 0, .bool false, .slice none 0 0, .slice (some ⟨w.heap.size + 1 + 1, 0, none⟩) 1 1] 36)) :=
    ((((Below.refl _ _).alloc (Nat.le_refl _) _).alloc (by simp) _).alloc (by simp; omega) _).alloc (by simp; omega) _
  simp only [World.size_alloc] at M4 C4
  have HCl := Lib.hid (slice_sole (R := ClassCells _) (x := adC) C4 ⟨_, _, _, rfl, Or.inl ⟨rfl, rfl⟩, Or.inl ⟨rfl, rfl⟩, slice_sole (R := MethodCells _) (x := adM) M4 ⟨_, _, rfl, ad_cells K4, Or.inl ⟨rfl, rfl⟩⟩ rfl⟩ rfl)
  have HB4 := Lib.hid B4
  clear K1 K2 K3 K4 M3 M4 C4 B4
  unfold adCode at HCl HB4
  go_enter Tryz.func56, Tryz.ntmps56
  go_wp2_with (first | fail)
  go_ret
  exact ⟨_, rfl, HCl.out, HB4.out⟩
theorem ad_ok : ∀ c ∈ [adC], ClassOk c := fun c hc => by
  rw [List.mem_singleton.1 hc]
  refine ⟨by decide, by decide, (fun x hx => by cases hx), (fun x hx => by cases hx), fun x hx => ?_⟩
  rw [List.mem_singleton.1 hx]
  refine ⟨by decide, by decide, by unfold bd64; decide, fun y hy => ?_, (fun y hy => by cases hy)⟩
  have hb : y = adI 4 0 ⟨#[]⟩ ∨ y = adI 4 1 ⟨#[]⟩ ∨ y = adI 9 1 adK ∨ y = adI 27 0 ⟨#[]⟩ := by simpa [adM] using hy
  rcases hb with rfl | rfl | rfl | rfl <;> exact ⟨by unfold bd64 adI; decide, by unfold bd64 adI; decide, by unfold bd64 adI; decide, by decide, by decide, by decide⟩
theorem ad_one {args : List Str} {g : Str} {many : Nat} (h : MethGood adM args g many) : args = [adK, adK] ∧ g = adK ∧ many = 2 := by
  have h1 := h.type
  rw [ad_type] at h1
  injection h1 with h1
  injection h1 with h1 h2
  have h3 : (2 : Int) = (many : Int) := h.locals
  exact ⟨h1.symm, h2.symm, by omega⟩
end Go.Proofs.YtlmfmioljeppfaaGreatDoor
