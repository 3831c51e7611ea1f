/-
  The law's own small class: an adder of two numbers; its frames. WALK over adder, checked.
-/
import Derived.Test.YtlmfmioljeppfaaGreatDoorMethodMaps
import Derived.Test.YtlmfmioljeppfaaGreatDoorCheckRead
namespace Go.Proofs.YtlmfmioljeppfaaGreatDoor
open Go.RowKit Go.Shelf Go.Lib
def adI (op a : Int) (t : Str) : Ins := ⟨op, a, 0, t, ⟨#[]⟩, ⟨#[]⟩⟩
def adK : Str := ⟨#[73]⟩
def adName : Str := ⟨#[65]⟩
def adM : Method := ⟨⟨#[97, 100, 100]⟩, ⟨#[40, 73, 73, 41, 73]⟩, true, false, false, 2, [adI 4 0 ⟨#[]⟩, adI 4 1 ⟨#[]⟩, adI 9 1 adK, adI 27 0 ⟨#[]⟩], []⟩
def adC : Class := ⟨adName, ⟨#[79, 98, 106, 101, 99, 116]⟩, [], false, [], [adM]⟩
def adF : Nat → Frm
  | 0 => ⟨[adK, adK], []⟩
  | 1 => ⟨[adK, adK], [adK]⟩
  | 2 => ⟨[adK, adK], [adK, adK]⟩
  | _ => ⟨[adK, adK], [adK]⟩
def adA : Asg Frm := fun i => if i < 4 then some (adF i) else none
theorem ad_read : readFault [adC] = 0 := by kernel_rfl
theorem ad_type : methodR adM.type = some ([adK, adK], adK) := by kernel_rfl
theorem ad_code : codeFault adM.code = 0 := by kernel_rfl
theorem ad_named : namedM adName 0 [adC] = some adM := by kernel_rfl
theorem ad_first : firstL adName adM.static [adK, adK] 2 = [adK, adK] := by kernel_rfl
theorem ad_start : startB (allC [adC]) [adK, adK] adK = true := by kernel_rfl
theorem ad_edges : ∀ i, i < 3 → edgesF (allC [adC]) adName adK adM i (adF i) = some [(i + 1, adF (i + 1))]
  | 0, _ => by kernel_rfl
  | 1, _ => by kernel_rfl
  | 2, _ => by kernel_rfl
theorem ad_last : edgesF (allC [adC]) adName adK adM 3 (adF 3) = some [] := by kernel_rfl
theorem ad_frames : ∀ i, i < 4 → frameR (allC [adC]) (adF i) = 0
  | 0, _ => by kernel_rfl
  | 1, _ => by kernel_rfl
  | 2, _ => by kernel_rfl
  | 3, _ => by kernel_rfl
theorem ad_ways : (checkW (allC [adC]) adName adK adM ⟨[adK, adK], []⟩).Good := check_good (right_of ad_read) (fun c hc => by rw [List.mem_singleton.1 hc]; kernel_rfl) ad_code (by kernel_rfl) (ad_frames 0 (by decide))
theorem ad_some {i : Nat} {f : Frm} (h : adA i = some f) : i < 4 ∧ f = adF i := by
  unfold adA at h
  split at h
  · rename_i hi
    exact ⟨hi, (Option.some.inj h).symm⟩
  · cases h
theorem ad_least : (checkW (allC [adC]) adName adK adM ⟨[adK, adK], []⟩).Least adA := by
  have H := ad_ways
  have hrf : ∀ f, leFrm (allC [adC]) f f := fun f => ⟨LeL.refl _ _, LeL.refl _ _⟩
  refine ⟨⟨fun i f h => ?_, fun i f h => ?_, _, rfl, hrf _⟩, fun G hG => ?_⟩
  · obtain ⟨h1, rfl⟩ := ad_some h
    exact ⟨h1, ad_frames i h1⟩
  · obtain ⟨h1, rfl⟩ := ad_some h
    by_cases h3 : i < 3
    · refine ⟨_, ad_edges i h3, fun p hp => ?_⟩
      rw [List.mem_singleton.1 hp]
      exact ⟨adF (i + 1), if_pos (by omega), hrf _⟩
    · obtain rfl : i = 3 := by omega
      exact ⟨_, ad_last, fun p hp => by cases hp⟩
  · have step : ∀ i, i < 4 → ∃ g, G i = some g ∧ leFrm (allC [adC]) (adF i) g := fun i => by
      induction i with
      | zero => exact fun _ => hG.2.2
      | succ i ih =>
        intro hi
        obtain ⟨g, e, hle⟩ := ih (by omega)
        obtain ⟨hin, hok⟩ := hG.1 i g e
        obtain ⟨lb, eb, sb⟩ := hG.2.1 i g e
        obtain ⟨la, ea, hp⟩ := H.mono i (adF i) g lb hin (ad_frames i (by omega)) hok hle eb
        rw [show (checkW (allC [adC]) adName adK adM ⟨[adK, adK], []⟩).edges i (adF i) = some [(i + 1, adF (i + 1))] from ad_edges i (by omega)] at ea
        obtain rfl := Option.some.inj ea
        obtain ⟨q, hq, q1, q2⟩ := hp _ (List.mem_singleton.2 rfl)
        obtain ⟨h, eh, lh⟩ := sb q hq
        have hob := H.out i g lb hin hok eb q hq
        refine ⟨h, by rw [← q1] at eh; exact eh, H.trans _ q.2 h (ad_frames (i + 1) hi) hob.2 (hG.1 _ h eh).2 q2 lh⟩
    intro i f h
    obtain ⟨h1, rfl⟩ := ad_some h
    exact step i h1
theorem ad_maps : mapsL adA adM.code.length = [(0, adF 0), (1, adF 1), (2, adF 2), (3, adF 3)] := by rfl
theorem cells_get {w : World} {b : Nat} : ∀ {vs : List Value} {o : Nat}, (∀ (j : Nat) (u : Value), vs[j]? = some u → w.cell? ⟨b, o + j, none⟩ = some u) → Cells w b o vs
  | [], _, _ => trivial
  | _ :: r, o, h => ⟨h 0 _ rfl, cells_get (vs := r) (o := o + 1) fun j u hj => by
    rw [show o + 1 + j = o + (j + 1) by omega]
    exact h (j + 1) u (by simpa using hj)⟩
theorem slice_sole {α : Type} {w : World} {k b : Nat} {t : TypeId} {R : α → List Value → Prop} {x : α} {vs : List Value} (hk : Blk w b t vs) (hr : R x vs) (hl : vs.length = k) : SliceOf w k R (.slice (some ⟨b, 0, none⟩) 1 1) [x] := by
  refine Or.inr ⟨⟨b, 0, none⟩, 1, rfl, Nat.le_refl _, by decide, fun i y hi => ?_⟩
  cases i with
  | zero =>
    have hi : x = y := by simpa using hi
    subst hi
    exact ⟨vs, hr, hl, rfl, cells_get fun j u hj => (hk.cell _).trans (by simpa using hj)⟩
  | succ i => simp at hi
def adCode : List Value := [.int .i64 4, .int .i64 0, .int .i64 0, .string ⟨#[]⟩, .string ⟨#[]⟩, .string ⟨#[]⟩, .int .i64 4, .int .i64 1, .int .i64 0, .string ⟨#[]⟩, .string ⟨#[]⟩, .string ⟨#[]⟩, .int .i64 9, .int .i64 1, .int .i64 0, .string ⟨#[73]⟩, .string ⟨#[]⟩, .string ⟨#[]⟩, .int .i64 27, .int .i64 0, .int .i64 0, .string ⟨#[]⟩, .string ⟨#[]⟩, .string ⟨#[]⟩]
theorem ad_cells {w : World} {b : Nat} {t : TypeId} (hk : Blk w b t adCode) : SliceOf w 6 InsCells (.slice (some ⟨b, 0, none⟩) 4 4) adM.code := by
  refine Or.inr ⟨⟨b, 0, none⟩, 4, rfl, Nat.le_refl _, by decide, fun i y hi => ?_⟩
  have hc : ∀ j u, adCode[j]? = some u → w.cell? ⟨b, j, none⟩ = some u := fun j u h => (hk.cell j).trans h
  match i, hi with
  | 0, hi =>
    obtain rfl : adI 4 0 ⟨#[]⟩ = y := Option.some.inj hi
    exact ⟨_, rfl, rfl, rfl, hc 0 _ rfl, hc 1 _ rfl, hc 2 _ rfl, hc 3 _ rfl, hc 4 _ rfl, hc 5 _ rfl, trivial⟩
  | 1, hi =>
    obtain rfl : adI 4 1 ⟨#[]⟩ = y := Option.some.inj hi
    exact ⟨_, rfl, rfl, rfl, hc 6 _ rfl, hc 7 _ rfl, hc 8 _ rfl, hc 9 _ rfl, hc 10 _ rfl, hc 11 _ rfl, trivial⟩
  | 2, hi =>
    obtain rfl : adI 9 1 adK = y := Option.some.inj hi
    exact ⟨_, rfl, rfl, rfl, hc 12 _ rfl, hc 13 _ rfl, hc 14 _ rfl, hc 15 _ rfl, hc 16 _ rfl, hc 17 _ rfl, trivial⟩
  | 3, hi =>
    obtain rfl : adI 27 0 ⟨#[]⟩ = y := Option.some.inj hi
    exact ⟨_, rfl, rfl, rfl, hc 18 _ rfl, hc 19 _ rfl, hc 20 _ rfl, hc 21 _ rfl, hc 22 _ rfl, hc 23 _ rfl, trivial⟩
  | i + 4, hi => cases hi
set_option maxHeartbeats 4000000 in
set_option maxRecDepth 100000 in
theorem adder_any (w : World) : Calls Tryz.prog 56 #[] w fun e w' => ∃ a, e = .returned (.slice (some a) 1 1) ∧ ClassesAt w' (.slice (some a) 1 1) [adC] ∧ Below w.heap.size w w' := by
  have HA : Hid (∀ (wx : World) (o : Obj), Below wx.heap.size wx (wx.alloc o)) := fun wx o => (Below.refl _ _).alloc (Nat.le_refl _) o
  have K1 := Blk.new w 24 adCode
  have K2 := K1.step (HA.out _ (.cells #[.string ⟨#[97, 100, 100]⟩, .string ⟨#[40, 73, 73, 41, 73]⟩, .bool true, .bool false, .bool false, .int .i64 2, .slice (some ⟨w.heap.size, 0, none⟩) 4 4, .slice none 0 0] 53))
  have K3 := K2.step (HA.out _ (.cells #[.string ⟨#[97, 100, 100]⟩, .string ⟨#[40, 73, 73, 41, 73]⟩, .bool true, .bool false, .bool false, .int .i64 2, .slice (some ⟨w.heap.size, 0, none⟩) 4 4, .slice none 0 0] 53))
  have K4 := K3.step (HA.out _ (.cells #[.string ⟨#[65]⟩, .string ⟨#[79, 98, 106, 101, 99, 116]⟩, .slice none 0 0, .bool false, .slice none 0 0, .slice (some ⟨w.heap.size + 1 + 1, 0, none⟩) 1 1] 36))
  have M3 := Blk.new ((w.alloc (.cells adCode.toArray 24)).alloc (.cells #[.string ⟨#[97, 100, 100]⟩, .string ⟨#[40, 73, 73, 41, 73]⟩, .bool true, .bool false, .bool false, .int .i64 2, .slice (some ⟨w.heap.size, 0, none⟩) 4 4, .slice none 0 0] 53)) 53 [.string ⟨#[97, 100, 100]⟩, .string ⟨#[40, 73, 73, 41, 73]⟩, .bool true, .bool false, .bool false, .int .i64 2, .slice (some ⟨w.heap.size, 0, none⟩) 4 4, .slice none 0 0]
  have M4 := M3.step (HA.out _ (.cells #[.string ⟨#[65]⟩, .string ⟨#[79, 98, 106, 101, 99, 116]⟩, .slice none 0 0, .bool false, .slice none 0 0, .slice (some ⟨w.heap.size + 1 + 1, 0, none⟩) 1 1] 36))
  have C4 := Blk.new (((w.alloc (.cells adCode.toArray 24)).alloc (.cells #[.string ⟨#[97, 100, 100]⟩, .string ⟨#[40, 73, 73, 41, 73]⟩, .bool true, .bool false, .bool false, .int .i64 2, .slice (some ⟨w.heap.size, 0, none⟩) 4 4, .slice none 0 0] 53)).alloc (.cells #[.string ⟨#[97, 100, 100]⟩, .string ⟨#[40, 73, 73, 41, 73]⟩, .bool true, .bool false, .bool false, .int .i64 2, .slice (some ⟨w.heap.size, 0, none⟩) 4 4, .slice none 0 0] 53)) 36 [.string ⟨#[65]⟩, .string ⟨#[79, 98, 106, 101, 99, 116]⟩, .slice none 0 0, .bool false, .slice none 0 0, .slice (some ⟨w.heap.size + 1 + 1, 0, none⟩) 1 1]
  have B4 : Below w.heap.size w ((((w.alloc (.cells adCode.toArray 24)).alloc (.cells #[.string ⟨#[97, 100, 100]⟩, .string ⟨#[40, 73, 73, 41, 73]⟩, .bool true, .bool false, .bool false, .int .i64 2, .slice (some ⟨w.heap.size, 0, none⟩) 4 4, .slice none 0 0] 53)).alloc (.cells #[.string ⟨#[97, 100, 100]⟩, .string ⟨#[40, 73, 73, 41, 73]⟩, .bool true, .bool false, .bool false, .int .i64 2, .slice (some ⟨w.heap.size, 0, none⟩) 4 4, .slice none 0 0] 53)).alloc (.cells #[.string ⟨#[65]⟩, .string ⟨#[79, 98, 106, 101, 99, 116]⟩, .slice none 0 0, .bool false, .slice none 0 0, .slice (some ⟨w.heap.size + 1 + 1, 0, none⟩) 1 1] 36)) :=
    ((((Below.refl _ _).alloc (Nat.le_refl _) _).alloc (by simp) _).alloc (by simp; omega) _).alloc (by simp; omega) _
  simp only [World.size_alloc] at M4 C4
  have HCl := Lib.hid (slice_sole (R := ClassCells _) (x := adC) C4 ⟨_, _, _, rfl, Or.inl ⟨rfl, rfl⟩, Or.inl ⟨rfl, rfl⟩, slice_sole (R := MethodCells _) (x := adM) M4 ⟨_, _, rfl, ad_cells K4, Or.inl ⟨rfl, rfl⟩⟩ rfl⟩ rfl)
  have HB4 := Lib.hid B4
  clear K1 K2 K3 K4 M3 M4 C4 B4
  unfold adCode at HCl HB4
  go_enter Tryz.func56, Tryz.ntmps56
  go_wp2_with (first | fail)
  go_ret
  exact ⟨_, rfl, HCl.out, HB4.out⟩
theorem ad_ok : ∀ c ∈ [adC], ClassOk c := fun c hc => by
  rw [List.mem_singleton.1 hc]
  refine ⟨by decide, by decide, (fun x hx => by cases hx), (fun x hx => by cases hx), fun x hx => ?_⟩
  rw [List.mem_singleton.1 hx]
  refine ⟨by decide, by decide, by unfold bd64; decide, fun y hy => ?_, (fun y hy => by cases hy)⟩
  have hb : y = adI 4 0 ⟨#[]⟩ ∨ y = adI 4 1 ⟨#[]⟩ ∨ y = adI 9 1 adK ∨ y = adI 27 0 ⟨#[]⟩ := by simpa [adM] using hy
  rcases hb with rfl | rfl | rfl | rfl <;> exact ⟨by unfold bd64 adI; decide, by unfold bd64 adI; decide, by unfold bd64 adI; decide, by decide, by decide, by decide⟩
theorem ad_yes : MethodFrames (allC [adC]) adName adK adM (firstL adName adM.static [adK, adK] 2) (some adA) := by
  rw [ad_first]
  exact ⟨ad_start, ad_least⟩
theorem ad_one {args : List Str} {g : Str} {many : Nat} (h : MethGood adM args g many) : args = [adK, adK] ∧ g = adK ∧ many = 2 := by
  have h1 := h.type
  rw [ad_type] at h1
  injection h1 with h1
  injection h1 with h1 h2
  have h3 : (2 : Int) = (many : Int) := h.locals
  exact ⟨h1.symm, h2.symm, by omega⟩
theorem ad_frames_one {G : Option (Asg Frm)} (h : MethodFrames (allC [adC]) adName adK adM (firstL adName adM.static [adK, adK] 2) G) : G = some adA :=
  methodFrames_one (right_of ad_read) (fun c hc => by rw [List.mem_singleton.1 hc]; kernel_rfl) ad_code (by kernel_rfl) (by rw [ad_first]; decide) h ad_yes
theorem ad_check {n : Nat} {F : Option (Method × Asg Frm)} (h : CheckIs [adC] adName 0 n F) : n = 0 ∧ F = some (adM, adA) := by
  rcases h with ⟨h, _⟩ | ⟨_, m, args, g, many, h1, _, h3, G, h4, h5⟩
  · exact absurd (by kernel_rfl) h
  · rw [ad_named] at h1
    obtain rfl := Option.some.inj h1
    obtain ⟨rfl, rfl, rfl⟩ := ad_one h3
    rw [ad_frames_one h4] at h5
    exact h5
theorem ad_world {n : Nat} (h : CheckAll [adC] n) : n = 0 := by
  rcases h with ⟨h, _⟩ | ⟨_, h, _⟩ | ⟨_, _, c, hc, m, hm, _, args, g, many, h3, h4⟩
  · exact absurd ad_read h
  · exact h
  · obtain rfl := List.mem_singleton.1 hc
    obtain rfl : m = adM := List.mem_singleton.1 hm
    obtain ⟨rfl, rfl, rfl⟩ := ad_one h3
    cases ad_frames_one h4
set_option maxHeartbeats 4000000 in
set_option maxRecDepth 100000 in
theorem checked_any (w : World) (hl : Laid w) : Calls Tryz.prog 20 #[] w fun e w' => e = .returned (.bool true) ∧ Below w.heap.size w w' := by
  have HAd : Hid (∀ wx, _) := fun wx => adder_any wx
  have HMe : Hid (∀ (wx : World) (a : Addr), Below w.heap.size w wx → ClassesAt wx (.slice (some a) 1 1) [adC] → Calls Tryz.prog 25 #[.slice (some a) 1 1, .string ⟨#[65]⟩, .int .i64 0] wx fun e w' => Below wx.heap.size wx w' ∧ ∃ b o cap p c, e = .returned (.tuple #[.slice (some ⟨b, o, none⟩) 4 cap, .nilIface]) ∧ w'.cell? ⟨b, o + 11, none⟩ = some (.slice p 1 c)) := fun wx a hb hv =>
    (checkMethod_any [adC] _ adName 0 wx (hl.mono hb hl.1) ad_ok hv).mono fun e w' ⟨hB, n, F, hC, hF⟩ => by
      obtain ⟨rfl, rfl⟩ := ad_check hC
      obtain ⟨v, rfl, hM⟩ := hF
      rw [ad_maps] at hM
      obtain ⟨b, o, cap, vs, rfl, ⟨lv, sv, rfl, hf⟩, _, hc⟩ := SliceOf.at hM (i := 3) (by decide)
      obtain ⟨p, c, rfl, _⟩ := hf.2.open
      exact ⟨hB, b, o, cap, p, c, rfl, hc.2.2.1⟩
  have HWo : Hid (∀ (wx : World) (a : Addr), Below w.heap.size w wx → ClassesAt wx (.slice (some a) 1 1) [adC] → Calls Tryz.prog 21 #[.slice (some a) 1 1] wx fun e w' => Below wx.heap.size wx w' ∧ e = .returned .nilIface) := fun wx a hb hv =>
    (checkWorld_any [adC] _ wx (hl.mono hb hl.1) ad_ok hv).mono fun e w' ⟨hB, n, hC, he⟩ => by
      obtain rfl := ad_world hC
      exact ⟨hB, he⟩
  clear hl
  go_enter Tryz.func20, Tryz.ntmps20
  go_wp2_with (first
    | (go_at_call 56; (with_reducible refine (HAd.out _).mono ?_); rintro e w2 ⟨a2, rfl, hv2, hB2⟩; (have HV2 := Lib.hid hv2); (have HB2 := Lib.hid hB2); clear hv2 hB2)
    | (go_at_call 25; (with_reducible refine (HMe.out _ _ HB2.out HV2.out).mono ?_); rintro e w3 ⟨hB3, b3, o3, c3, p3, d3, rfl, x3⟩; (have HB3 := Lib.hid (below_call HB2.out (Nat.le_refl _) hB3)))
    | (go_at_call 21; (with_reducible refine (HWo.out _ _ (below_call HB3.out (Nat.le_refl _) HB2.out) HV2.out).mono ?_); rintro e w5 ⟨hB5, rfl⟩; (have HB5 := Lib.hid (below_call (below_call HB3.out (Nat.le_refl _) HB2.out) (Nat.le_refl _) hB5))))
  go_ret
  exact ⟨rfl, HB5.out⟩
end Go.Proofs.YtlmfmioljeppfaaGreatDoor
