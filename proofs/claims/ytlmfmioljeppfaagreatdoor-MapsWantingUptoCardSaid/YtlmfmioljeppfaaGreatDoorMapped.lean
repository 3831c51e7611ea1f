/-
  WALK over the law's mapped. Conditions: a world in order.
-/
import Derived.Test.YtlmfmioljeppfaaGreatDoorAccept
import Derived.Test.YtlmfmioljeppfaaGreatDoorAdder
namespace Go.Proofs.YtlmfmioljeppfaaGreatDoor
open Go.RowKit Go.Shelf Go.Lib
theorem ad_walk : walkB (allC [adC]) adName adK adM (asgL [] fun _ => none) (firstL adName adM.static [adK, adK] 2) = true := by kernel_rfl
theorem ad_accept {n : Nat} (h : AcceptIs [adC] adName 0 [] n) : n = 0 := by
  rcases h with ⟨h, _⟩ | ⟨_, m, args, g, many, h1, _, h3, h4⟩
  · exact absurd (by kernel_rfl) h
  · rw [ad_named] at h1
    obtain rfl := Option.some.inj h1
    obtain ⟨rfl, rfl, rfl⟩ := ad_one h3
    rw [h4]
    unfold acceptN
    rw [if_neg (by decide), ad_walk]; rfl
theorem ad_accept_b {n : Nat} (h : AcceptIs [adC] ⟨#[66]⟩ 0 [] n) : n ≠ 0 := by
  rcases h with ⟨h, rfl⟩ | ⟨h, _⟩
  · exact h
  · exact absurd h (by rw [show namedN [adC] ⟨#[66]⟩ 0 = 3 from by kernel_rfl]; decide)
set_option maxHeartbeats 4000000 in
set_option maxRecDepth 100000 in
theorem mapped_any (w : World) (hl : Laid w) : Calls Tryz.prog 30 #[] w fun e w' => e = .returned (.bool true) ∧ Below w.heap.size w w' := by
  have HAd : Hid (∀ wx, _) := fun wx => adder_any wx
  have HAc : Hid (∀ (wx : World) (a : Addr), Below w.heap.size w wx → ClassesAt wx (.slice (some a) 1 1) [adC] → Calls Tryz.prog 31 #[.slice (some a) 1 1, .string ⟨#[65]⟩, .int .i64 0, .slice none 0 0] wx fun e w' => Below wx.heap.size wx w' ∧ e = .returned .nilIface) := fun wx a hb hv =>
    (accept_any [adC] _ adName 0 [] (.slice none 0 0) wx (hl.mono hb hl.1) ad_ok hv (Or.inl ⟨rfl, rfl⟩) (fun _ h => by cases h)).mono fun e w' ⟨hB, n, hC, he⟩ => by
      obtain rfl := ad_accept hC
      exact ⟨hB, he⟩
  have HAb : Hid (∀ (wx : World) (a : Addr), Below w.heap.size w wx → ClassesAt wx (.slice (some a) 1 1) [adC] → Calls Tryz.prog 31 #[.slice (some a) 1 1, .string ⟨#[66]⟩, .int .i64 0, .slice none 0 0] wx fun e w' => Below wx.heap.size wx w' ∧ ∃ v, e = .returned (.iface 29 v)) := fun wx a hb hv =>
    (accept_any [adC] _ ⟨#[66]⟩ 0 [] (.slice none 0 0) wx (hl.mono hb hl.1) ad_ok hv (Or.inl ⟨rfl, rfl⟩) (fun _ h => by cases h)).mono fun e w' ⟨hB, n, hC, he⟩ => by
      have hn := ad_accept_b hC
      unfold errV at he
      rw [if_neg hn] at he
      exact ⟨hB, _, he⟩
  clear hl
  go_enter Tryz.func30, Tryz.ntmps30
  go_wp2_with (first
    | (go_at_call 56; (with_reducible refine (HAd.out _).mono ?_); rintro e w2 ⟨a2, rfl, hv2, hB2⟩; (have HV2 := Lib.hid hv2); (first | (have HB2 := Lib.hid (below_call HB3.out (Nat.le_refl _) hB2)) | (have HB2 := Lib.hid hB2)); clear hv2 hB2)
    | (go_at_call 31; (with_reducible refine (HAc.out _ _ HB2.out HV2.out).mono ?_); rintro e w3 ⟨hB3, rfl⟩; (have HB3 := Lib.hid (below_call HB2.out (Nat.le_refl _) hB3)))
    | (go_at_call 31; (with_reducible refine (HAb.out _ _ HB2.out HV2.out).mono ?_); rintro e w5 ⟨hB5, v5, rfl⟩; (have HB5 := Lib.hid (below_call HB2.out (Nat.le_refl _) hB5))))
  go_ret
  exact ⟨rfl, HB5.out⟩
end Go.Proofs.YtlmfmioljeppfaaGreatDoor
