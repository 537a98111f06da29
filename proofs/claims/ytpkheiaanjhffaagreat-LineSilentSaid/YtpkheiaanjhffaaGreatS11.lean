/-
  Texts 11 of the claim.
-/
import Derived.Test.YtpkheiaanjhffaaGreatS06
import Derived.Test.YtpkheiaanjhffaaGreatS08
import Derived.Deep.RegionHeldLaw
import Derived.Test.YtpkheiaanjhffaaGreatS07
import Derived.Deep.CutBlock
import Derived.Deep.CutRange
namespace Go.Proofs.YtpkheiaanjhffaaGreat
open Go.RowKit
end Go.Proofs.YtpkheiaanjhffaaGreat
namespace Go.Proofs.YtpkheiaanjhffaaGreat
open Go.RowKit
end Go.Proofs.YtpkheiaanjhffaaGreat
namespace Go.Proofs.YtpkheiaanjhffaaGreat
open Go.RowKit
end Go.Proofs.YtpkheiaanjhffaaGreat
namespace Go.Proofs.YtpkheiaanjhffaaGreat
open Go.RowKit
end Go.Proofs.YtpkheiaanjhffaaGreat

namespace Go.Proofs.YtpkheiaanjhffaaGreat
open Go.RowKit
def okS (x : Int × Int) : Bool := baudL.any (fun y => decide (x.1 = y)) && decide (0 ≤ x.2) && decide (x.2 ≤ 2)
theorem okS_iff {x : Int × Int} : okS x = true ↔ Okset x.1 x.2 := by
  unfold okS
  simp only [Bool.and_eq_true, decide_eq_true_eq, List.any_eq_true]
  refine ⟨fun ⟨⟨⟨y, h, e⟩, h2⟩, h3⟩ => ⟨by rw [e]; exact h, h2, h3⟩, fun h => ⟨⟨⟨x.1, h.mem, rfl⟩, h.lo⟩, h.hi⟩⟩
set_option maxRecDepth 100000 in
set_option maxHeartbeats 3200000 in
theorem svalid_any (b p : Int) (w : World) (V : Bool) (hV : Hid (okS (b, p) = V)) :
    Calls Tryz.prog 58 #[.agg #[.int .i64 b, .int .i64 p]] w (BoolPost w V) := by
  have hv := hV.out
  unfold okS at hv
  dsimp only at hv
  obtain ⟨W0, hW0⟩ : ∃ W, w.alloc (.cells #[.int .i64 b, .int .i64 p] 30) = W := ⟨_, rfl⟩; have g0 : W0.heap[w.heap.size]? = some (.cells #[.int .i64 b, .int .i64 p] 30) := (by rw [← hW0]; exact hpNew w _); have HB : Hid (Below w.heap.size w W0) := (by show Below _ _ _; rw [← hW0]; exact bal' w _); have c0 : ∀ W, Below W0.heap.size W0 W → W.cell? ⟨w.heap.size, 0, none⟩ = some (.int .i64 b) := (fun W hW => hpCell (hpKeep g0 hW) 0); have c1 : ∀ W, Below W0.heap.size W0 W → W.cell? ⟨w.heap.size, 1, none⟩ = some (.int .i64 p) := (fun W hW => hpCell (hpKeep g0 hW) 1); have kD : Below W0.heap.size W0 W0.drew := (Below.refl _ _).drew; have HW0 := hid hW0
  clear g0 hW0 hV
  cases hm : baudL.any (fun y => decide (b = y)) with
  | false =>
    have HV : Hid (baudL.any (fun y => decide (b = y)) = false) := hm
    have HE : Hid (false = V) := by rw [hm] at hv; exact hv
    clear hv hm
    go_enter Tryz.func58, Tryz.ntmps58
    go_wp2_with fail
    rw [HW0.out]
    refine wp_region_held_drew (S := fun V => Below W0.heap.size W0 V) (by kernel_rfl) kD (fun hH => ?_); clear hH; refine tkD 1 4 (v := ?_) rfl (by kernel_rfl) (fun _ _ _ h => h) rfl (by rfl) (by assumption) ?_ ?_; rotate_left; (intro w hSw; (try dsimp only at hSw); go_simp; try (with_reducible rfl)); simp only [List.setIfInBounds_toArray, List.set_cons_zero, List.set_cons_succ]; refine tkD 2 5 (v := ?_) rfl (by kernel_rfl) (fun _ _ _ h => h) rfl (by rfl) (by assumption) ?_ ?_; rotate_left; (intro w hSw; (try dsimp only at hSw); go_simp; try (with_reducible rfl)); simp only [List.setIfInBounds_toArray, List.set_cons_zero, List.set_cons_succ]; refine wpAnyH_ready (rs := [0]) (by kernel_rfl) (by simp) ?_; refine AllReadyH.cons rfl (fun K hK => ?_) AllReadyH.nil; go_simp; refine (bauds_any _).mono ?_; rintro r w2 ⟨⟨a2, n2, cc2, rfl, hN⟩, hb2⟩; have hB2 := bt kD hb2 (Nat.le_refl _); refine hK.out _ _ hB2 (fun hS2 => ?_); clear hK K; refine wpAnyH_ready (rs := [3]) (by kernel_rfl) (by simp) ?_; refine AllReadyH.cons rfl (fun K hK => ?_) AllReadyH.nil; go_simp; refine (contI_any _ _ _ _ hN false HV).mono ?_; rintro r w3 ⟨rfl, rfl⟩; refine hK.out _ _ hB2 (fun hS3 => ?_); clear hK K hS2; refine tkD 4 7 (v := ?_) rfl (by kernel_rfl) (fun _ _ _ h => h) rfl (by rfl) (by assumption) ?_ ?_; rotate_left; (intro w hSw; (try dsimp only at hSw); go_simp; try (with_reducible rfl)); simp only [List.setIfInBounds_toArray, List.set_cons_zero, List.set_cons_succ]
    refine wpAnyH_takeD (i := 5) (d := 8) (v := undef) rfl (by kernel_rfl) (by kernel_rfl) (by kernel_rfl) (fun _ _ _ h => h) rfl (Or.inr ⟨by rfl, rfl⟩) (by assumption) ?_; (simp only [List.setIfInBounds_toArray, List.set_cons_zero, List.set_cons_succ])
    refine wpAnyH_takeD (i := 6) (d := 9) (v := undef) rfl (by kernel_rfl) (by kernel_rfl) (by kernel_rfl) (fun _ _ _ h => h) rfl (Or.inr ⟨by rfl, rfl⟩) (by assumption) ?_; (simp only [List.setIfInBounds_toArray, List.set_cons_zero, List.set_cons_succ])
    refine wpAnyH_takeD (i := 7) (d := 10) (v := undef) rfl (by kernel_rfl) (by kernel_rfl) (by kernel_rfl) (fun _ _ _ h => h) rfl (Or.inr ⟨by rfl, rfl⟩) (by assumption) ?_; (simp only [List.setIfInBounds_toArray, List.set_cons_zero, List.set_cons_succ])
    refine tkD 8 11 (v := ?_) rfl (by kernel_rfl) (fun _ _ _ h => h) rfl (by rfl) (by assumption) ?_ ?_; rotate_left; (intro w hSw; (try dsimp only at hSw); go_simp; try (with_reducible rfl)); simp only [List.setIfInBounds_toArray, List.set_cons_zero, List.set_cons_succ]
    refine tkD 9 12 (v := ?_) rfl (by kernel_rfl) (fun _ _ _ h => h) rfl (by rfl) (by assumption) ?_ ?_; rotate_left; (intro w hSw; (try dsimp only at hSw); go_simp; try (with_reducible rfl)); simp only [List.setIfInBounds_toArray, List.set_cons_zero, List.set_cons_succ]
    refine wpAnyH_takeD (i := 10) (d := 13) (v := undef) rfl (by kernel_rfl) (by kernel_rfl) (by kernel_rfl) (fun _ _ _ h => h) rfl (Or.inr ⟨by rfl, rfl⟩) (by assumption) ?_; (simp only [List.setIfInBounds_toArray, List.set_cons_zero, List.set_cons_succ])
    refine wpAnyH_takeD (i := 11) (d := 14) (v := undef) rfl (by kernel_rfl) (by kernel_rfl) (by kernel_rfl) (fun _ _ _ h => h) rfl (Or.inr ⟨by rfl, rfl⟩) (by assumption) ?_; (simp only [List.setIfInBounds_toArray, List.set_cons_zero, List.set_cons_succ])
    refine wpAnyH_takeD (i := 12) (d := 15) (v := undef) rfl (by kernel_rfl) (by kernel_rfl) (by kernel_rfl) (fun _ _ _ h => h) rfl (Or.inr ⟨by rfl, rfl⟩) (by assumption) ?_; (simp only [List.setIfInBounds_toArray, List.set_cons_zero, List.set_cons_succ])
    refine tkD 13 16 (v := ?_) rfl (by kernel_rfl) (fun _ _ _ h => h) rfl (by rfl) (by assumption) ?_ ?_; rotate_left; (intro w hSw; (try dsimp only at hSw); go_simp; try (with_reducible rfl)); simp only [List.setIfInBounds_toArray, List.set_cons_zero, List.set_cons_succ]
    refine tkD 14 2 (v := ?_) rfl (by kernel_rfl) (fun _ _ _ h => h) rfl (by rfl) (by assumption) ?_ ?_; rotate_left; (intro w hSw; (try dsimp only at hSw); go_simp; try (with_reducible rfl)); simp only [List.setIfInBounds_toArray, List.set_cons_zero, List.set_cons_succ]; refine wpAnyH_done (by kernel_rfl) ?_ _; go_wp2; go_ret; exact ⟨ret_bool HE.out, bt HB.out hB2 (Nat.le_refl _)⟩
  | true =>
    have HV : Hid (baudL.any (fun y => decide (b = y)) = true) := hm
    by_cases h1 : 0 ≤ p
    · have d1 : decide (0 ≤ p) = true := decide_eq_true h1
      by_cases h2 : p ≤ 2
      · have d2 : decide (p ≤ 2) = true := decide_eq_true h2
        have HE : Hid (true = V) := by rw [hm, d1, d2] at hv; exact hv
        clear hv hm h1 h2
        go_enter Tryz.func58, Tryz.ntmps58
        go_wp2_with fail
        rw [HW0.out]
        refine wp_region_held_drew (S := fun V => Below W0.heap.size W0 V) (by kernel_rfl) kD (fun hH => ?_); clear hH; refine tkD 1 4 (v := ?_) rfl (by kernel_rfl) (fun _ _ _ h => h) rfl (by rfl) (by assumption) ?_ ?_; rotate_left; (intro w hSw; (try dsimp only at hSw); go_simp; try (with_reducible rfl)); simp only [List.setIfInBounds_toArray, List.set_cons_zero, List.set_cons_succ]; refine tkD 2 5 (v := ?_) rfl (by kernel_rfl) (fun _ _ _ h => h) rfl (by rfl) (by assumption) ?_ ?_; rotate_left; (intro w hSw; (try dsimp only at hSw); go_simp; try (with_reducible rfl)); simp only [List.setIfInBounds_toArray, List.set_cons_zero, List.set_cons_succ]; refine wpAnyH_ready (rs := [0]) (by kernel_rfl) (by simp) ?_; refine AllReadyH.cons rfl (fun K hK => ?_) AllReadyH.nil; go_simp; refine (bauds_any _).mono ?_; rintro r w2 ⟨⟨a2, n2, cc2, rfl, hN⟩, hb2⟩; have hB2 := bt kD hb2 (Nat.le_refl _); refine hK.out _ _ hB2 (fun hS2 => ?_); clear hK K; refine wpAnyH_ready (rs := [3]) (by kernel_rfl) (by simp) ?_; refine AllReadyH.cons rfl (fun K hK => ?_) AllReadyH.nil; go_simp; refine (contI_any _ _ _ _ hN true HV).mono ?_; rintro r w3 ⟨rfl, rfl⟩; refine hK.out _ _ hB2 (fun hS3 => ?_); clear hK K hS2; refine tkD 4 7 (v := ?_) rfl (by kernel_rfl) (fun _ _ _ h => h) rfl (by rfl) (by assumption) ?_ ?_; rotate_left; (intro w hSw; (try dsimp only at hSw); go_simp; try (with_reducible rfl)); simp only [List.setIfInBounds_toArray, List.set_cons_zero, List.set_cons_succ]
        refine tkD 5 8 (v := ?_) rfl (by kernel_rfl) (fun _ _ _ h => h) rfl (by rfl) (by assumption) ?_ ?_; rotate_left; (intro w hSw; (try dsimp only at hSw); go_simp; try (with_reducible rfl)); simp only [List.setIfInBounds_toArray, List.set_cons_zero, List.set_cons_succ]
        refine tkD 6 9 (v := ?_) rfl (by kernel_rfl) (fun _ _ _ h => h) rfl (by rfl) (by assumption) ?_ ?_; rotate_left; (intro w hSw; (try dsimp only at hSw); go_simp; try (with_reducible rfl)); simp only [List.setIfInBounds_toArray, List.set_cons_zero, List.set_cons_succ]
        refine tkD 7 10 (v := ?_) rfl (by kernel_rfl) (fun _ _ _ h => h) rfl (by rfl) (by assumption) ?_ ?_; rotate_left; (intro w hSw; (try dsimp only at hSw); go_simp; try (with_reducible rfl)); simp only [List.setIfInBounds_toArray, List.set_cons_zero, List.set_cons_succ]
        refine tkD 8 11 (v := ?_) rfl (by kernel_rfl) (fun _ _ _ h => h) rfl (by rfl) (by assumption) ?_ ?_; rotate_left; (intro w hSw; (try dsimp only at hSw); go_simp; try (with_reducible rfl)); simp only [List.setIfInBounds_toArray, List.set_cons_zero, List.set_cons_succ]
        refine tkD 9 12 (v := ?_) rfl (by kernel_rfl) (fun _ _ _ h => h) rfl (by rfl) (by assumption) ?_ ?_; rotate_left; (intro w hSw; (try dsimp only at hSw); go_simp; try (with_reducible rfl)); simp only [List.setIfInBounds_toArray, List.set_cons_zero, List.set_cons_succ]
        refine tkD 10 13 (v := ?_) rfl (by kernel_rfl) (fun _ _ _ h => h) rfl (by rfl) (by assumption) ?_ ?_; rotate_left; (intro w hSw; (try dsimp only at hSw); go_simp; try (with_reducible rfl)); simp only [List.setIfInBounds_toArray, List.set_cons_zero, List.set_cons_succ]
        refine tkD 11 14 (v := ?_) rfl (by kernel_rfl) (fun _ _ _ h => h) rfl (by rfl) (by assumption) ?_ ?_; rotate_left; (intro w hSw; (try dsimp only at hSw); go_simp; try (with_reducible rfl)); simp only [List.setIfInBounds_toArray, List.set_cons_zero, List.set_cons_succ]
        refine tkD 12 15 (v := ?_) rfl (by kernel_rfl) (fun _ _ _ h => h) rfl (by rfl) (by assumption) ?_ ?_; rotate_left; (intro w hSw; (try dsimp only at hSw); go_simp; try (with_reducible rfl)); simp only [List.setIfInBounds_toArray, List.set_cons_zero, List.set_cons_succ]
        refine tkD 13 16 (v := ?_) rfl (by kernel_rfl) (fun _ _ _ h => h) rfl (by rfl) (by assumption) ?_ ?_; rotate_left; (intro w hSw; (try dsimp only at hSw); go_simp; try (with_reducible rfl)); simp only [List.setIfInBounds_toArray, List.set_cons_zero, List.set_cons_succ]
        refine tkD 14 2 (v := ?_) rfl (by kernel_rfl) (fun _ _ _ h => h) rfl (by rfl) (by assumption) ?_ ?_; rotate_left; (intro w hSw; (try dsimp only at hSw); go_simp; try (with_reducible rfl)); simp only [List.setIfInBounds_toArray, List.set_cons_zero, List.set_cons_succ]; refine wpAnyH_done (by kernel_rfl) ?_ _; go_wp2; go_ret; exact ⟨ret_bool HE.out, bt HB.out hB2 (Nat.le_refl _)⟩
      · have d2 : decide (p ≤ 2) = false := decide_eq_false h2
        have HE : Hid (false = V) := by rw [hm, d1, d2] at hv; exact hv
        clear hv hm h1 h2
        go_enter Tryz.func58, Tryz.ntmps58
        go_wp2_with fail
        rw [HW0.out]
        refine wp_region_held_drew (S := fun V => Below W0.heap.size W0 V) (by kernel_rfl) kD (fun hH => ?_); clear hH; refine tkD 1 4 (v := ?_) rfl (by kernel_rfl) (fun _ _ _ h => h) rfl (by rfl) (by assumption) ?_ ?_; rotate_left; (intro w hSw; (try dsimp only at hSw); go_simp; try (with_reducible rfl)); simp only [List.setIfInBounds_toArray, List.set_cons_zero, List.set_cons_succ]; refine tkD 2 5 (v := ?_) rfl (by kernel_rfl) (fun _ _ _ h => h) rfl (by rfl) (by assumption) ?_ ?_; rotate_left; (intro w hSw; (try dsimp only at hSw); go_simp; try (with_reducible rfl)); simp only [List.setIfInBounds_toArray, List.set_cons_zero, List.set_cons_succ]; refine wpAnyH_ready (rs := [0]) (by kernel_rfl) (by simp) ?_; refine AllReadyH.cons rfl (fun K hK => ?_) AllReadyH.nil; go_simp; refine (bauds_any _).mono ?_; rintro r w2 ⟨⟨a2, n2, cc2, rfl, hN⟩, hb2⟩; have hB2 := bt kD hb2 (Nat.le_refl _); refine hK.out _ _ hB2 (fun hS2 => ?_); clear hK K; refine wpAnyH_ready (rs := [3]) (by kernel_rfl) (by simp) ?_; refine AllReadyH.cons rfl (fun K hK => ?_) AllReadyH.nil; go_simp; refine (contI_any _ _ _ _ hN true HV).mono ?_; rintro r w3 ⟨rfl, rfl⟩; refine hK.out _ _ hB2 (fun hS3 => ?_); clear hK K hS2; refine tkD 4 7 (v := ?_) rfl (by kernel_rfl) (fun _ _ _ h => h) rfl (by rfl) (by assumption) ?_ ?_; rotate_left; (intro w hSw; (try dsimp only at hSw); go_simp; try (with_reducible rfl)); simp only [List.setIfInBounds_toArray, List.set_cons_zero, List.set_cons_succ]
        refine tkD 5 8 (v := ?_) rfl (by kernel_rfl) (fun _ _ _ h => h) rfl (by rfl) (by assumption) ?_ ?_; rotate_left; (intro w hSw; (try dsimp only at hSw); go_simp; try (with_reducible rfl)); simp only [List.setIfInBounds_toArray, List.set_cons_zero, List.set_cons_succ]
        refine tkD 6 9 (v := ?_) rfl (by kernel_rfl) (fun _ _ _ h => h) rfl (by rfl) (by assumption) ?_ ?_; rotate_left; (intro w hSw; (try dsimp only at hSw); go_simp; try (with_reducible rfl)); simp only [List.setIfInBounds_toArray, List.set_cons_zero, List.set_cons_succ]
        refine tkD 7 10 (v := ?_) rfl (by kernel_rfl) (fun _ _ _ h => h) rfl (by rfl) (by assumption) ?_ ?_; rotate_left; (intro w hSw; (try dsimp only at hSw); go_simp; try (with_reducible rfl)); simp only [List.setIfInBounds_toArray, List.set_cons_zero, List.set_cons_succ]
        refine tkD 8 11 (v := ?_) rfl (by kernel_rfl) (fun _ _ _ h => h) rfl (by rfl) (by assumption) ?_ ?_; rotate_left; (intro w hSw; (try dsimp only at hSw); go_simp; try (with_reducible rfl)); simp only [List.setIfInBounds_toArray, List.set_cons_zero, List.set_cons_succ]
        refine tkD 9 12 (v := ?_) rfl (by kernel_rfl) (fun _ _ _ h => h) rfl (by rfl) (by assumption) ?_ ?_; rotate_left; (intro w hSw; (try dsimp only at hSw); go_simp; try (with_reducible rfl)); simp only [List.setIfInBounds_toArray, List.set_cons_zero, List.set_cons_succ]
        refine tkD 10 13 (v := ?_) rfl (by kernel_rfl) (fun _ _ _ h => h) rfl (by rfl) (by assumption) ?_ ?_; rotate_left; (intro w hSw; (try dsimp only at hSw); go_simp; try (with_reducible rfl)); simp only [List.setIfInBounds_toArray, List.set_cons_zero, List.set_cons_succ]
        refine tkD 11 14 (v := ?_) rfl (by kernel_rfl) (fun _ _ _ h => h) rfl (by rfl) (by assumption) ?_ ?_; rotate_left; (intro w hSw; (try dsimp only at hSw); go_simp; try (with_reducible rfl)); simp only [List.setIfInBounds_toArray, List.set_cons_zero, List.set_cons_succ]
        refine tkD 12 15 (v := ?_) rfl (by kernel_rfl) (fun _ _ _ h => h) rfl (by rfl) (by assumption) ?_ ?_; rotate_left; (intro w hSw; (try dsimp only at hSw); go_simp; try (with_reducible rfl)); simp only [List.setIfInBounds_toArray, List.set_cons_zero, List.set_cons_succ]
        refine tkD 13 16 (v := ?_) rfl (by kernel_rfl) (fun _ _ _ h => h) rfl (by rfl) (by assumption) ?_ ?_; rotate_left; (intro w hSw; (try dsimp only at hSw); go_simp; try (with_reducible rfl)); simp only [List.setIfInBounds_toArray, List.set_cons_zero, List.set_cons_succ]
        refine tkD 14 2 (v := ?_) rfl (by kernel_rfl) (fun _ _ _ h => h) rfl (by rfl) (by assumption) ?_ ?_; rotate_left; (intro w hSw; (try dsimp only at hSw); go_simp; try (with_reducible rfl)); simp only [List.setIfInBounds_toArray, List.set_cons_zero, List.set_cons_succ]; refine wpAnyH_done (by kernel_rfl) ?_ _; go_wp2; go_ret; exact ⟨ret_bool HE.out, bt HB.out hB2 (Nat.le_refl _)⟩
    · have d1 : decide (0 ≤ p) = false := decide_eq_false h1
      have HE : Hid (false = V) := by rw [hm, d1] at hv; exact hv
      clear hv hm h1
      go_enter Tryz.func58, Tryz.ntmps58
      go_wp2_with fail
      rw [HW0.out]
      refine wp_region_held_drew (S := fun V => Below W0.heap.size W0 V) (by kernel_rfl) kD (fun hH => ?_); clear hH; refine tkD 1 4 (v := ?_) rfl (by kernel_rfl) (fun _ _ _ h => h) rfl (by rfl) (by assumption) ?_ ?_; rotate_left; (intro w hSw; (try dsimp only at hSw); go_simp; try (with_reducible rfl)); simp only [List.setIfInBounds_toArray, List.set_cons_zero, List.set_cons_succ]; refine tkD 2 5 (v := ?_) rfl (by kernel_rfl) (fun _ _ _ h => h) rfl (by rfl) (by assumption) ?_ ?_; rotate_left; (intro w hSw; (try dsimp only at hSw); go_simp; try (with_reducible rfl)); simp only [List.setIfInBounds_toArray, List.set_cons_zero, List.set_cons_succ]; refine wpAnyH_ready (rs := [0]) (by kernel_rfl) (by simp) ?_; refine AllReadyH.cons rfl (fun K hK => ?_) AllReadyH.nil; go_simp; refine (bauds_any _).mono ?_; rintro r w2 ⟨⟨a2, n2, cc2, rfl, hN⟩, hb2⟩; have hB2 := bt kD hb2 (Nat.le_refl _); refine hK.out _ _ hB2 (fun hS2 => ?_); clear hK K; refine wpAnyH_ready (rs := [3]) (by kernel_rfl) (by simp) ?_; refine AllReadyH.cons rfl (fun K hK => ?_) AllReadyH.nil; go_simp; refine (contI_any _ _ _ _ hN true HV).mono ?_; rintro r w3 ⟨rfl, rfl⟩; refine hK.out _ _ hB2 (fun hS3 => ?_); clear hK K hS2; refine tkD 4 7 (v := ?_) rfl (by kernel_rfl) (fun _ _ _ h => h) rfl (by rfl) (by assumption) ?_ ?_; rotate_left; (intro w hSw; (try dsimp only at hSw); go_simp; try (with_reducible rfl)); simp only [List.setIfInBounds_toArray, List.set_cons_zero, List.set_cons_succ]
      refine tkD 5 8 (v := ?_) rfl (by kernel_rfl) (fun _ _ _ h => h) rfl (by rfl) (by assumption) ?_ ?_; rotate_left; (intro w hSw; (try dsimp only at hSw); go_simp; try (with_reducible rfl)); simp only [List.setIfInBounds_toArray, List.set_cons_zero, List.set_cons_succ]
      refine tkD 6 9 (v := ?_) rfl (by kernel_rfl) (fun _ _ _ h => h) rfl (by rfl) (by assumption) ?_ ?_; rotate_left; (intro w hSw; (try dsimp only at hSw); go_simp; try (with_reducible rfl)); simp only [List.setIfInBounds_toArray, List.set_cons_zero, List.set_cons_succ]
      refine tkD 7 10 (v := ?_) rfl (by kernel_rfl) (fun _ _ _ h => h) rfl (by rfl) (by assumption) ?_ ?_; rotate_left; (intro w hSw; (try dsimp only at hSw); go_simp; try (with_reducible rfl)); simp only [List.setIfInBounds_toArray, List.set_cons_zero, List.set_cons_succ]
      refine tkD 8 11 (v := ?_) rfl (by kernel_rfl) (fun _ _ _ h => h) rfl (by rfl) (by assumption) ?_ ?_; rotate_left; (intro w hSw; (try dsimp only at hSw); go_simp; try (with_reducible rfl)); simp only [List.setIfInBounds_toArray, List.set_cons_zero, List.set_cons_succ]
      refine tkD 9 12 (v := ?_) rfl (by kernel_rfl) (fun _ _ _ h => h) rfl (by rfl) (by assumption) ?_ ?_; rotate_left; (intro w hSw; (try dsimp only at hSw); go_simp; try (with_reducible rfl)); simp only [List.setIfInBounds_toArray, List.set_cons_zero, List.set_cons_succ]
      refine wpAnyH_takeD (i := 10) (d := 13) (v := undef) rfl (by kernel_rfl) (by kernel_rfl) (by kernel_rfl) (fun _ _ _ h => h) rfl (Or.inr ⟨by rfl, rfl⟩) (by assumption) ?_; (simp only [List.setIfInBounds_toArray, List.set_cons_zero, List.set_cons_succ])
      refine wpAnyH_takeD (i := 11) (d := 14) (v := undef) rfl (by kernel_rfl) (by kernel_rfl) (by kernel_rfl) (fun _ _ _ h => h) rfl (Or.inr ⟨by rfl, rfl⟩) (by assumption) ?_; (simp only [List.setIfInBounds_toArray, List.set_cons_zero, List.set_cons_succ])
      refine wpAnyH_takeD (i := 12) (d := 15) (v := undef) rfl (by kernel_rfl) (by kernel_rfl) (by kernel_rfl) (fun _ _ _ h => h) rfl (Or.inr ⟨by rfl, rfl⟩) (by assumption) ?_; (simp only [List.setIfInBounds_toArray, List.set_cons_zero, List.set_cons_succ])
      refine tkD 13 16 (v := ?_) rfl (by kernel_rfl) (fun _ _ _ h => h) rfl (by rfl) (by assumption) ?_ ?_; rotate_left; (intro w hSw; (try dsimp only at hSw); go_simp; try (with_reducible rfl)); simp only [List.setIfInBounds_toArray, List.set_cons_zero, List.set_cons_succ]
      refine tkD 14 2 (v := ?_) rfl (by kernel_rfl) (fun _ _ _ h => h) rfl (by rfl) (by assumption) ?_ ?_; rotate_left; (intro w hSw; (try dsimp only at hSw); go_simp; try (with_reducible rfl)); simp only [List.setIfInBounds_toArray, List.set_cons_zero, List.set_cons_succ]; refine wpAnyH_done (by kernel_rfl) ?_ _; go_wp2; go_ret; exact ⟨ret_bool HE.out, bt HB.out hB2 (Nat.le_refl _)⟩
end Go.Proofs.YtpkheiaanjhffaaGreat
namespace Go.Proofs.YtpkheiaanjhffaaGreat
open Go.RowKit
end Go.Proofs.YtpkheiaanjhffaaGreat
namespace Go.Proofs.YtpkheiaanjhffaaGreat
open Go.RowKit
end Go.Proofs.YtpkheiaanjhffaaGreat
namespace Go.Proofs.YtpkheiaanjhffaaGreat
open Go.RowKit
end Go.Proofs.YtpkheiaanjhffaaGreat
namespace Go.Proofs.YtpkheiaanjhffaaGreat
open Go.RowKit
end Go.Proofs.YtpkheiaanjhffaaGreat
