/-
  Several texts of this claim in one file.
-/
import Derived.Test.YtliblgmpclefgaaGreatMbg
import Derived.Test.YtliblgmpclefgaaGreatTim
import Derived.Test.YtliblgmpclefgaaGreatHn
import Derived.Deep.CutRange
import Derived.Deep.RegionHeldLaw
import Derived.Test.YtliblgmpclefgaaGreatR5
/-
ProbeSlave: budget.Unit at a configuration with one valid setting.
-/
namespace Go.Proofs.YtliblgmpclefgaaGreat
open Go.RowKit

set_option maxRecDepth 100000 in
set_option maxHeartbeats 3200000 in
theorem slist_ok (B P : Int) (hBP : Okset B P) (b c : Nat) (w : World) (h0 : w.cell? ⟨b, 0, none⟩ = some (.int .i64 B)) (h1 : w.cell? ⟨b, 1, none⟩ = some (.int .i64 P)) :
    Calls Tryz.prog 54 #[.slice (some ⟨b, 0, none⟩) 1 c] w (BoolPost w true) := by
  have HV : Hid (∀ X, Calls Tryz.prog 68 #[.agg #[.int .i64 B, .int .i64 P]] X (BoolPost X true)) := fun X => svalid_ok B P hBP X
  go_enter Tryz.func54, Tryz.ntmps54
  go_wp2
  go_loopw [7] (fun iv wr => ∃ k : Nat, k ≤ 1 ∧ iv = .int .i64 k ∧ Below w.heap.size w wr) (fun iv _ => 1 - (intOf iv).toNat)
  case atStart => exact ⟨0, by omega, rfl, Below.refl _ _⟩
  case round =>
    obtain ⟨k, hk, rfl, hbw⟩ := hrel
    by_cases hlt : k < 1
    · obtain rfl : k = 0 := by omega
      have c0 := cell_keep hbw h0
      have c1 := cell_keep hbw h1
      go_upto_region 4 with (fail)
      obtain ⟨WX, hWX⟩ : ∃ W, wr.alloc (.cells #[.int .i64 B, .int .i64 P] 23) = W := ⟨_, rfl⟩
      rw [hWX]
      have hbx : Below w.heap.size w WX := by rw [← hWX]; exact bta hbw (Nat.le_refl _) _
      have px : WX.heap[wr.heap.size]? = some (.cells #[.int .i64 B, .int .i64 P] 23) := by rw [← hWX]; exact hpNew _ _
      have y0 : ∀ X, Below WX.heap.size WX X → X.cell? ⟨wr.heap.size, 0, none⟩ = some (.int .i64 B) := fun X k => hpCell (hpKeep px k) 0
      have y1 : ∀ X, Below WX.heap.size WX X → X.cell? ⟨wr.heap.size, 1, none⟩ = some (.int .i64 P) := fun X k => hpCell (hpKeep px k) 1
      have k0 : Below WX.heap.size WX WX := Below.refl _ _
      have kD : Below WX.heap.size WX WX.drew := (Below.refl _ _).drew
      have hki : ¬ (0 : Int) < ((0 : Nat) : Int) := by decide
      clear px hWX
      refine wp_region_held_drew (S := fun V => Below WX.heap.size WX V) (by kernel_rfl) kD (fun hH => ?_)
      refine tkD 0 12 (v := ?_) rfl (by kernel_rfl) (fun _ _ _ h => h) rfl (by rfl) (by assumption) ?_ ?_; rotate_left; (intro w hSw; (try dsimp only at hSw); go_simp; try (with_reducible rfl)); simp only [List.setIfInBounds_toArray, List.set_cons_zero, List.set_cons_succ]
      refine wpAnyH_ready (rs := [1]) (by kernel_rfl) (by simp) ?_
      refine AllReadyH.cons rfl (fun K hK => ?_) AllReadyH.nil
      go_simp
      refine (HV.out _).mono ?_
      rintro r w5 ⟨rfl, hb5⟩
      have hB5 := bt kD hb5 (Nat.le_refl _)
      refine hK.out _ _ hB5 (fun hS7 => ?_)
      clear hK K hH
      refine tkD 2 14 (v := ?_) rfl (by kernel_rfl) (fun _ _ _ h => h) rfl (by rfl) (by assumption) ?_ ?_; rotate_left; (intro w hSw; (try dsimp only at hSw); go_simp; try (with_reducible rfl)); simp only [List.setIfInBounds_toArray, List.set_cons_zero, List.set_cons_succ]
      refine tkD 3 15 (v := ?_) rfl (by kernel_rfl) (fun _ _ _ h => h) rfl (by rfl) (by assumption) ?_ ?_; rotate_left; (intro w hSw; (try dsimp only at hSw); go_simp; try (with_reducible rfl)); simp only [List.setIfInBounds_toArray, List.set_cons_zero, List.set_cons_succ]
      refine tkD 4 16 (v := ?_) rfl (by kernel_rfl) (fun _ _ _ h => h) rfl (by rfl) (by assumption) ?_ ?_; rotate_left; (intro w hSw; (try dsimp only at hSw); go_simp; try (with_reducible rfl)); simp only [List.setIfInBounds_toArray, List.set_cons_zero, List.set_cons_succ]
      refine tkD 5 17 (v := ?_) rfl (by kernel_rfl) (fun _ _ _ h => h) rfl (by rfl) (by assumption) ?_ ?_; rotate_left; (intro w hSw; (try dsimp only at hSw); go_simp; try (with_reducible rfl)); simp only [List.setIfInBounds_toArray, List.set_cons_zero, List.set_cons_succ]
      refine tkD 6 18 (v := ?_) rfl (by kernel_rfl) (fun _ _ _ h => h) rfl (by rfl) (by assumption) ?_ ?_; rotate_left; (intro w hSw; (try dsimp only at hSw); go_simp; try (with_reducible rfl)); simp only [List.setIfInBounds_toArray, List.set_cons_zero, List.set_cons_succ]
      refine wpAnyH_takeD (i := 7) (d := 19) (v := undef) rfl (by kernel_rfl) (by kernel_rfl) (by kernel_rfl) (fun _ _ _ h => h) rfl (Or.inr ⟨by rfl, rfl⟩) (by assumption) ?_; (simp only [List.setIfInBounds_toArray, List.set_cons_zero, List.set_cons_succ])
      refine wpAnyH_takeD (i := 8) (d := 20) (v := undef) rfl (by kernel_rfl) (by kernel_rfl) (by kernel_rfl) (fun _ _ _ h => h) rfl (Or.inr ⟨by rfl, rfl⟩) (by assumption) ?_; (simp only [List.setIfInBounds_toArray, List.set_cons_zero, List.set_cons_succ])
      refine wpAnyH_takeD (i := 9) (d := 21) (v := undef) rfl (by kernel_rfl) (by kernel_rfl) (by kernel_rfl) (fun _ _ _ h => h) rfl (Or.inr ⟨by rfl, rfl⟩) (by assumption) ?_; (simp only [List.setIfInBounds_toArray, List.set_cons_zero, List.set_cons_succ])
      refine wpAnyH_takeD (i := 10) (d := 22) (v := undef) rfl (by kernel_rfl) (by kernel_rfl) (by kernel_rfl) (fun _ _ _ h => h) rfl (Or.inr ⟨by rfl, rfl⟩) (by assumption) ?_; (simp only [List.setIfInBounds_toArray, List.set_cons_zero, List.set_cons_succ])
      refine wpAnyH_takeD (i := 11) (d := 23) (v := undef) rfl (by kernel_rfl) (by kernel_rfl) (by kernel_rfl) (fun _ _ _ h => h) rfl (Or.inr ⟨by rfl, rfl⟩) (by assumption) ?_; (simp only [List.setIfInBounds_toArray, List.set_cons_zero, List.set_cons_succ])
      refine wpAnyH_takeD (i := 12) (d := 24) (v := undef) rfl (by kernel_rfl) (by kernel_rfl) (by kernel_rfl) (fun _ _ _ h => h) rfl (Or.inr ⟨by rfl, rfl⟩) (by assumption) ?_; (simp only [List.setIfInBounds_toArray, List.set_cons_zero, List.set_cons_succ])
      refine wpAnyH_takeD (i := 13) (d := 25) (v := undef) rfl (by kernel_rfl) (by kernel_rfl) (by kernel_rfl) (fun _ _ _ h => h) rfl (Or.inr ⟨by rfl, rfl⟩) (by assumption) ?_; (simp only [List.setIfInBounds_toArray, List.set_cons_zero, List.set_cons_succ])
      refine wpAnyH_takeD (i := 14) (d := 26) (v := undef) rfl (by kernel_rfl) (by kernel_rfl) (by kernel_rfl) (fun _ _ _ h => h) rfl (Or.inr ⟨by rfl, rfl⟩) (by assumption) ?_; (simp only [List.setIfInBounds_toArray, List.set_cons_zero, List.set_cons_succ])
      refine tkD 15 27 (v := ?_) rfl (by kernel_rfl) (fun _ _ _ h => h) rfl (by rfl) (by assumption) ?_ ?_; rotate_left; (intro w hSw; (try dsimp only at hSw); go_simp; try (with_reducible rfl)); simp only [List.setIfInBounds_toArray, List.set_cons_zero, List.set_cons_succ]
      refine tkD 16 28 (v := ?_) rfl (by kernel_rfl) (fun _ _ _ h => h) rfl (by rfl) (by assumption) ?_ ?_; rotate_left; (intro w hSw; (try dsimp only at hSw); go_simp; try (with_reducible rfl)); simp only [List.setIfInBounds_toArray, List.set_cons_zero, List.set_cons_succ]
      refine wpAnyH_done (by kernel_rfl) ?_ _
      go_wp2
      go_roundw
      case rel => exact ⟨1, by omega, by go_num, bt hbx hB5 (Nat.le_refl _)⟩
      case measure => simp [intOf]
    · obtain rfl : k = 1 := by omega
      go_wp2
      go_ret
      exact ⟨rfl, hbw⟩

set_option maxRecDepth 100000 in
set_option maxHeartbeats 6400000 in
theorem ccheck_ok (B P : Int) (hBP : Okset B P) (b c : Nat) (win : Nat → Int × Int) (hw : ∀ k, k < 4 → okW12 (win k)) (w : World) (h0 : w.cell? ⟨b, 0, none⟩ = some (.int .i64 B)) (h1 : w.cell? ⟨b, 1, none⟩ = some (.int .i64 P)) :
    Calls Tryz.prog 37 #[.agg #[.slice (some ⟨b, 0, none⟩) 1 c, .int .i64 1, .int .i64 1, .int .i64 0, .int .i64 1, .int .i64 0, .int .i64 (win 0).1, .int .i64 (win 0).2, .int .i64 (win 1).1, .int .i64 (win 1).2, .int .i64 (win 2).1, .int .i64 (win 2).2, .int .i64 (win 3).1, .int .i64 (win 3).2, .int .i64 1, .int .i64 0]] w (IntPost w 0) := by
  obtain ⟨W0, hW0⟩ : ∃ W, w.alloc (.cells #[.slice (some ⟨b, 0, none⟩) 1 c, .int .i64 1, .int .i64 1, .int .i64 0, .int .i64 1, .int .i64 0, .int .i64 (win 0).1, .int .i64 (win 0).2, .int .i64 (win 1).1, .int .i64 (win 1).2, .int .i64 (win 2).1, .int .i64 (win 2).2, .int .i64 (win 3).1, .int .i64 (win 3).2, .int .i64 1, .int .i64 0] 66) = W := ⟨_, rfl⟩
  have hb0 : Below w.heap.size w W0 := by rw [← hW0]; exact bal' w _
  have p0 : W0.heap[w.heap.size]? = some (.cells #[.slice (some ⟨b, 0, none⟩) 1 c, .int .i64 1, .int .i64 1, .int .i64 0, .int .i64 1, .int .i64 0, .int .i64 (win 0).1, .int .i64 (win 0).2, .int .i64 (win 1).1, .int .i64 (win 1).2, .int .i64 (win 2).1, .int .i64 (win 2).2, .int .i64 (win 3).1, .int .i64 (win 3).2, .int .i64 1, .int .i64 0] 66) := by rw [← hW0]; exact hpNew w _
  have x0 : W0.cell? ⟨w.heap.size, 0, none⟩ = some (.slice (some ⟨b, 0, none⟩) 1 c) := hpCell p0 0
  have x1 : ∀ X, Below W0.heap.size W0 X → X.cell? ⟨w.heap.size, 1, none⟩ = some (.int .i64 1) := fun X k => hpCell (hpKeep p0 k) 1
  have x2 : ∀ X, Below W0.heap.size W0 X → X.cell? ⟨w.heap.size, 2, none⟩ = some (.int .i64 1) := fun X k => hpCell (hpKeep p0 k) 2
  have x3 : ∀ X, Below W0.heap.size W0 X → X.cell? ⟨w.heap.size, 3, none⟩ = some (.int .i64 0) := fun X k => hpCell (hpKeep p0 k) 3
  have x4 : ∀ X, Below W0.heap.size W0 X → X.cell? ⟨w.heap.size, 4, none⟩ = some (.int .i64 1) := fun X k => hpCell (hpKeep p0 k) 4
  have x5 : ∀ X, Below W0.heap.size W0 X → X.cell? ⟨w.heap.size, 5, none⟩ = some (.int .i64 0) := fun X k => hpCell (hpKeep p0 k) 5
  have x14 : ∀ X, Below W0.heap.size W0 X → X.cell? ⟨w.heap.size, 14, none⟩ = some (.int .i64 1) := fun X k => hpCell (hpKeep p0 k) 14
  have x15 : ∀ X, Below W0.heap.size W0 X → X.cell? ⟨w.heap.size, 15, none⟩ = some (.int .i64 0) := fun X k => hpCell (hpKeep p0 k) 15
  have y0 : ∀ X, Below W0.heap.size W0 X → X.cell? ⟨w.heap.size, 6, none⟩ = some (.int .i64 (win 0).1) := fun X k => hpCell (hpKeep p0 k) 6
  have y1 : ∀ X, Below W0.heap.size W0 X → X.cell? ⟨w.heap.size, 7, none⟩ = some (.int .i64 (win 0).2) := fun X k => hpCell (hpKeep p0 k) 7
  have y2 : ∀ X, Below W0.heap.size W0 X → X.cell? ⟨w.heap.size, 8, none⟩ = some (.int .i64 (win 1).1) := fun X k => hpCell (hpKeep p0 k) 8
  have y3 : ∀ X, Below W0.heap.size W0 X → X.cell? ⟨w.heap.size, 9, none⟩ = some (.int .i64 (win 1).2) := fun X k => hpCell (hpKeep p0 k) 9
  have y4 : ∀ X, Below W0.heap.size W0 X → X.cell? ⟨w.heap.size, 10, none⟩ = some (.int .i64 (win 2).1) := fun X k => hpCell (hpKeep p0 k) 10
  have y5 : ∀ X, Below W0.heap.size W0 X → X.cell? ⟨w.heap.size, 11, none⟩ = some (.int .i64 (win 2).2) := fun X k => hpCell (hpKeep p0 k) 11
  have y6 : ∀ X, Below W0.heap.size W0 X → X.cell? ⟨w.heap.size, 12, none⟩ = some (.int .i64 (win 3).1) := fun X k => hpCell (hpKeep p0 k) 12
  have y7 : ∀ X, Below W0.heap.size W0 X → X.cell? ⟨w.heap.size, 13, none⟩ = some (.int .i64 (win 3).2) := fun X k => hpCell (hpKeep p0 k) 13
  have HSL : Hid (Calls Tryz.prog 54 #[.slice (some ⟨b, 0, none⟩) 1 c] W0 (BoolPost W0 true)) := slist_ok B P hBP b c W0 (cell_keep hb0 h0) (cell_keep hb0 h1)
  have HWI : Hid (∀ (n a e : Int) (X : World), a ≤ n → n ≤ e → Calls Tryz.prog 55 #[.int .i64 n, .int .i64 a, .int .i64 e] X fun r w' => r = .returned (.bool true) ∧ X = w') := fun n a e X h1 h2 => within_yes n a e h1 h2 X
  have HW0 := hid hW0
  have HB0 := hid hb0
  have HWN := hid hw
  clear hW0 hb0 p0 h0 h1 hw
  go_enter Tryz.func37, Tryz.ntmps37
  go_upto_region 1 with (fail)
  rw [HW0.out]
  go_wp2_with (first
    | (go_at_call 54; (with_reducible refine HSL.out.mono ?_); rintro r w1 ⟨rfl, hb1⟩)
    | (go_at_call 55; (with_reducible refine (HWI.out _ _ _ _ (by decide) (by decide)).mono ?_); rintro r w2 ⟨rfl, rfl⟩))
  clear x0 x1 x2 x3 x4 x5 x14 x15 HSL
  go_loopw [55] (fun iv wr => ∃ k : Nat, k ≤ 4 ∧ iv = .int .i64 k ∧ Below W0.heap.size W0 wr) (fun iv _ => 4 - (intOf iv).toNat)
  case atStart => exact ⟨0, by omega, rfl, hb1⟩
  case round =>
    obtain ⟨k, hk, rfl, hbw⟩ := hrel
    by_cases hlt : k < 4
    · have hki : (0 : Int) ≤ (k : Int) := Int.natCast_nonneg _
      have hkl : (k : Int) < 4 := by omega
      have hix := win_index win k hlt
      have HOK := hid (HWN.out k hlt)
      have h1 : 0 ≤ (win k).2 := HOK.out.1
      have h2 : (win k).2 ≤ 512 := by have := HOK.out.2.1; omega
      clear y0 y1 y2 y3 y4 y5 y6 y7
      go_wp2_with (go_at_call 55; (with_reducible refine (HWI.out _ _ _ _ h1 h2).mono ?_); rintro r w2 ⟨rfl, rfl⟩)
      go_roundw
      case rel => exact ⟨k + 1, by omega, by go_num, bta hbw (Nat.le_refl _) _⟩
      case measure => simp [intOf]; omega
    · obtain rfl : k = 4 := by omega
      go_wp2
      go_loopw [6, 7, 65] (fun _ _ iv wr' => ∃ k : Nat, k ≤ 4 ∧ iv = .int .i64 k ∧ Below W0.heap.size W0 wr') (fun _ _ iv _ => 4 - (intOf iv).toNat)
      case atStart => exact ⟨0, by omega, rfl, hbw⟩
      case round =>
        obtain ⟨k, hk, rfl, hbw⟩ := hrel
        clear y0 y1 y2 y3 y4 y5 y6 y7
        by_cases hlt : k < 4
        · have hki : (0 : Int) ≤ (k : Int) := Int.natCast_nonneg _
          have hkl : (k : Int) < 4 := by omega
          have hix := win_index win k hlt
          have HOK := hid (HWN.out k hlt)
          have h1 : 0 ≤ (win k).1 := HOK.out.2.2.1
          have h2 : (win k).1 ≤ 65536 - (win k).2 := HOK.out.2.2.2.1
          have h3 : (win k).2 ≤ 12 := HOK.out.2.1
          have h4 : 0 ≤ (win k).2 := HOK.out.1
          have sw : IntKind.i64.wrap (65536 - (win k).2) = 65536 - (win k).2 := IntWalk.i64_in _ (by omega)
          have HWA := hid (fun X => HWI.out (win k).1 0 (65536 - (win k).2) X h1 h2)
          by_cases hc : 0 < (win k).2
          · go_wp2_with (go_at_call 55; (with_reducible refine (HWA.out _).mono ?_); rintro r w2 ⟨rfl, rfl⟩)
            go_roundw
            case rel =>
              repeat apply Exists.intro
              refine ⟨?_, rfl⟩
              exact ⟨k + 1, by omega, by go_num, bta hbw (Nat.le_refl _) _⟩
            case measure => simp [intOf]; omega
          · have hz : (win k).1 = 0 := HOK.out.2.2.2.2 (by omega)
            have HWB := hid (fun X => HWI.out (win k).1 0 0 X h1 (by omega))
            clear hz
            go_wp2_with (go_at_call 55; (with_reducible refine (HWB.out _).mono ?_); rintro r w2 ⟨rfl, rfl⟩)
            go_roundw
            case rel =>
              repeat apply Exists.intro
              refine ⟨?_, rfl⟩
              exact ⟨k + 1, by omega, by go_num, bta hbw (Nat.le_refl _) _⟩
            case measure => simp [intOf]; omega
        · obtain rfl : k = 4 := by omega
          go_wp2
          go_ret
          exact ⟨rfl, bt HB0.out hbw (Nat.le_refl _)⟩

set_option maxRecDepth 100000 in
set_option maxHeartbeats 6400000 in
theorem unit_ok (B P : Int) (hBP : Okset B P) (b c : Nat) (win : Nat → Int × Int) (hw : ∀ k, k < 4 → okW12 (win k)) (w : World) (h0 : w.cell? ⟨b, 0, none⟩ = some (.int .i64 B)) (h1 : w.cell? ⟨b, 1, none⟩ = some (.int .i64 P)) (U : Int) (hU : Hid (unitS win 4 = U)) :
    Calls Tryz.prog 18 #[.agg #[.slice (some ⟨b, 0, none⟩) 1 c, .int .i64 1, .int .i64 1, .int .i64 0, .int .i64 1, .int .i64 0, .int .i64 (win 0).1, .int .i64 (win 0).2, .int .i64 (win 1).1, .int .i64 (win 1).2, .int .i64 (win 2).1, .int .i64 (win 2).2, .int .i64 (win 3).1, .int .i64 (win 3).2, .int .i64 1, .int .i64 0]] w (IntPost w U) := by
  obtain ⟨W0, hW0⟩ : ∃ W, w.alloc (.cells #[.slice (some ⟨b, 0, none⟩) 1 c, .int .i64 1, .int .i64 1, .int .i64 0, .int .i64 1, .int .i64 0, .int .i64 (win 0).1, .int .i64 (win 0).2, .int .i64 (win 1).1, .int .i64 (win 1).2, .int .i64 (win 2).1, .int .i64 (win 2).2, .int .i64 (win 3).1, .int .i64 (win 3).2, .int .i64 1, .int .i64 0] 66) = W := ⟨_, rfl⟩
  have hb0 : Below w.heap.size w W0 := by rw [← hW0]; exact bal' w _
  have p0 : W0.heap[w.heap.size]? = some (.cells #[.slice (some ⟨b, 0, none⟩) 1 c, .int .i64 1, .int .i64 1, .int .i64 0, .int .i64 1, .int .i64 0, .int .i64 (win 0).1, .int .i64 (win 0).2, .int .i64 (win 1).1, .int .i64 (win 1).2, .int .i64 (win 2).1, .int .i64 (win 2).2, .int .i64 (win 3).1, .int .i64 (win 3).2, .int .i64 1, .int .i64 0] 66) := by rw [← hW0]; exact hpNew w _
  have y0 : ∀ X, Below W0.heap.size W0 X → X.cell? ⟨w.heap.size, 6, none⟩ = some (.int .i64 (win 0).1) := fun X k => hpCell (hpKeep p0 k) 6
  have y1 : ∀ X, Below W0.heap.size W0 X → X.cell? ⟨w.heap.size, 7, none⟩ = some (.int .i64 (win 0).2) := fun X k => hpCell (hpKeep p0 k) 7
  have y2 : ∀ X, Below W0.heap.size W0 X → X.cell? ⟨w.heap.size, 8, none⟩ = some (.int .i64 (win 1).1) := fun X k => hpCell (hpKeep p0 k) 8
  have y3 : ∀ X, Below W0.heap.size W0 X → X.cell? ⟨w.heap.size, 9, none⟩ = some (.int .i64 (win 1).2) := fun X k => hpCell (hpKeep p0 k) 9
  have y4 : ∀ X, Below W0.heap.size W0 X → X.cell? ⟨w.heap.size, 10, none⟩ = some (.int .i64 (win 2).1) := fun X k => hpCell (hpKeep p0 k) 10
  have y5 : ∀ X, Below W0.heap.size W0 X → X.cell? ⟨w.heap.size, 11, none⟩ = some (.int .i64 (win 2).2) := fun X k => hpCell (hpKeep p0 k) 11
  have y6 : ∀ X, Below W0.heap.size W0 X → X.cell? ⟨w.heap.size, 12, none⟩ = some (.int .i64 (win 3).1) := fun X k => hpCell (hpKeep p0 k) 12
  have y7 : ∀ X, Below W0.heap.size W0 X → X.cell? ⟨w.heap.size, 13, none⟩ = some (.int .i64 (win 3).2) := fun X k => hpCell (hpKeep p0 k) 13
  have HCK : Hid (Calls Tryz.prog 37 #[.agg #[.slice (some ⟨b, 0, none⟩) 1 c, .int .i64 1, .int .i64 1, .int .i64 0, .int .i64 1, .int .i64 0, .int .i64 (win 0).1, .int .i64 (win 0).2, .int .i64 (win 1).1, .int .i64 (win 1).2, .int .i64 (win 2).1, .int .i64 (win 2).2, .int .i64 (win 3).1, .int .i64 (win 3).2, .int .i64 1, .int .i64 0]] W0 (IntPost W0 0)) := ccheck_ok B P hBP b c win hw W0 (cell_keep hb0 h0) (cell_keep hb0 h1)
  have P0 := hid p0
  have HW0 := hid hW0
  have HB0 := hid hb0
  have HWN := hid hw
  clear hW0 hb0 p0 h0 h1 hw
  go_enter Tryz.func18, Tryz.ntmps18
  go_upto_region 1 with (fail)
  rw [HW0.out]
  go_wp2_with (first
    | (refine wpList_load_row rfl 66 (.tmp 1) rfl w.heap.size rfl 66 #[.slice (some ⟨b, 0, none⟩) 1 c, .int .i64 1, .int .i64 1, .int .i64 0, .int .i64 1, .int .i64 0, .int .i64 (win 0).1, .int .i64 (win 0).2, .int .i64 (win 1).1, .int .i64 (win 1).2, .int .i64 (win 2).1, .int .i64 (win 2).2, .int .i64 (win 3).1, .int .i64 (win 3).2, .int .i64 1, .int .i64 0] (0, 0) _ P0.out Tryz.underlying66 rfl infoC ?_)
    | (go_at_call 37; (with_reducible refine HCK.out.mono ?_); rintro r w1 ⟨rfl, hb1⟩))
  clear y0 y1 y2 y3 y4 y5 y6 y7
  go_loopw [3, 11] (fun sv iv wr => ∃ k : Nat, k ≤ 4 ∧ iv = .int .i64 k ∧ sv = .int .i64 (unitS win k) ∧ Below W0.heap.size W0 wr) (fun _ iv _ => 4 - (intOf iv).toNat)
  case atStart => exact ⟨0, by omega, rfl, rfl, hb1⟩
  case round =>
    obtain ⟨k, hk, rfl, rfl, hbw⟩ := hrel
    by_cases hlt : k < 4
    · have hki : (0 : Int) ≤ (k : Int) := Int.natCast_nonneg _
      have hkl : (k : Int) < 4 := by omega
      have hix := win_index win k hlt
      have hok := HWN.out k hlt
      have hbd := unitS_bd HWN.out k (by omega)
      have hcn := hok.2.1
      have sw1 : IntKind.i64.wrap ((k : Int) + 1) = (k : Int) + 1 := IntWalk.i64_in _ (by omega)
      by_cases hc : 0 < (win k).2
      · have HNX : Hid (unitS win (k + 1) = unitS win k + (srchB ((k : Int) + 1) + winB (win k).2)) := by show unitS win k + tabB win k = _; unfold tabB; rw [if_pos hc]
        have HSR : Hid (∀ X, Calls Tryz.prog 38 #[.int .i64 ((k : Int) + 1)] X fun r w' => r = .returned (.int .i64 (srchB ((k : Int) + 1))) ∧ X = w') := fun X => bsearch_k X _ (by omega) (by omega)
        have HWW : Hid (∀ X, Calls Tryz.prog 39 #[.int .i64 (win k).2] X fun r w' => r = .returned (.int .i64 (winB (win k).2)) ∧ X = w') := fun X => window_k X _ (by omega) hcn
        have hwb := winB_bd hok.1 hcn
        have hsb : 8 ≤ srchB ((k : Int) + 1) ∧ srchB ((k : Int) + 1) ≤ 12 := by unfold srchB; split <;> omega
        generalize winB (win k).2 = wb at *
        generalize srchB ((k : Int) + 1) = sb at *
        generalize unitS win k = us at *
        have sw2 : IntKind.i64.wrap (sb + wb) = sb + wb := IntWalk.i64_in _ (by omega)
        have sw3 : IntKind.i64.wrap (us + (sb + wb)) = us + (sb + wb) := IntWalk.i64_in _ (by omega)
        clear hok hbd hcn hwb hsb
        go_upto_region 8 with (fail)
        go_region_with (first
          | (go_at_call 38; (with_reducible refine (HSR.out _).mono ?_); rintro r w2 ⟨rfl, rfl⟩)
          | (go_at_call 39; (with_reducible refine (HWW.out _).mono ?_); rintro r w2 ⟨rfl, rfl⟩))
        all_goals
          go_wp2
          go_roundw
          case rel => exact ⟨k + 1, by omega, by go_num, by rw [HNX.out], (bta hbw (Nat.le_refl _) _).drew⟩
          case measure => simp [intOf]; omega
      · have HNX : Hid (unitS win (k + 1) = unitS win k) := by show unitS win k + tabB win k = _; unfold tabB; rw [if_neg hc]; omega
        clear hok hbd hcn
        go_wp2
        go_roundw
        case rel => exact ⟨k + 1, by omega, by go_num, by rw [HNX.out], bta hbw (Nat.le_refl _) _⟩
        case measure => simp [intOf]; omega
    · obtain rfl : k = 4 := by omega
      go_wp2
      go_ret
      exact ⟨by rw [← hU.out]; rfl, bt HB0.out hbw (Nat.le_refl _)⟩

end Go.Proofs.YtliblgmpclefgaaGreat

/-
ProbeSlave: the reference's check of windows (modscanref16.Windows).
-/
namespace Go.Proofs.YtliblgmpclefgaaGreat
open Go.RowKit

set_option maxRecDepth 100000 in
set_option maxHeartbeats 1600000 in
theorem in_yes (n a b : Int) (h1 : a ≤ n) (h2 : n ≤ b) (w : World) : Calls Tryz.prog 41 #[.int .i64 n, .int .i64 a, .int .i64 b] w fun r w' => r = .returned (.bool true) ∧ w = w' := by
  have d2 : decide (n ≤ b) = true := decide_eq_true h2
  go_enter Tryz.func41, Tryz.ntmps41
  go_wp2
  go_ret
  exact ⟨by first | rfl | simp [h2], rfl⟩

set_option maxRecDepth 100000 in
set_option maxHeartbeats 6400000 in
theorem rwindows_ok (win : Nat → Int × Int) (hw : ∀ k, k < 4 → okW12 (win k)) (w : World) :
    Calls Tryz.prog 42 #[.agg #[.int .i64 (win 0).1, .int .i64 (win 0).2, .int .i64 (win 1).1, .int .i64 (win 1).2, .int .i64 (win 2).1, .int .i64 (win 2).2, .int .i64 (win 3).1, .int .i64 (win 3).2]] w (IntPost w 0) := by
  obtain ⟨W1, hW1⟩ : ∃ W, w.alloc (.cells #[.int .i64 (win 0).1, .int .i64 (win 0).2, .int .i64 (win 1).1, .int .i64 (win 1).2, .int .i64 (win 2).1, .int .i64 (win 2).2, .int .i64 (win 3).1, .int .i64 (win 3).2] 34) = W := ⟨_, rfl⟩
  have hb1 : Below w.heap.size w W1 := by rw [← hW1]; exact bal' w _
  have p1 : WgI W1 w.heap.size win := by rw [← hW1]; exact hpNew w _
  have HW1 := hid hW1
  have HB1 := hid hb1
  have P1 := hid p1
  have HWN := hid hw
  have HIN : Hid (∀ (n a b : Int) X, a ≤ n → n ≤ b → Calls Tryz.prog 41 #[.int .i64 n, .int .i64 a, .int .i64 b] X fun r w' => r = .returned (.bool true) ∧ X = w') := fun n a b X h1 h2 => in_yes n a b h1 h2 X
  clear hW1 hb1 p1 hw
  go_enter Tryz.func42, Tryz.ntmps42
  go_upto_region 1 with (fail)
  rw [HW1.out]
  go_wp2_with fail
  go_loopw [3] (fun iv wr => ∃ k : Nat, k ≤ 4 ∧ iv = .int .i64 (k : Int) ∧ Below W1.heap.size W1 wr) (fun iv _ => 4 - (intOf iv).toNat)
  case atStart => exact ⟨0, by omega, rfl, Below.refl _ _⟩
  case round =>
    obtain ⟨k, hk, rfl, hbw⟩ := hrel
    have hki : (0 : Int) ≤ (k : Int) := Int.natCast_nonneg _
    by_cases hlt : k < 4
    · have hkl : (k : Int) < 4 := by omega
      have y1 : wr.cell? ⟨w.heap.size, k * 2 + 1, none⟩ = some (.int .i64 (win k).2) := WgI.count (hpKeep P1.out hbw) hlt
      have hok := HWN.out k hlt
      have HI := hid (HIN.out (win k).2 0 512 wr hok.1 (by have := hok.2.1; omega))
      clear hok
      go_wp2_with (go_at_call 41; (with_reducible refine HI.out.mono ?_); rintro r w2 ⟨rfl, rfl⟩)
      go_roundw
      case rel => exact ⟨k + 1, by omega, by go_num, hbw⟩
      case measure => simp [intOf]; omega
    · obtain rfl : k = 4 := by omega
      go_wp2_with fail
      go_loopw [4] (fun iv wr => ∃ k : Nat, k ≤ 4 ∧ iv = .int .i64 (k : Int) ∧ Below W1.heap.size W1 wr) (fun iv _ => 4 - (intOf iv).toNat)
      case atStart => exact ⟨0, by omega, rfl, hbw⟩
      case round =>
        clear hbw
        obtain ⟨k, hk, rfl, hbw⟩ := hrel
        have hki : (0 : Int) ≤ (k : Int) := Int.natCast_nonneg _
        by_cases hlt : k < 4
        · have hkl : (k : Int) < 4 := by omega
          have y1 : wr.cell? ⟨w.heap.size, k * 2 + 1, none⟩ = some (.int .i64 (win k).2) := WgI.count (hpKeep P1.out hbw) hlt
          have y0 : wr.cell? ⟨w.heap.size, k * 2, none⟩ = some (.int .i64 (win k).1) := WgI.first (hpKeep P1.out hbw) hlt
          have hok := HWN.out k hlt
          by_cases hc : (win k).2 = 0
          · have d1 := b1 hc
            have d2 : ((win k).1 != 0) = false := by rw [bne_eq_false_iff_eq]; exact hok.2.2.2.2 hc
            have d3 : decide (0 < (win k).2) = false := decide_eq_false (by omega)
            clear hc hok
            go_upto_region 9 with (fail)
            go_quiet (fail)
            go_wp2
            go_roundw
            case rel => exact ⟨k + 1, by omega, by go_num, below_drewN hbw _⟩
            case measure => simp [intOf]; omega
          · have d1 := b0 hc
            have d3 : decide (0 < (win k).2) = true := decide_eq_true (by have := hok.1; omega)
            obtain ⟨e, he⟩ : ∃ e, 65536 - (win k).2 = e := ⟨_, rfl⟩
            have sw : IntKind.i64.wrap (65536 - (win k).2) = e := (IntWalk.i64_in _ (by have := hok.1; have := hok.2.1; omega)).trans he
            have HI : Hid (∀ X, Calls Tryz.prog 41 #[.int .i64 (win k).1, .int .i64 0, .int .i64 e] X fun r w' => r = .returned (.bool true) ∧ X = w') := fun X => HIN.out (win k).1 0 e X hok.2.2.1 (by have := hok.2.2.2.1; omega)
            clear hc hok he
            have y1' : ∀ X, Below wr.heap.size wr X → X.cell? ⟨w.heap.size, k * 2 + 1, none⟩ = some (.int .i64 (win k).2) := fun X h => cell_keep h y1
            have y0' : ∀ X, Below wr.heap.size wr X → X.cell? ⟨w.heap.size, k * 2, none⟩ = some (.int .i64 (win k).1) := fun X h => cell_keep h y0
            have kD : Below wr.heap.size wr wr.drew := (Below.refl _ _).drew
            clear y0 y1
            go_upto_region 9 with (fail)
            go_cut [50] from 19 to 50 (fun s50 wc => s50 = .bool false ∧ Below wr.heap.size wr wc)
            case first =>
              refine wp_region_held_drew (S := fun V => Below wr.heap.size wr V) (by kernel_rfl) kD (fun hH => ?_)
              refine tkD 0 19 (v := ?_) rfl (by kernel_rfl) (fun _ _ _ h => h) rfl (by rfl) (by assumption) ?_ ?_; rotate_left; (intro w hSw; (try dsimp only at hSw); go_simp; try (with_reducible rfl)); simp only [List.setIfInBounds_toArray, List.set_cons_zero, List.set_cons_succ]
              refine tkD 1 20 (v := ?_) rfl (by kernel_rfl) (fun _ _ _ h => h) rfl (by rfl) (by assumption) ?_ ?_; rotate_left; (intro w hSw; (try dsimp only at hSw); go_simp; try (with_reducible rfl)); simp only [List.setIfInBounds_toArray, List.set_cons_zero, List.set_cons_succ]
              refine tkD 2 21 (v := ?_) rfl (by kernel_rfl) (fun _ _ _ h => h) rfl (by rfl) (by assumption) ?_ ?_; rotate_left; (intro w hSw; (try dsimp only at hSw); go_simp; try (with_reducible rfl)); simp only [List.setIfInBounds_toArray, List.set_cons_zero, List.set_cons_succ]
              refine tkD 3 22 (v := ?_) rfl (by kernel_rfl) (fun _ _ _ h => h) rfl (by rfl) (by assumption) ?_ ?_; rotate_left; (intro w hSw; (try dsimp only at hSw); go_simp; try (with_reducible rfl)); simp only [List.setIfInBounds_toArray, List.set_cons_zero, List.set_cons_succ]
              refine tkD 4 23 (v := ?_) rfl (by kernel_rfl) (fun _ _ _ h => h) rfl (by rfl) (by assumption) ?_ ?_; rotate_left; (intro w hSw; (try dsimp only at hSw); go_simp; try (with_reducible rfl)); simp only [List.setIfInBounds_toArray, List.set_cons_zero, List.set_cons_succ]
              refine tkD 5 24 (v := ?_) rfl (by kernel_rfl) (fun _ _ _ h => h) rfl (by rfl) (by assumption) ?_ ?_; rotate_left; (intro w hSw; (try dsimp only at hSw); go_simp; try (with_reducible rfl)); simp only [List.setIfInBounds_toArray, List.set_cons_zero, List.set_cons_succ]
              refine wpAnyH_takeD (i := 6) (d := 25) (v := undef) rfl (by kernel_rfl) (by kernel_rfl) (by kernel_rfl) (fun _ _ _ h => h) rfl (Or.inr ⟨by rfl, rfl⟩) (by assumption) ?_; (simp only [List.setIfInBounds_toArray, List.set_cons_zero, List.set_cons_succ])
              refine wpAnyH_takeD (i := 7) (d := 26) (v := undef) rfl (by kernel_rfl) (by kernel_rfl) (by kernel_rfl) (fun _ _ _ h => h) rfl (Or.inr ⟨by rfl, rfl⟩) (by assumption) ?_; (simp only [List.setIfInBounds_toArray, List.set_cons_zero, List.set_cons_succ])
              refine wpAnyH_takeD (i := 8) (d := 27) (v := undef) rfl (by kernel_rfl) (by kernel_rfl) (by kernel_rfl) (fun _ _ _ h => h) rfl (Or.inr ⟨by rfl, rfl⟩) (by assumption) ?_; (simp only [List.setIfInBounds_toArray, List.set_cons_zero, List.set_cons_succ])
              refine wpAnyH_takeD (i := 9) (d := 28) (v := undef) rfl (by kernel_rfl) (by kernel_rfl) (by kernel_rfl) (fun _ _ _ h => h) rfl (Or.inr ⟨by rfl, rfl⟩) (by assumption) ?_; (simp only [List.setIfInBounds_toArray, List.set_cons_zero, List.set_cons_succ])
              refine wpAnyH_takeD (i := 10) (d := 29) (v := undef) rfl (by kernel_rfl) (by kernel_rfl) (by kernel_rfl) (fun _ _ _ h => h) rfl (Or.inr ⟨by rfl, rfl⟩) (by assumption) ?_; (simp only [List.setIfInBounds_toArray, List.set_cons_zero, List.set_cons_succ])
              refine tkD 11 30 (v := ?_) rfl (by kernel_rfl) (fun _ _ _ h => h) rfl (by rfl) (by assumption) ?_ ?_; rotate_left; (intro w hSw; (try dsimp only at hSw); go_simp; try (with_reducible rfl)); simp only [List.setIfInBounds_toArray, List.set_cons_zero, List.set_cons_succ]
              refine tkD 12 31 (v := ?_) rfl (by kernel_rfl) (fun _ _ _ h => h) rfl (by rfl) (by assumption) ?_ ?_; rotate_left; (intro w hSw; (try dsimp only at hSw); go_simp; try (with_reducible rfl)); simp only [List.setIfInBounds_toArray, List.set_cons_zero, List.set_cons_succ]
              refine tkD 13 32 (v := ?_) rfl (by kernel_rfl) (fun _ _ _ h => h) rfl (by rfl) (by assumption) ?_ ?_; rotate_left; (intro w hSw; (try dsimp only at hSw); go_simp; try (with_reducible rfl)); simp only [List.setIfInBounds_toArray, List.set_cons_zero, List.set_cons_succ]
              refine tkD 14 33 (v := ?_) rfl (by kernel_rfl) (fun _ _ _ h => h) rfl (by rfl) (by assumption) ?_ ?_; rotate_left; (intro w hSw; (try dsimp only at hSw); go_simp; try (with_reducible rfl)); simp only [List.setIfInBounds_toArray, List.set_cons_zero, List.set_cons_succ]
              refine tkD 15 34 (v := ?_) rfl (by kernel_rfl) (fun _ _ _ h => h) rfl (by rfl) (by assumption) ?_ ?_; rotate_left; (intro w hSw; (try dsimp only at hSw); go_simp; try (with_reducible rfl)); simp only [List.setIfInBounds_toArray, List.set_cons_zero, List.set_cons_succ]
              refine tkD 16 35 (v := ?_) rfl (by kernel_rfl) (fun _ _ _ h => h) rfl (by rfl) (by assumption) ?_ ?_; rotate_left; (intro w hSw; (try dsimp only at hSw); go_simp; try (with_reducible rfl)); simp only [List.setIfInBounds_toArray, List.set_cons_zero, List.set_cons_succ]
              refine tkD 17 36 (v := ?_) rfl (by kernel_rfl) (fun _ _ _ h => h) rfl (by rfl) (by assumption) ?_ ?_; rotate_left; (intro w hSw; (try dsimp only at hSw); go_simp; try (with_reducible rfl)); simp only [List.setIfInBounds_toArray, List.set_cons_zero, List.set_cons_succ]
              refine tkD 18 37 (v := ?_) rfl (by kernel_rfl) (fun _ _ _ h => h) rfl (by rfl) (by assumption) ?_ ?_; rotate_left; (intro w hSw; (try dsimp only at hSw); go_simp; try (with_reducible rfl)); simp only [List.setIfInBounds_toArray, List.set_cons_zero, List.set_cons_succ]
              refine tkD 19 38 (v := ?_) rfl (by kernel_rfl) (fun _ _ _ h => h) rfl (by rfl) (by assumption) ?_ ?_; rotate_left; (intro w hSw; (try dsimp only at hSw); go_simp; try (with_reducible rfl)); simp only [List.setIfInBounds_toArray, List.set_cons_zero, List.set_cons_succ]
              refine tkD 20 39 (v := ?_) rfl (by kernel_rfl) (fun _ _ _ h => h) rfl (by rfl) (by assumption) ?_ ?_; rotate_left; (intro w hSw; (try dsimp only at hSw); go_simp; try (with_reducible rfl)); simp only [List.setIfInBounds_toArray, List.set_cons_zero, List.set_cons_succ]
              refine tkD 21 40 (v := ?_) rfl (by kernel_rfl) (fun _ _ _ h => h) rfl (by rfl) (by assumption) ?_ ?_; rotate_left; (intro w hSw; (try dsimp only at hSw); go_simp; try (with_reducible rfl)); simp only [List.setIfInBounds_toArray, List.set_cons_zero, List.set_cons_succ]
              refine tkD 22 41 (v := ?_) rfl (by kernel_rfl) (fun _ _ _ h => h) rfl (by rfl) (by assumption) ?_ ?_; rotate_left; (intro w hSw; (try dsimp only at hSw); go_simp; try (with_reducible rfl)); simp only [List.setIfInBounds_toArray, List.set_cons_zero, List.set_cons_succ]
              refine tkD 23 42 (v := ?_) rfl (by kernel_rfl) (fun _ _ _ h => h) rfl (by rfl) (by assumption) ?_ ?_; rotate_left; (intro w hSw; (try dsimp only at hSw); go_simp; try (with_reducible rfl)); simp only [List.setIfInBounds_toArray, List.set_cons_zero, List.set_cons_succ]
              refine tkD 24 43 (v := ?_) rfl (by kernel_rfl) (fun _ _ _ h => h) rfl (by rfl) (by assumption) ?_ ?_; rotate_left; (intro w hSw; (try dsimp only at hSw); go_simp; try (with_reducible rfl)); simp only [List.setIfInBounds_toArray, List.set_cons_zero, List.set_cons_succ]
              refine tkD 25 44 (v := ?_) rfl (by kernel_rfl) (fun _ _ _ h => h) rfl (by rfl) (by assumption) ?_ ?_; rotate_left; (intro w hSw; (try dsimp only at hSw); go_simp; try (with_reducible rfl)); simp only [List.setIfInBounds_toArray, List.set_cons_zero, List.set_cons_succ]
              refine tkD 26 45 (v := ?_) rfl (by kernel_rfl) (fun _ _ _ h => h) rfl (by rfl) (by assumption) ?_ ?_; rotate_left; (intro w hSw; (try dsimp only at hSw); go_simp; try (with_reducible rfl)); simp only [List.setIfInBounds_toArray, List.set_cons_zero, List.set_cons_succ]
              refine tkD 27 46 (v := ?_) rfl (by kernel_rfl) (fun _ _ _ h => h) rfl (by rfl) (by assumption) ?_ ?_; rotate_left; (intro w hSw; (try dsimp only at hSw); go_simp; try (with_reducible rfl)); simp only [List.setIfInBounds_toArray, List.set_cons_zero, List.set_cons_succ]
              clear hH
              refine wpAnyH_ready (rs := [28]) (by kernel_rfl) (by simp) ?_
              refine AllReadyH.cons rfl (fun K hK => ?_) AllReadyH.nil
              go_simp
              refine (HI.out _).mono ?_
              rintro r w2 ⟨rfl, rfl⟩
              refine hK.out _ _ kD (fun hSx => ?_)
              clear hK K hSx
              refine tkD 29 48 (v := ?_) rfl (by kernel_rfl) (fun _ _ _ h => h) rfl (by rfl) (by assumption) ?_ ?_; rotate_left; (intro w hSw; (try dsimp only at hSw); go_simp; try (with_reducible rfl)); simp only [List.setIfInBounds_toArray, List.set_cons_zero, List.set_cons_succ]
              refine tkD 30 49 (v := ?_) rfl (by kernel_rfl) (fun _ _ _ h => h) rfl (by rfl) (by assumption) ?_ ?_; rotate_left; (intro w hSw; (try dsimp only at hSw); go_simp; try (with_reducible rfl)); simp only [List.setIfInBounds_toArray, List.set_cons_zero, List.set_cons_succ]
              refine tkD 31 50 (v := ?_) rfl (by kernel_rfl) (fun _ _ _ h => h) rfl (by rfl) (by assumption) ?_ ?_; rotate_left; (intro w hSw; (try dsimp only at hSw); go_simp; try (with_reducible rfl)); simp only [List.setIfInBounds_toArray, List.set_cons_zero, List.set_cons_succ]
              refine wpAnyH_done (by kernel_rfl) ?_ _
              go_wp2
              go_meet
              case rel => exact ⟨rfl, kD⟩
            case rest =>
              obtain ⟨rfl, hbc⟩ := hcut
              have hbw2 := bt hbw hbc (Nat.le_refl _)
              clear y0' y1' kD
              go_wp2
              go_roundw
              case rel => exact ⟨k + 1, by omega, by go_num, hbw2⟩
              case measure => simp [intOf]; omega
        · obtain rfl : k = 4 := by omega
          go_wp2
          go_ret
          exact ⟨rfl, bt HB1.out hbw (Nat.le_refl _)⟩

end Go.Proofs.YtliblgmpclefgaaGreat

/-
ProbeSlave: the reference's check of a list of one setting (modscanref05.List).
-/
namespace Go.Proofs.YtliblgmpclefgaaGreat
open Go.RowKit
set_option maxRecDepth 100000 in
set_option maxHeartbeats 3200000 in
theorem rlist_ok (B P : Int) (hBP : Okset B P) (b c : Nat) (w : World) (h0 : w.cell? ⟨b, 0, none⟩ = some (.int .i64 B)) (h1 : w.cell? ⟨b, 1, none⟩ = some (.int .i64 P)) :
    Calls Tryz.prog 40 #[.slice (some ⟨b, 0, none⟩) 1 c] w (BoolPost w true) := by
  have HV : Hid (∀ X, Calls Tryz.prog 21 #[.agg #[.int .i64 B, .int .i64 P]] X fun r w' => r = .returned (.bool true) ∧ Below X.heap.size X w') := fun X => rvalid_ok B P hBP X
  have y0 : ∀ X, Below w.heap.size w X → X.cell? ⟨b, 0, none⟩ = some (.int .i64 B) := fun X h => cell_keep h h0
  have y1 : ∀ X, Below w.heap.size w X → X.cell? ⟨b, 1, none⟩ = some (.int .i64 P) := fun X h => cell_keep h h1
  have kD : Below w.heap.size w w.drew := (Below.refl _ _).drew
  clear h0 h1 hBP
  go_enter Tryz.func40, Tryz.ntmps40
  go_wp2_with fail
  go_loopw [3] (fun iv wr => (iv = .int .i64 0 ∧ w = wr) ∨ (iv = .int .i64 1 ∧ Below w.heap.size w wr)) (fun iv _ => 1 - (intOf iv).toNat)
  case atStart => exact .inl ⟨rfl, rfl⟩
  case round =>
    rcases hrel with ⟨rfl, rfl⟩ | ⟨rfl, hbw⟩
    · go_upto_region 4 with (fail)
      go_cut [36] from 14 to 36 (fun s36 wc => s36 = .bool false ∧ Below w.heap.size w wc)
      case first =>
        refine wp_region_held_drew (S := fun V => Below w.heap.size w V) (by kernel_rfl) kD (fun hH => ?_)
        refine tkD 0 14 (v := ?_) rfl (by kernel_rfl) (fun _ _ _ h => h) rfl (by rfl) (by assumption) ?_ ?_; rotate_left; (intro w hSw; (try dsimp only at hSw); go_simp; try (with_reducible rfl)); simp only [List.setIfInBounds_toArray, List.set_cons_zero, List.set_cons_succ]
        refine tkD 1 15 (v := ?_) rfl (by kernel_rfl) (fun _ _ _ h => h) rfl (by rfl) (by assumption) ?_ ?_; rotate_left; (intro w hSw; (try dsimp only at hSw); go_simp; try (with_reducible rfl)); simp only [List.setIfInBounds_toArray, List.set_cons_zero, List.set_cons_succ]
        refine tkD 2 16 (v := ?_) rfl (by kernel_rfl) (fun _ _ _ h => h) rfl (by rfl) (by assumption) ?_ ?_; rotate_left; (intro w hSw; (try dsimp only at hSw); go_simp; try (with_reducible rfl)); simp only [List.setIfInBounds_toArray, List.set_cons_zero, List.set_cons_succ]
        refine tkD 3 17 (v := ?_) rfl (by kernel_rfl) (fun _ _ _ h => h) rfl (by rfl) (by assumption) ?_ ?_; rotate_left; (intro w hSw; (try dsimp only at hSw); go_simp; try (with_reducible rfl)); simp only [List.setIfInBounds_toArray, List.set_cons_zero, List.set_cons_succ]
        clear hH
        refine wpAnyH_ready (rs := [4]) (by kernel_rfl) (by simp) ?_
        refine AllReadyH.cons rfl (fun K hK => ?_) AllReadyH.nil
        go_simp
        refine (HV.out _).mono ?_
        rintro r w2 ⟨rfl, hb2⟩
        have hB2 := bt kD hb2 (Nat.le_refl _)
        refine hK.out _ _ hB2 (fun hSx => ?_)
        clear hK K hSx
        refine tkD 5 19 (v := ?_) rfl (by kernel_rfl) (fun _ _ _ h => h) rfl (by rfl) (by assumption) ?_ ?_; rotate_left; (intro w hSw; (try dsimp only at hSw); go_simp; try (with_reducible rfl)); simp only [List.setIfInBounds_toArray, List.set_cons_zero, List.set_cons_succ]
        refine tkD 6 20 (v := ?_) rfl (by kernel_rfl) (fun _ _ _ h => h) rfl (by rfl) (by assumption) ?_ ?_; rotate_left; (intro w hSw; (try dsimp only at hSw); go_simp; try (with_reducible rfl)); simp only [List.setIfInBounds_toArray, List.set_cons_zero, List.set_cons_succ]
        refine tkD 7 21 (v := ?_) rfl (by kernel_rfl) (fun _ _ _ h => h) rfl (by rfl) (by assumption) ?_ ?_; rotate_left; (intro w hSw; (try dsimp only at hSw); go_simp; try (with_reducible rfl)); simp only [List.setIfInBounds_toArray, List.set_cons_zero, List.set_cons_succ]
        refine tkD 8 22 (v := ?_) rfl (by kernel_rfl) (fun _ _ _ h => h) rfl (by rfl) (by assumption) ?_ ?_; rotate_left; (intro w hSw; (try dsimp only at hSw); go_simp; try (with_reducible rfl)); simp only [List.setIfInBounds_toArray, List.set_cons_zero, List.set_cons_succ]
        refine tkD 9 23 (v := ?_) rfl (by kernel_rfl) (fun _ _ _ h => h) rfl (by rfl) (by assumption) ?_ ?_; rotate_left; (intro w hSw; (try dsimp only at hSw); go_simp; try (with_reducible rfl)); simp only [List.setIfInBounds_toArray, List.set_cons_zero, List.set_cons_succ]
        refine wpAnyH_takeD (i := 10) (d := 24) (v := undef) rfl (by kernel_rfl) (by kernel_rfl) (by kernel_rfl) (fun _ _ _ h => h) rfl (Or.inr ⟨by rfl, rfl⟩) (by assumption) ?_; (simp only [List.setIfInBounds_toArray, List.set_cons_zero, List.set_cons_succ])
        refine wpAnyH_takeD (i := 11) (d := 25) (v := undef) rfl (by kernel_rfl) (by kernel_rfl) (by kernel_rfl) (fun _ _ _ h => h) rfl (Or.inr ⟨by rfl, rfl⟩) (by assumption) ?_; (simp only [List.setIfInBounds_toArray, List.set_cons_zero, List.set_cons_succ])
        refine wpAnyH_takeD (i := 12) (d := 26) (v := undef) rfl (by kernel_rfl) (by kernel_rfl) (by kernel_rfl) (fun _ _ _ h => h) rfl (Or.inr ⟨by rfl, rfl⟩) (by assumption) ?_; (simp only [List.setIfInBounds_toArray, List.set_cons_zero, List.set_cons_succ])
        refine wpAnyH_takeD (i := 13) (d := 27) (v := undef) rfl (by kernel_rfl) (by kernel_rfl) (by kernel_rfl) (fun _ _ _ h => h) rfl (Or.inr ⟨by rfl, rfl⟩) (by assumption) ?_; (simp only [List.setIfInBounds_toArray, List.set_cons_zero, List.set_cons_succ])
        refine wpAnyH_takeD (i := 14) (d := 28) (v := undef) rfl (by kernel_rfl) (by kernel_rfl) (by kernel_rfl) (fun _ _ _ h => h) rfl (Or.inr ⟨by rfl, rfl⟩) (by assumption) ?_; (simp only [List.setIfInBounds_toArray, List.set_cons_zero, List.set_cons_succ])
        refine wpAnyH_takeD (i := 15) (d := 29) (v := undef) rfl (by kernel_rfl) (by kernel_rfl) (by kernel_rfl) (fun _ _ _ h => h) rfl (Or.inr ⟨by rfl, rfl⟩) (by assumption) ?_; (simp only [List.setIfInBounds_toArray, List.set_cons_zero, List.set_cons_succ])
        refine wpAnyH_takeD (i := 16) (d := 30) (v := undef) rfl (by kernel_rfl) (by kernel_rfl) (by kernel_rfl) (fun _ _ _ h => h) rfl (Or.inr ⟨by rfl, rfl⟩) (by assumption) ?_; (simp only [List.setIfInBounds_toArray, List.set_cons_zero, List.set_cons_succ])
        refine wpAnyH_takeD (i := 17) (d := 31) (v := undef) rfl (by kernel_rfl) (by kernel_rfl) (by kernel_rfl) (fun _ _ _ h => h) rfl (Or.inr ⟨by rfl, rfl⟩) (by assumption) ?_; (simp only [List.setIfInBounds_toArray, List.set_cons_zero, List.set_cons_succ])
        refine wpAnyH_takeD (i := 18) (d := 32) (v := undef) rfl (by kernel_rfl) (by kernel_rfl) (by kernel_rfl) (fun _ _ _ h => h) rfl (Or.inr ⟨by rfl, rfl⟩) (by assumption) ?_; (simp only [List.setIfInBounds_toArray, List.set_cons_zero, List.set_cons_succ])
        refine wpAnyH_takeD (i := 19) (d := 33) (v := undef) rfl (by kernel_rfl) (by kernel_rfl) (by kernel_rfl) (fun _ _ _ h => h) rfl (Or.inr ⟨by rfl, rfl⟩) (by assumption) ?_; (simp only [List.setIfInBounds_toArray, List.set_cons_zero, List.set_cons_succ])
        refine wpAnyH_takeD (i := 20) (d := 34) (v := undef) rfl (by kernel_rfl) (by kernel_rfl) (by kernel_rfl) (fun _ _ _ h => h) rfl (Or.inr ⟨by rfl, rfl⟩) (by assumption) ?_; (simp only [List.setIfInBounds_toArray, List.set_cons_zero, List.set_cons_succ])
        refine tkD 21 35 (v := ?_) rfl (by kernel_rfl) (fun _ _ _ h => h) rfl (by rfl) (by assumption) ?_ ?_; rotate_left; (intro w hSw; (try dsimp only at hSw); go_simp; try (with_reducible rfl)); simp only [List.setIfInBounds_toArray, List.set_cons_zero, List.set_cons_succ]
        refine tkD 22 36 (v := ?_) rfl (by kernel_rfl) (fun _ _ _ h => h) rfl (by rfl) (by assumption) ?_ ?_; rotate_left; (intro w hSw; (try dsimp only at hSw); go_simp; try (with_reducible rfl)); simp only [List.setIfInBounds_toArray, List.set_cons_zero, List.set_cons_succ]
        refine wpAnyH_done (by kernel_rfl) ?_ _
        go_wp2
        go_meet
        case rel => exact ⟨rfl, hB2⟩
      case rest =>
        obtain ⟨rfl, hbc⟩ := hcut
        clear y0 y1 kD
        go_wp2
        go_roundw
        case rel => exact .inr ⟨rfl, hbc⟩
        case measure => simp [intOf]
    · clear y0 y1 kD
      go_wp2
      go_ret
      exact ⟨rfl, hbw⟩

end Go.Proofs.YtliblgmpclefgaaGreat

/-
ProbeSlave: the reference's check of the law's configuration (modscanref16.Check).
-/
namespace Go.Proofs.YtliblgmpclefgaaGreat
open Go.RowKit
set_option maxRecDepth 100000 in
set_option maxHeartbeats 6400000 in
theorem rcheck_ok (B P : Int) (hBP : Okset B P) (b c : Nat) (win : Nat → Int × Int) (hw : ∀ k, k < 4 → okW12 (win k)) (w : World) (h0 : w.cell? ⟨b, 0, none⟩ = some (.int .i64 B)) (h1 : w.cell? ⟨b, 1, none⟩ = some (.int .i64 P)) :
    Calls Tryz.prog 19 #[.agg #[.slice (some ⟨b, 0, none⟩) 1 c, .int .i64 1, .int .i64 1, .int .i64 0, .int .i64 1, .int .i64 0, .int .i64 (win 0).1, .int .i64 (win 0).2, .int .i64 (win 1).1, .int .i64 (win 1).2, .int .i64 (win 2).1, .int .i64 (win 2).2, .int .i64 (win 3).1, .int .i64 (win 3).2, .int .i64 1, .int .i64 0]] w (IntPost w 0) := by
  obtain ⟨W1, hW1⟩ : ∃ W, w.alloc (.cells #[.slice (some ⟨b, 0, none⟩) 1 c, .int .i64 1, .int .i64 1, .int .i64 0, .int .i64 1, .int .i64 0, .int .i64 (win 0).1, .int .i64 (win 0).2, .int .i64 (win 1).1, .int .i64 (win 1).2, .int .i64 (win 2).1, .int .i64 (win 2).2, .int .i64 (win 3).1, .int .i64 (win 3).2, .int .i64 1, .int .i64 0] 66) = W := ⟨_, rfl⟩
  have hb1 : Below w.heap.size w W1 := by rw [← hW1]; exact bal' w _
  have p1 : W1.heap[w.heap.size]? = some (.cells #[.slice (some ⟨b, 0, none⟩) 1 c, .int .i64 1, .int .i64 1, .int .i64 0, .int .i64 1, .int .i64 0, .int .i64 (win 0).1, .int .i64 (win 0).2, .int .i64 (win 1).1, .int .i64 (win 1).2, .int .i64 (win 2).1, .int .i64 (win 2).2, .int .i64 (win 3).1, .int .i64 (win 3).2, .int .i64 1, .int .i64 0] 66) := by rw [← hW1]; exact hpNew w _
  have x0 : ∀ X, Below W1.heap.size W1 X → X.cell? ⟨w.heap.size, 0, none⟩ = some (.slice (some ⟨b, 0, none⟩) 1 c) := fun X h => hpCell (hpKeep p1 h) 0
  have x1 : ∀ X, Below W1.heap.size W1 X → X.cell? ⟨w.heap.size, 1, none⟩ = some (.int .i64 1) := fun X h => hpCell (hpKeep p1 h) 1
  have x2 : ∀ X, Below W1.heap.size W1 X → X.cell? ⟨w.heap.size, 2, none⟩ = some (.int .i64 1) := fun X h => hpCell (hpKeep p1 h) 2
  have x3 : ∀ X, Below W1.heap.size W1 X → X.cell? ⟨w.heap.size, 3, none⟩ = some (.int .i64 0) := fun X h => hpCell (hpKeep p1 h) 3
  have x4 : ∀ X, Below W1.heap.size W1 X → X.cell? ⟨w.heap.size, 4, none⟩ = some (.int .i64 1) := fun X h => hpCell (hpKeep p1 h) 4
  have x5 : ∀ X, Below W1.heap.size W1 X → X.cell? ⟨w.heap.size, 5, none⟩ = some (.int .i64 0) := fun X h => hpCell (hpKeep p1 h) 5
  have x6 : ∀ X, Below W1.heap.size W1 X → X.cell? ⟨w.heap.size, 6, none⟩ = some (.int .i64 (win 0).1) := fun X h => hpCell (hpKeep p1 h) 6
  have x7 : ∀ X, Below W1.heap.size W1 X → X.cell? ⟨w.heap.size, 7, none⟩ = some (.int .i64 (win 0).2) := fun X h => hpCell (hpKeep p1 h) 7
  have x8 : ∀ X, Below W1.heap.size W1 X → X.cell? ⟨w.heap.size, 8, none⟩ = some (.int .i64 (win 1).1) := fun X h => hpCell (hpKeep p1 h) 8
  have x9 : ∀ X, Below W1.heap.size W1 X → X.cell? ⟨w.heap.size, 9, none⟩ = some (.int .i64 (win 1).2) := fun X h => hpCell (hpKeep p1 h) 9
  have x10 : ∀ X, Below W1.heap.size W1 X → X.cell? ⟨w.heap.size, 10, none⟩ = some (.int .i64 (win 2).1) := fun X h => hpCell (hpKeep p1 h) 10
  have x11 : ∀ X, Below W1.heap.size W1 X → X.cell? ⟨w.heap.size, 11, none⟩ = some (.int .i64 (win 2).2) := fun X h => hpCell (hpKeep p1 h) 11
  have x12 : ∀ X, Below W1.heap.size W1 X → X.cell? ⟨w.heap.size, 12, none⟩ = some (.int .i64 (win 3).1) := fun X h => hpCell (hpKeep p1 h) 12
  have x13 : ∀ X, Below W1.heap.size W1 X → X.cell? ⟨w.heap.size, 13, none⟩ = some (.int .i64 (win 3).2) := fun X h => hpCell (hpKeep p1 h) 13
  have x14 : ∀ X, Below W1.heap.size W1 X → X.cell? ⟨w.heap.size, 14, none⟩ = some (.int .i64 1) := fun X h => hpCell (hpKeep p1 h) 14
  have x15 : ∀ X, Below W1.heap.size W1 X → X.cell? ⟨w.heap.size, 15, none⟩ = some (.int .i64 0) := fun X h => hpCell (hpKeep p1 h) 15
  have k0 : Below W1.heap.size W1 W1 := Below.refl _ _
  have HL : Hid (∀ X, Below W1.heap.size W1 X → Calls Tryz.prog 40 #[.slice (some ⟨b, 0, none⟩) 1 c] X (BoolPost X true)) := fun X hX => rlist_ok B P hBP b c X (cell_keep (bt hb1 hX (Nat.le_refl _)) h0) (cell_keep (bt hb1 hX (Nat.le_refl _)) h1)
  have HIN : Hid (∀ (n a b : Int) X, a ≤ n → n ≤ b → Calls Tryz.prog 41 #[.int .i64 n, .int .i64 a, .int .i64 b] X fun r w' => r = .returned (.bool true) ∧ X = w') := fun n a b X h1 h2 => in_yes n a b h1 h2 X
  have HWI : Hid (∀ X, Calls Tryz.prog 42 #[.agg #[.int .i64 (win 0).1, .int .i64 (win 0).2, .int .i64 (win 1).1, .int .i64 (win 1).2, .int .i64 (win 2).1, .int .i64 (win 2).2, .int .i64 (win 3).1, .int .i64 (win 3).2]] X (IntPost X 0)) := fun X => rwindows_ok win hw X
  have HW1 := hid hW1
  have HB1 := hid hb1
  clear hW1 hb1 p1 h0 h1 hBP hw
  go_enter Tryz.func19, Tryz.ntmps19
  go_upto_region 1 with (fail)
  rw [HW1.out]
  go_upto_region 3 with (go_at_call 40; (with_reducible refine (HL.out W1 k0).mono ?_); rintro r w2 ⟨rfl, hb2⟩)
  go_wp2_with (first
    | (go_at_call 41; (with_reducible refine (HIN.out _ _ _ _ (by decide) (by decide)).mono ?_); rintro r w3 ⟨rfl, rfl⟩)
    | (go_at_call 42; (with_reducible refine (HWI.out _).mono ?_); rintro r w4 ⟨rfl, hb4⟩))
  go_ret
  exact ⟨rfl, bt (bt HB1.out hb2 (Nat.le_refl _)) hb4 (Nat.le_refl _)⟩

end Go.Proofs.YtliblgmpclefgaaGreat
