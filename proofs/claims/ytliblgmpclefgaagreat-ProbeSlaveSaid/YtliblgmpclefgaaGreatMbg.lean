/-
  Several texts of this claim in one file.
-/
import Derived.Test.YtliblgmpclefgaaGreatPbs
import Derived.Test.YtliblgmpclefgaaGreatTim
import Derived.Test.YtliblgmpclefgaaGreatHn
import Derived.Deep.RegionHeldLaw
/-
The budget of a unit: the contracts of the program's config.Check and budget functions at the law's configuration.
-/
namespace Go.Proofs.YtliblgmpclefgaaGreat
open Go.RowKit

def lg (n : Int) : Int := if n ≤ 1 then 0 else if n ≤ 2 then 1 else if n ≤ 4 then 2 else if n ≤ 8 then 3 else 4
def winB (n : Int) : Int := n * (3 + lg n)

set_option maxRecDepth 100000 in
set_option maxHeartbeats 3200000 in
theorem window_k (w : World) : ∀ n : Int, 1 ≤ n → n ≤ 12 → Calls Tryz.prog 39 #[.int .i64 n] w fun r w' => r = .returned (.int .i64 (winB n)) ∧ w = w' := by
  intro n h1 h2
  have h : n = 1 ∨ n = 2 ∨ n = 3 ∨ n = 4 ∨ n = 5 ∨ n = 6 ∨ n = 7 ∨ n = 8 ∨ n = 9 ∨ n = 10 ∨ n = 11 ∨ n = 12 := by omega
  clear h1 h2
  rcases h with rfl | rfl | rfl | rfl | rfl | rfl | rfl | rfl | rfl | rfl | rfl | rfl
  all_goals
    go_enter Tryz.func39, Tryz.ntmps39
    go_wp2
    go_ret
    exact ⟨ret_int (by decide +kernel), rfl⟩

def srchB (t : Int) : Int := if t ≤ 2 then 12 else 8
set_option maxRecDepth 100000 in
set_option maxHeartbeats 1600000 in
theorem bsearch_k (w : World) : ∀ t : Int, 1 ≤ t → t ≤ 4 → Calls Tryz.prog 38 #[.int .i64 t] w fun r w' => r = .returned (.int .i64 (srchB t)) ∧ w = w' := by
  intro n h1 h2
  have h : n = 1 ∨ n = 2 ∨ n = 3 ∨ n = 4 := by omega
  clear h1 h2
  rcases h with rfl | rfl | rfl | rfl
  all_goals
    go_enter Tryz.func38, Tryz.ntmps38
    go_wp2
    go_ret
    exact ⟨rfl, rfl⟩

set_option maxHeartbeats 1600000 in
theorem within_yes (n a b : Int) (h1 : a ≤ n) (h2 : n ≤ b) (w : World) : Calls Tryz.prog 55 #[.int .i64 n, .int .i64 a, .int .i64 b] w fun r w' => r = .returned (.bool true) ∧ w = w' := by
  go_enter Tryz.func55, Tryz.ntmps55
  go_wp2
  go_ret
  exact ⟨rfl, rfl⟩

end Go.Proofs.YtliblgmpclefgaaGreat

/-
The contract of setting.List at one setting.
-/
namespace Go.Proofs.YtliblgmpclefgaaGreat
open Go.RowKit

set_option maxRecDepth 100000 in
set_option maxHeartbeats 3200000 in
theorem slist_one (b c : Nat) (w : World) (h0 : w.cell? ⟨b, 0, none⟩ = some (.int .i64 1200)) (h1 : w.cell? ⟨b, 1, none⟩ = some (.int .i64 0)) :
    Calls Tryz.prog 54 #[.slice (some ⟨b, 0, none⟩) 1 c] w (BoolPost w true) := by
  have HV : Hid (∀ X, Calls Tryz.prog 68 #[.agg #[.int .i64 1200, .int .i64 0]] X (BoolPost X true)) := fun X => svalid_ok 1200 0 ⟨by decide, by decide, by decide⟩ X
  go_enter Tryz.func54, Tryz.ntmps54
  go_wp2
  go_loopw [7] (fun iv wr => ∃ k : Nat, k ≤ 1 ∧ iv = .int .i64 k ∧ Below w.heap.size w wr) (fun iv _ => 1 - (intOf iv).toNat)
  case atStart => exact ⟨0, by omega, rfl, Below.refl _ _⟩
  case round =>
    obtain ⟨k, hk, rfl, hbw⟩ := hrel
    by_cases hlt : k < 1
    · obtain rfl : k = 0 := by omega
      have c0 := cell_keep hbw h0
      have c1 := cell_keep hbw h1
      go_upto_region 4 with (fail)
      obtain ⟨WX, hWX⟩ : ∃ W, wr.alloc (.cells #[.int .i64 1200, .int .i64 0] 23) = W := ⟨_, rfl⟩
      rw [hWX]
      have hbx : Below w.heap.size w WX := by rw [← hWX]; exact bta hbw (Nat.le_refl _) _
      have px : WX.heap[wr.heap.size]? = some (.cells #[.int .i64 1200, .int .i64 0] 23) := by rw [← hWX]; exact hpNew _ _
      have y0 : ∀ X, Below WX.heap.size WX X → X.cell? ⟨wr.heap.size, 0, none⟩ = some (.int .i64 1200) := fun X k => hpCell (hpKeep px k) 0
      have y1 : ∀ X, Below WX.heap.size WX X → X.cell? ⟨wr.heap.size, 1, none⟩ = some (.int .i64 0) := fun X k => hpCell (hpKeep px k) 1
      have k0 : Below WX.heap.size WX WX := Below.refl _ _
      have kD : Below WX.heap.size WX WX.drew := (Below.refl _ _).drew
      have hki : ¬ (0 : Int) < ((0 : Nat) : Int) := by decide
      clear px hWX
      refine wp_region_held_drew (S := fun V => Below WX.heap.size WX V) (by kernel_rfl) kD (fun hH => ?_)
      refine tkD 0 12 (v := ?_) rfl (by kernel_rfl) (fun _ _ _ h => h) rfl (by rfl) (by assumption) ?_ ?_; rotate_left; (intro w hSw; (try dsimp only at hSw); go_simp; try (with_reducible rfl)); simp only [List.setIfInBounds_toArray, List.set_cons_zero, List.set_cons_succ]
      refine wpAnyH_ready (rs := [1]) (by kernel_rfl) (by simp) ?_
      refine AllReadyH.cons rfl (fun K hK => ?_) AllReadyH.nil
      go_simp
      refine (HV.out _).mono ?_
      rintro r w5 ⟨rfl, hb5⟩
      have hB5 := bt kD hb5 (Nat.le_refl _)
      refine hK.out _ _ hB5 (fun hS7 => ?_)
      clear hK K hH
      refine tkD 2 14 (v := ?_) rfl (by kernel_rfl) (fun _ _ _ h => h) rfl (by rfl) (by assumption) ?_ ?_; rotate_left; (intro w hSw; (try dsimp only at hSw); go_simp; try (with_reducible rfl)); simp only [List.setIfInBounds_toArray, List.set_cons_zero, List.set_cons_succ]
      refine tkD 3 15 (v := ?_) rfl (by kernel_rfl) (fun _ _ _ h => h) rfl (by rfl) (by assumption) ?_ ?_; rotate_left; (intro w hSw; (try dsimp only at hSw); go_simp; try (with_reducible rfl)); simp only [List.setIfInBounds_toArray, List.set_cons_zero, List.set_cons_succ]
      refine tkD 4 16 (v := ?_) rfl (by kernel_rfl) (fun _ _ _ h => h) rfl (by rfl) (by assumption) ?_ ?_; rotate_left; (intro w hSw; (try dsimp only at hSw); go_simp; try (with_reducible rfl)); simp only [List.setIfInBounds_toArray, List.set_cons_zero, List.set_cons_succ]
      refine tkD 5 17 (v := ?_) rfl (by kernel_rfl) (fun _ _ _ h => h) rfl (by rfl) (by assumption) ?_ ?_; rotate_left; (intro w hSw; (try dsimp only at hSw); go_simp; try (with_reducible rfl)); simp only [List.setIfInBounds_toArray, List.set_cons_zero, List.set_cons_succ]
      refine tkD 6 18 (v := ?_) rfl (by kernel_rfl) (fun _ _ _ h => h) rfl (by rfl) (by assumption) ?_ ?_; rotate_left; (intro w hSw; (try dsimp only at hSw); go_simp; try (with_reducible rfl)); simp only [List.setIfInBounds_toArray, List.set_cons_zero, List.set_cons_succ]
      refine wpAnyH_takeD (i := 7) (d := 19) (v := undef) rfl (by kernel_rfl) (by kernel_rfl) (by kernel_rfl) (fun _ _ _ h => h) rfl (Or.inr ⟨by rfl, rfl⟩) (by assumption) ?_; (simp only [List.setIfInBounds_toArray, List.set_cons_zero, List.set_cons_succ])
      refine wpAnyH_takeD (i := 8) (d := 20) (v := undef) rfl (by kernel_rfl) (by kernel_rfl) (by kernel_rfl) (fun _ _ _ h => h) rfl (Or.inr ⟨by rfl, rfl⟩) (by assumption) ?_; (simp only [List.setIfInBounds_toArray, List.set_cons_zero, List.set_cons_succ])
      refine wpAnyH_takeD (i := 9) (d := 21) (v := undef) rfl (by kernel_rfl) (by kernel_rfl) (by kernel_rfl) (fun _ _ _ h => h) rfl (Or.inr ⟨by rfl, rfl⟩) (by assumption) ?_; (simp only [List.setIfInBounds_toArray, List.set_cons_zero, List.set_cons_succ])
      refine wpAnyH_takeD (i := 10) (d := 22) (v := undef) rfl (by kernel_rfl) (by kernel_rfl) (by kernel_rfl) (fun _ _ _ h => h) rfl (Or.inr ⟨by rfl, rfl⟩) (by assumption) ?_; (simp only [List.setIfInBounds_toArray, List.set_cons_zero, List.set_cons_succ])
      refine wpAnyH_takeD (i := 11) (d := 23) (v := undef) rfl (by kernel_rfl) (by kernel_rfl) (by kernel_rfl) (fun _ _ _ h => h) rfl (Or.inr ⟨by rfl, rfl⟩) (by assumption) ?_; (simp only [List.setIfInBounds_toArray, List.set_cons_zero, List.set_cons_succ])
      refine wpAnyH_takeD (i := 12) (d := 24) (v := undef) rfl (by kernel_rfl) (by kernel_rfl) (by kernel_rfl) (fun _ _ _ h => h) rfl (Or.inr ⟨by rfl, rfl⟩) (by assumption) ?_; (simp only [List.setIfInBounds_toArray, List.set_cons_zero, List.set_cons_succ])
      refine wpAnyH_takeD (i := 13) (d := 25) (v := undef) rfl (by kernel_rfl) (by kernel_rfl) (by kernel_rfl) (fun _ _ _ h => h) rfl (Or.inr ⟨by rfl, rfl⟩) (by assumption) ?_; (simp only [List.setIfInBounds_toArray, List.set_cons_zero, List.set_cons_succ])
      refine wpAnyH_takeD (i := 14) (d := 26) (v := undef) rfl (by kernel_rfl) (by kernel_rfl) (by kernel_rfl) (fun _ _ _ h => h) rfl (Or.inr ⟨by rfl, rfl⟩) (by assumption) ?_; (simp only [List.setIfInBounds_toArray, List.set_cons_zero, List.set_cons_succ])
      refine tkD 15 27 (v := ?_) rfl (by kernel_rfl) (fun _ _ _ h => h) rfl (by rfl) (by assumption) ?_ ?_; rotate_left; (intro w hSw; (try dsimp only at hSw); go_simp; try (with_reducible rfl)); simp only [List.setIfInBounds_toArray, List.set_cons_zero, List.set_cons_succ]
      refine tkD 16 28 (v := ?_) rfl (by kernel_rfl) (fun _ _ _ h => h) rfl (by rfl) (by assumption) ?_ ?_; rotate_left; (intro w hSw; (try dsimp only at hSw); go_simp; try (with_reducible rfl)); simp only [List.setIfInBounds_toArray, List.set_cons_zero, List.set_cons_succ]
      refine wpAnyH_done (by kernel_rfl) ?_ _
      go_wp2
      go_roundw
      case rel => exact ⟨1, by omega, by go_num, bt hbx hB5 (Nat.le_refl _)⟩
      case measure => simp [intOf]
    · obtain rfl : k = 1 := by omega
      go_wp2
      go_ret
      exact ⟨rfl, hbw⟩

end Go.Proofs.YtliblgmpclefgaaGreat

/-
The contract of config.Check at the law's configuration.
-/
namespace Go.Proofs.YtliblgmpclefgaaGreat
open Go.RowKit

set_option maxRecDepth 100000 in
set_option maxHeartbeats 6400000 in
theorem check_any (b c : Nat) (win : Nat → Int × Int) (hw : ∀ k, k < 4 → okW12 (win k)) (w : World) (h0 : w.cell? ⟨b, 0, none⟩ = some (.int .i64 1200)) (h1 : w.cell? ⟨b, 1, none⟩ = some (.int .i64 0)) :
    Calls Tryz.prog 37 #[.agg #[.slice (some ⟨b, 0, none⟩) 1 c, .int .i64 1, .int .i64 1, .int .i64 0, .int .i64 1, .int .i64 0, .int .i64 (win 0).1, .int .i64 (win 0).2, .int .i64 (win 1).1, .int .i64 (win 1).2, .int .i64 (win 2).1, .int .i64 (win 2).2, .int .i64 (win 3).1, .int .i64 (win 3).2, .int .i64 1, .int .i64 0]] w (IntPost w 0) := by
  obtain ⟨W0, hW0⟩ : ∃ W, w.alloc (.cells #[.slice (some ⟨b, 0, none⟩) 1 c, .int .i64 1, .int .i64 1, .int .i64 0, .int .i64 1, .int .i64 0, .int .i64 (win 0).1, .int .i64 (win 0).2, .int .i64 (win 1).1, .int .i64 (win 1).2, .int .i64 (win 2).1, .int .i64 (win 2).2, .int .i64 (win 3).1, .int .i64 (win 3).2, .int .i64 1, .int .i64 0] 66) = W := ⟨_, rfl⟩
  have hb0 : Below w.heap.size w W0 := by rw [← hW0]; exact bal' w _
  have p0 : W0.heap[w.heap.size]? = some (.cells #[.slice (some ⟨b, 0, none⟩) 1 c, .int .i64 1, .int .i64 1, .int .i64 0, .int .i64 1, .int .i64 0, .int .i64 (win 0).1, .int .i64 (win 0).2, .int .i64 (win 1).1, .int .i64 (win 1).2, .int .i64 (win 2).1, .int .i64 (win 2).2, .int .i64 (win 3).1, .int .i64 (win 3).2, .int .i64 1, .int .i64 0] 66) := by rw [← hW0]; exact hpNew w _
  have x0 : W0.cell? ⟨w.heap.size, 0, none⟩ = some (.slice (some ⟨b, 0, none⟩) 1 c) := hpCell p0 0
  have x1 : ∀ X, Below W0.heap.size W0 X → X.cell? ⟨w.heap.size, 1, none⟩ = some (.int .i64 1) := fun X k => hpCell (hpKeep p0 k) 1
  have x2 : ∀ X, Below W0.heap.size W0 X → X.cell? ⟨w.heap.size, 2, none⟩ = some (.int .i64 1) := fun X k => hpCell (hpKeep p0 k) 2
  have x3 : ∀ X, Below W0.heap.size W0 X → X.cell? ⟨w.heap.size, 3, none⟩ = some (.int .i64 0) := fun X k => hpCell (hpKeep p0 k) 3
  have x4 : ∀ X, Below W0.heap.size W0 X → X.cell? ⟨w.heap.size, 4, none⟩ = some (.int .i64 1) := fun X k => hpCell (hpKeep p0 k) 4
  have x5 : ∀ X, Below W0.heap.size W0 X → X.cell? ⟨w.heap.size, 5, none⟩ = some (.int .i64 0) := fun X k => hpCell (hpKeep p0 k) 5
  have x14 : ∀ X, Below W0.heap.size W0 X → X.cell? ⟨w.heap.size, 14, none⟩ = some (.int .i64 1) := fun X k => hpCell (hpKeep p0 k) 14
  have x15 : ∀ X, Below W0.heap.size W0 X → X.cell? ⟨w.heap.size, 15, none⟩ = some (.int .i64 0) := fun X k => hpCell (hpKeep p0 k) 15
  have y0 : ∀ X, Below W0.heap.size W0 X → X.cell? ⟨w.heap.size, 6, none⟩ = some (.int .i64 (win 0).1) := fun X k => hpCell (hpKeep p0 k) 6
  have y1 : ∀ X, Below W0.heap.size W0 X → X.cell? ⟨w.heap.size, 7, none⟩ = some (.int .i64 (win 0).2) := fun X k => hpCell (hpKeep p0 k) 7
  have y2 : ∀ X, Below W0.heap.size W0 X → X.cell? ⟨w.heap.size, 8, none⟩ = some (.int .i64 (win 1).1) := fun X k => hpCell (hpKeep p0 k) 8
  have y3 : ∀ X, Below W0.heap.size W0 X → X.cell? ⟨w.heap.size, 9, none⟩ = some (.int .i64 (win 1).2) := fun X k => hpCell (hpKeep p0 k) 9
  have y4 : ∀ X, Below W0.heap.size W0 X → X.cell? ⟨w.heap.size, 10, none⟩ = some (.int .i64 (win 2).1) := fun X k => hpCell (hpKeep p0 k) 10
  have y5 : ∀ X, Below W0.heap.size W0 X → X.cell? ⟨w.heap.size, 11, none⟩ = some (.int .i64 (win 2).2) := fun X k => hpCell (hpKeep p0 k) 11
  have y6 : ∀ X, Below W0.heap.size W0 X → X.cell? ⟨w.heap.size, 12, none⟩ = some (.int .i64 (win 3).1) := fun X k => hpCell (hpKeep p0 k) 12
  have y7 : ∀ X, Below W0.heap.size W0 X → X.cell? ⟨w.heap.size, 13, none⟩ = some (.int .i64 (win 3).2) := fun X k => hpCell (hpKeep p0 k) 13
  have HSL : Hid (Calls Tryz.prog 54 #[.slice (some ⟨b, 0, none⟩) 1 c] W0 (BoolPost W0 true)) := slist_one b c W0 (cell_keep hb0 h0) (cell_keep hb0 h1)
  have HWI : Hid (∀ (n a e : Int) (X : World), a ≤ n → n ≤ e → Calls Tryz.prog 55 #[.int .i64 n, .int .i64 a, .int .i64 e] X fun r w' => r = .returned (.bool true) ∧ X = w') := fun n a e X h1 h2 => within_yes n a e h1 h2 X
  have HW0 := hid hW0
  have HB0 := hid hb0
  have HWN := hid hw
  clear hW0 hb0 p0 h0 h1 hw
  go_enter Tryz.func37, Tryz.ntmps37
  go_upto_region 1 with (fail)
  rw [HW0.out]
  go_wp2_with (first
    | (go_at_call 54; (with_reducible refine HSL.out.mono ?_); rintro r w1 ⟨rfl, hb1⟩)
    | (go_at_call 55; (with_reducible refine (HWI.out _ _ _ _ (by decide) (by decide)).mono ?_); rintro r w2 ⟨rfl, rfl⟩))
  clear x0 x1 x2 x3 x4 x5 x14 x15 HSL
  go_loopw [55] (fun iv wr => ∃ k : Nat, k ≤ 4 ∧ iv = .int .i64 k ∧ Below W0.heap.size W0 wr) (fun iv _ => 4 - (intOf iv).toNat)
  case atStart => exact ⟨0, by omega, rfl, hb1⟩
  case round =>
    obtain ⟨k, hk, rfl, hbw⟩ := hrel
    by_cases hlt : k < 4
    · have hki : (0 : Int) ≤ (k : Int) := Int.natCast_nonneg _
      have hkl : (k : Int) < 4 := by omega
      have hix := win_index win k hlt
      have HOK := hid (HWN.out k hlt)
      have h1 : 0 ≤ (win k).2 := HOK.out.1
      have h2 : (win k).2 ≤ 512 := by have := HOK.out.2.1; omega
      clear y0 y1 y2 y3 y4 y5 y6 y7
      go_wp2_with (go_at_call 55; (with_reducible refine (HWI.out _ _ _ _ h1 h2).mono ?_); rintro r w2 ⟨rfl, rfl⟩)
      go_roundw
      case rel => exact ⟨k + 1, by omega, by go_num, bta hbw (Nat.le_refl _) _⟩
      case measure => simp [intOf]; omega
    · obtain rfl : k = 4 := by omega
      go_wp2
      go_loopw [6, 7, 65] (fun _ _ iv wr' => ∃ k : Nat, k ≤ 4 ∧ iv = .int .i64 k ∧ Below W0.heap.size W0 wr') (fun _ _ iv _ => 4 - (intOf iv).toNat)
      case atStart => exact ⟨0, by omega, rfl, hbw⟩
      case round =>
        obtain ⟨k, hk, rfl, hbw⟩ := hrel
        clear y0 y1 y2 y3 y4 y5 y6 y7
        by_cases hlt : k < 4
        · have hki : (0 : Int) ≤ (k : Int) := Int.natCast_nonneg _
          have hkl : (k : Int) < 4 := by omega
          have hix := win_index win k hlt
          have HOK := hid (HWN.out k hlt)
          have h1 : 0 ≤ (win k).1 := HOK.out.2.2.1
          have h2 : (win k).1 ≤ 65536 - (win k).2 := HOK.out.2.2.2.1
          have h3 : (win k).2 ≤ 12 := HOK.out.2.1
          have h4 : 0 ≤ (win k).2 := HOK.out.1
          have sw : IntKind.i64.wrap (65536 - (win k).2) = 65536 - (win k).2 := IntWalk.i64_in _ (by omega)
          have HWA := hid (fun X => HWI.out (win k).1 0 (65536 - (win k).2) X h1 h2)
          by_cases hc : 0 < (win k).2
          · go_wp2_with (go_at_call 55; (with_reducible refine (HWA.out _).mono ?_); rintro r w2 ⟨rfl, rfl⟩)
            go_roundw
            case rel =>
              repeat apply Exists.intro
              refine ⟨?_, rfl⟩
              exact ⟨k + 1, by omega, by go_num, bta hbw (Nat.le_refl _) _⟩
            case measure => simp [intOf]; omega
          · have hz : (win k).1 = 0 := HOK.out.2.2.2.2 (by omega)
            have HWB := hid (fun X => HWI.out (win k).1 0 0 X h1 (by omega))
            clear hz
            go_wp2_with (go_at_call 55; (with_reducible refine (HWB.out _).mono ?_); rintro r w2 ⟨rfl, rfl⟩)
            go_roundw
            case rel =>
              repeat apply Exists.intro
              refine ⟨?_, rfl⟩
              exact ⟨k + 1, by omega, by go_num, bta hbw (Nat.le_refl _) _⟩
            case measure => simp [intOf]; omega
        · obtain rfl : k = 4 := by omega
          go_wp2
          go_ret
          exact ⟨rfl, bt HB0.out hbw (Nat.le_refl _)⟩

end Go.Proofs.YtliblgmpclefgaaGreat

/-
The contract of budget.Unit at the law's configuration.
-/
namespace Go.Proofs.YtliblgmpclefgaaGreat
open Go.RowKit

def tabB (win : Nat → Int × Int) (k : Nat) : Int := if 0 < (win k).2 then srchB ((k : Int) + 1) + winB (win k).2 else 0
def unitS (win : Nat → Int × Int) : Nat → Int
  | 0 => 34
  | k + 1 => unitS win k + tabB win k
theorem lg_bd (n : Int) : 0 ≤ lg n ∧ lg n ≤ 4 := by unfold lg; repeat' split <;> omega
theorem winB_bd {n : Int} (h1 : 0 ≤ n) (h2 : n ≤ 12) : 0 ≤ winB n ∧ winB n ≤ 84 := by
  unfold winB
  have := lg_bd n
  constructor
  · exact Int.mul_nonneg h1 (by omega)
  · have h : n * (3 + lg n) ≤ 12 * 7 := Int.mul_le_mul h2 (by omega) (by omega) (by decide)
    omega
theorem tabB_bd {win : Nat → Int × Int} (hw : ∀ k, k < 4 → okW12 (win k)) {k : Nat} (hk : k < 4) : 0 ≤ tabB win k ∧ tabB win k ≤ 96 := by
  have h := hw k hk
  have h2 := winB_bd h.1 h.2.1
  unfold tabB srchB
  split
  · split <;> omega
  · omega
theorem unitS_bd {win : Nat → Int × Int} (hw : ∀ k, k < 4 → okW12 (win k)) : ∀ k, k ≤ 4 → 34 ≤ unitS win k ∧ unitS win k ≤ 34 + 96 * k
  | 0, _ => by show 34 ≤ 34 ∧ (34 : Int) ≤ 34 + 96 * 0; omega
  | k + 1, hk => by
    have h1 := unitS_bd hw k (by omega)
    have h2 := tabB_bd hw (k := k) (by omega)
    show 34 ≤ unitS win k + tabB win k ∧ unitS win k + tabB win k ≤ 34 + 96 * ((k + 1 : Nat) : Int)
    omega
theorem infoC : (Tryz.prog.info? 66).map (·.size) = some 16 := by kernel_rfl

set_option maxRecDepth 100000 in
set_option maxHeartbeats 6400000 in
theorem unit_any (b c : Nat) (win : Nat → Int × Int) (hw : ∀ k, k < 4 → okW12 (win k)) (w : World) (h0 : w.cell? ⟨b, 0, none⟩ = some (.int .i64 1200)) (h1 : w.cell? ⟨b, 1, none⟩ = some (.int .i64 0)) (U : Int) (hU : Hid (unitS win 4 = U)) :
    Calls Tryz.prog 18 #[.agg #[.slice (some ⟨b, 0, none⟩) 1 c, .int .i64 1, .int .i64 1, .int .i64 0, .int .i64 1, .int .i64 0, .int .i64 (win 0).1, .int .i64 (win 0).2, .int .i64 (win 1).1, .int .i64 (win 1).2, .int .i64 (win 2).1, .int .i64 (win 2).2, .int .i64 (win 3).1, .int .i64 (win 3).2, .int .i64 1, .int .i64 0]] w (IntPost w U) := by
  obtain ⟨W0, hW0⟩ : ∃ W, w.alloc (.cells #[.slice (some ⟨b, 0, none⟩) 1 c, .int .i64 1, .int .i64 1, .int .i64 0, .int .i64 1, .int .i64 0, .int .i64 (win 0).1, .int .i64 (win 0).2, .int .i64 (win 1).1, .int .i64 (win 1).2, .int .i64 (win 2).1, .int .i64 (win 2).2, .int .i64 (win 3).1, .int .i64 (win 3).2, .int .i64 1, .int .i64 0] 66) = W := ⟨_, rfl⟩
  have hb0 : Below w.heap.size w W0 := by rw [← hW0]; exact bal' w _
  have p0 : W0.heap[w.heap.size]? = some (.cells #[.slice (some ⟨b, 0, none⟩) 1 c, .int .i64 1, .int .i64 1, .int .i64 0, .int .i64 1, .int .i64 0, .int .i64 (win 0).1, .int .i64 (win 0).2, .int .i64 (win 1).1, .int .i64 (win 1).2, .int .i64 (win 2).1, .int .i64 (win 2).2, .int .i64 (win 3).1, .int .i64 (win 3).2, .int .i64 1, .int .i64 0] 66) := by rw [← hW0]; exact hpNew w _
  have y0 : ∀ X, Below W0.heap.size W0 X → X.cell? ⟨w.heap.size, 6, none⟩ = some (.int .i64 (win 0).1) := fun X k => hpCell (hpKeep p0 k) 6
  have y1 : ∀ X, Below W0.heap.size W0 X → X.cell? ⟨w.heap.size, 7, none⟩ = some (.int .i64 (win 0).2) := fun X k => hpCell (hpKeep p0 k) 7
  have y2 : ∀ X, Below W0.heap.size W0 X → X.cell? ⟨w.heap.size, 8, none⟩ = some (.int .i64 (win 1).1) := fun X k => hpCell (hpKeep p0 k) 8
  have y3 : ∀ X, Below W0.heap.size W0 X → X.cell? ⟨w.heap.size, 9, none⟩ = some (.int .i64 (win 1).2) := fun X k => hpCell (hpKeep p0 k) 9
  have y4 : ∀ X, Below W0.heap.size W0 X → X.cell? ⟨w.heap.size, 10, none⟩ = some (.int .i64 (win 2).1) := fun X k => hpCell (hpKeep p0 k) 10
  have y5 : ∀ X, Below W0.heap.size W0 X → X.cell? ⟨w.heap.size, 11, none⟩ = some (.int .i64 (win 2).2) := fun X k => hpCell (hpKeep p0 k) 11
  have y6 : ∀ X, Below W0.heap.size W0 X → X.cell? ⟨w.heap.size, 12, none⟩ = some (.int .i64 (win 3).1) := fun X k => hpCell (hpKeep p0 k) 12
  have y7 : ∀ X, Below W0.heap.size W0 X → X.cell? ⟨w.heap.size, 13, none⟩ = some (.int .i64 (win 3).2) := fun X k => hpCell (hpKeep p0 k) 13
  have HCK : Hid (Calls Tryz.prog 37 #[.agg #[.slice (some ⟨b, 0, none⟩) 1 c, .int .i64 1, .int .i64 1, .int .i64 0, .int .i64 1, .int .i64 0, .int .i64 (win 0).1, .int .i64 (win 0).2, .int .i64 (win 1).1, .int .i64 (win 1).2, .int .i64 (win 2).1, .int .i64 (win 2).2, .int .i64 (win 3).1, .int .i64 (win 3).2, .int .i64 1, .int .i64 0]] W0 (IntPost W0 0)) := check_any b c win hw W0 (cell_keep hb0 h0) (cell_keep hb0 h1)
  have P0 := hid p0
  have HW0 := hid hW0
  have HB0 := hid hb0
  have HWN := hid hw
  clear hW0 hb0 p0 h0 h1 hw
  go_enter Tryz.func18, Tryz.ntmps18
  go_upto_region 1 with (fail)
  rw [HW0.out]
  go_wp2_with (first
    | (refine wpList_load_row rfl 66 (.tmp 1) rfl w.heap.size rfl 66 #[.slice (some ⟨b, 0, none⟩) 1 c, .int .i64 1, .int .i64 1, .int .i64 0, .int .i64 1, .int .i64 0, .int .i64 (win 0).1, .int .i64 (win 0).2, .int .i64 (win 1).1, .int .i64 (win 1).2, .int .i64 (win 2).1, .int .i64 (win 2).2, .int .i64 (win 3).1, .int .i64 (win 3).2, .int .i64 1, .int .i64 0] (0, 0) _ P0.out Tryz.underlying66 rfl infoC ?_)
    | (go_at_call 37; (with_reducible refine HCK.out.mono ?_); rintro r w1 ⟨rfl, hb1⟩))
  clear y0 y1 y2 y3 y4 y5 y6 y7
  go_loopw [3, 11] (fun sv iv wr => ∃ k : Nat, k ≤ 4 ∧ iv = .int .i64 k ∧ sv = .int .i64 (unitS win k) ∧ Below W0.heap.size W0 wr) (fun _ iv _ => 4 - (intOf iv).toNat)
  case atStart => exact ⟨0, by omega, rfl, rfl, hb1⟩
  case round =>
    obtain ⟨k, hk, rfl, rfl, hbw⟩ := hrel
    by_cases hlt : k < 4
    · have hki : (0 : Int) ≤ (k : Int) := Int.natCast_nonneg _
      have hkl : (k : Int) < 4 := by omega
      have hix := win_index win k hlt
      have hok := HWN.out k hlt
      have hbd := unitS_bd HWN.out k (by omega)
      have hcn := hok.2.1
      have sw1 : IntKind.i64.wrap ((k : Int) + 1) = (k : Int) + 1 := IntWalk.i64_in _ (by omega)
      by_cases hc : 0 < (win k).2
      · have HNX : Hid (unitS win (k + 1) = unitS win k + (srchB ((k : Int) + 1) + winB (win k).2)) := by show unitS win k + tabB win k = _; unfold tabB; rw [if_pos hc]
        have HSR : Hid (∀ X, Calls Tryz.prog 38 #[.int .i64 ((k : Int) + 1)] X fun r w' => r = .returned (.int .i64 (srchB ((k : Int) + 1))) ∧ X = w') := fun X => bsearch_k X _ (by omega) (by omega)
        have HWW : Hid (∀ X, Calls Tryz.prog 39 #[.int .i64 (win k).2] X fun r w' => r = .returned (.int .i64 (winB (win k).2)) ∧ X = w') := fun X => window_k X _ (by omega) hcn
        have hwb := winB_bd hok.1 hcn
        have hsb : 8 ≤ srchB ((k : Int) + 1) ∧ srchB ((k : Int) + 1) ≤ 12 := by unfold srchB; split <;> omega
        generalize winB (win k).2 = wb at *
        generalize srchB ((k : Int) + 1) = sb at *
        generalize unitS win k = us at *
        have sw2 : IntKind.i64.wrap (sb + wb) = sb + wb := IntWalk.i64_in _ (by omega)
        have sw3 : IntKind.i64.wrap (us + (sb + wb)) = us + (sb + wb) := IntWalk.i64_in _ (by omega)
        clear hok hbd hcn hwb hsb
        go_upto_region 8 with (fail)
        go_region_with (first
          | (go_at_call 38; (with_reducible refine (HSR.out _).mono ?_); rintro r w2 ⟨rfl, rfl⟩)
          | (go_at_call 39; (with_reducible refine (HWW.out _).mono ?_); rintro r w2 ⟨rfl, rfl⟩))
        all_goals
          go_wp2
          go_roundw
          case rel => exact ⟨k + 1, by omega, by go_num, by rw [HNX.out], (bta hbw (Nat.le_refl _) _).drew⟩
          case measure => simp [intOf]; omega
      · have HNX : Hid (unitS win (k + 1) = unitS win k) := by show unitS win k + tabB win k = _; unfold tabB; rw [if_neg hc]; omega
        clear hok hbd hcn
        go_wp2
        go_roundw
        case rel => exact ⟨k + 1, by omega, by go_num, by rw [HNX.out], bta hbw (Nat.le_refl _) _⟩
        case measure => simp [intOf]; omega
    · obtain rfl : k = 4 := by omega
      go_wp2
      go_ret
      exact ⟨by rw [← hU.out]; rfl, bt HB0.out hbw (Nat.le_refl _)⟩

end Go.Proofs.YtliblgmpclefgaaGreat
