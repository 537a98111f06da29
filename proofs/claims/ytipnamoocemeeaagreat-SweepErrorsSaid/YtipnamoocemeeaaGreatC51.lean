/-
  Texts 51 of the claim.
-/
import Derived.Test.YtipnamoocemeeaaGreatC50
import Derived.BigQuiet
import Derived.DeepKeys
/-
  Conditions of a profile, the reference's side: kind 4, and any other kind (printed by wip/genrch.py).
-/
namespace Go.Proofs.YtipnamoocemeeaaGreat
open Go.RowKit
set_option maxRecDepth 100000 in
set_option maxHeartbeats 1600000 in
theorem rgr_any (a n : Int) (G : Bool) (hG : Hid (G = true ↔ 0 ≤ a ∧ 1 ≤ n ∧ a ≤ 65536 - n)) (w : World) : Calls Tryz.prog 111 #[.agg #[.int .i64 a, .int .i64 n]] w (BoolPost w G) := by
  have hb := bal' w (.cells #[.int .i64 a, .int .i64 n] 24)
  have HF : Hid (¬ (0 ≤ a ∧ 1 ≤ n ∧ a ≤ 65536 - n) → G = false) := fun h => by
    cases e : G with
    | false => rfl
    | true => exact absurd (hG.out.1 e) h
  by_cases a1 : 0 ≤ a
  rotate_left
  · obtain rfl := HF.out (by omega)
    have g1 : decide (0 ≤ a) = false := decide_eq_false a1
    clear a1 HF hG
    go_enter Tryz.func111, Tryz.ntmps111
    go_wp2
    go_ret
    exact ⟨rfl, hb⟩
  by_cases a2 : a < 65536
  rotate_left
  · obtain rfl := HF.out (by omega)
    have g1 : decide (0 ≤ a) = true := decide_eq_true a1
    have g2 : decide (a < 65536) = false := decide_eq_false a2
    clear a1 a2 HF hG
    go_enter Tryz.func111, Tryz.ntmps111
    go_wp2
    go_ret
    exact ⟨rfl, hb⟩
  by_cases a3 : 1 ≤ n
  rotate_left
  · obtain rfl := HF.out (by omega)
    have g1 : decide (0 ≤ a) = true := decide_eq_true a1
    have g2 : decide (a < 65536) = true := decide_eq_true a2
    have g3 : decide (1 ≤ n) = false := decide_eq_false a3
    clear a1 a2 a3 HF hG
    go_enter Tryz.func111, Tryz.ntmps111
    go_wp2
    go_ret
    exact ⟨rfl, hb⟩
  by_cases a4 : a ≤ 65536 - n
  rotate_left
  · obtain rfl := HF.out (by omega)
    obtain ⟨f, hf⟩ : ∃ f, 65536 - a = f := ⟨_, rfl⟩
    have s1 : IntKind.i64.wrap (65536 - a) = f := (IntWalk.i64_in _ (by omega)).trans hf
    have g1 : decide (0 ≤ a) = true := decide_eq_true a1
    have g2 : decide (a < 65536) = true := decide_eq_true a2
    have g3 : decide (1 ≤ n) = true := decide_eq_true a3
    have g4 : decide (n ≤ f) = false := decide_eq_false (by omega)
    clear a1 a2 a3 a4 HF hG hf
    go_enter Tryz.func111, Tryz.ntmps111
    go_wp2
    go_ret
    exact ⟨rfl, hb⟩
  obtain rfl := hG.out.2 ⟨a1, a3, a4⟩
  obtain ⟨f, hf⟩ : ∃ f, 65536 - a = f := ⟨_, rfl⟩
  have s1 : IntKind.i64.wrap (65536 - a) = f := (IntWalk.i64_in _ (by omega)).trans hf
  have a5 : n ≤ f := by omega
  have d4 : decide (n ≤ f) = true := decide_eq_true a5
  clear hf a4 HF hG
  go_enter Tryz.func111, Tryz.ntmps111
  go_wp2
  go_ret
  exact ⟨by first | rfl | (simp [a1, a2, a3, a5]), hb⟩

set_option maxRecDepth 100000 in
set_option maxHeartbeats 12800000 in
theorem rcond_d (id tab f cnt n : Int) (va : Option Addr) (ln vc : Nat) (w : World) (f1 : (Lit.int .i64 f).wf = true) (f2 : (Lit.int .i64 cnt).wf = true) (V : Bool) (hV : Hid (V = true ↔ CdP 4 id ln tab f cnt n)) :
    Calls Tryz.prog 68 #[.agg #[.int .i64 4, .int .i64 id, .slice va ln vc, .int .i64 tab, .int .i64 f, .int .i64 cnt, .int .i64 n]] w (BoolPost w V) := by
  have HF : Hid (¬ CdP 4 id ln tab f cnt n → V = false) := fun h => by
    cases e : V with
    | false => rfl
    | true => exact absurd (hV.out.1 e) h
  have HT : Hid (CdP 4 id ln tab f cnt n → V = true) := hV.out.2
  obtain ⟨W0, hW0⟩ : ∃ W, w.alloc (.cells #[.int .i64 4, .int .i64 id, .slice va ln vc, .int .i64 tab, .int .i64 f, .int .i64 cnt, .int .i64 n] 124) = W := ⟨_, rfl⟩
  have hb0 : Below w.heap.size w W0 := by rw [← hW0]; exact bal' w _
  have p0 : W0.heap[w.heap.size]? = some (.cells #[.int .i64 4, .int .i64 id, .slice va ln vc, .int .i64 tab, .int .i64 f, .int .i64 cnt, .int .i64 n] 124) := by rw [← hW0]; exact hpNew w _
  have y0 : W0.cell? ⟨w.heap.size, 0, none⟩ = some (.int .i64 4) := hpCell p0 0
  have y1 : W0.cell? ⟨w.heap.size, 1, none⟩ = some (.int .i64 id) := hpCell p0 1
  have y2 : W0.cell? ⟨w.heap.size, 2, none⟩ = some (.slice va ln vc) := hpCell p0 2
  have y3 : W0.cell? ⟨w.heap.size, 3, none⟩ = some (.int .i64 tab) := hpCell p0 3
  have y4 : W0.cell? ⟨w.heap.size, 4, none⟩ = some (.int .i64 f) := hpCell p0 4
  have y5 : W0.cell? ⟨w.heap.size, 5, none⟩ = some (.int .i64 cnt) := hpCell p0 5
  have y6 : W0.cell? ⟨w.heap.size, 6, none⟩ = some (.int .i64 n) := hpCell p0 6
  have HW0 := hid hW0
  have HB0 := hid hb0
  obtain ⟨BI, hI⟩ : ∃ B, (id != 0) = B := ⟨_, rfl⟩
  obtain ⟨BT, hT⟩ : ∃ B, (tab != 0) = B := ⟨_, rfl⟩
  obtain ⟨BN, hN⟩ : ∃ B, (n != 0) = B := ⟨_, rfl⟩
  obtain ⟨BL, hL⟩ : ∃ B, ((ln : Int) != 0) = B := ⟨_, rfl⟩
  obtain ⟨BR, hR⟩ : ∃ B : Bool, (B = false ↔ f = 0 ∧ cnt = 0) := ⟨!decide (f = 0 ∧ cnt = 0), by rw [Bool.not_eq_false', decide_eq_true_eq]⟩
  have QI := bne_flag _ _ hI
  have QT := bne_flag _ _ hT
  have QN := bne_flag _ _ hN
  have QL := bne_flag _ _ hL
  have QR : Hid ((BR = true → ¬ (f = 0 ∧ cnt = 0)) ∧ (BR = false → f = 0 ∧ cnt = 0)) := hid ⟨fun e h => Bool.noConfusion (e.symm.trans (hR.2 h)), hR.1⟩
  have hNE := neq_rngB f cnt f1 f2 BR hR
  obtain ⟨G, hG⟩ : ∃ G : Bool, (G = true ↔ 0 ≤ f ∧ 1 ≤ cnt ∧ f ≤ 65536 - cnt) := ⟨decide (0 ≤ f ∧ 1 ≤ cnt ∧ f ≤ 65536 - cnt), decide_eq_true_iff⟩
  have QG : Hid ((G = true → 0 ≤ f ∧ 1 ≤ cnt ∧ f ≤ 65536 - cnt) ∧ (G = false → ¬ (0 ≤ f ∧ 1 ≤ cnt ∧ f ≤ 65536 - cnt))) := hid ⟨hG.1, fun e h => Bool.noConfusion (e.symm.trans (hG.2 h))⟩
  have HRG : Hid (∀ X, Calls Tryz.prog 111 #[.agg #[.int .i64 f, .int .i64 cnt]] X (BoolPost X G)) := fun X => rgr_any f cnt G hG X
  clear hG
  obtain ⟨B1, h1⟩ : ∃ B, decide (1 ≤ tab) = B := ⟨_, rfl⟩
  clear hR f1 f2 hW0 p0 hb0 hV
  have Q1 : Hid ((B1 = true → 1 ≤ tab) ∧ (B1 = false → ¬ 1 ≤ tab)) := hid ⟨fun e => of_decide_eq_true (h1.trans e), fun e => of_decide_eq_false (h1.trans e)⟩
  cases B1
  · go_enter Tryz.func68, Tryz.ntmps68
    go_upto_region 1 with (fail)
    rw [HW0.out]
    go_quiet (fail)
    go_upto_region 10 with (fail)
    go_wp2
    go_ret
    have hv : V = false := HF.out (by have q0 := Q1.out.2 (by trivial); unfold CdP; omega)
    subst hv
    exact ⟨rfl, bt HB0.out (below_drewN (Below.refl _ _) _) (Nat.le_refl _)⟩
  go_enter Tryz.func68, Tryz.ntmps68
  go_upto_region 1 with (fail)
  rw [HW0.out]
  go_quiet (fail)
  go_upto_region 10 with (fail)
  by_cases c_t4 : tab ≤ 4
  rotate_left
  · have Ct4 := hid c_t4
    have g_t4 : decide (tab ≤ 4) = false := by rw [decide_eq_false_iff_not]; omega
    clear c_t4
    go_wp2
    go_ret
    have hv : V = false := HF.out (by have q0 := Ct4.out; unfold CdP; omega)
    subst hv
    exact ⟨rfl, bt HB0.out (below_drewN (Below.refl _ _) _) (Nat.le_refl _)⟩
  have Ct4 := hid c_t4
  have g_t4 : decide (tab ≤ 4) = true := by rw [decide_eq_true_eq]; omega
  clear c_t4
  cases G
  · go_wp2_with (go_at_call 111; (with_reducible refine (HRG.out _).mono ?_); rintro r w1 ⟨rfl, hb1⟩)
    go_ret
    have hv : V = false := HF.out (by have q0 := QG.out.2 (by trivial); unfold CdP; omega)
    subst hv
    exact ⟨rfl, bt HB0.out (bt (below_drewN (Below.refl _ _) _) hb1 (Nat.le_refl _)) (Nat.le_refl _)⟩
  cases BI
  rotate_left
  · go_wp2_with (go_at_call 111; (with_reducible refine (HRG.out _).mono ?_); rintro r w1 ⟨rfl, hb1⟩)
    go_ret
    have hv : V = false := HF.out (by have q0 := QI.out.1 (by trivial); unfold CdP; omega)
    subst hv
    exact ⟨rfl, bt HB0.out (bt (below_drewN (Below.refl _ _) _) hb1 (Nat.le_refl _)) (Nat.le_refl _)⟩
  cases BL
  rotate_left
  · go_wp2_with (go_at_call 111; (with_reducible refine (HRG.out _).mono ?_); rintro r w1 ⟨rfl, hb1⟩)
    go_ret
    have hv : V = false := HF.out (by have q0 := QL.out.1 (by trivial); unfold CdP; omega)
    subst hv
    exact ⟨rfl, bt HB0.out (bt (below_drewN (Below.refl _ _) _) hb1 (Nat.le_refl _)) (Nat.le_refl _)⟩
  cases BN
  rotate_left
  · go_wp2_with (go_at_call 111; (with_reducible refine (HRG.out _).mono ?_); rintro r w1 ⟨rfl, hb1⟩)
    go_ret
    have hv : V = false := HF.out (by have q0 := QN.out.1 (by trivial); unfold CdP; omega)
    subst hv
    exact ⟨rfl, bt HB0.out (bt (below_drewN (Below.refl _ _) _) hb1 (Nat.le_refl _)) (Nat.le_refl _)⟩
  go_wp2_with (go_at_call 111; (with_reducible refine (HRG.out _).mono ?_); rintro r w1 ⟨rfl, hb1⟩)
  go_ret
  have hv : V = true := HT.out (by have q0 := Q1.out.1 (by trivial); have q1 := Ct4.out; have q2 := QG.out.1 (by trivial); have q3 := QI.out.2 (by trivial); have q4 := QL.out.2 (by trivial); have q5 := QN.out.2 (by trivial); unfold CdP; omega)
  subst hv
  exact ⟨rfl, bt HB0.out (bt (below_drewN (Below.refl _ _) _) hb1 (Nat.le_refl _)) (Nat.le_refl _)⟩
set_option maxRecDepth 100000 in
set_option maxHeartbeats 12800000 in
theorem rcond_f (k id tab f cnt n : Int) (va : Option Addr) (ln vc : Nat) (w : World) (f1 : (Lit.int .i64 f).wf = true) (f2 : (Lit.int .i64 cnt).wf = true) (V : Bool) (hV : Hid (V = true ↔ CdP k id ln tab f cnt n)) (k1 : (k == 1) = false) (k2 : (k == 2) = false) (k3 : (k == 3) = false) (k4 : (k == 4) = false) (k5 : (k == 5) = false) (hk : Hid (¬ k = 1 ∧ ¬ k = 2 ∧ ¬ k = 3 ∧ ¬ k = 4 ∧ ¬ k = 5)) :
    Calls Tryz.prog 68 #[.agg #[.int .i64 k, .int .i64 id, .slice va ln vc, .int .i64 tab, .int .i64 f, .int .i64 cnt, .int .i64 n]] w (BoolPost w V) := by
  have HF : Hid (¬ CdP k id ln tab f cnt n → V = false) := fun h => by
    cases e : V with
    | false => rfl
    | true => exact absurd (hV.out.1 e) h
  have HT : Hid (CdP k id ln tab f cnt n → V = true) := hV.out.2
  obtain ⟨W0, hW0⟩ : ∃ W, w.alloc (.cells #[.int .i64 k, .int .i64 id, .slice va ln vc, .int .i64 tab, .int .i64 f, .int .i64 cnt, .int .i64 n] 124) = W := ⟨_, rfl⟩
  have hb0 : Below w.heap.size w W0 := by rw [← hW0]; exact bal' w _
  have p0 : W0.heap[w.heap.size]? = some (.cells #[.int .i64 k, .int .i64 id, .slice va ln vc, .int .i64 tab, .int .i64 f, .int .i64 cnt, .int .i64 n] 124) := by rw [← hW0]; exact hpNew w _
  have y0 : W0.cell? ⟨w.heap.size, 0, none⟩ = some (.int .i64 k) := hpCell p0 0
  have y1 : W0.cell? ⟨w.heap.size, 1, none⟩ = some (.int .i64 id) := hpCell p0 1
  have y2 : W0.cell? ⟨w.heap.size, 2, none⟩ = some (.slice va ln vc) := hpCell p0 2
  have y3 : W0.cell? ⟨w.heap.size, 3, none⟩ = some (.int .i64 tab) := hpCell p0 3
  have y4 : W0.cell? ⟨w.heap.size, 4, none⟩ = some (.int .i64 f) := hpCell p0 4
  have y5 : W0.cell? ⟨w.heap.size, 5, none⟩ = some (.int .i64 cnt) := hpCell p0 5
  have y6 : W0.cell? ⟨w.heap.size, 6, none⟩ = some (.int .i64 n) := hpCell p0 6
  have HW0 := hid hW0
  have HB0 := hid hb0
  obtain ⟨BI, hI⟩ : ∃ B, (id != 0) = B := ⟨_, rfl⟩
  obtain ⟨BT, hT⟩ : ∃ B, (tab != 0) = B := ⟨_, rfl⟩
  obtain ⟨BN, hN⟩ : ∃ B, (n != 0) = B := ⟨_, rfl⟩
  obtain ⟨BL, hL⟩ : ∃ B, ((ln : Int) != 0) = B := ⟨_, rfl⟩
  obtain ⟨BR, hR⟩ : ∃ B : Bool, (B = false ↔ f = 0 ∧ cnt = 0) := ⟨!decide (f = 0 ∧ cnt = 0), by rw [Bool.not_eq_false', decide_eq_true_eq]⟩
  have QI := bne_flag _ _ hI
  have QT := bne_flag _ _ hT
  have QN := bne_flag _ _ hN
  have QL := bne_flag _ _ hL
  have QR : Hid ((BR = true → ¬ (f = 0 ∧ cnt = 0)) ∧ (BR = false → f = 0 ∧ cnt = 0)) := hid ⟨fun e h => Bool.noConfusion (e.symm.trans (hR.2 h)), hR.1⟩
  have hNE := neq_rngB f cnt f1 f2 BR hR
  obtain ⟨B1, h1⟩ : ∃ B, decide (1 ≤ tab) = B := ⟨_, rfl⟩
  clear hR f1 f2 hW0 p0 hb0 hV
  have Q1 : Hid ((B1 = true → 1 ≤ tab) ∧ (B1 = false → ¬ 1 ≤ tab)) := hid ⟨fun e => of_decide_eq_true (h1.trans e), fun e => of_decide_eq_false (h1.trans e)⟩
  cases B1
  all_goals
    go_enter Tryz.func68, Tryz.ntmps68
    go_upto_region 1 with (fail)
    rw [HW0.out]
    go_quiet (fail)
    go_upto_region 13 with (fail)
    go_wp2
    go_ret
    have hv : V = false := HF.out (by have q0 := hk.out; unfold CdP; omega)
    subst hv
    exact ⟨rfl, bt HB0.out (below_drewN (Below.refl _ _) _) (Nat.le_refl _)⟩

theorem rcond_any (k id tab f cnt n : Int) (va : Option Addr) (ln vc : Nat) (w : World) (f1 : (Lit.int .i64 f).wf = true) (f2 : (Lit.int .i64 cnt).wf = true) (V : Bool) (hV : Hid (V = true ↔ CdP k id ln tab f cnt n)) :
    Calls Tryz.prog 68 #[.agg #[.int .i64 k, .int .i64 id, .slice va ln vc, .int .i64 tab, .int .i64 f, .int .i64 cnt, .int .i64 n]] w (BoolPost w V) := by
  by_cases k1 : k = 1
  · subst k1; exact rcond_a id tab f cnt n va ln vc w f1 f2 V hV
  by_cases k2 : k = 2
  · subst k2; exact rcond_b id tab f cnt n va ln vc w f1 f2 V hV
  by_cases k3 : k = 3
  · subst k3; exact rcond_c id tab f cnt n va ln vc w f1 f2 V hV
  by_cases k4 : k = 4
  · subst k4; exact rcond_d id tab f cnt n va ln vc w f1 f2 V hV
  by_cases k5 : k = 5
  · subst k5; exact rcond_e id tab f cnt n va ln vc w f1 f2 V hV
  exact rcond_f k id tab f cnt n va ln vc w f1 f2 V hV (beq_eq_false_iff_ne.2 k1) (beq_eq_false_iff_ne.2 k2) (beq_eq_false_iff_ne.2 k3) (beq_eq_false_iff_ne.2 k4) (beq_eq_false_iff_ne.2 k5) ⟨k1, k2, k3, k4, k5⟩
end Go.Proofs.YtipnamoocemeeaaGreat
