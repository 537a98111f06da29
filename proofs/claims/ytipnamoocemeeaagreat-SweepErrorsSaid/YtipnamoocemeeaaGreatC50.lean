/-
  Texts 50 of the claim.
-/
import Derived.Test.YtipnamoocemeeaaGreatC46
import Derived.Test.YtipnamoocemeeaaGreatC01
import Derived.BigQuiet
import Derived.DeepKeys
/-
  Conditions of a profile, the reference's side: printed by wip/genrcd.py.
-/
namespace Go.Proofs.YtipnamoocemeeaaGreat
open Go.RowKit
theorem neq_rng (f cnt : Int) (X : World) (f1 : (Lit.int .i64 f).wf = true) (f2 : (Lit.int .i64 cnt).wf = true) : ∃ B : Bool, (binOp .neq 24 (.agg #[.int .i64 f, .int .i64 cnt]) (.agg #[.int .i64 0, .int .i64 0])).run Tryz.prog X = .ok (.bool B) X ∧ (B = false ↔ f = 0 ∧ cnt = 0) := by
  have hk : Tryz.prog.keyTypeAt 3 24 = true := by kernel_rfl
  have hf : (Value.agg #[.int .i64 f, .int .i64 cnt]).formed Tryz.prog 24 = true := by kernel_rfl
  have hg : (Value.agg #[.int .i64 0, .int .i64 0]).formed Tryz.prog 24 = true := by kernel_rfl
  have c1 : Tryz.prog.cellsOf 24 = 2 := by kernel_rfl
  have c2 : Tryz.prog.cellsOf 3 = 1 := by kernel_rfl
  have ha : Tryz.prog.keyLits 5 24 (Value.agg #[.int .i64 f, .int .i64 cnt]).cells.toList = some [.int .i64 f, .int .i64 cnt] := by
    simp [Program.keyLits, Tryz.underlying24, Tryz.underlying3, f1, f2, c1, c2, Value.cells]
  have hb : Tryz.prog.keyLits 5 24 (Value.agg #[.int .i64 0, .int .i64 0]).cells.toList = some [.int .i64 0, .int .i64 0] := by kernel_rfl
  obtain ⟨r, hr, hi⟩ := run_equalIn_deep (P := Tryz.prog) 9997 3 24 hk X 5 5 _ _ _ _ hf hg ha hb
  refine ⟨!r, ?_, ?_⟩
  · simp only [binOp]
    simp [Op.equal, Op.maxDepth, hr]
  · rw [Bool.not_eq_false', hi]
    simp
theorem neq_rngB (f cnt : Int) (f1 : (Lit.int .i64 f).wf = true) (f2 : (Lit.int .i64 cnt).wf = true) (B : Bool) (hB : B = false ↔ f = 0 ∧ cnt = 0) (X : World) : (binOp .neq 24 (.agg #[.int .i64 f, .int .i64 cnt]) (.agg #[.int .i64 0, .int .i64 0])).run Tryz.prog X = .ok (.bool B) X := by
  obtain ⟨r, h, hi⟩ := neq_rng f cnt X f1 f2
  have e : r = B := by
    cases r <;> cases B
    · rfl
    · exact absurd (hB.2 (hi.1 rfl)) Bool.noConfusion
    · exact absurd (hi.2 (hB.1 rfl)) Bool.noConfusion
    · rfl
  rw [← e]
  exact h
theorem bne_flag (x : Int) (B : Bool) (h : (x != 0) = B) : Hid ((B = true → ¬ x = 0) ∧ (B = false → x = 0)) := hid ⟨fun e => bne_iff_ne.1 (h.trans e), fun e => bne_eq_false_iff_eq.1 (h.trans e)⟩
set_option maxRecDepth 100000 in
set_option maxHeartbeats 12800000 in
theorem rcond_a (id tab f cnt n : Int) (va : Option Addr) (ln vc : Nat) (w : World) (f1 : (Lit.int .i64 f).wf = true) (f2 : (Lit.int .i64 cnt).wf = true) (V : Bool) (hV : Hid (V = true ↔ CdP 1 id ln tab f cnt n)) :
    Calls Tryz.prog 68 #[.agg #[.int .i64 1, .int .i64 id, .slice va ln vc, .int .i64 tab, .int .i64 f, .int .i64 cnt, .int .i64 n]] w (BoolPost w V) := by
  have HF : Hid (¬ CdP 1 id ln tab f cnt n → V = false) := fun h => by
    cases e : V with
    | false => rfl
    | true => exact absurd (hV.out.1 e) h
  have HT : Hid (CdP 1 id ln tab f cnt n → V = true) := hV.out.2
  obtain ⟨W0, hW0⟩ : ∃ W, w.alloc (.cells #[.int .i64 1, .int .i64 id, .slice va ln vc, .int .i64 tab, .int .i64 f, .int .i64 cnt, .int .i64 n] 124) = W := ⟨_, rfl⟩
  have hb0 : Below w.heap.size w W0 := by rw [← hW0]; exact bal' w _
  have p0 : W0.heap[w.heap.size]? = some (.cells #[.int .i64 1, .int .i64 id, .slice va ln vc, .int .i64 tab, .int .i64 f, .int .i64 cnt, .int .i64 n] 124) := by rw [← hW0]; exact hpNew w _
  have y0 : W0.cell? ⟨w.heap.size, 0, none⟩ = some (.int .i64 1) := hpCell p0 0
  have y1 : W0.cell? ⟨w.heap.size, 1, none⟩ = some (.int .i64 id) := hpCell p0 1
  have y2 : W0.cell? ⟨w.heap.size, 2, none⟩ = some (.slice va ln vc) := hpCell p0 2
  have y3 : W0.cell? ⟨w.heap.size, 3, none⟩ = some (.int .i64 tab) := hpCell p0 3
  have y4 : W0.cell? ⟨w.heap.size, 4, none⟩ = some (.int .i64 f) := hpCell p0 4
  have y5 : W0.cell? ⟨w.heap.size, 5, none⟩ = some (.int .i64 cnt) := hpCell p0 5
  have y6 : W0.cell? ⟨w.heap.size, 6, none⟩ = some (.int .i64 n) := hpCell p0 6
  have HW0 := hid hW0
  have HB0 := hid hb0
  obtain ⟨BI, hI⟩ : ∃ B, (id != 0) = B := ⟨_, rfl⟩
  obtain ⟨BT, hT⟩ : ∃ B, (tab != 0) = B := ⟨_, rfl⟩
  obtain ⟨BN, hN⟩ : ∃ B, (n != 0) = B := ⟨_, rfl⟩
  obtain ⟨BL, hL⟩ : ∃ B, ((ln : Int) != 0) = B := ⟨_, rfl⟩
  obtain ⟨BR, hR⟩ : ∃ B : Bool, (B = false ↔ f = 0 ∧ cnt = 0) := ⟨!decide (f = 0 ∧ cnt = 0), by rw [Bool.not_eq_false', decide_eq_true_eq]⟩
  have QI := bne_flag _ _ hI
  have QT := bne_flag _ _ hT
  have QN := bne_flag _ _ hN
  have QL := bne_flag _ _ hL
  have QR : Hid ((BR = true → ¬ (f = 0 ∧ cnt = 0)) ∧ (BR = false → f = 0 ∧ cnt = 0)) := hid ⟨fun e h => Bool.noConfusion (e.symm.trans (hR.2 h)), hR.1⟩
  have hNE := neq_rngB f cnt f1 f2 BR hR
  obtain ⟨B1, h1⟩ : ∃ B, decide (1 ≤ tab) = B := ⟨_, rfl⟩
  clear hR f1 f2 hW0 p0 hb0 hV
  have Q1 : Hid ((B1 = true → 1 ≤ tab) ∧ (B1 = false → ¬ 1 ≤ tab)) := hid ⟨fun e => of_decide_eq_true (h1.trans e), fun e => of_decide_eq_false (h1.trans e)⟩
  cases B1
  all_goals
    go_enter Tryz.func68, Tryz.ntmps68
    go_upto_region 1 with (fail)
    rw [HW0.out]
    go_quiet (fail)
    go_upto_region 6 with (fail)
    by_cases c_i0 : 0 ≤ id
    rotate_left
    · have Ci0 := hid c_i0
      have g_i0 : decide (0 ≤ id) = false := by rw [decide_eq_false_iff_not]; omega
      clear c_i0
      go_wp2
      go_ret
      have hv : V = false := HF.out (by have q0 := Ci0.out; unfold CdP; omega)
      subst hv
      exact ⟨rfl, bt HB0.out (below_drewN (Below.refl _ _) _) (Nat.le_refl _)⟩
    have Ci0 := hid c_i0
    have g_i0 : decide (0 ≤ id) = true := by rw [decide_eq_true_eq]; omega
    clear c_i0
    by_cases c_i1 : id ≤ 255
    rotate_left
    · have Ci1 := hid c_i1
      have g_i1 : decide (id ≤ 255) = false := by rw [decide_eq_false_iff_not]; omega
      clear c_i1
      go_wp2
      go_ret
      have hv : V = false := HF.out (by have q0 := Ci1.out; unfold CdP; omega)
      subst hv
      exact ⟨rfl, bt HB0.out (below_drewN (Below.refl _ _) _) (Nat.le_refl _)⟩
    have Ci1 := hid c_i1
    have g_i1 : decide (id ≤ 255) = true := by rw [decide_eq_true_eq]; omega
    clear c_i1
    by_cases c_le : ln ≤ 244
    rotate_left
    · have Cle := hid c_le
      have g_le : decide (ln ≤ 244) = false := by rw [decide_eq_false_iff_not]; omega
      have k_le : decide (((ln : Nat) : Int) ≤ 244) = false := by rw [decide_eq_false_iff_not]; omega
      clear c_le
      go_wp2
      go_ret
      have hv : V = false := HF.out (by have q0 := Cle.out; unfold CdP; omega)
      subst hv
      exact ⟨rfl, bt HB0.out (below_drewN (Below.refl _ _) _) (Nat.le_refl _)⟩
    have Cle := hid c_le
    have g_le : decide (ln ≤ 244) = true := by rw [decide_eq_true_eq]; omega
    have k_le : decide (((ln : Nat) : Int) ≤ 244) = true := by rw [decide_eq_true_eq]; omega
    clear c_le
    cases BL
    all_goals
      cases BT
      rotate_left
      · go_wp2
        go_ret
        have hv : V = false := HF.out (by have q0 := QT.out.1 (by trivial); unfold CdP; omega)
        subst hv
        exact ⟨rfl, bt HB0.out (below_drewN (Below.refl _ _) _) (Nat.le_refl _)⟩
      cases BR
      rotate_left
      · go_wp2
        go_ret
        have hv : V = false := HF.out (by have q0 := QR.out.1 (by trivial); unfold CdP; omega)
        subst hv
        exact ⟨rfl, bt HB0.out (below_drewN (Below.refl _ _) _) (Nat.le_refl _)⟩
      cases BN
      rotate_left
      · go_wp2
        go_ret
        have hv : V = false := HF.out (by have q0 := QN.out.1 (by trivial); unfold CdP; omega)
        subst hv
        exact ⟨rfl, bt HB0.out (below_drewN (Below.refl _ _) _) (Nat.le_refl _)⟩
      go_wp2
      go_ret
      have hv : V = true := HT.out (by have q0 := Ci0.out; have q1 := Ci1.out; have q2 := Cle.out; have q3 := QT.out.2 (by trivial); have q4 := QR.out.2 (by trivial); have q5 := QN.out.2 (by trivial); unfold CdP; omega)
      subst hv
      exact ⟨rfl, bt HB0.out (below_drewN (Below.refl _ _) _) (Nat.le_refl _)⟩
set_option maxRecDepth 100000 in
set_option maxHeartbeats 12800000 in
theorem rcond_b (id tab f cnt n : Int) (va : Option Addr) (ln vc : Nat) (w : World) (f1 : (Lit.int .i64 f).wf = true) (f2 : (Lit.int .i64 cnt).wf = true) (V : Bool) (hV : Hid (V = true ↔ CdP 2 id ln tab f cnt n)) :
    Calls Tryz.prog 68 #[.agg #[.int .i64 2, .int .i64 id, .slice va ln vc, .int .i64 tab, .int .i64 f, .int .i64 cnt, .int .i64 n]] w (BoolPost w V) := by
  have HF : Hid (¬ CdP 2 id ln tab f cnt n → V = false) := fun h => by
    cases e : V with
    | false => rfl
    | true => exact absurd (hV.out.1 e) h
  have HT : Hid (CdP 2 id ln tab f cnt n → V = true) := hV.out.2
  obtain ⟨W0, hW0⟩ : ∃ W, w.alloc (.cells #[.int .i64 2, .int .i64 id, .slice va ln vc, .int .i64 tab, .int .i64 f, .int .i64 cnt, .int .i64 n] 124) = W := ⟨_, rfl⟩
  have hb0 : Below w.heap.size w W0 := by rw [← hW0]; exact bal' w _
  have p0 : W0.heap[w.heap.size]? = some (.cells #[.int .i64 2, .int .i64 id, .slice va ln vc, .int .i64 tab, .int .i64 f, .int .i64 cnt, .int .i64 n] 124) := by rw [← hW0]; exact hpNew w _
  have y0 : W0.cell? ⟨w.heap.size, 0, none⟩ = some (.int .i64 2) := hpCell p0 0
  have y1 : W0.cell? ⟨w.heap.size, 1, none⟩ = some (.int .i64 id) := hpCell p0 1
  have y2 : W0.cell? ⟨w.heap.size, 2, none⟩ = some (.slice va ln vc) := hpCell p0 2
  have y3 : W0.cell? ⟨w.heap.size, 3, none⟩ = some (.int .i64 tab) := hpCell p0 3
  have y4 : W0.cell? ⟨w.heap.size, 4, none⟩ = some (.int .i64 f) := hpCell p0 4
  have y5 : W0.cell? ⟨w.heap.size, 5, none⟩ = some (.int .i64 cnt) := hpCell p0 5
  have y6 : W0.cell? ⟨w.heap.size, 6, none⟩ = some (.int .i64 n) := hpCell p0 6
  have HW0 := hid hW0
  have HB0 := hid hb0
  obtain ⟨BI, hI⟩ : ∃ B, (id != 0) = B := ⟨_, rfl⟩
  obtain ⟨BT, hT⟩ : ∃ B, (tab != 0) = B := ⟨_, rfl⟩
  obtain ⟨BN, hN⟩ : ∃ B, (n != 0) = B := ⟨_, rfl⟩
  obtain ⟨BL, hL⟩ : ∃ B, ((ln : Int) != 0) = B := ⟨_, rfl⟩
  obtain ⟨BR, hR⟩ : ∃ B : Bool, (B = false ↔ f = 0 ∧ cnt = 0) := ⟨!decide (f = 0 ∧ cnt = 0), by rw [Bool.not_eq_false', decide_eq_true_eq]⟩
  have QI := bne_flag _ _ hI
  have QT := bne_flag _ _ hT
  have QN := bne_flag _ _ hN
  have QL := bne_flag _ _ hL
  have QR : Hid ((BR = true → ¬ (f = 0 ∧ cnt = 0)) ∧ (BR = false → f = 0 ∧ cnt = 0)) := hid ⟨fun e h => Bool.noConfusion (e.symm.trans (hR.2 h)), hR.1⟩
  have hNE := neq_rngB f cnt f1 f2 BR hR
  obtain ⟨B1, h1⟩ : ∃ B, decide (1 ≤ tab) = B := ⟨_, rfl⟩
  clear hR f1 f2 hW0 p0 hb0 hV
  have Q1 : Hid ((B1 = true → 1 ≤ tab) ∧ (B1 = false → ¬ 1 ≤ tab)) := hid ⟨fun e => of_decide_eq_true (h1.trans e), fun e => of_decide_eq_false (h1.trans e)⟩
  cases B1
  all_goals
    go_enter Tryz.func68, Tryz.ntmps68
    go_upto_region 1 with (fail)
    rw [HW0.out]
    go_quiet (fail)
    go_upto_region 6 with (fail)
    by_cases c_i0 : 0 ≤ id
    rotate_left
    · have Ci0 := hid c_i0
      have g_i0 : decide (0 ≤ id) = false := by rw [decide_eq_false_iff_not]; omega
      clear c_i0
      go_wp2
      go_ret
      have hv : V = false := HF.out (by have q0 := Ci0.out; unfold CdP; omega)
      subst hv
      exact ⟨rfl, bt HB0.out (below_drewN (Below.refl _ _) _) (Nat.le_refl _)⟩
    have Ci0 := hid c_i0
    have g_i0 : decide (0 ≤ id) = true := by rw [decide_eq_true_eq]; omega
    clear c_i0
    by_cases c_i1 : id ≤ 255
    rotate_left
    · have Ci1 := hid c_i1
      have g_i1 : decide (id ≤ 255) = false := by rw [decide_eq_false_iff_not]; omega
      clear c_i1
      go_wp2
      go_ret
      have hv : V = false := HF.out (by have q0 := Ci1.out; unfold CdP; omega)
      subst hv
      exact ⟨rfl, bt HB0.out (below_drewN (Below.refl _ _) _) (Nat.le_refl _)⟩
    have Ci1 := hid c_i1
    have g_i1 : decide (id ≤ 255) = true := by rw [decide_eq_true_eq]; omega
    clear c_i1
    by_cases c_le : ln ≤ 244
    rotate_left
    · have Cle := hid c_le
      have g_le : decide (ln ≤ 244) = false := by rw [decide_eq_false_iff_not]; omega
      have k_le : decide (((ln : Nat) : Int) ≤ 244) = false := by rw [decide_eq_false_iff_not]; omega
      clear c_le
      go_wp2
      go_ret
      have hv : V = false := HF.out (by have q0 := Cle.out; unfold CdP; omega)
      subst hv
      exact ⟨rfl, bt HB0.out (below_drewN (Below.refl _ _) _) (Nat.le_refl _)⟩
    have Cle := hid c_le
    have g_le : decide (ln ≤ 244) = true := by rw [decide_eq_true_eq]; omega
    have k_le : decide (((ln : Nat) : Int) ≤ 244) = true := by rw [decide_eq_true_eq]; omega
    clear c_le
    cases BL
    · go_wp2
      go_ret
      have hv : V = false := HF.out (by have q0 := QL.out.2 (by trivial); unfold CdP; omega)
      subst hv
      exact ⟨rfl, bt HB0.out (below_drewN (Below.refl _ _) _) (Nat.le_refl _)⟩
    cases BT
    rotate_left
    · go_wp2
      go_ret
      have hv : V = false := HF.out (by have q0 := QT.out.1 (by trivial); unfold CdP; omega)
      subst hv
      exact ⟨rfl, bt HB0.out (below_drewN (Below.refl _ _) _) (Nat.le_refl _)⟩
    cases BR
    rotate_left
    · go_wp2
      go_ret
      have hv : V = false := HF.out (by have q0 := QR.out.1 (by trivial); unfold CdP; omega)
      subst hv
      exact ⟨rfl, bt HB0.out (below_drewN (Below.refl _ _) _) (Nat.le_refl _)⟩
    cases BN
    rotate_left
    · go_wp2
      go_ret
      have hv : V = false := HF.out (by have q0 := QN.out.1 (by trivial); unfold CdP; omega)
      subst hv
      exact ⟨rfl, bt HB0.out (below_drewN (Below.refl _ _) _) (Nat.le_refl _)⟩
    go_wp2
    go_ret
    have hv : V = true := HT.out (by have q0 := Ci0.out; have q1 := Ci1.out; have q2 := Cle.out; have q3 := QL.out.1 (by trivial); have q4 := QT.out.2 (by trivial); have q5 := QR.out.2 (by trivial); have q6 := QN.out.2 (by trivial); unfold CdP; omega)
    subst hv
    exact ⟨rfl, bt HB0.out (below_drewN (Below.refl _ _) _) (Nat.le_refl _)⟩
set_option maxRecDepth 100000 in
set_option maxHeartbeats 12800000 in
theorem rcond_c (id tab f cnt n : Int) (va : Option Addr) (ln vc : Nat) (w : World) (f1 : (Lit.int .i64 f).wf = true) (f2 : (Lit.int .i64 cnt).wf = true) (V : Bool) (hV : Hid (V = true ↔ CdP 3 id ln tab f cnt n)) :
    Calls Tryz.prog 68 #[.agg #[.int .i64 3, .int .i64 id, .slice va ln vc, .int .i64 tab, .int .i64 f, .int .i64 cnt, .int .i64 n]] w (BoolPost w V) := by
  have HF : Hid (¬ CdP 3 id ln tab f cnt n → V = false) := fun h => by
    cases e : V with
    | false => rfl
    | true => exact absurd (hV.out.1 e) h
  have HT : Hid (CdP 3 id ln tab f cnt n → V = true) := hV.out.2
  obtain ⟨W0, hW0⟩ : ∃ W, w.alloc (.cells #[.int .i64 3, .int .i64 id, .slice va ln vc, .int .i64 tab, .int .i64 f, .int .i64 cnt, .int .i64 n] 124) = W := ⟨_, rfl⟩
  have hb0 : Below w.heap.size w W0 := by rw [← hW0]; exact bal' w _
  have p0 : W0.heap[w.heap.size]? = some (.cells #[.int .i64 3, .int .i64 id, .slice va ln vc, .int .i64 tab, .int .i64 f, .int .i64 cnt, .int .i64 n] 124) := by rw [← hW0]; exact hpNew w _
  have y0 : W0.cell? ⟨w.heap.size, 0, none⟩ = some (.int .i64 3) := hpCell p0 0
  have y1 : W0.cell? ⟨w.heap.size, 1, none⟩ = some (.int .i64 id) := hpCell p0 1
  have y2 : W0.cell? ⟨w.heap.size, 2, none⟩ = some (.slice va ln vc) := hpCell p0 2
  have y3 : W0.cell? ⟨w.heap.size, 3, none⟩ = some (.int .i64 tab) := hpCell p0 3
  have y4 : W0.cell? ⟨w.heap.size, 4, none⟩ = some (.int .i64 f) := hpCell p0 4
  have y5 : W0.cell? ⟨w.heap.size, 5, none⟩ = some (.int .i64 cnt) := hpCell p0 5
  have y6 : W0.cell? ⟨w.heap.size, 6, none⟩ = some (.int .i64 n) := hpCell p0 6
  have HW0 := hid hW0
  have HB0 := hid hb0
  obtain ⟨BI, hI⟩ : ∃ B, (id != 0) = B := ⟨_, rfl⟩
  obtain ⟨BT, hT⟩ : ∃ B, (tab != 0) = B := ⟨_, rfl⟩
  obtain ⟨BN, hN⟩ : ∃ B, (n != 0) = B := ⟨_, rfl⟩
  obtain ⟨BL, hL⟩ : ∃ B, ((ln : Int) != 0) = B := ⟨_, rfl⟩
  obtain ⟨BR, hR⟩ : ∃ B : Bool, (B = false ↔ f = 0 ∧ cnt = 0) := ⟨!decide (f = 0 ∧ cnt = 0), by rw [Bool.not_eq_false', decide_eq_true_eq]⟩
  have QI := bne_flag _ _ hI
  have QT := bne_flag _ _ hT
  have QN := bne_flag _ _ hN
  have QL := bne_flag _ _ hL
  have QR : Hid ((BR = true → ¬ (f = 0 ∧ cnt = 0)) ∧ (BR = false → f = 0 ∧ cnt = 0)) := hid ⟨fun e h => Bool.noConfusion (e.symm.trans (hR.2 h)), hR.1⟩
  have hNE := neq_rngB f cnt f1 f2 BR hR
  obtain ⟨B1, h1⟩ : ∃ B, decide (1 ≤ tab) = B := ⟨_, rfl⟩
  clear hR f1 f2 hW0 p0 hb0 hV
  have Q1 : Hid ((B1 = true → 1 ≤ tab) ∧ (B1 = false → ¬ 1 ≤ tab)) := hid ⟨fun e => of_decide_eq_true (h1.trans e), fun e => of_decide_eq_false (h1.trans e)⟩
  cases B1
  all_goals
    go_enter Tryz.func68, Tryz.ntmps68
    go_upto_region 1 with (fail)
    rw [HW0.out]
    go_quiet (fail)
    go_upto_region 8 with (fail)
    cases BL
    · go_wp2
      go_ret
      have hv : V = false := HF.out (by have q0 := QL.out.2 (by trivial); unfold CdP; omega)
      subst hv
      exact ⟨rfl, bt HB0.out (below_drewN (Below.refl _ _) _) (Nat.le_refl _)⟩
    by_cases c_le : ln ≤ 251
    rotate_left
    · have Cle := hid c_le
      have g_le : decide (ln ≤ 251) = false := by rw [decide_eq_false_iff_not]; omega
      have k_le : decide (((ln : Nat) : Int) ≤ 251) = false := by rw [decide_eq_false_iff_not]; omega
      clear c_le
      go_wp2
      go_ret
      have hv : V = false := HF.out (by have q0 := Cle.out; unfold CdP; omega)
      subst hv
      exact ⟨rfl, bt HB0.out (below_drewN (Below.refl _ _) _) (Nat.le_refl _)⟩
    have Cle := hid c_le
    have g_le : decide (ln ≤ 251) = true := by rw [decide_eq_true_eq]; omega
    have k_le : decide (((ln : Nat) : Int) ≤ 251) = true := by rw [decide_eq_true_eq]; omega
    clear c_le
    cases BI
    rotate_left
    · go_wp2
      go_ret
      have hv : V = false := HF.out (by have q0 := QI.out.1 (by trivial); unfold CdP; omega)
      subst hv
      exact ⟨rfl, bt HB0.out (below_drewN (Below.refl _ _) _) (Nat.le_refl _)⟩
    cases BT
    rotate_left
    · go_wp2
      go_ret
      have hv : V = false := HF.out (by have q0 := QT.out.1 (by trivial); unfold CdP; omega)
      subst hv
      exact ⟨rfl, bt HB0.out (below_drewN (Below.refl _ _) _) (Nat.le_refl _)⟩
    cases BR
    rotate_left
    · go_wp2
      go_ret
      have hv : V = false := HF.out (by have q0 := QR.out.1 (by trivial); unfold CdP; omega)
      subst hv
      exact ⟨rfl, bt HB0.out (below_drewN (Below.refl _ _) _) (Nat.le_refl _)⟩
    cases BN
    rotate_left
    · go_wp2
      go_ret
      have hv : V = false := HF.out (by have q0 := QN.out.1 (by trivial); unfold CdP; omega)
      subst hv
      exact ⟨rfl, bt HB0.out (below_drewN (Below.refl _ _) _) (Nat.le_refl _)⟩
    go_wp2
    go_ret
    have hv : V = true := HT.out (by have q0 := QL.out.1 (by trivial); have q1 := Cle.out; have q2 := QI.out.2 (by trivial); have q3 := QT.out.2 (by trivial); have q4 := QR.out.2 (by trivial); have q5 := QN.out.2 (by trivial); unfold CdP; omega)
    subst hv
    exact ⟨rfl, bt HB0.out (below_drewN (Below.refl _ _) _) (Nat.le_refl _)⟩
set_option maxRecDepth 100000 in
set_option maxHeartbeats 12800000 in
theorem rcond_e (id tab f cnt n : Int) (va : Option Addr) (ln vc : Nat) (w : World) (f1 : (Lit.int .i64 f).wf = true) (f2 : (Lit.int .i64 cnt).wf = true) (V : Bool) (hV : Hid (V = true ↔ CdP 5 id ln tab f cnt n)) :
    Calls Tryz.prog 68 #[.agg #[.int .i64 5, .int .i64 id, .slice va ln vc, .int .i64 tab, .int .i64 f, .int .i64 cnt, .int .i64 n]] w (BoolPost w V) := by
  have HF : Hid (¬ CdP 5 id ln tab f cnt n → V = false) := fun h => by
    cases e : V with
    | false => rfl
    | true => exact absurd (hV.out.1 e) h
  have HT : Hid (CdP 5 id ln tab f cnt n → V = true) := hV.out.2
  obtain ⟨W0, hW0⟩ : ∃ W, w.alloc (.cells #[.int .i64 5, .int .i64 id, .slice va ln vc, .int .i64 tab, .int .i64 f, .int .i64 cnt, .int .i64 n] 124) = W := ⟨_, rfl⟩
  have hb0 : Below w.heap.size w W0 := by rw [← hW0]; exact bal' w _
  have p0 : W0.heap[w.heap.size]? = some (.cells #[.int .i64 5, .int .i64 id, .slice va ln vc, .int .i64 tab, .int .i64 f, .int .i64 cnt, .int .i64 n] 124) := by rw [← hW0]; exact hpNew w _
  have y0 : W0.cell? ⟨w.heap.size, 0, none⟩ = some (.int .i64 5) := hpCell p0 0
  have y1 : W0.cell? ⟨w.heap.size, 1, none⟩ = some (.int .i64 id) := hpCell p0 1
  have y2 : W0.cell? ⟨w.heap.size, 2, none⟩ = some (.slice va ln vc) := hpCell p0 2
  have y3 : W0.cell? ⟨w.heap.size, 3, none⟩ = some (.int .i64 tab) := hpCell p0 3
  have y4 : W0.cell? ⟨w.heap.size, 4, none⟩ = some (.int .i64 f) := hpCell p0 4
  have y5 : W0.cell? ⟨w.heap.size, 5, none⟩ = some (.int .i64 cnt) := hpCell p0 5
  have y6 : W0.cell? ⟨w.heap.size, 6, none⟩ = some (.int .i64 n) := hpCell p0 6
  have HW0 := hid hW0
  have HB0 := hid hb0
  obtain ⟨BI, hI⟩ : ∃ B, (id != 0) = B := ⟨_, rfl⟩
  obtain ⟨BT, hT⟩ : ∃ B, (tab != 0) = B := ⟨_, rfl⟩
  obtain ⟨BN, hN⟩ : ∃ B, (n != 0) = B := ⟨_, rfl⟩
  obtain ⟨BL, hL⟩ : ∃ B, ((ln : Int) != 0) = B := ⟨_, rfl⟩
  obtain ⟨BR, hR⟩ : ∃ B : Bool, (B = false ↔ f = 0 ∧ cnt = 0) := ⟨!decide (f = 0 ∧ cnt = 0), by rw [Bool.not_eq_false', decide_eq_true_eq]⟩
  have QI := bne_flag _ _ hI
  have QT := bne_flag _ _ hT
  have QN := bne_flag _ _ hN
  have QL := bne_flag _ _ hL
  have QR : Hid ((BR = true → ¬ (f = 0 ∧ cnt = 0)) ∧ (BR = false → f = 0 ∧ cnt = 0)) := hid ⟨fun e h => Bool.noConfusion (e.symm.trans (hR.2 h)), hR.1⟩
  have hNE := neq_rngB f cnt f1 f2 BR hR
  obtain ⟨B1, h1⟩ : ∃ B, decide (1 ≤ tab) = B := ⟨_, rfl⟩
  clear hR f1 f2 hW0 p0 hb0 hV
  have Q1 : Hid ((B1 = true → 1 ≤ tab) ∧ (B1 = false → ¬ 1 ≤ tab)) := hid ⟨fun e => of_decide_eq_true (h1.trans e), fun e => of_decide_eq_false (h1.trans e)⟩
  cases B1
  · go_enter Tryz.func68, Tryz.ntmps68
    go_upto_region 1 with (fail)
    rw [HW0.out]
    go_quiet (fail)
    go_upto_region 12 with (fail)
    go_wp2
    go_ret
    have hv : V = false := HF.out (by have q0 := Q1.out.2 (by trivial); unfold CdP; omega)
    subst hv
    exact ⟨rfl, bt HB0.out (below_drewN (Below.refl _ _) _) (Nat.le_refl _)⟩
  go_enter Tryz.func68, Tryz.ntmps68
  go_upto_region 1 with (fail)
  rw [HW0.out]
  go_quiet (fail)
  go_upto_region 12 with (fail)
  by_cases c_t4 : tab ≤ 4
  rotate_left
  · have Ct4 := hid c_t4
    have g_t4 : decide (tab ≤ 4) = false := by rw [decide_eq_false_iff_not]; omega
    clear c_t4
    go_wp2
    go_ret
    have hv : V = false := HF.out (by have q0 := Ct4.out; unfold CdP; omega)
    subst hv
    exact ⟨rfl, bt HB0.out (below_drewN (Below.refl _ _) _) (Nat.le_refl _)⟩
  have Ct4 := hid c_t4
  have g_t4 : decide (tab ≤ 4) = true := by rw [decide_eq_true_eq]; omega
  clear c_t4
  by_cases c_n1 : 1 ≤ n
  rotate_left
  · have Cn1 := hid c_n1
    have g_n1 : decide (1 ≤ n) = false := by rw [decide_eq_false_iff_not]; omega
    clear c_n1
    go_wp2
    go_ret
    have hv : V = false := HF.out (by have q0 := Cn1.out; unfold CdP; omega)
    subst hv
    exact ⟨rfl, bt HB0.out (below_drewN (Below.refl _ _) _) (Nat.le_refl _)⟩
  have Cn1 := hid c_n1
  have g_n1 : decide (1 ≤ n) = true := by rw [decide_eq_true_eq]; omega
  clear c_n1
  by_cases c_n2 : n ≤ 2000
  rotate_left
  · have Cn2 := hid c_n2
    have g_n2 : decide (n ≤ 2000) = false := by rw [decide_eq_false_iff_not]; omega
    clear c_n2
    go_wp2
    go_ret
    have hv : V = false := HF.out (by have q0 := Cn2.out; unfold CdP; omega)
    subst hv
    exact ⟨rfl, bt HB0.out (below_drewN (Below.refl _ _) _) (Nat.le_refl _)⟩
  have Cn2 := hid c_n2
  have g_n2 : decide (n ≤ 2000) = true := by rw [decide_eq_true_eq]; omega
  clear c_n2
  cases BI
  rotate_left
  · go_wp2
    go_ret
    have hv : V = false := HF.out (by have q0 := QI.out.1 (by trivial); unfold CdP; omega)
    subst hv
    exact ⟨rfl, bt HB0.out (below_drewN (Below.refl _ _) _) (Nat.le_refl _)⟩
  cases BL
  rotate_left
  · go_wp2
    go_ret
    have hv : V = false := HF.out (by have q0 := QL.out.1 (by trivial); unfold CdP; omega)
    subst hv
    exact ⟨rfl, bt HB0.out (below_drewN (Below.refl _ _) _) (Nat.le_refl _)⟩
  cases BR
  rotate_left
  · go_wp2
    go_ret
    have hv : V = false := HF.out (by have q0 := QR.out.1 (by trivial); unfold CdP; omega)
    subst hv
    exact ⟨rfl, bt HB0.out (below_drewN (Below.refl _ _) _) (Nat.le_refl _)⟩
  go_wp2
  go_ret
  have hv : V = true := HT.out (by have q0 := Q1.out.1 (by trivial); have q1 := Ct4.out; have q2 := Cn1.out; have q3 := Cn2.out; have q4 := QI.out.2 (by trivial); have q5 := QL.out.2 (by trivial); have q6 := QR.out.2 (by trivial); unfold CdP; omega)
  subst hv
  exact ⟨rfl, bt HB0.out (below_drewN (Below.refl _ _) _) (Nat.le_refl _)⟩
end Go.Proofs.YtipnamoocemeeaaGreat
