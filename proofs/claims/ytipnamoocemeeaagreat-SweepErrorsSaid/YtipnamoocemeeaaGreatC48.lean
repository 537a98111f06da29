/-
  Texts 48 of the claim.
-/
import Derived.Test.YtipnamoocemeeaaGreatC46
import Derived.Test.YtipnamoocemeeaaGreatC01
/-
  Conditions of a profile: profile.validCondition answers as CdP says. (Printed by wip/gencd.py.)
-/
namespace Go.Proofs.YtipnamoocemeeaaGreat
open Go.RowKit
theorem bequal_any (va vb : Value) (la lb : List UInt8) (w : World) (ha : Bs w va la) (hb : Bs w vb lb) (V : Bool) (hV : decide (la = lb) = V) : Calls Tryz.prog 139 #[va, vb] w (BoolPost w V) := by
  have ea : (convert 50 9 va).run Tryz.prog w = .ok (.string ⟨la.toArray⟩) w := run_str Tryz.underlying50 Tryz.underlying5 ha _ Tryz.underlying9
  have eb : (convert 50 9 vb).run Tryz.prog w = .ok (.string ⟨lb.toArray⟩) w := run_str Tryz.underlying50 Tryz.underlying5 hb _ Tryz.underlying9
  subst hV
  by_cases h : la = lb
  · subst h
    rw [decide_eq_true rfl]
    go_enter Tryz.func139, Tryz.ntmps139
    go_wp2
    go_ret
    exact ⟨rfl, Below.refl _ _⟩
  · have hEL : (la == lb) = false := by rw [beq_eq_false_iff_ne]; exact h
    rw [decide_eq_false h]
    go_enter Tryz.func139, Tryz.ntmps139
    go_wp2
    go_ret
    exact ⟨rfl, Below.refl _ _⟩
set_option maxRecDepth 100000 in
set_option maxHeartbeats 12800000 in
theorem pcond_a (id tab f cnt n : Int) (va : Option Addr) (ln vc : Nat) (val : List UInt8) (w : World) (hval : Bs w (.slice va ln vc) val) (hln : val.length = ln) (hm : ln ≤ 9223372036854775807) (V : Bool) (hV : Hid (V = true ↔ CdP 1 id ln tab f cnt n)) :
    Calls Tryz.prog 109 #[.agg #[.int .i64 1, .int .i64 id, .slice va ln vc, .int .i64 tab, .int .i64 f, .int .i64 cnt, .int .i64 n]] w (BoolPost w V) := by
  have HF : Hid (¬ CdP 1 id ln tab f cnt n → V = false) := fun h => by
    cases e : V with
    | false => rfl
    | true => exact absurd (hV.out.1 e) h
  have HT : Hid (CdP 1 id ln tab f cnt n → V = true) := hV.out.2
  obtain ⟨W0, hW0⟩ : ∃ W, w.alloc (.cells #[.int .i64 1, .int .i64 id, .slice va ln vc, .int .i64 tab, .int .i64 f, .int .i64 cnt, .int .i64 n] 124) = W := ⟨_, rfl⟩
  have hb0 : Below w.heap.size w W0 := by rw [← hW0]; exact bal' w _
  have p0 : W0.heap[w.heap.size]? = some (.cells #[.int .i64 1, .int .i64 id, .slice va ln vc, .int .i64 tab, .int .i64 f, .int .i64 cnt, .int .i64 n] 124) := by rw [← hW0]; exact hpNew w _
  have y0 : ∀ X, Below W0.heap.size W0 X → X.cell? ⟨w.heap.size, 0, none⟩ = some (.int .i64 1) := fun X hX => hpCell (hpKeep p0 hX) 0
  have y1 : ∀ X, Below W0.heap.size W0 X → X.cell? ⟨w.heap.size, 1, none⟩ = some (.int .i64 id) := fun X hX => hpCell (hpKeep p0 hX) 1
  have y2 : ∀ X, Below W0.heap.size W0 X → X.cell? ⟨w.heap.size, 2, none⟩ = some (.slice va ln vc) := fun X hX => hpCell (hpKeep p0 hX) 2
  have y3 : ∀ X, Below W0.heap.size W0 X → X.cell? ⟨w.heap.size, 3, none⟩ = some (.int .i64 tab) := fun X hX => hpCell (hpKeep p0 hX) 3
  have y4 : ∀ X, Below W0.heap.size W0 X → X.cell? ⟨w.heap.size, 4, none⟩ = some (.int .i64 f) := fun X hX => hpCell (hpKeep p0 hX) 4
  have y5 : ∀ X, Below W0.heap.size W0 X → X.cell? ⟨w.heap.size, 5, none⟩ = some (.int .i64 cnt) := fun X hX => hpCell (hpKeep p0 hX) 5
  have y6 : ∀ X, Below W0.heap.size W0 X → X.cell? ⟨w.heap.size, 6, none⟩ = some (.int .i64 n) := fun X hX => hpCell (hpKeep p0 hX) 6
  have HON : Hid (∀ X, Calls Tryz.prog 138 #[.agg #[.int .i64 1, .int .i64 id, .slice va ln vc, .int .i64 tab, .int .i64 f, .int .i64 cnt, .int .i64 n]] X fun r w' => r = .returned (.agg #[.int .i64 1, .int .i64 id, .slice va ln vc, .int .i64 0, .int .i64 0, .int .i64 0, .int .i64 0]) ∧ Below X.heap.size X w') := fun X => only_a id tab f cnt n va ln vc X
  obtain ⟨E, hE⟩ : ∃ E, decide (val = val) = E := ⟨_, rfl⟩
  have HEQ : Hid (∀ X, Below W0.heap.size W0 X → Calls Tryz.prog 139 #[.slice va ln vc, .slice va ln vc] X (BoolPost X E)) := fun X hX => bequal_any _ _ val val X (hval.keep (bt hb0 hX (Nat.le_refl _))) (hval.keep (bt hb0 hX (Nat.le_refl _))) E hE
  obtain rfl : true = E := by rw [← hE]; simp
  have HW0 := hid hW0
  have HB0 := hid hb0
  have r0 : Below W0.heap.size W0 W0 := Below.refl _ _
  have HWI : Hid (∀ x a b X B, (decide (a ≤ x) && decide (x ≤ b)) = B → Calls Tryz.prog 108 #[.int .i64 x, .int .i64 a, .int .i64 b] X (BoolPost X B)) := fun x a b X B h => within_any x a b X B h
  have HTI : Hid (∀ x X B, (decide (1 ≤ x) && decide (x ≤ 4)) = B → Calls Tryz.prog 140 #[.int .i64 x] X (BoolPost X B)) := fun x X B h => istab_any x X B h
  clear hW0 hb0 p0 hE hval hV
  by_cases c_tab : tab = 0
  rotate_left
  · have hv := HF.out (by unfold CdP; omega)
    subst hv
    clear HF HT
    have p_tab : (0 != tab) = true := by rw [bne_iff_ne]; omega
    have q_tab : (tab != 0) = true := by rw [bne_iff_ne]; omega
    have r_tab : (0 == tab) = false := by rw [beq_eq_false_iff_ne]; omega
    have s_tab : (tab == 0) = false := by rw [beq_eq_false_iff_ne]; omega
    clear c_tab
    go_enter Tryz.func109, Tryz.ntmps109
    go_upto_region 1 with (fail)
    rw [HW0.out]
    go_wp2_with (first
      | (go_at_call 138; (with_reducible refine (HON.out _).mono ?_); rintro r w1 ⟨rfl, hb1⟩; have hbA := bta hb1 (Nat.le_refl _) (.cells #[.int .i64 1, .int .i64 id, .slice va ln vc, .int .i64 0, .int .i64 0, .int .i64 0, .int .i64 0] 124))
      | (go_at_call 139; (with_reducible refine (HEQ.out _ hbA).mono ?_); rintro r w2 ⟨rfl, hb2⟩; have hbB := bt hbA hb2 (Nat.le_refl _); have x0 : w2.cell? ⟨w1.heap.size, 0, none⟩ = some (.int .i64 1) := hpCell (hpKeep (hpNew w1 (.cells #[.int .i64 1, .int .i64 id, .slice va ln vc, .int .i64 0, .int .i64 0, .int .i64 0, .int .i64 0] 124)) hb2) 0; have x1 : w2.cell? ⟨w1.heap.size, 1, none⟩ = some (.int .i64 id) := hpCell (hpKeep (hpNew w1 (.cells #[.int .i64 1, .int .i64 id, .slice va ln vc, .int .i64 0, .int .i64 0, .int .i64 0, .int .i64 0] 124)) hb2) 1; have x2 : w2.cell? ⟨w1.heap.size, 2, none⟩ = some (.slice va ln vc) := hpCell (hpKeep (hpNew w1 (.cells #[.int .i64 1, .int .i64 id, .slice va ln vc, .int .i64 0, .int .i64 0, .int .i64 0, .int .i64 0] 124)) hb2) 2; have x3 : w2.cell? ⟨w1.heap.size, 3, none⟩ = some (.int .i64 0) := hpCell (hpKeep (hpNew w1 (.cells #[.int .i64 1, .int .i64 id, .slice va ln vc, .int .i64 0, .int .i64 0, .int .i64 0, .int .i64 0] 124)) hb2) 3; have x4 : w2.cell? ⟨w1.heap.size, 4, none⟩ = some (.int .i64 0) := hpCell (hpKeep (hpNew w1 (.cells #[.int .i64 1, .int .i64 id, .slice va ln vc, .int .i64 0, .int .i64 0, .int .i64 0, .int .i64 0] 124)) hb2) 4; have x5 : w2.cell? ⟨w1.heap.size, 5, none⟩ = some (.int .i64 0) := hpCell (hpKeep (hpNew w1 (.cells #[.int .i64 1, .int .i64 id, .slice va ln vc, .int .i64 0, .int .i64 0, .int .i64 0, .int .i64 0] 124)) hb2) 5; have x6 : w2.cell? ⟨w1.heap.size, 6, none⟩ = some (.int .i64 0) := hpCell (hpKeep (hpNew w1 (.cells #[.int .i64 1, .int .i64 id, .slice va ln vc, .int .i64 0, .int .i64 0, .int .i64 0, .int .i64 0] 124)) hb2) 6)
      | (go_at_call 140; (with_reducible refine (HTI.out _ _ _ ht).mono ?_); rintro r w3 ⟨rfl, hb3⟩; have hbC := bt hbB hb3 (Nat.le_refl _))
      | (go_at_call 108; (with_reducible refine (HWI.out _ _ _ _ _ hi).mono ?_); rintro r w3 ⟨rfl, hb3⟩; have hbC := bt hbB hb3 (Nat.le_refl _))
      | (go_at_call 108; (with_reducible refine (HWI.out _ _ _ _ _ hl).mono ?_); rintro r w4 ⟨rfl, hb4⟩; have hbD := bt (by first | exact hbC | exact hbB) hb4 (Nat.le_refl _)))
    go_ret
    refine ⟨rfl, ?_⟩
    first
      | exact bt HB0.out hbD (Nat.le_refl _)
      | exact bt HB0.out hbC (Nat.le_refl _)
      | exact bt HB0.out hbB (Nat.le_refl _)
      | exact bt HB0.out hbA (Nat.le_refl _)
  subst c_tab
  by_cases c_f : f = 0
  rotate_left
  · have hv := HF.out (by unfold CdP; omega)
    subst hv
    clear HF HT
    have p_f : (0 != f) = true := by rw [bne_iff_ne]; omega
    have q_f : (f != 0) = true := by rw [bne_iff_ne]; omega
    have r_f : (0 == f) = false := by rw [beq_eq_false_iff_ne]; omega
    have s_f : (f == 0) = false := by rw [beq_eq_false_iff_ne]; omega
    clear c_f
    go_enter Tryz.func109, Tryz.ntmps109
    go_upto_region 1 with (fail)
    rw [HW0.out]
    go_wp2_with (first
      | (go_at_call 138; (with_reducible refine (HON.out _).mono ?_); rintro r w1 ⟨rfl, hb1⟩; have hbA := bta hb1 (Nat.le_refl _) (.cells #[.int .i64 1, .int .i64 id, .slice va ln vc, .int .i64 0, .int .i64 0, .int .i64 0, .int .i64 0] 124))
      | (go_at_call 139; (with_reducible refine (HEQ.out _ hbA).mono ?_); rintro r w2 ⟨rfl, hb2⟩; have hbB := bt hbA hb2 (Nat.le_refl _); have x0 : w2.cell? ⟨w1.heap.size, 0, none⟩ = some (.int .i64 1) := hpCell (hpKeep (hpNew w1 (.cells #[.int .i64 1, .int .i64 id, .slice va ln vc, .int .i64 0, .int .i64 0, .int .i64 0, .int .i64 0] 124)) hb2) 0; have x1 : w2.cell? ⟨w1.heap.size, 1, none⟩ = some (.int .i64 id) := hpCell (hpKeep (hpNew w1 (.cells #[.int .i64 1, .int .i64 id, .slice va ln vc, .int .i64 0, .int .i64 0, .int .i64 0, .int .i64 0] 124)) hb2) 1; have x2 : w2.cell? ⟨w1.heap.size, 2, none⟩ = some (.slice va ln vc) := hpCell (hpKeep (hpNew w1 (.cells #[.int .i64 1, .int .i64 id, .slice va ln vc, .int .i64 0, .int .i64 0, .int .i64 0, .int .i64 0] 124)) hb2) 2; have x3 : w2.cell? ⟨w1.heap.size, 3, none⟩ = some (.int .i64 0) := hpCell (hpKeep (hpNew w1 (.cells #[.int .i64 1, .int .i64 id, .slice va ln vc, .int .i64 0, .int .i64 0, .int .i64 0, .int .i64 0] 124)) hb2) 3; have x4 : w2.cell? ⟨w1.heap.size, 4, none⟩ = some (.int .i64 0) := hpCell (hpKeep (hpNew w1 (.cells #[.int .i64 1, .int .i64 id, .slice va ln vc, .int .i64 0, .int .i64 0, .int .i64 0, .int .i64 0] 124)) hb2) 4; have x5 : w2.cell? ⟨w1.heap.size, 5, none⟩ = some (.int .i64 0) := hpCell (hpKeep (hpNew w1 (.cells #[.int .i64 1, .int .i64 id, .slice va ln vc, .int .i64 0, .int .i64 0, .int .i64 0, .int .i64 0] 124)) hb2) 5; have x6 : w2.cell? ⟨w1.heap.size, 6, none⟩ = some (.int .i64 0) := hpCell (hpKeep (hpNew w1 (.cells #[.int .i64 1, .int .i64 id, .slice va ln vc, .int .i64 0, .int .i64 0, .int .i64 0, .int .i64 0] 124)) hb2) 6)
      | (go_at_call 140; (with_reducible refine (HTI.out _ _ _ ht).mono ?_); rintro r w3 ⟨rfl, hb3⟩; have hbC := bt hbB hb3 (Nat.le_refl _))
      | (go_at_call 108; (with_reducible refine (HWI.out _ _ _ _ _ hi).mono ?_); rintro r w3 ⟨rfl, hb3⟩; have hbC := bt hbB hb3 (Nat.le_refl _))
      | (go_at_call 108; (with_reducible refine (HWI.out _ _ _ _ _ hl).mono ?_); rintro r w4 ⟨rfl, hb4⟩; have hbD := bt (by first | exact hbC | exact hbB) hb4 (Nat.le_refl _)))
    go_ret
    refine ⟨rfl, ?_⟩
    first
      | exact bt HB0.out hbD (Nat.le_refl _)
      | exact bt HB0.out hbC (Nat.le_refl _)
      | exact bt HB0.out hbB (Nat.le_refl _)
      | exact bt HB0.out hbA (Nat.le_refl _)
  subst c_f
  by_cases c_cnt : cnt = 0
  rotate_left
  · have hv := HF.out (by unfold CdP; omega)
    subst hv
    clear HF HT
    have p_cnt : (0 != cnt) = true := by rw [bne_iff_ne]; omega
    have q_cnt : (cnt != 0) = true := by rw [bne_iff_ne]; omega
    have r_cnt : (0 == cnt) = false := by rw [beq_eq_false_iff_ne]; omega
    have s_cnt : (cnt == 0) = false := by rw [beq_eq_false_iff_ne]; omega
    clear c_cnt
    go_enter Tryz.func109, Tryz.ntmps109
    go_upto_region 1 with (fail)
    rw [HW0.out]
    go_wp2_with (first
      | (go_at_call 138; (with_reducible refine (HON.out _).mono ?_); rintro r w1 ⟨rfl, hb1⟩; have hbA := bta hb1 (Nat.le_refl _) (.cells #[.int .i64 1, .int .i64 id, .slice va ln vc, .int .i64 0, .int .i64 0, .int .i64 0, .int .i64 0] 124))
      | (go_at_call 139; (with_reducible refine (HEQ.out _ hbA).mono ?_); rintro r w2 ⟨rfl, hb2⟩; have hbB := bt hbA hb2 (Nat.le_refl _); have x0 : w2.cell? ⟨w1.heap.size, 0, none⟩ = some (.int .i64 1) := hpCell (hpKeep (hpNew w1 (.cells #[.int .i64 1, .int .i64 id, .slice va ln vc, .int .i64 0, .int .i64 0, .int .i64 0, .int .i64 0] 124)) hb2) 0; have x1 : w2.cell? ⟨w1.heap.size, 1, none⟩ = some (.int .i64 id) := hpCell (hpKeep (hpNew w1 (.cells #[.int .i64 1, .int .i64 id, .slice va ln vc, .int .i64 0, .int .i64 0, .int .i64 0, .int .i64 0] 124)) hb2) 1; have x2 : w2.cell? ⟨w1.heap.size, 2, none⟩ = some (.slice va ln vc) := hpCell (hpKeep (hpNew w1 (.cells #[.int .i64 1, .int .i64 id, .slice va ln vc, .int .i64 0, .int .i64 0, .int .i64 0, .int .i64 0] 124)) hb2) 2; have x3 : w2.cell? ⟨w1.heap.size, 3, none⟩ = some (.int .i64 0) := hpCell (hpKeep (hpNew w1 (.cells #[.int .i64 1, .int .i64 id, .slice va ln vc, .int .i64 0, .int .i64 0, .int .i64 0, .int .i64 0] 124)) hb2) 3; have x4 : w2.cell? ⟨w1.heap.size, 4, none⟩ = some (.int .i64 0) := hpCell (hpKeep (hpNew w1 (.cells #[.int .i64 1, .int .i64 id, .slice va ln vc, .int .i64 0, .int .i64 0, .int .i64 0, .int .i64 0] 124)) hb2) 4; have x5 : w2.cell? ⟨w1.heap.size, 5, none⟩ = some (.int .i64 0) := hpCell (hpKeep (hpNew w1 (.cells #[.int .i64 1, .int .i64 id, .slice va ln vc, .int .i64 0, .int .i64 0, .int .i64 0, .int .i64 0] 124)) hb2) 5; have x6 : w2.cell? ⟨w1.heap.size, 6, none⟩ = some (.int .i64 0) := hpCell (hpKeep (hpNew w1 (.cells #[.int .i64 1, .int .i64 id, .slice va ln vc, .int .i64 0, .int .i64 0, .int .i64 0, .int .i64 0] 124)) hb2) 6)
      | (go_at_call 140; (with_reducible refine (HTI.out _ _ _ ht).mono ?_); rintro r w3 ⟨rfl, hb3⟩; have hbC := bt hbB hb3 (Nat.le_refl _))
      | (go_at_call 108; (with_reducible refine (HWI.out _ _ _ _ _ hi).mono ?_); rintro r w3 ⟨rfl, hb3⟩; have hbC := bt hbB hb3 (Nat.le_refl _))
      | (go_at_call 108; (with_reducible refine (HWI.out _ _ _ _ _ hl).mono ?_); rintro r w4 ⟨rfl, hb4⟩; have hbD := bt (by first | exact hbC | exact hbB) hb4 (Nat.le_refl _)))
    go_ret
    refine ⟨rfl, ?_⟩
    first
      | exact bt HB0.out hbD (Nat.le_refl _)
      | exact bt HB0.out hbC (Nat.le_refl _)
      | exact bt HB0.out hbB (Nat.le_refl _)
      | exact bt HB0.out hbA (Nat.le_refl _)
  subst c_cnt
  by_cases c_n : n = 0
  rotate_left
  · have hv := HF.out (by unfold CdP; omega)
    subst hv
    clear HF HT
    have p_n : (0 != n) = true := by rw [bne_iff_ne]; omega
    have q_n : (n != 0) = true := by rw [bne_iff_ne]; omega
    have r_n : (0 == n) = false := by rw [beq_eq_false_iff_ne]; omega
    have s_n : (n == 0) = false := by rw [beq_eq_false_iff_ne]; omega
    clear c_n
    go_enter Tryz.func109, Tryz.ntmps109
    go_upto_region 1 with (fail)
    rw [HW0.out]
    go_wp2_with (first
      | (go_at_call 138; (with_reducible refine (HON.out _).mono ?_); rintro r w1 ⟨rfl, hb1⟩; have hbA := bta hb1 (Nat.le_refl _) (.cells #[.int .i64 1, .int .i64 id, .slice va ln vc, .int .i64 0, .int .i64 0, .int .i64 0, .int .i64 0] 124))
      | (go_at_call 139; (with_reducible refine (HEQ.out _ hbA).mono ?_); rintro r w2 ⟨rfl, hb2⟩; have hbB := bt hbA hb2 (Nat.le_refl _); have x0 : w2.cell? ⟨w1.heap.size, 0, none⟩ = some (.int .i64 1) := hpCell (hpKeep (hpNew w1 (.cells #[.int .i64 1, .int .i64 id, .slice va ln vc, .int .i64 0, .int .i64 0, .int .i64 0, .int .i64 0] 124)) hb2) 0; have x1 : w2.cell? ⟨w1.heap.size, 1, none⟩ = some (.int .i64 id) := hpCell (hpKeep (hpNew w1 (.cells #[.int .i64 1, .int .i64 id, .slice va ln vc, .int .i64 0, .int .i64 0, .int .i64 0, .int .i64 0] 124)) hb2) 1; have x2 : w2.cell? ⟨w1.heap.size, 2, none⟩ = some (.slice va ln vc) := hpCell (hpKeep (hpNew w1 (.cells #[.int .i64 1, .int .i64 id, .slice va ln vc, .int .i64 0, .int .i64 0, .int .i64 0, .int .i64 0] 124)) hb2) 2; have x3 : w2.cell? ⟨w1.heap.size, 3, none⟩ = some (.int .i64 0) := hpCell (hpKeep (hpNew w1 (.cells #[.int .i64 1, .int .i64 id, .slice va ln vc, .int .i64 0, .int .i64 0, .int .i64 0, .int .i64 0] 124)) hb2) 3; have x4 : w2.cell? ⟨w1.heap.size, 4, none⟩ = some (.int .i64 0) := hpCell (hpKeep (hpNew w1 (.cells #[.int .i64 1, .int .i64 id, .slice va ln vc, .int .i64 0, .int .i64 0, .int .i64 0, .int .i64 0] 124)) hb2) 4; have x5 : w2.cell? ⟨w1.heap.size, 5, none⟩ = some (.int .i64 0) := hpCell (hpKeep (hpNew w1 (.cells #[.int .i64 1, .int .i64 id, .slice va ln vc, .int .i64 0, .int .i64 0, .int .i64 0, .int .i64 0] 124)) hb2) 5; have x6 : w2.cell? ⟨w1.heap.size, 6, none⟩ = some (.int .i64 0) := hpCell (hpKeep (hpNew w1 (.cells #[.int .i64 1, .int .i64 id, .slice va ln vc, .int .i64 0, .int .i64 0, .int .i64 0, .int .i64 0] 124)) hb2) 6)
      | (go_at_call 140; (with_reducible refine (HTI.out _ _ _ ht).mono ?_); rintro r w3 ⟨rfl, hb3⟩; have hbC := bt hbB hb3 (Nat.le_refl _))
      | (go_at_call 108; (with_reducible refine (HWI.out _ _ _ _ _ hi).mono ?_); rintro r w3 ⟨rfl, hb3⟩; have hbC := bt hbB hb3 (Nat.le_refl _))
      | (go_at_call 108; (with_reducible refine (HWI.out _ _ _ _ _ hl).mono ?_); rintro r w4 ⟨rfl, hb4⟩; have hbD := bt (by first | exact hbC | exact hbB) hb4 (Nat.le_refl _)))
    go_ret
    refine ⟨rfl, ?_⟩
    first
      | exact bt HB0.out hbD (Nat.le_refl _)
      | exact bt HB0.out hbC (Nat.le_refl _)
      | exact bt HB0.out hbB (Nat.le_refl _)
      | exact bt HB0.out hbA (Nat.le_refl _)
  subst c_n
  by_cases c_id : (0 : Int) ≤ id ∧ id ≤ 255
  rotate_left
  · have hv := HF.out (by unfold CdP; omega)
    subst hv
    clear HF HT
    obtain ⟨BA, hi⟩ : ∃ B, (decide ((0 : Int) ≤ id) && decide (id ≤ 255)) = B := ⟨_, rfl⟩
    obtain rfl : false = BA := by rw [← hi]; rw [eq_comm, Bool.and_eq_false_iff, decide_eq_false_iff_not, decide_eq_false_iff_not]; omega
    clear c_id
    go_enter Tryz.func109, Tryz.ntmps109
    go_upto_region 1 with (fail)
    rw [HW0.out]
    go_wp2_with (first
      | (go_at_call 138; (with_reducible refine (HON.out _).mono ?_); rintro r w1 ⟨rfl, hb1⟩; have hbA := bta hb1 (Nat.le_refl _) (.cells #[.int .i64 1, .int .i64 id, .slice va ln vc, .int .i64 0, .int .i64 0, .int .i64 0, .int .i64 0] 124))
      | (go_at_call 139; (with_reducible refine (HEQ.out _ hbA).mono ?_); rintro r w2 ⟨rfl, hb2⟩; have hbB := bt hbA hb2 (Nat.le_refl _); have x0 : w2.cell? ⟨w1.heap.size, 0, none⟩ = some (.int .i64 1) := hpCell (hpKeep (hpNew w1 (.cells #[.int .i64 1, .int .i64 id, .slice va ln vc, .int .i64 0, .int .i64 0, .int .i64 0, .int .i64 0] 124)) hb2) 0; have x1 : w2.cell? ⟨w1.heap.size, 1, none⟩ = some (.int .i64 id) := hpCell (hpKeep (hpNew w1 (.cells #[.int .i64 1, .int .i64 id, .slice va ln vc, .int .i64 0, .int .i64 0, .int .i64 0, .int .i64 0] 124)) hb2) 1; have x2 : w2.cell? ⟨w1.heap.size, 2, none⟩ = some (.slice va ln vc) := hpCell (hpKeep (hpNew w1 (.cells #[.int .i64 1, .int .i64 id, .slice va ln vc, .int .i64 0, .int .i64 0, .int .i64 0, .int .i64 0] 124)) hb2) 2; have x3 : w2.cell? ⟨w1.heap.size, 3, none⟩ = some (.int .i64 0) := hpCell (hpKeep (hpNew w1 (.cells #[.int .i64 1, .int .i64 id, .slice va ln vc, .int .i64 0, .int .i64 0, .int .i64 0, .int .i64 0] 124)) hb2) 3; have x4 : w2.cell? ⟨w1.heap.size, 4, none⟩ = some (.int .i64 0) := hpCell (hpKeep (hpNew w1 (.cells #[.int .i64 1, .int .i64 id, .slice va ln vc, .int .i64 0, .int .i64 0, .int .i64 0, .int .i64 0] 124)) hb2) 4; have x5 : w2.cell? ⟨w1.heap.size, 5, none⟩ = some (.int .i64 0) := hpCell (hpKeep (hpNew w1 (.cells #[.int .i64 1, .int .i64 id, .slice va ln vc, .int .i64 0, .int .i64 0, .int .i64 0, .int .i64 0] 124)) hb2) 5; have x6 : w2.cell? ⟨w1.heap.size, 6, none⟩ = some (.int .i64 0) := hpCell (hpKeep (hpNew w1 (.cells #[.int .i64 1, .int .i64 id, .slice va ln vc, .int .i64 0, .int .i64 0, .int .i64 0, .int .i64 0] 124)) hb2) 6)
      | (go_at_call 140; (with_reducible refine (HTI.out _ _ _ ht).mono ?_); rintro r w3 ⟨rfl, hb3⟩; have hbC := bt hbB hb3 (Nat.le_refl _))
      | (go_at_call 108; (with_reducible refine (HWI.out _ _ _ _ _ hi).mono ?_); rintro r w3 ⟨rfl, hb3⟩; have hbC := bt hbB hb3 (Nat.le_refl _))
      | (go_at_call 108; (with_reducible refine (HWI.out _ _ _ _ _ hl).mono ?_); rintro r w4 ⟨rfl, hb4⟩; have hbD := bt (by first | exact hbC | exact hbB) hb4 (Nat.le_refl _)))
    go_ret
    refine ⟨rfl, ?_⟩
    first
      | exact bt HB0.out hbD (Nat.le_refl _)
      | exact bt HB0.out hbC (Nat.le_refl _)
      | exact bt HB0.out hbB (Nat.le_refl _)
      | exact bt HB0.out hbA (Nat.le_refl _)
  obtain ⟨BA, hi⟩ : ∃ B, (decide ((0 : Int) ≤ id) && decide (id ≤ 255)) = B := ⟨_, rfl⟩
  obtain rfl : true = BA := by rw [← hi, decide_eq_true (by omega), decide_eq_true (by omega)]; rfl
  by_cases c_le : (ln : Int) ≤ 244
  rotate_left
  · have hv := HF.out (by unfold CdP; omega)
    subst hv
    clear HF HT
    have g_le : decide ((ln : Int) ≤ 244) = false := by rw [decide_eq_false_iff_not]; omega
    have k_le : decide (ln ≤ 244) = false := by rw [decide_eq_false_iff_not]; omega
    clear c_le
    go_enter Tryz.func109, Tryz.ntmps109
    go_upto_region 1 with (fail)
    rw [HW0.out]
    go_wp2_with (first
      | (go_at_call 138; (with_reducible refine (HON.out _).mono ?_); rintro r w1 ⟨rfl, hb1⟩; have hbA := bta hb1 (Nat.le_refl _) (.cells #[.int .i64 1, .int .i64 id, .slice va ln vc, .int .i64 0, .int .i64 0, .int .i64 0, .int .i64 0] 124))
      | (go_at_call 139; (with_reducible refine (HEQ.out _ hbA).mono ?_); rintro r w2 ⟨rfl, hb2⟩; have hbB := bt hbA hb2 (Nat.le_refl _); have x0 : w2.cell? ⟨w1.heap.size, 0, none⟩ = some (.int .i64 1) := hpCell (hpKeep (hpNew w1 (.cells #[.int .i64 1, .int .i64 id, .slice va ln vc, .int .i64 0, .int .i64 0, .int .i64 0, .int .i64 0] 124)) hb2) 0; have x1 : w2.cell? ⟨w1.heap.size, 1, none⟩ = some (.int .i64 id) := hpCell (hpKeep (hpNew w1 (.cells #[.int .i64 1, .int .i64 id, .slice va ln vc, .int .i64 0, .int .i64 0, .int .i64 0, .int .i64 0] 124)) hb2) 1; have x2 : w2.cell? ⟨w1.heap.size, 2, none⟩ = some (.slice va ln vc) := hpCell (hpKeep (hpNew w1 (.cells #[.int .i64 1, .int .i64 id, .slice va ln vc, .int .i64 0, .int .i64 0, .int .i64 0, .int .i64 0] 124)) hb2) 2; have x3 : w2.cell? ⟨w1.heap.size, 3, none⟩ = some (.int .i64 0) := hpCell (hpKeep (hpNew w1 (.cells #[.int .i64 1, .int .i64 id, .slice va ln vc, .int .i64 0, .int .i64 0, .int .i64 0, .int .i64 0] 124)) hb2) 3; have x4 : w2.cell? ⟨w1.heap.size, 4, none⟩ = some (.int .i64 0) := hpCell (hpKeep (hpNew w1 (.cells #[.int .i64 1, .int .i64 id, .slice va ln vc, .int .i64 0, .int .i64 0, .int .i64 0, .int .i64 0] 124)) hb2) 4; have x5 : w2.cell? ⟨w1.heap.size, 5, none⟩ = some (.int .i64 0) := hpCell (hpKeep (hpNew w1 (.cells #[.int .i64 1, .int .i64 id, .slice va ln vc, .int .i64 0, .int .i64 0, .int .i64 0, .int .i64 0] 124)) hb2) 5; have x6 : w2.cell? ⟨w1.heap.size, 6, none⟩ = some (.int .i64 0) := hpCell (hpKeep (hpNew w1 (.cells #[.int .i64 1, .int .i64 id, .slice va ln vc, .int .i64 0, .int .i64 0, .int .i64 0, .int .i64 0] 124)) hb2) 6)
      | (go_at_call 140; (with_reducible refine (HTI.out _ _ _ ht).mono ?_); rintro r w3 ⟨rfl, hb3⟩; have hbC := bt hbB hb3 (Nat.le_refl _))
      | (go_at_call 108; (with_reducible refine (HWI.out _ _ _ _ _ hi).mono ?_); rintro r w3 ⟨rfl, hb3⟩; have hbC := bt hbB hb3 (Nat.le_refl _))
      | (go_at_call 108; (with_reducible refine (HWI.out _ _ _ _ _ hl).mono ?_); rintro r w4 ⟨rfl, hb4⟩; have hbD := bt (by first | exact hbC | exact hbB) hb4 (Nat.le_refl _)))
    go_ret
    refine ⟨rfl, ?_⟩
    first
      | exact bt HB0.out hbD (Nat.le_refl _)
      | exact bt HB0.out hbC (Nat.le_refl _)
      | exact bt HB0.out hbB (Nat.le_refl _)
      | exact bt HB0.out hbA (Nat.le_refl _)
  have g_le : decide ((ln : Int) ≤ 244) = true := by rw [decide_eq_true_eq]; omega
  have k_le : decide (ln ≤ 244) = true := by rw [decide_eq_true_eq]; omega
  have hv := HT.out (by unfold CdP; omega)
  subst hv
  clear HF HT
  go_enter Tryz.func109, Tryz.ntmps109
  go_upto_region 1 with (fail)
  rw [HW0.out]
  go_wp2_with (first
    | (go_at_call 138; (with_reducible refine (HON.out _).mono ?_); rintro r w1 ⟨rfl, hb1⟩; have hbA := bta hb1 (Nat.le_refl _) (.cells #[.int .i64 1, .int .i64 id, .slice va ln vc, .int .i64 0, .int .i64 0, .int .i64 0, .int .i64 0] 124))
    | (go_at_call 139; (with_reducible refine (HEQ.out _ hbA).mono ?_); rintro r w2 ⟨rfl, hb2⟩; have hbB := bt hbA hb2 (Nat.le_refl _); have x0 : w2.cell? ⟨w1.heap.size, 0, none⟩ = some (.int .i64 1) := hpCell (hpKeep (hpNew w1 (.cells #[.int .i64 1, .int .i64 id, .slice va ln vc, .int .i64 0, .int .i64 0, .int .i64 0, .int .i64 0] 124)) hb2) 0; have x1 : w2.cell? ⟨w1.heap.size, 1, none⟩ = some (.int .i64 id) := hpCell (hpKeep (hpNew w1 (.cells #[.int .i64 1, .int .i64 id, .slice va ln vc, .int .i64 0, .int .i64 0, .int .i64 0, .int .i64 0] 124)) hb2) 1; have x2 : w2.cell? ⟨w1.heap.size, 2, none⟩ = some (.slice va ln vc) := hpCell (hpKeep (hpNew w1 (.cells #[.int .i64 1, .int .i64 id, .slice va ln vc, .int .i64 0, .int .i64 0, .int .i64 0, .int .i64 0] 124)) hb2) 2; have x3 : w2.cell? ⟨w1.heap.size, 3, none⟩ = some (.int .i64 0) := hpCell (hpKeep (hpNew w1 (.cells #[.int .i64 1, .int .i64 id, .slice va ln vc, .int .i64 0, .int .i64 0, .int .i64 0, .int .i64 0] 124)) hb2) 3; have x4 : w2.cell? ⟨w1.heap.size, 4, none⟩ = some (.int .i64 0) := hpCell (hpKeep (hpNew w1 (.cells #[.int .i64 1, .int .i64 id, .slice va ln vc, .int .i64 0, .int .i64 0, .int .i64 0, .int .i64 0] 124)) hb2) 4; have x5 : w2.cell? ⟨w1.heap.size, 5, none⟩ = some (.int .i64 0) := hpCell (hpKeep (hpNew w1 (.cells #[.int .i64 1, .int .i64 id, .slice va ln vc, .int .i64 0, .int .i64 0, .int .i64 0, .int .i64 0] 124)) hb2) 5; have x6 : w2.cell? ⟨w1.heap.size, 6, none⟩ = some (.int .i64 0) := hpCell (hpKeep (hpNew w1 (.cells #[.int .i64 1, .int .i64 id, .slice va ln vc, .int .i64 0, .int .i64 0, .int .i64 0, .int .i64 0] 124)) hb2) 6)
    | (go_at_call 140; (with_reducible refine (HTI.out _ _ _ ht).mono ?_); rintro r w3 ⟨rfl, hb3⟩; have hbC := bt hbB hb3 (Nat.le_refl _))
    | (go_at_call 108; (with_reducible refine (HWI.out _ _ _ _ _ hi).mono ?_); rintro r w3 ⟨rfl, hb3⟩; have hbC := bt hbB hb3 (Nat.le_refl _))
    | (go_at_call 108; (with_reducible refine (HWI.out _ _ _ _ _ hl).mono ?_); rintro r w4 ⟨rfl, hb4⟩; have hbD := bt (by first | exact hbC | exact hbB) hb4 (Nat.le_refl _)))
  go_ret
  refine ⟨rfl, ?_⟩
  first
    | exact bt HB0.out hbD (Nat.le_refl _)
    | exact bt HB0.out hbC (Nat.le_refl _)
    | exact bt HB0.out hbB (Nat.le_refl _)
    | exact bt HB0.out hbA (Nat.le_refl _)

set_option maxRecDepth 100000 in
set_option maxHeartbeats 12800000 in
theorem pcond_b (id tab f cnt n : Int) (va : Option Addr) (ln vc : Nat) (val : List UInt8) (w : World) (hval : Bs w (.slice va ln vc) val) (hln : val.length = ln) (hm : ln ≤ 9223372036854775807) (V : Bool) (hV : Hid (V = true ↔ CdP 2 id ln tab f cnt n)) :
    Calls Tryz.prog 109 #[.agg #[.int .i64 2, .int .i64 id, .slice va ln vc, .int .i64 tab, .int .i64 f, .int .i64 cnt, .int .i64 n]] w (BoolPost w V) := by
  have HF : Hid (¬ CdP 2 id ln tab f cnt n → V = false) := fun h => by
    cases e : V with
    | false => rfl
    | true => exact absurd (hV.out.1 e) h
  have HT : Hid (CdP 2 id ln tab f cnt n → V = true) := hV.out.2
  obtain ⟨W0, hW0⟩ : ∃ W, w.alloc (.cells #[.int .i64 2, .int .i64 id, .slice va ln vc, .int .i64 tab, .int .i64 f, .int .i64 cnt, .int .i64 n] 124) = W := ⟨_, rfl⟩
  have hb0 : Below w.heap.size w W0 := by rw [← hW0]; exact bal' w _
  have p0 : W0.heap[w.heap.size]? = some (.cells #[.int .i64 2, .int .i64 id, .slice va ln vc, .int .i64 tab, .int .i64 f, .int .i64 cnt, .int .i64 n] 124) := by rw [← hW0]; exact hpNew w _
  have y0 : ∀ X, Below W0.heap.size W0 X → X.cell? ⟨w.heap.size, 0, none⟩ = some (.int .i64 2) := fun X hX => hpCell (hpKeep p0 hX) 0
  have y1 : ∀ X, Below W0.heap.size W0 X → X.cell? ⟨w.heap.size, 1, none⟩ = some (.int .i64 id) := fun X hX => hpCell (hpKeep p0 hX) 1
  have y2 : ∀ X, Below W0.heap.size W0 X → X.cell? ⟨w.heap.size, 2, none⟩ = some (.slice va ln vc) := fun X hX => hpCell (hpKeep p0 hX) 2
  have y3 : ∀ X, Below W0.heap.size W0 X → X.cell? ⟨w.heap.size, 3, none⟩ = some (.int .i64 tab) := fun X hX => hpCell (hpKeep p0 hX) 3
  have y4 : ∀ X, Below W0.heap.size W0 X → X.cell? ⟨w.heap.size, 4, none⟩ = some (.int .i64 f) := fun X hX => hpCell (hpKeep p0 hX) 4
  have y5 : ∀ X, Below W0.heap.size W0 X → X.cell? ⟨w.heap.size, 5, none⟩ = some (.int .i64 cnt) := fun X hX => hpCell (hpKeep p0 hX) 5
  have y6 : ∀ X, Below W0.heap.size W0 X → X.cell? ⟨w.heap.size, 6, none⟩ = some (.int .i64 n) := fun X hX => hpCell (hpKeep p0 hX) 6
  have HON : Hid (∀ X, Calls Tryz.prog 138 #[.agg #[.int .i64 2, .int .i64 id, .slice va ln vc, .int .i64 tab, .int .i64 f, .int .i64 cnt, .int .i64 n]] X fun r w' => r = .returned (.agg #[.int .i64 2, .int .i64 id, .slice va ln vc, .int .i64 0, .int .i64 0, .int .i64 0, .int .i64 0]) ∧ Below X.heap.size X w') := fun X => only_b id tab f cnt n va ln vc X
  obtain ⟨E, hE⟩ : ∃ E, decide (val = val) = E := ⟨_, rfl⟩
  have HEQ : Hid (∀ X, Below W0.heap.size W0 X → Calls Tryz.prog 139 #[.slice va ln vc, .slice va ln vc] X (BoolPost X E)) := fun X hX => bequal_any _ _ val val X (hval.keep (bt hb0 hX (Nat.le_refl _))) (hval.keep (bt hb0 hX (Nat.le_refl _))) E hE
  obtain rfl : true = E := by rw [← hE]; simp
  have HW0 := hid hW0
  have HB0 := hid hb0
  have r0 : Below W0.heap.size W0 W0 := Below.refl _ _
  have HWI : Hid (∀ x a b X B, (decide (a ≤ x) && decide (x ≤ b)) = B → Calls Tryz.prog 108 #[.int .i64 x, .int .i64 a, .int .i64 b] X (BoolPost X B)) := fun x a b X B h => within_any x a b X B h
  have HTI : Hid (∀ x X B, (decide (1 ≤ x) && decide (x ≤ 4)) = B → Calls Tryz.prog 140 #[.int .i64 x] X (BoolPost X B)) := fun x X B h => istab_any x X B h
  clear hW0 hb0 p0 hE hval hV
  by_cases c_tab : tab = 0
  rotate_left
  · have hv := HF.out (by unfold CdP; omega)
    subst hv
    clear HF HT
    have p_tab : (0 != tab) = true := by rw [bne_iff_ne]; omega
    have q_tab : (tab != 0) = true := by rw [bne_iff_ne]; omega
    have r_tab : (0 == tab) = false := by rw [beq_eq_false_iff_ne]; omega
    have s_tab : (tab == 0) = false := by rw [beq_eq_false_iff_ne]; omega
    clear c_tab
    go_enter Tryz.func109, Tryz.ntmps109
    go_upto_region 1 with (fail)
    rw [HW0.out]
    go_wp2_with (first
      | (go_at_call 138; (with_reducible refine (HON.out _).mono ?_); rintro r w1 ⟨rfl, hb1⟩; have hbA := bta hb1 (Nat.le_refl _) (.cells #[.int .i64 2, .int .i64 id, .slice va ln vc, .int .i64 0, .int .i64 0, .int .i64 0, .int .i64 0] 124))
      | (go_at_call 139; (with_reducible refine (HEQ.out _ hbA).mono ?_); rintro r w2 ⟨rfl, hb2⟩; have hbB := bt hbA hb2 (Nat.le_refl _); have x0 : w2.cell? ⟨w1.heap.size, 0, none⟩ = some (.int .i64 2) := hpCell (hpKeep (hpNew w1 (.cells #[.int .i64 2, .int .i64 id, .slice va ln vc, .int .i64 0, .int .i64 0, .int .i64 0, .int .i64 0] 124)) hb2) 0; have x1 : w2.cell? ⟨w1.heap.size, 1, none⟩ = some (.int .i64 id) := hpCell (hpKeep (hpNew w1 (.cells #[.int .i64 2, .int .i64 id, .slice va ln vc, .int .i64 0, .int .i64 0, .int .i64 0, .int .i64 0] 124)) hb2) 1; have x2 : w2.cell? ⟨w1.heap.size, 2, none⟩ = some (.slice va ln vc) := hpCell (hpKeep (hpNew w1 (.cells #[.int .i64 2, .int .i64 id, .slice va ln vc, .int .i64 0, .int .i64 0, .int .i64 0, .int .i64 0] 124)) hb2) 2; have x3 : w2.cell? ⟨w1.heap.size, 3, none⟩ = some (.int .i64 0) := hpCell (hpKeep (hpNew w1 (.cells #[.int .i64 2, .int .i64 id, .slice va ln vc, .int .i64 0, .int .i64 0, .int .i64 0, .int .i64 0] 124)) hb2) 3; have x4 : w2.cell? ⟨w1.heap.size, 4, none⟩ = some (.int .i64 0) := hpCell (hpKeep (hpNew w1 (.cells #[.int .i64 2, .int .i64 id, .slice va ln vc, .int .i64 0, .int .i64 0, .int .i64 0, .int .i64 0] 124)) hb2) 4; have x5 : w2.cell? ⟨w1.heap.size, 5, none⟩ = some (.int .i64 0) := hpCell (hpKeep (hpNew w1 (.cells #[.int .i64 2, .int .i64 id, .slice va ln vc, .int .i64 0, .int .i64 0, .int .i64 0, .int .i64 0] 124)) hb2) 5; have x6 : w2.cell? ⟨w1.heap.size, 6, none⟩ = some (.int .i64 0) := hpCell (hpKeep (hpNew w1 (.cells #[.int .i64 2, .int .i64 id, .slice va ln vc, .int .i64 0, .int .i64 0, .int .i64 0, .int .i64 0] 124)) hb2) 6)
      | (go_at_call 140; (with_reducible refine (HTI.out _ _ _ ht).mono ?_); rintro r w3 ⟨rfl, hb3⟩; have hbC := bt hbB hb3 (Nat.le_refl _))
      | (go_at_call 108; (with_reducible refine (HWI.out _ _ _ _ _ hi).mono ?_); rintro r w3 ⟨rfl, hb3⟩; have hbC := bt hbB hb3 (Nat.le_refl _))
      | (go_at_call 108; (with_reducible refine (HWI.out _ _ _ _ _ hl).mono ?_); rintro r w4 ⟨rfl, hb4⟩; have hbD := bt (by first | exact hbC | exact hbB) hb4 (Nat.le_refl _)))
    go_ret
    refine ⟨rfl, ?_⟩
    first
      | exact bt HB0.out hbD (Nat.le_refl _)
      | exact bt HB0.out hbC (Nat.le_refl _)
      | exact bt HB0.out hbB (Nat.le_refl _)
      | exact bt HB0.out hbA (Nat.le_refl _)
  subst c_tab
  by_cases c_f : f = 0
  rotate_left
  · have hv := HF.out (by unfold CdP; omega)
    subst hv
    clear HF HT
    have p_f : (0 != f) = true := by rw [bne_iff_ne]; omega
    have q_f : (f != 0) = true := by rw [bne_iff_ne]; omega
    have r_f : (0 == f) = false := by rw [beq_eq_false_iff_ne]; omega
    have s_f : (f == 0) = false := by rw [beq_eq_false_iff_ne]; omega
    clear c_f
    go_enter Tryz.func109, Tryz.ntmps109
    go_upto_region 1 with (fail)
    rw [HW0.out]
    go_wp2_with (first
      | (go_at_call 138; (with_reducible refine (HON.out _).mono ?_); rintro r w1 ⟨rfl, hb1⟩; have hbA := bta hb1 (Nat.le_refl _) (.cells #[.int .i64 2, .int .i64 id, .slice va ln vc, .int .i64 0, .int .i64 0, .int .i64 0, .int .i64 0] 124))
      | (go_at_call 139; (with_reducible refine (HEQ.out _ hbA).mono ?_); rintro r w2 ⟨rfl, hb2⟩; have hbB := bt hbA hb2 (Nat.le_refl _); have x0 : w2.cell? ⟨w1.heap.size, 0, none⟩ = some (.int .i64 2) := hpCell (hpKeep (hpNew w1 (.cells #[.int .i64 2, .int .i64 id, .slice va ln vc, .int .i64 0, .int .i64 0, .int .i64 0, .int .i64 0] 124)) hb2) 0; have x1 : w2.cell? ⟨w1.heap.size, 1, none⟩ = some (.int .i64 id) := hpCell (hpKeep (hpNew w1 (.cells #[.int .i64 2, .int .i64 id, .slice va ln vc, .int .i64 0, .int .i64 0, .int .i64 0, .int .i64 0] 124)) hb2) 1; have x2 : w2.cell? ⟨w1.heap.size, 2, none⟩ = some (.slice va ln vc) := hpCell (hpKeep (hpNew w1 (.cells #[.int .i64 2, .int .i64 id, .slice va ln vc, .int .i64 0, .int .i64 0, .int .i64 0, .int .i64 0] 124)) hb2) 2; have x3 : w2.cell? ⟨w1.heap.size, 3, none⟩ = some (.int .i64 0) := hpCell (hpKeep (hpNew w1 (.cells #[.int .i64 2, .int .i64 id, .slice va ln vc, .int .i64 0, .int .i64 0, .int .i64 0, .int .i64 0] 124)) hb2) 3; have x4 : w2.cell? ⟨w1.heap.size, 4, none⟩ = some (.int .i64 0) := hpCell (hpKeep (hpNew w1 (.cells #[.int .i64 2, .int .i64 id, .slice va ln vc, .int .i64 0, .int .i64 0, .int .i64 0, .int .i64 0] 124)) hb2) 4; have x5 : w2.cell? ⟨w1.heap.size, 5, none⟩ = some (.int .i64 0) := hpCell (hpKeep (hpNew w1 (.cells #[.int .i64 2, .int .i64 id, .slice va ln vc, .int .i64 0, .int .i64 0, .int .i64 0, .int .i64 0] 124)) hb2) 5; have x6 : w2.cell? ⟨w1.heap.size, 6, none⟩ = some (.int .i64 0) := hpCell (hpKeep (hpNew w1 (.cells #[.int .i64 2, .int .i64 id, .slice va ln vc, .int .i64 0, .int .i64 0, .int .i64 0, .int .i64 0] 124)) hb2) 6)
      | (go_at_call 140; (with_reducible refine (HTI.out _ _ _ ht).mono ?_); rintro r w3 ⟨rfl, hb3⟩; have hbC := bt hbB hb3 (Nat.le_refl _))
      | (go_at_call 108; (with_reducible refine (HWI.out _ _ _ _ _ hi).mono ?_); rintro r w3 ⟨rfl, hb3⟩; have hbC := bt hbB hb3 (Nat.le_refl _))
      | (go_at_call 108; (with_reducible refine (HWI.out _ _ _ _ _ hl).mono ?_); rintro r w4 ⟨rfl, hb4⟩; have hbD := bt (by first | exact hbC | exact hbB) hb4 (Nat.le_refl _)))
    go_ret
    refine ⟨rfl, ?_⟩
    first
      | exact bt HB0.out hbD (Nat.le_refl _)
      | exact bt HB0.out hbC (Nat.le_refl _)
      | exact bt HB0.out hbB (Nat.le_refl _)
      | exact bt HB0.out hbA (Nat.le_refl _)
  subst c_f
  by_cases c_cnt : cnt = 0
  rotate_left
  · have hv := HF.out (by unfold CdP; omega)
    subst hv
    clear HF HT
    have p_cnt : (0 != cnt) = true := by rw [bne_iff_ne]; omega
    have q_cnt : (cnt != 0) = true := by rw [bne_iff_ne]; omega
    have r_cnt : (0 == cnt) = false := by rw [beq_eq_false_iff_ne]; omega
    have s_cnt : (cnt == 0) = false := by rw [beq_eq_false_iff_ne]; omega
    clear c_cnt
    go_enter Tryz.func109, Tryz.ntmps109
    go_upto_region 1 with (fail)
    rw [HW0.out]
    go_wp2_with (first
      | (go_at_call 138; (with_reducible refine (HON.out _).mono ?_); rintro r w1 ⟨rfl, hb1⟩; have hbA := bta hb1 (Nat.le_refl _) (.cells #[.int .i64 2, .int .i64 id, .slice va ln vc, .int .i64 0, .int .i64 0, .int .i64 0, .int .i64 0] 124))
      | (go_at_call 139; (with_reducible refine (HEQ.out _ hbA).mono ?_); rintro r w2 ⟨rfl, hb2⟩; have hbB := bt hbA hb2 (Nat.le_refl _); have x0 : w2.cell? ⟨w1.heap.size, 0, none⟩ = some (.int .i64 2) := hpCell (hpKeep (hpNew w1 (.cells #[.int .i64 2, .int .i64 id, .slice va ln vc, .int .i64 0, .int .i64 0, .int .i64 0, .int .i64 0] 124)) hb2) 0; have x1 : w2.cell? ⟨w1.heap.size, 1, none⟩ = some (.int .i64 id) := hpCell (hpKeep (hpNew w1 (.cells #[.int .i64 2, .int .i64 id, .slice va ln vc, .int .i64 0, .int .i64 0, .int .i64 0, .int .i64 0] 124)) hb2) 1; have x2 : w2.cell? ⟨w1.heap.size, 2, none⟩ = some (.slice va ln vc) := hpCell (hpKeep (hpNew w1 (.cells #[.int .i64 2, .int .i64 id, .slice va ln vc, .int .i64 0, .int .i64 0, .int .i64 0, .int .i64 0] 124)) hb2) 2; have x3 : w2.cell? ⟨w1.heap.size, 3, none⟩ = some (.int .i64 0) := hpCell (hpKeep (hpNew w1 (.cells #[.int .i64 2, .int .i64 id, .slice va ln vc, .int .i64 0, .int .i64 0, .int .i64 0, .int .i64 0] 124)) hb2) 3; have x4 : w2.cell? ⟨w1.heap.size, 4, none⟩ = some (.int .i64 0) := hpCell (hpKeep (hpNew w1 (.cells #[.int .i64 2, .int .i64 id, .slice va ln vc, .int .i64 0, .int .i64 0, .int .i64 0, .int .i64 0] 124)) hb2) 4; have x5 : w2.cell? ⟨w1.heap.size, 5, none⟩ = some (.int .i64 0) := hpCell (hpKeep (hpNew w1 (.cells #[.int .i64 2, .int .i64 id, .slice va ln vc, .int .i64 0, .int .i64 0, .int .i64 0, .int .i64 0] 124)) hb2) 5; have x6 : w2.cell? ⟨w1.heap.size, 6, none⟩ = some (.int .i64 0) := hpCell (hpKeep (hpNew w1 (.cells #[.int .i64 2, .int .i64 id, .slice va ln vc, .int .i64 0, .int .i64 0, .int .i64 0, .int .i64 0] 124)) hb2) 6)
      | (go_at_call 140; (with_reducible refine (HTI.out _ _ _ ht).mono ?_); rintro r w3 ⟨rfl, hb3⟩; have hbC := bt hbB hb3 (Nat.le_refl _))
      | (go_at_call 108; (with_reducible refine (HWI.out _ _ _ _ _ hi).mono ?_); rintro r w3 ⟨rfl, hb3⟩; have hbC := bt hbB hb3 (Nat.le_refl _))
      | (go_at_call 108; (with_reducible refine (HWI.out _ _ _ _ _ hl).mono ?_); rintro r w4 ⟨rfl, hb4⟩; have hbD := bt (by first | exact hbC | exact hbB) hb4 (Nat.le_refl _)))
    go_ret
    refine ⟨rfl, ?_⟩
    first
      | exact bt HB0.out hbD (Nat.le_refl _)
      | exact bt HB0.out hbC (Nat.le_refl _)
      | exact bt HB0.out hbB (Nat.le_refl _)
      | exact bt HB0.out hbA (Nat.le_refl _)
  subst c_cnt
  by_cases c_n : n = 0
  rotate_left
  · have hv := HF.out (by unfold CdP; omega)
    subst hv
    clear HF HT
    have p_n : (0 != n) = true := by rw [bne_iff_ne]; omega
    have q_n : (n != 0) = true := by rw [bne_iff_ne]; omega
    have r_n : (0 == n) = false := by rw [beq_eq_false_iff_ne]; omega
    have s_n : (n == 0) = false := by rw [beq_eq_false_iff_ne]; omega
    clear c_n
    go_enter Tryz.func109, Tryz.ntmps109
    go_upto_region 1 with (fail)
    rw [HW0.out]
    go_wp2_with (first
      | (go_at_call 138; (with_reducible refine (HON.out _).mono ?_); rintro r w1 ⟨rfl, hb1⟩; have hbA := bta hb1 (Nat.le_refl _) (.cells #[.int .i64 2, .int .i64 id, .slice va ln vc, .int .i64 0, .int .i64 0, .int .i64 0, .int .i64 0] 124))
      | (go_at_call 139; (with_reducible refine (HEQ.out _ hbA).mono ?_); rintro r w2 ⟨rfl, hb2⟩; have hbB := bt hbA hb2 (Nat.le_refl _); have x0 : w2.cell? ⟨w1.heap.size, 0, none⟩ = some (.int .i64 2) := hpCell (hpKeep (hpNew w1 (.cells #[.int .i64 2, .int .i64 id, .slice va ln vc, .int .i64 0, .int .i64 0, .int .i64 0, .int .i64 0] 124)) hb2) 0; have x1 : w2.cell? ⟨w1.heap.size, 1, none⟩ = some (.int .i64 id) := hpCell (hpKeep (hpNew w1 (.cells #[.int .i64 2, .int .i64 id, .slice va ln vc, .int .i64 0, .int .i64 0, .int .i64 0, .int .i64 0] 124)) hb2) 1; have x2 : w2.cell? ⟨w1.heap.size, 2, none⟩ = some (.slice va ln vc) := hpCell (hpKeep (hpNew w1 (.cells #[.int .i64 2, .int .i64 id, .slice va ln vc, .int .i64 0, .int .i64 0, .int .i64 0, .int .i64 0] 124)) hb2) 2; have x3 : w2.cell? ⟨w1.heap.size, 3, none⟩ = some (.int .i64 0) := hpCell (hpKeep (hpNew w1 (.cells #[.int .i64 2, .int .i64 id, .slice va ln vc, .int .i64 0, .int .i64 0, .int .i64 0, .int .i64 0] 124)) hb2) 3; have x4 : w2.cell? ⟨w1.heap.size, 4, none⟩ = some (.int .i64 0) := hpCell (hpKeep (hpNew w1 (.cells #[.int .i64 2, .int .i64 id, .slice va ln vc, .int .i64 0, .int .i64 0, .int .i64 0, .int .i64 0] 124)) hb2) 4; have x5 : w2.cell? ⟨w1.heap.size, 5, none⟩ = some (.int .i64 0) := hpCell (hpKeep (hpNew w1 (.cells #[.int .i64 2, .int .i64 id, .slice va ln vc, .int .i64 0, .int .i64 0, .int .i64 0, .int .i64 0] 124)) hb2) 5; have x6 : w2.cell? ⟨w1.heap.size, 6, none⟩ = some (.int .i64 0) := hpCell (hpKeep (hpNew w1 (.cells #[.int .i64 2, .int .i64 id, .slice va ln vc, .int .i64 0, .int .i64 0, .int .i64 0, .int .i64 0] 124)) hb2) 6)
      | (go_at_call 140; (with_reducible refine (HTI.out _ _ _ ht).mono ?_); rintro r w3 ⟨rfl, hb3⟩; have hbC := bt hbB hb3 (Nat.le_refl _))
      | (go_at_call 108; (with_reducible refine (HWI.out _ _ _ _ _ hi).mono ?_); rintro r w3 ⟨rfl, hb3⟩; have hbC := bt hbB hb3 (Nat.le_refl _))
      | (go_at_call 108; (with_reducible refine (HWI.out _ _ _ _ _ hl).mono ?_); rintro r w4 ⟨rfl, hb4⟩; have hbD := bt (by first | exact hbC | exact hbB) hb4 (Nat.le_refl _)))
    go_ret
    refine ⟨rfl, ?_⟩
    first
      | exact bt HB0.out hbD (Nat.le_refl _)
      | exact bt HB0.out hbC (Nat.le_refl _)
      | exact bt HB0.out hbB (Nat.le_refl _)
      | exact bt HB0.out hbA (Nat.le_refl _)
  subst c_n
  by_cases c_id : (0 : Int) ≤ id ∧ id ≤ 255
  rotate_left
  · have hv := HF.out (by unfold CdP; omega)
    subst hv
    clear HF HT
    obtain ⟨BA, hi⟩ : ∃ B, (decide ((0 : Int) ≤ id) && decide (id ≤ 255)) = B := ⟨_, rfl⟩
    obtain rfl : false = BA := by rw [← hi]; rw [eq_comm, Bool.and_eq_false_iff, decide_eq_false_iff_not, decide_eq_false_iff_not]; omega
    clear c_id
    go_enter Tryz.func109, Tryz.ntmps109
    go_upto_region 1 with (fail)
    rw [HW0.out]
    go_wp2_with (first
      | (go_at_call 138; (with_reducible refine (HON.out _).mono ?_); rintro r w1 ⟨rfl, hb1⟩; have hbA := bta hb1 (Nat.le_refl _) (.cells #[.int .i64 2, .int .i64 id, .slice va ln vc, .int .i64 0, .int .i64 0, .int .i64 0, .int .i64 0] 124))
      | (go_at_call 139; (with_reducible refine (HEQ.out _ hbA).mono ?_); rintro r w2 ⟨rfl, hb2⟩; have hbB := bt hbA hb2 (Nat.le_refl _); have x0 : w2.cell? ⟨w1.heap.size, 0, none⟩ = some (.int .i64 2) := hpCell (hpKeep (hpNew w1 (.cells #[.int .i64 2, .int .i64 id, .slice va ln vc, .int .i64 0, .int .i64 0, .int .i64 0, .int .i64 0] 124)) hb2) 0; have x1 : w2.cell? ⟨w1.heap.size, 1, none⟩ = some (.int .i64 id) := hpCell (hpKeep (hpNew w1 (.cells #[.int .i64 2, .int .i64 id, .slice va ln vc, .int .i64 0, .int .i64 0, .int .i64 0, .int .i64 0] 124)) hb2) 1; have x2 : w2.cell? ⟨w1.heap.size, 2, none⟩ = some (.slice va ln vc) := hpCell (hpKeep (hpNew w1 (.cells #[.int .i64 2, .int .i64 id, .slice va ln vc, .int .i64 0, .int .i64 0, .int .i64 0, .int .i64 0] 124)) hb2) 2; have x3 : w2.cell? ⟨w1.heap.size, 3, none⟩ = some (.int .i64 0) := hpCell (hpKeep (hpNew w1 (.cells #[.int .i64 2, .int .i64 id, .slice va ln vc, .int .i64 0, .int .i64 0, .int .i64 0, .int .i64 0] 124)) hb2) 3; have x4 : w2.cell? ⟨w1.heap.size, 4, none⟩ = some (.int .i64 0) := hpCell (hpKeep (hpNew w1 (.cells #[.int .i64 2, .int .i64 id, .slice va ln vc, .int .i64 0, .int .i64 0, .int .i64 0, .int .i64 0] 124)) hb2) 4; have x5 : w2.cell? ⟨w1.heap.size, 5, none⟩ = some (.int .i64 0) := hpCell (hpKeep (hpNew w1 (.cells #[.int .i64 2, .int .i64 id, .slice va ln vc, .int .i64 0, .int .i64 0, .int .i64 0, .int .i64 0] 124)) hb2) 5; have x6 : w2.cell? ⟨w1.heap.size, 6, none⟩ = some (.int .i64 0) := hpCell (hpKeep (hpNew w1 (.cells #[.int .i64 2, .int .i64 id, .slice va ln vc, .int .i64 0, .int .i64 0, .int .i64 0, .int .i64 0] 124)) hb2) 6)
      | (go_at_call 140; (with_reducible refine (HTI.out _ _ _ ht).mono ?_); rintro r w3 ⟨rfl, hb3⟩; have hbC := bt hbB hb3 (Nat.le_refl _))
      | (go_at_call 108; (with_reducible refine (HWI.out _ _ _ _ _ hi).mono ?_); rintro r w3 ⟨rfl, hb3⟩; have hbC := bt hbB hb3 (Nat.le_refl _))
      | (go_at_call 108; (with_reducible refine (HWI.out _ _ _ _ _ hl).mono ?_); rintro r w4 ⟨rfl, hb4⟩; have hbD := bt (by first | exact hbC | exact hbB) hb4 (Nat.le_refl _)))
    go_ret
    refine ⟨rfl, ?_⟩
    first
      | exact bt HB0.out hbD (Nat.le_refl _)
      | exact bt HB0.out hbC (Nat.le_refl _)
      | exact bt HB0.out hbB (Nat.le_refl _)
      | exact bt HB0.out hbA (Nat.le_refl _)
  obtain ⟨BA, hi⟩ : ∃ B, (decide ((0 : Int) ≤ id) && decide (id ≤ 255)) = B := ⟨_, rfl⟩
  obtain rfl : true = BA := by rw [← hi, decide_eq_true (by omega), decide_eq_true (by omega)]; rfl
  by_cases c_le : (1 : Int) ≤ (ln : Int) ∧ (ln : Int) ≤ 244
  rotate_left
  · have hv := HF.out (by unfold CdP; omega)
    subst hv
    clear HF HT
    obtain ⟨BL, hl⟩ : ∃ B, (decide ((1 : Int) ≤ (ln : Int)) && decide ((ln : Int) ≤ 244)) = B := ⟨_, rfl⟩
    obtain rfl : false = BL := by rw [← hl]; rw [eq_comm, Bool.and_eq_false_iff, decide_eq_false_iff_not, decide_eq_false_iff_not]; omega
    clear c_le
    go_enter Tryz.func109, Tryz.ntmps109
    go_upto_region 1 with (fail)
    rw [HW0.out]
    go_wp2_with (first
      | (go_at_call 138; (with_reducible refine (HON.out _).mono ?_); rintro r w1 ⟨rfl, hb1⟩; have hbA := bta hb1 (Nat.le_refl _) (.cells #[.int .i64 2, .int .i64 id, .slice va ln vc, .int .i64 0, .int .i64 0, .int .i64 0, .int .i64 0] 124))
      | (go_at_call 139; (with_reducible refine (HEQ.out _ hbA).mono ?_); rintro r w2 ⟨rfl, hb2⟩; have hbB := bt hbA hb2 (Nat.le_refl _); have x0 : w2.cell? ⟨w1.heap.size, 0, none⟩ = some (.int .i64 2) := hpCell (hpKeep (hpNew w1 (.cells #[.int .i64 2, .int .i64 id, .slice va ln vc, .int .i64 0, .int .i64 0, .int .i64 0, .int .i64 0] 124)) hb2) 0; have x1 : w2.cell? ⟨w1.heap.size, 1, none⟩ = some (.int .i64 id) := hpCell (hpKeep (hpNew w1 (.cells #[.int .i64 2, .int .i64 id, .slice va ln vc, .int .i64 0, .int .i64 0, .int .i64 0, .int .i64 0] 124)) hb2) 1; have x2 : w2.cell? ⟨w1.heap.size, 2, none⟩ = some (.slice va ln vc) := hpCell (hpKeep (hpNew w1 (.cells #[.int .i64 2, .int .i64 id, .slice va ln vc, .int .i64 0, .int .i64 0, .int .i64 0, .int .i64 0] 124)) hb2) 2; have x3 : w2.cell? ⟨w1.heap.size, 3, none⟩ = some (.int .i64 0) := hpCell (hpKeep (hpNew w1 (.cells #[.int .i64 2, .int .i64 id, .slice va ln vc, .int .i64 0, .int .i64 0, .int .i64 0, .int .i64 0] 124)) hb2) 3; have x4 : w2.cell? ⟨w1.heap.size, 4, none⟩ = some (.int .i64 0) := hpCell (hpKeep (hpNew w1 (.cells #[.int .i64 2, .int .i64 id, .slice va ln vc, .int .i64 0, .int .i64 0, .int .i64 0, .int .i64 0] 124)) hb2) 4; have x5 : w2.cell? ⟨w1.heap.size, 5, none⟩ = some (.int .i64 0) := hpCell (hpKeep (hpNew w1 (.cells #[.int .i64 2, .int .i64 id, .slice va ln vc, .int .i64 0, .int .i64 0, .int .i64 0, .int .i64 0] 124)) hb2) 5; have x6 : w2.cell? ⟨w1.heap.size, 6, none⟩ = some (.int .i64 0) := hpCell (hpKeep (hpNew w1 (.cells #[.int .i64 2, .int .i64 id, .slice va ln vc, .int .i64 0, .int .i64 0, .int .i64 0, .int .i64 0] 124)) hb2) 6)
      | (go_at_call 140; (with_reducible refine (HTI.out _ _ _ ht).mono ?_); rintro r w3 ⟨rfl, hb3⟩; have hbC := bt hbB hb3 (Nat.le_refl _))
      | (go_at_call 108; (with_reducible refine (HWI.out _ _ _ _ _ hi).mono ?_); rintro r w3 ⟨rfl, hb3⟩; have hbC := bt hbB hb3 (Nat.le_refl _))
      | (go_at_call 108; (with_reducible refine (HWI.out _ _ _ _ _ hl).mono ?_); rintro r w4 ⟨rfl, hb4⟩; have hbD := bt (by first | exact hbC | exact hbB) hb4 (Nat.le_refl _)))
    go_ret
    refine ⟨rfl, ?_⟩
    first
      | exact bt HB0.out hbD (Nat.le_refl _)
      | exact bt HB0.out hbC (Nat.le_refl _)
      | exact bt HB0.out hbB (Nat.le_refl _)
      | exact bt HB0.out hbA (Nat.le_refl _)
  obtain ⟨BL, hl⟩ : ∃ B, (decide ((1 : Int) ≤ (ln : Int)) && decide ((ln : Int) ≤ 244)) = B := ⟨_, rfl⟩
  obtain rfl : true = BL := by rw [← hl, decide_eq_true (by omega), decide_eq_true (by omega)]; rfl
  have hv := HT.out (by unfold CdP; omega)
  subst hv
  clear HF HT
  go_enter Tryz.func109, Tryz.ntmps109
  go_upto_region 1 with (fail)
  rw [HW0.out]
  go_wp2_with (first
    | (go_at_call 138; (with_reducible refine (HON.out _).mono ?_); rintro r w1 ⟨rfl, hb1⟩; have hbA := bta hb1 (Nat.le_refl _) (.cells #[.int .i64 2, .int .i64 id, .slice va ln vc, .int .i64 0, .int .i64 0, .int .i64 0, .int .i64 0] 124))
    | (go_at_call 139; (with_reducible refine (HEQ.out _ hbA).mono ?_); rintro r w2 ⟨rfl, hb2⟩; have hbB := bt hbA hb2 (Nat.le_refl _); have x0 : w2.cell? ⟨w1.heap.size, 0, none⟩ = some (.int .i64 2) := hpCell (hpKeep (hpNew w1 (.cells #[.int .i64 2, .int .i64 id, .slice va ln vc, .int .i64 0, .int .i64 0, .int .i64 0, .int .i64 0] 124)) hb2) 0; have x1 : w2.cell? ⟨w1.heap.size, 1, none⟩ = some (.int .i64 id) := hpCell (hpKeep (hpNew w1 (.cells #[.int .i64 2, .int .i64 id, .slice va ln vc, .int .i64 0, .int .i64 0, .int .i64 0, .int .i64 0] 124)) hb2) 1; have x2 : w2.cell? ⟨w1.heap.size, 2, none⟩ = some (.slice va ln vc) := hpCell (hpKeep (hpNew w1 (.cells #[.int .i64 2, .int .i64 id, .slice va ln vc, .int .i64 0, .int .i64 0, .int .i64 0, .int .i64 0] 124)) hb2) 2; have x3 : w2.cell? ⟨w1.heap.size, 3, none⟩ = some (.int .i64 0) := hpCell (hpKeep (hpNew w1 (.cells #[.int .i64 2, .int .i64 id, .slice va ln vc, .int .i64 0, .int .i64 0, .int .i64 0, .int .i64 0] 124)) hb2) 3; have x4 : w2.cell? ⟨w1.heap.size, 4, none⟩ = some (.int .i64 0) := hpCell (hpKeep (hpNew w1 (.cells #[.int .i64 2, .int .i64 id, .slice va ln vc, .int .i64 0, .int .i64 0, .int .i64 0, .int .i64 0] 124)) hb2) 4; have x5 : w2.cell? ⟨w1.heap.size, 5, none⟩ = some (.int .i64 0) := hpCell (hpKeep (hpNew w1 (.cells #[.int .i64 2, .int .i64 id, .slice va ln vc, .int .i64 0, .int .i64 0, .int .i64 0, .int .i64 0] 124)) hb2) 5; have x6 : w2.cell? ⟨w1.heap.size, 6, none⟩ = some (.int .i64 0) := hpCell (hpKeep (hpNew w1 (.cells #[.int .i64 2, .int .i64 id, .slice va ln vc, .int .i64 0, .int .i64 0, .int .i64 0, .int .i64 0] 124)) hb2) 6)
    | (go_at_call 140; (with_reducible refine (HTI.out _ _ _ ht).mono ?_); rintro r w3 ⟨rfl, hb3⟩; have hbC := bt hbB hb3 (Nat.le_refl _))
    | (go_at_call 108; (with_reducible refine (HWI.out _ _ _ _ _ hi).mono ?_); rintro r w3 ⟨rfl, hb3⟩; have hbC := bt hbB hb3 (Nat.le_refl _))
    | (go_at_call 108; (with_reducible refine (HWI.out _ _ _ _ _ hl).mono ?_); rintro r w4 ⟨rfl, hb4⟩; have hbD := bt (by first | exact hbC | exact hbB) hb4 (Nat.le_refl _)))
  go_ret
  refine ⟨rfl, ?_⟩
  first
    | exact bt HB0.out hbD (Nat.le_refl _)
    | exact bt HB0.out hbC (Nat.le_refl _)
    | exact bt HB0.out hbB (Nat.le_refl _)
    | exact bt HB0.out hbA (Nat.le_refl _)

set_option maxRecDepth 100000 in
set_option maxHeartbeats 12800000 in
theorem pcond_c (id tab f cnt n : Int) (va : Option Addr) (ln vc : Nat) (val : List UInt8) (w : World) (hval : Bs w (.slice va ln vc) val) (hln : val.length = ln) (hm : ln ≤ 9223372036854775807) (V : Bool) (hV : Hid (V = true ↔ CdP 3 id ln tab f cnt n)) :
    Calls Tryz.prog 109 #[.agg #[.int .i64 3, .int .i64 id, .slice va ln vc, .int .i64 tab, .int .i64 f, .int .i64 cnt, .int .i64 n]] w (BoolPost w V) := by
  have HF : Hid (¬ CdP 3 id ln tab f cnt n → V = false) := fun h => by
    cases e : V with
    | false => rfl
    | true => exact absurd (hV.out.1 e) h
  have HT : Hid (CdP 3 id ln tab f cnt n → V = true) := hV.out.2
  obtain ⟨W0, hW0⟩ : ∃ W, w.alloc (.cells #[.int .i64 3, .int .i64 id, .slice va ln vc, .int .i64 tab, .int .i64 f, .int .i64 cnt, .int .i64 n] 124) = W := ⟨_, rfl⟩
  have hb0 : Below w.heap.size w W0 := by rw [← hW0]; exact bal' w _
  have p0 : W0.heap[w.heap.size]? = some (.cells #[.int .i64 3, .int .i64 id, .slice va ln vc, .int .i64 tab, .int .i64 f, .int .i64 cnt, .int .i64 n] 124) := by rw [← hW0]; exact hpNew w _
  have y0 : ∀ X, Below W0.heap.size W0 X → X.cell? ⟨w.heap.size, 0, none⟩ = some (.int .i64 3) := fun X hX => hpCell (hpKeep p0 hX) 0
  have y1 : ∀ X, Below W0.heap.size W0 X → X.cell? ⟨w.heap.size, 1, none⟩ = some (.int .i64 id) := fun X hX => hpCell (hpKeep p0 hX) 1
  have y2 : ∀ X, Below W0.heap.size W0 X → X.cell? ⟨w.heap.size, 2, none⟩ = some (.slice va ln vc) := fun X hX => hpCell (hpKeep p0 hX) 2
  have y3 : ∀ X, Below W0.heap.size W0 X → X.cell? ⟨w.heap.size, 3, none⟩ = some (.int .i64 tab) := fun X hX => hpCell (hpKeep p0 hX) 3
  have y4 : ∀ X, Below W0.heap.size W0 X → X.cell? ⟨w.heap.size, 4, none⟩ = some (.int .i64 f) := fun X hX => hpCell (hpKeep p0 hX) 4
  have y5 : ∀ X, Below W0.heap.size W0 X → X.cell? ⟨w.heap.size, 5, none⟩ = some (.int .i64 cnt) := fun X hX => hpCell (hpKeep p0 hX) 5
  have y6 : ∀ X, Below W0.heap.size W0 X → X.cell? ⟨w.heap.size, 6, none⟩ = some (.int .i64 n) := fun X hX => hpCell (hpKeep p0 hX) 6
  have HON : Hid (∀ X, Calls Tryz.prog 138 #[.agg #[.int .i64 3, .int .i64 id, .slice va ln vc, .int .i64 tab, .int .i64 f, .int .i64 cnt, .int .i64 n]] X fun r w' => r = .returned (.agg #[.int .i64 3, .int .i64 0, .slice va ln vc, .int .i64 0, .int .i64 0, .int .i64 0, .int .i64 0]) ∧ Below X.heap.size X w') := fun X => only_c id tab f cnt n va ln vc X
  obtain ⟨E, hE⟩ : ∃ E, decide (val = val) = E := ⟨_, rfl⟩
  have HEQ : Hid (∀ X, Below W0.heap.size W0 X → Calls Tryz.prog 139 #[.slice va ln vc, .slice va ln vc] X (BoolPost X E)) := fun X hX => bequal_any _ _ val val X (hval.keep (bt hb0 hX (Nat.le_refl _))) (hval.keep (bt hb0 hX (Nat.le_refl _))) E hE
  obtain rfl : true = E := by rw [← hE]; simp
  have HW0 := hid hW0
  have HB0 := hid hb0
  have r0 : Below W0.heap.size W0 W0 := Below.refl _ _
  have HWI : Hid (∀ x a b X B, (decide (a ≤ x) && decide (x ≤ b)) = B → Calls Tryz.prog 108 #[.int .i64 x, .int .i64 a, .int .i64 b] X (BoolPost X B)) := fun x a b X B h => within_any x a b X B h
  have HTI : Hid (∀ x X B, (decide (1 ≤ x) && decide (x ≤ 4)) = B → Calls Tryz.prog 140 #[.int .i64 x] X (BoolPost X B)) := fun x X B h => istab_any x X B h
  clear hW0 hb0 p0 hE hval hV
  by_cases c_id : id = 0
  rotate_left
  · have hv := HF.out (by unfold CdP; omega)
    subst hv
    clear HF HT
    have p_id : (0 != id) = true := by rw [bne_iff_ne]; omega
    have q_id : (id != 0) = true := by rw [bne_iff_ne]; omega
    have r_id : (0 == id) = false := by rw [beq_eq_false_iff_ne]; omega
    have s_id : (id == 0) = false := by rw [beq_eq_false_iff_ne]; omega
    clear c_id
    go_enter Tryz.func109, Tryz.ntmps109
    go_upto_region 1 with (fail)
    rw [HW0.out]
    go_wp2_with (first
      | (go_at_call 138; (with_reducible refine (HON.out _).mono ?_); rintro r w1 ⟨rfl, hb1⟩; have hbA := bta hb1 (Nat.le_refl _) (.cells #[.int .i64 3, .int .i64 0, .slice va ln vc, .int .i64 0, .int .i64 0, .int .i64 0, .int .i64 0] 124))
      | (go_at_call 139; (with_reducible refine (HEQ.out _ hbA).mono ?_); rintro r w2 ⟨rfl, hb2⟩; have hbB := bt hbA hb2 (Nat.le_refl _); have x0 : w2.cell? ⟨w1.heap.size, 0, none⟩ = some (.int .i64 3) := hpCell (hpKeep (hpNew w1 (.cells #[.int .i64 3, .int .i64 0, .slice va ln vc, .int .i64 0, .int .i64 0, .int .i64 0, .int .i64 0] 124)) hb2) 0; have x1 : w2.cell? ⟨w1.heap.size, 1, none⟩ = some (.int .i64 0) := hpCell (hpKeep (hpNew w1 (.cells #[.int .i64 3, .int .i64 0, .slice va ln vc, .int .i64 0, .int .i64 0, .int .i64 0, .int .i64 0] 124)) hb2) 1; have x2 : w2.cell? ⟨w1.heap.size, 2, none⟩ = some (.slice va ln vc) := hpCell (hpKeep (hpNew w1 (.cells #[.int .i64 3, .int .i64 0, .slice va ln vc, .int .i64 0, .int .i64 0, .int .i64 0, .int .i64 0] 124)) hb2) 2; have x3 : w2.cell? ⟨w1.heap.size, 3, none⟩ = some (.int .i64 0) := hpCell (hpKeep (hpNew w1 (.cells #[.int .i64 3, .int .i64 0, .slice va ln vc, .int .i64 0, .int .i64 0, .int .i64 0, .int .i64 0] 124)) hb2) 3; have x4 : w2.cell? ⟨w1.heap.size, 4, none⟩ = some (.int .i64 0) := hpCell (hpKeep (hpNew w1 (.cells #[.int .i64 3, .int .i64 0, .slice va ln vc, .int .i64 0, .int .i64 0, .int .i64 0, .int .i64 0] 124)) hb2) 4; have x5 : w2.cell? ⟨w1.heap.size, 5, none⟩ = some (.int .i64 0) := hpCell (hpKeep (hpNew w1 (.cells #[.int .i64 3, .int .i64 0, .slice va ln vc, .int .i64 0, .int .i64 0, .int .i64 0, .int .i64 0] 124)) hb2) 5; have x6 : w2.cell? ⟨w1.heap.size, 6, none⟩ = some (.int .i64 0) := hpCell (hpKeep (hpNew w1 (.cells #[.int .i64 3, .int .i64 0, .slice va ln vc, .int .i64 0, .int .i64 0, .int .i64 0, .int .i64 0] 124)) hb2) 6)
      | (go_at_call 140; (with_reducible refine (HTI.out _ _ _ ht).mono ?_); rintro r w3 ⟨rfl, hb3⟩; have hbC := bt hbB hb3 (Nat.le_refl _))
      | (go_at_call 108; (with_reducible refine (HWI.out _ _ _ _ _ hi).mono ?_); rintro r w3 ⟨rfl, hb3⟩; have hbC := bt hbB hb3 (Nat.le_refl _))
      | (go_at_call 108; (with_reducible refine (HWI.out _ _ _ _ _ hl).mono ?_); rintro r w4 ⟨rfl, hb4⟩; have hbD := bt (by first | exact hbC | exact hbB) hb4 (Nat.le_refl _)))
    go_ret
    refine ⟨rfl, ?_⟩
    first
      | exact bt HB0.out hbD (Nat.le_refl _)
      | exact bt HB0.out hbC (Nat.le_refl _)
      | exact bt HB0.out hbB (Nat.le_refl _)
      | exact bt HB0.out hbA (Nat.le_refl _)
  subst c_id
  by_cases c_tab : tab = 0
  rotate_left
  · have hv := HF.out (by unfold CdP; omega)
    subst hv
    clear HF HT
    have p_tab : (0 != tab) = true := by rw [bne_iff_ne]; omega
    have q_tab : (tab != 0) = true := by rw [bne_iff_ne]; omega
    have r_tab : (0 == tab) = false := by rw [beq_eq_false_iff_ne]; omega
    have s_tab : (tab == 0) = false := by rw [beq_eq_false_iff_ne]; omega
    clear c_tab
    go_enter Tryz.func109, Tryz.ntmps109
    go_upto_region 1 with (fail)
    rw [HW0.out]
    go_wp2_with (first
      | (go_at_call 138; (with_reducible refine (HON.out _).mono ?_); rintro r w1 ⟨rfl, hb1⟩; have hbA := bta hb1 (Nat.le_refl _) (.cells #[.int .i64 3, .int .i64 0, .slice va ln vc, .int .i64 0, .int .i64 0, .int .i64 0, .int .i64 0] 124))
      | (go_at_call 139; (with_reducible refine (HEQ.out _ hbA).mono ?_); rintro r w2 ⟨rfl, hb2⟩; have hbB := bt hbA hb2 (Nat.le_refl _); have x0 : w2.cell? ⟨w1.heap.size, 0, none⟩ = some (.int .i64 3) := hpCell (hpKeep (hpNew w1 (.cells #[.int .i64 3, .int .i64 0, .slice va ln vc, .int .i64 0, .int .i64 0, .int .i64 0, .int .i64 0] 124)) hb2) 0; have x1 : w2.cell? ⟨w1.heap.size, 1, none⟩ = some (.int .i64 0) := hpCell (hpKeep (hpNew w1 (.cells #[.int .i64 3, .int .i64 0, .slice va ln vc, .int .i64 0, .int .i64 0, .int .i64 0, .int .i64 0] 124)) hb2) 1; have x2 : w2.cell? ⟨w1.heap.size, 2, none⟩ = some (.slice va ln vc) := hpCell (hpKeep (hpNew w1 (.cells #[.int .i64 3, .int .i64 0, .slice va ln vc, .int .i64 0, .int .i64 0, .int .i64 0, .int .i64 0] 124)) hb2) 2; have x3 : w2.cell? ⟨w1.heap.size, 3, none⟩ = some (.int .i64 0) := hpCell (hpKeep (hpNew w1 (.cells #[.int .i64 3, .int .i64 0, .slice va ln vc, .int .i64 0, .int .i64 0, .int .i64 0, .int .i64 0] 124)) hb2) 3; have x4 : w2.cell? ⟨w1.heap.size, 4, none⟩ = some (.int .i64 0) := hpCell (hpKeep (hpNew w1 (.cells #[.int .i64 3, .int .i64 0, .slice va ln vc, .int .i64 0, .int .i64 0, .int .i64 0, .int .i64 0] 124)) hb2) 4; have x5 : w2.cell? ⟨w1.heap.size, 5, none⟩ = some (.int .i64 0) := hpCell (hpKeep (hpNew w1 (.cells #[.int .i64 3, .int .i64 0, .slice va ln vc, .int .i64 0, .int .i64 0, .int .i64 0, .int .i64 0] 124)) hb2) 5; have x6 : w2.cell? ⟨w1.heap.size, 6, none⟩ = some (.int .i64 0) := hpCell (hpKeep (hpNew w1 (.cells #[.int .i64 3, .int .i64 0, .slice va ln vc, .int .i64 0, .int .i64 0, .int .i64 0, .int .i64 0] 124)) hb2) 6)
      | (go_at_call 140; (with_reducible refine (HTI.out _ _ _ ht).mono ?_); rintro r w3 ⟨rfl, hb3⟩; have hbC := bt hbB hb3 (Nat.le_refl _))
      | (go_at_call 108; (with_reducible refine (HWI.out _ _ _ _ _ hi).mono ?_); rintro r w3 ⟨rfl, hb3⟩; have hbC := bt hbB hb3 (Nat.le_refl _))
      | (go_at_call 108; (with_reducible refine (HWI.out _ _ _ _ _ hl).mono ?_); rintro r w4 ⟨rfl, hb4⟩; have hbD := bt (by first | exact hbC | exact hbB) hb4 (Nat.le_refl _)))
    go_ret
    refine ⟨rfl, ?_⟩
    first
      | exact bt HB0.out hbD (Nat.le_refl _)
      | exact bt HB0.out hbC (Nat.le_refl _)
      | exact bt HB0.out hbB (Nat.le_refl _)
      | exact bt HB0.out hbA (Nat.le_refl _)
  subst c_tab
  by_cases c_f : f = 0
  rotate_left
  · have hv := HF.out (by unfold CdP; omega)
    subst hv
    clear HF HT
    have p_f : (0 != f) = true := by rw [bne_iff_ne]; omega
    have q_f : (f != 0) = true := by rw [bne_iff_ne]; omega
    have r_f : (0 == f) = false := by rw [beq_eq_false_iff_ne]; omega
    have s_f : (f == 0) = false := by rw [beq_eq_false_iff_ne]; omega
    clear c_f
    go_enter Tryz.func109, Tryz.ntmps109
    go_upto_region 1 with (fail)
    rw [HW0.out]
    go_wp2_with (first
      | (go_at_call 138; (with_reducible refine (HON.out _).mono ?_); rintro r w1 ⟨rfl, hb1⟩; have hbA := bta hb1 (Nat.le_refl _) (.cells #[.int .i64 3, .int .i64 0, .slice va ln vc, .int .i64 0, .int .i64 0, .int .i64 0, .int .i64 0] 124))
      | (go_at_call 139; (with_reducible refine (HEQ.out _ hbA).mono ?_); rintro r w2 ⟨rfl, hb2⟩; have hbB := bt hbA hb2 (Nat.le_refl _); have x0 : w2.cell? ⟨w1.heap.size, 0, none⟩ = some (.int .i64 3) := hpCell (hpKeep (hpNew w1 (.cells #[.int .i64 3, .int .i64 0, .slice va ln vc, .int .i64 0, .int .i64 0, .int .i64 0, .int .i64 0] 124)) hb2) 0; have x1 : w2.cell? ⟨w1.heap.size, 1, none⟩ = some (.int .i64 0) := hpCell (hpKeep (hpNew w1 (.cells #[.int .i64 3, .int .i64 0, .slice va ln vc, .int .i64 0, .int .i64 0, .int .i64 0, .int .i64 0] 124)) hb2) 1; have x2 : w2.cell? ⟨w1.heap.size, 2, none⟩ = some (.slice va ln vc) := hpCell (hpKeep (hpNew w1 (.cells #[.int .i64 3, .int .i64 0, .slice va ln vc, .int .i64 0, .int .i64 0, .int .i64 0, .int .i64 0] 124)) hb2) 2; have x3 : w2.cell? ⟨w1.heap.size, 3, none⟩ = some (.int .i64 0) := hpCell (hpKeep (hpNew w1 (.cells #[.int .i64 3, .int .i64 0, .slice va ln vc, .int .i64 0, .int .i64 0, .int .i64 0, .int .i64 0] 124)) hb2) 3; have x4 : w2.cell? ⟨w1.heap.size, 4, none⟩ = some (.int .i64 0) := hpCell (hpKeep (hpNew w1 (.cells #[.int .i64 3, .int .i64 0, .slice va ln vc, .int .i64 0, .int .i64 0, .int .i64 0, .int .i64 0] 124)) hb2) 4; have x5 : w2.cell? ⟨w1.heap.size, 5, none⟩ = some (.int .i64 0) := hpCell (hpKeep (hpNew w1 (.cells #[.int .i64 3, .int .i64 0, .slice va ln vc, .int .i64 0, .int .i64 0, .int .i64 0, .int .i64 0] 124)) hb2) 5; have x6 : w2.cell? ⟨w1.heap.size, 6, none⟩ = some (.int .i64 0) := hpCell (hpKeep (hpNew w1 (.cells #[.int .i64 3, .int .i64 0, .slice va ln vc, .int .i64 0, .int .i64 0, .int .i64 0, .int .i64 0] 124)) hb2) 6)
      | (go_at_call 140; (with_reducible refine (HTI.out _ _ _ ht).mono ?_); rintro r w3 ⟨rfl, hb3⟩; have hbC := bt hbB hb3 (Nat.le_refl _))
      | (go_at_call 108; (with_reducible refine (HWI.out _ _ _ _ _ hi).mono ?_); rintro r w3 ⟨rfl, hb3⟩; have hbC := bt hbB hb3 (Nat.le_refl _))
      | (go_at_call 108; (with_reducible refine (HWI.out _ _ _ _ _ hl).mono ?_); rintro r w4 ⟨rfl, hb4⟩; have hbD := bt (by first | exact hbC | exact hbB) hb4 (Nat.le_refl _)))
    go_ret
    refine ⟨rfl, ?_⟩
    first
      | exact bt HB0.out hbD (Nat.le_refl _)
      | exact bt HB0.out hbC (Nat.le_refl _)
      | exact bt HB0.out hbB (Nat.le_refl _)
      | exact bt HB0.out hbA (Nat.le_refl _)
  subst c_f
  by_cases c_cnt : cnt = 0
  rotate_left
  · have hv := HF.out (by unfold CdP; omega)
    subst hv
    clear HF HT
    have p_cnt : (0 != cnt) = true := by rw [bne_iff_ne]; omega
    have q_cnt : (cnt != 0) = true := by rw [bne_iff_ne]; omega
    have r_cnt : (0 == cnt) = false := by rw [beq_eq_false_iff_ne]; omega
    have s_cnt : (cnt == 0) = false := by rw [beq_eq_false_iff_ne]; omega
    clear c_cnt
    go_enter Tryz.func109, Tryz.ntmps109
    go_upto_region 1 with (fail)
    rw [HW0.out]
    go_wp2_with (first
      | (go_at_call 138; (with_reducible refine (HON.out _).mono ?_); rintro r w1 ⟨rfl, hb1⟩; have hbA := bta hb1 (Nat.le_refl _) (.cells #[.int .i64 3, .int .i64 0, .slice va ln vc, .int .i64 0, .int .i64 0, .int .i64 0, .int .i64 0] 124))
      | (go_at_call 139; (with_reducible refine (HEQ.out _ hbA).mono ?_); rintro r w2 ⟨rfl, hb2⟩; have hbB := bt hbA hb2 (Nat.le_refl _); have x0 : w2.cell? ⟨w1.heap.size, 0, none⟩ = some (.int .i64 3) := hpCell (hpKeep (hpNew w1 (.cells #[.int .i64 3, .int .i64 0, .slice va ln vc, .int .i64 0, .int .i64 0, .int .i64 0, .int .i64 0] 124)) hb2) 0; have x1 : w2.cell? ⟨w1.heap.size, 1, none⟩ = some (.int .i64 0) := hpCell (hpKeep (hpNew w1 (.cells #[.int .i64 3, .int .i64 0, .slice va ln vc, .int .i64 0, .int .i64 0, .int .i64 0, .int .i64 0] 124)) hb2) 1; have x2 : w2.cell? ⟨w1.heap.size, 2, none⟩ = some (.slice va ln vc) := hpCell (hpKeep (hpNew w1 (.cells #[.int .i64 3, .int .i64 0, .slice va ln vc, .int .i64 0, .int .i64 0, .int .i64 0, .int .i64 0] 124)) hb2) 2; have x3 : w2.cell? ⟨w1.heap.size, 3, none⟩ = some (.int .i64 0) := hpCell (hpKeep (hpNew w1 (.cells #[.int .i64 3, .int .i64 0, .slice va ln vc, .int .i64 0, .int .i64 0, .int .i64 0, .int .i64 0] 124)) hb2) 3; have x4 : w2.cell? ⟨w1.heap.size, 4, none⟩ = some (.int .i64 0) := hpCell (hpKeep (hpNew w1 (.cells #[.int .i64 3, .int .i64 0, .slice va ln vc, .int .i64 0, .int .i64 0, .int .i64 0, .int .i64 0] 124)) hb2) 4; have x5 : w2.cell? ⟨w1.heap.size, 5, none⟩ = some (.int .i64 0) := hpCell (hpKeep (hpNew w1 (.cells #[.int .i64 3, .int .i64 0, .slice va ln vc, .int .i64 0, .int .i64 0, .int .i64 0, .int .i64 0] 124)) hb2) 5; have x6 : w2.cell? ⟨w1.heap.size, 6, none⟩ = some (.int .i64 0) := hpCell (hpKeep (hpNew w1 (.cells #[.int .i64 3, .int .i64 0, .slice va ln vc, .int .i64 0, .int .i64 0, .int .i64 0, .int .i64 0] 124)) hb2) 6)
      | (go_at_call 140; (with_reducible refine (HTI.out _ _ _ ht).mono ?_); rintro r w3 ⟨rfl, hb3⟩; have hbC := bt hbB hb3 (Nat.le_refl _))
      | (go_at_call 108; (with_reducible refine (HWI.out _ _ _ _ _ hi).mono ?_); rintro r w3 ⟨rfl, hb3⟩; have hbC := bt hbB hb3 (Nat.le_refl _))
      | (go_at_call 108; (with_reducible refine (HWI.out _ _ _ _ _ hl).mono ?_); rintro r w4 ⟨rfl, hb4⟩; have hbD := bt (by first | exact hbC | exact hbB) hb4 (Nat.le_refl _)))
    go_ret
    refine ⟨rfl, ?_⟩
    first
      | exact bt HB0.out hbD (Nat.le_refl _)
      | exact bt HB0.out hbC (Nat.le_refl _)
      | exact bt HB0.out hbB (Nat.le_refl _)
      | exact bt HB0.out hbA (Nat.le_refl _)
  subst c_cnt
  by_cases c_n : n = 0
  rotate_left
  · have hv := HF.out (by unfold CdP; omega)
    subst hv
    clear HF HT
    have p_n : (0 != n) = true := by rw [bne_iff_ne]; omega
    have q_n : (n != 0) = true := by rw [bne_iff_ne]; omega
    have r_n : (0 == n) = false := by rw [beq_eq_false_iff_ne]; omega
    have s_n : (n == 0) = false := by rw [beq_eq_false_iff_ne]; omega
    clear c_n
    go_enter Tryz.func109, Tryz.ntmps109
    go_upto_region 1 with (fail)
    rw [HW0.out]
    go_wp2_with (first
      | (go_at_call 138; (with_reducible refine (HON.out _).mono ?_); rintro r w1 ⟨rfl, hb1⟩; have hbA := bta hb1 (Nat.le_refl _) (.cells #[.int .i64 3, .int .i64 0, .slice va ln vc, .int .i64 0, .int .i64 0, .int .i64 0, .int .i64 0] 124))
      | (go_at_call 139; (with_reducible refine (HEQ.out _ hbA).mono ?_); rintro r w2 ⟨rfl, hb2⟩; have hbB := bt hbA hb2 (Nat.le_refl _); have x0 : w2.cell? ⟨w1.heap.size, 0, none⟩ = some (.int .i64 3) := hpCell (hpKeep (hpNew w1 (.cells #[.int .i64 3, .int .i64 0, .slice va ln vc, .int .i64 0, .int .i64 0, .int .i64 0, .int .i64 0] 124)) hb2) 0; have x1 : w2.cell? ⟨w1.heap.size, 1, none⟩ = some (.int .i64 0) := hpCell (hpKeep (hpNew w1 (.cells #[.int .i64 3, .int .i64 0, .slice va ln vc, .int .i64 0, .int .i64 0, .int .i64 0, .int .i64 0] 124)) hb2) 1; have x2 : w2.cell? ⟨w1.heap.size, 2, none⟩ = some (.slice va ln vc) := hpCell (hpKeep (hpNew w1 (.cells #[.int .i64 3, .int .i64 0, .slice va ln vc, .int .i64 0, .int .i64 0, .int .i64 0, .int .i64 0] 124)) hb2) 2; have x3 : w2.cell? ⟨w1.heap.size, 3, none⟩ = some (.int .i64 0) := hpCell (hpKeep (hpNew w1 (.cells #[.int .i64 3, .int .i64 0, .slice va ln vc, .int .i64 0, .int .i64 0, .int .i64 0, .int .i64 0] 124)) hb2) 3; have x4 : w2.cell? ⟨w1.heap.size, 4, none⟩ = some (.int .i64 0) := hpCell (hpKeep (hpNew w1 (.cells #[.int .i64 3, .int .i64 0, .slice va ln vc, .int .i64 0, .int .i64 0, .int .i64 0, .int .i64 0] 124)) hb2) 4; have x5 : w2.cell? ⟨w1.heap.size, 5, none⟩ = some (.int .i64 0) := hpCell (hpKeep (hpNew w1 (.cells #[.int .i64 3, .int .i64 0, .slice va ln vc, .int .i64 0, .int .i64 0, .int .i64 0, .int .i64 0] 124)) hb2) 5; have x6 : w2.cell? ⟨w1.heap.size, 6, none⟩ = some (.int .i64 0) := hpCell (hpKeep (hpNew w1 (.cells #[.int .i64 3, .int .i64 0, .slice va ln vc, .int .i64 0, .int .i64 0, .int .i64 0, .int .i64 0] 124)) hb2) 6)
      | (go_at_call 140; (with_reducible refine (HTI.out _ _ _ ht).mono ?_); rintro r w3 ⟨rfl, hb3⟩; have hbC := bt hbB hb3 (Nat.le_refl _))
      | (go_at_call 108; (with_reducible refine (HWI.out _ _ _ _ _ hi).mono ?_); rintro r w3 ⟨rfl, hb3⟩; have hbC := bt hbB hb3 (Nat.le_refl _))
      | (go_at_call 108; (with_reducible refine (HWI.out _ _ _ _ _ hl).mono ?_); rintro r w4 ⟨rfl, hb4⟩; have hbD := bt (by first | exact hbC | exact hbB) hb4 (Nat.le_refl _)))
    go_ret
    refine ⟨rfl, ?_⟩
    first
      | exact bt HB0.out hbD (Nat.le_refl _)
      | exact bt HB0.out hbC (Nat.le_refl _)
      | exact bt HB0.out hbB (Nat.le_refl _)
      | exact bt HB0.out hbA (Nat.le_refl _)
  subst c_n
  by_cases c_le : (1 : Int) ≤ (ln : Int) ∧ (ln : Int) ≤ 251
  rotate_left
  · have hv := HF.out (by unfold CdP; omega)
    subst hv
    clear HF HT
    obtain ⟨BL, hl⟩ : ∃ B, (decide ((1 : Int) ≤ (ln : Int)) && decide ((ln : Int) ≤ 251)) = B := ⟨_, rfl⟩
    obtain rfl : false = BL := by rw [← hl]; rw [eq_comm, Bool.and_eq_false_iff, decide_eq_false_iff_not, decide_eq_false_iff_not]; omega
    clear c_le
    go_enter Tryz.func109, Tryz.ntmps109
    go_upto_region 1 with (fail)
    rw [HW0.out]
    go_wp2_with (first
      | (go_at_call 138; (with_reducible refine (HON.out _).mono ?_); rintro r w1 ⟨rfl, hb1⟩; have hbA := bta hb1 (Nat.le_refl _) (.cells #[.int .i64 3, .int .i64 0, .slice va ln vc, .int .i64 0, .int .i64 0, .int .i64 0, .int .i64 0] 124))
      | (go_at_call 139; (with_reducible refine (HEQ.out _ hbA).mono ?_); rintro r w2 ⟨rfl, hb2⟩; have hbB := bt hbA hb2 (Nat.le_refl _); have x0 : w2.cell? ⟨w1.heap.size, 0, none⟩ = some (.int .i64 3) := hpCell (hpKeep (hpNew w1 (.cells #[.int .i64 3, .int .i64 0, .slice va ln vc, .int .i64 0, .int .i64 0, .int .i64 0, .int .i64 0] 124)) hb2) 0; have x1 : w2.cell? ⟨w1.heap.size, 1, none⟩ = some (.int .i64 0) := hpCell (hpKeep (hpNew w1 (.cells #[.int .i64 3, .int .i64 0, .slice va ln vc, .int .i64 0, .int .i64 0, .int .i64 0, .int .i64 0] 124)) hb2) 1; have x2 : w2.cell? ⟨w1.heap.size, 2, none⟩ = some (.slice va ln vc) := hpCell (hpKeep (hpNew w1 (.cells #[.int .i64 3, .int .i64 0, .slice va ln vc, .int .i64 0, .int .i64 0, .int .i64 0, .int .i64 0] 124)) hb2) 2; have x3 : w2.cell? ⟨w1.heap.size, 3, none⟩ = some (.int .i64 0) := hpCell (hpKeep (hpNew w1 (.cells #[.int .i64 3, .int .i64 0, .slice va ln vc, .int .i64 0, .int .i64 0, .int .i64 0, .int .i64 0] 124)) hb2) 3; have x4 : w2.cell? ⟨w1.heap.size, 4, none⟩ = some (.int .i64 0) := hpCell (hpKeep (hpNew w1 (.cells #[.int .i64 3, .int .i64 0, .slice va ln vc, .int .i64 0, .int .i64 0, .int .i64 0, .int .i64 0] 124)) hb2) 4; have x5 : w2.cell? ⟨w1.heap.size, 5, none⟩ = some (.int .i64 0) := hpCell (hpKeep (hpNew w1 (.cells #[.int .i64 3, .int .i64 0, .slice va ln vc, .int .i64 0, .int .i64 0, .int .i64 0, .int .i64 0] 124)) hb2) 5; have x6 : w2.cell? ⟨w1.heap.size, 6, none⟩ = some (.int .i64 0) := hpCell (hpKeep (hpNew w1 (.cells #[.int .i64 3, .int .i64 0, .slice va ln vc, .int .i64 0, .int .i64 0, .int .i64 0, .int .i64 0] 124)) hb2) 6)
      | (go_at_call 140; (with_reducible refine (HTI.out _ _ _ ht).mono ?_); rintro r w3 ⟨rfl, hb3⟩; have hbC := bt hbB hb3 (Nat.le_refl _))
      | (go_at_call 108; (with_reducible refine (HWI.out _ _ _ _ _ hi).mono ?_); rintro r w3 ⟨rfl, hb3⟩; have hbC := bt hbB hb3 (Nat.le_refl _))
      | (go_at_call 108; (with_reducible refine (HWI.out _ _ _ _ _ hl).mono ?_); rintro r w4 ⟨rfl, hb4⟩; have hbD := bt (by first | exact hbC | exact hbB) hb4 (Nat.le_refl _)))
    go_ret
    refine ⟨rfl, ?_⟩
    first
      | exact bt HB0.out hbD (Nat.le_refl _)
      | exact bt HB0.out hbC (Nat.le_refl _)
      | exact bt HB0.out hbB (Nat.le_refl _)
      | exact bt HB0.out hbA (Nat.le_refl _)
  obtain ⟨BL, hl⟩ : ∃ B, (decide ((1 : Int) ≤ (ln : Int)) && decide ((ln : Int) ≤ 251)) = B := ⟨_, rfl⟩
  obtain rfl : true = BL := by rw [← hl, decide_eq_true (by omega), decide_eq_true (by omega)]; rfl
  have hv := HT.out (by unfold CdP; omega)
  subst hv
  clear HF HT
  go_enter Tryz.func109, Tryz.ntmps109
  go_upto_region 1 with (fail)
  rw [HW0.out]
  go_wp2_with (first
    | (go_at_call 138; (with_reducible refine (HON.out _).mono ?_); rintro r w1 ⟨rfl, hb1⟩; have hbA := bta hb1 (Nat.le_refl _) (.cells #[.int .i64 3, .int .i64 0, .slice va ln vc, .int .i64 0, .int .i64 0, .int .i64 0, .int .i64 0] 124))
    | (go_at_call 139; (with_reducible refine (HEQ.out _ hbA).mono ?_); rintro r w2 ⟨rfl, hb2⟩; have hbB := bt hbA hb2 (Nat.le_refl _); have x0 : w2.cell? ⟨w1.heap.size, 0, none⟩ = some (.int .i64 3) := hpCell (hpKeep (hpNew w1 (.cells #[.int .i64 3, .int .i64 0, .slice va ln vc, .int .i64 0, .int .i64 0, .int .i64 0, .int .i64 0] 124)) hb2) 0; have x1 : w2.cell? ⟨w1.heap.size, 1, none⟩ = some (.int .i64 0) := hpCell (hpKeep (hpNew w1 (.cells #[.int .i64 3, .int .i64 0, .slice va ln vc, .int .i64 0, .int .i64 0, .int .i64 0, .int .i64 0] 124)) hb2) 1; have x2 : w2.cell? ⟨w1.heap.size, 2, none⟩ = some (.slice va ln vc) := hpCell (hpKeep (hpNew w1 (.cells #[.int .i64 3, .int .i64 0, .slice va ln vc, .int .i64 0, .int .i64 0, .int .i64 0, .int .i64 0] 124)) hb2) 2; have x3 : w2.cell? ⟨w1.heap.size, 3, none⟩ = some (.int .i64 0) := hpCell (hpKeep (hpNew w1 (.cells #[.int .i64 3, .int .i64 0, .slice va ln vc, .int .i64 0, .int .i64 0, .int .i64 0, .int .i64 0] 124)) hb2) 3; have x4 : w2.cell? ⟨w1.heap.size, 4, none⟩ = some (.int .i64 0) := hpCell (hpKeep (hpNew w1 (.cells #[.int .i64 3, .int .i64 0, .slice va ln vc, .int .i64 0, .int .i64 0, .int .i64 0, .int .i64 0] 124)) hb2) 4; have x5 : w2.cell? ⟨w1.heap.size, 5, none⟩ = some (.int .i64 0) := hpCell (hpKeep (hpNew w1 (.cells #[.int .i64 3, .int .i64 0, .slice va ln vc, .int .i64 0, .int .i64 0, .int .i64 0, .int .i64 0] 124)) hb2) 5; have x6 : w2.cell? ⟨w1.heap.size, 6, none⟩ = some (.int .i64 0) := hpCell (hpKeep (hpNew w1 (.cells #[.int .i64 3, .int .i64 0, .slice va ln vc, .int .i64 0, .int .i64 0, .int .i64 0, .int .i64 0] 124)) hb2) 6)
    | (go_at_call 140; (with_reducible refine (HTI.out _ _ _ ht).mono ?_); rintro r w3 ⟨rfl, hb3⟩; have hbC := bt hbB hb3 (Nat.le_refl _))
    | (go_at_call 108; (with_reducible refine (HWI.out _ _ _ _ _ hi).mono ?_); rintro r w3 ⟨rfl, hb3⟩; have hbC := bt hbB hb3 (Nat.le_refl _))
    | (go_at_call 108; (with_reducible refine (HWI.out _ _ _ _ _ hl).mono ?_); rintro r w4 ⟨rfl, hb4⟩; have hbD := bt (by first | exact hbC | exact hbB) hb4 (Nat.le_refl _)))
  go_ret
  refine ⟨rfl, ?_⟩
  first
    | exact bt HB0.out hbD (Nat.le_refl _)
    | exact bt HB0.out hbC (Nat.le_refl _)
    | exact bt HB0.out hbB (Nat.le_refl _)
    | exact bt HB0.out hbA (Nat.le_refl _)

set_option maxRecDepth 100000 in
set_option maxHeartbeats 12800000 in
theorem pcond_d (id tab f cnt n : Int) (va : Option Addr) (ln vc : Nat) (val : List UInt8) (w : World) (hval : Bs w (.slice va ln vc) val) (hln : val.length = ln) (hm : ln ≤ 9223372036854775807) (V : Bool) (hV : Hid (V = true ↔ CdP 4 id ln tab f cnt n)) (hcb : cnt ≤ 9223372036854775807) :
    Calls Tryz.prog 109 #[.agg #[.int .i64 4, .int .i64 id, .slice va ln vc, .int .i64 tab, .int .i64 f, .int .i64 cnt, .int .i64 n]] w (BoolPost w V) := by
  have HF : Hid (¬ CdP 4 id ln tab f cnt n → V = false) := fun h => by
    cases e : V with
    | false => rfl
    | true => exact absurd (hV.out.1 e) h
  have HT : Hid (CdP 4 id ln tab f cnt n → V = true) := hV.out.2
  obtain ⟨W0, hW0⟩ : ∃ W, w.alloc (.cells #[.int .i64 4, .int .i64 id, .slice va ln vc, .int .i64 tab, .int .i64 f, .int .i64 cnt, .int .i64 n] 124) = W := ⟨_, rfl⟩
  have hb0 : Below w.heap.size w W0 := by rw [← hW0]; exact bal' w _
  have p0 : W0.heap[w.heap.size]? = some (.cells #[.int .i64 4, .int .i64 id, .slice va ln vc, .int .i64 tab, .int .i64 f, .int .i64 cnt, .int .i64 n] 124) := by rw [← hW0]; exact hpNew w _
  have y0 : ∀ X, Below W0.heap.size W0 X → X.cell? ⟨w.heap.size, 0, none⟩ = some (.int .i64 4) := fun X hX => hpCell (hpKeep p0 hX) 0
  have y1 : ∀ X, Below W0.heap.size W0 X → X.cell? ⟨w.heap.size, 1, none⟩ = some (.int .i64 id) := fun X hX => hpCell (hpKeep p0 hX) 1
  have y2 : ∀ X, Below W0.heap.size W0 X → X.cell? ⟨w.heap.size, 2, none⟩ = some (.slice va ln vc) := fun X hX => hpCell (hpKeep p0 hX) 2
  have y3 : ∀ X, Below W0.heap.size W0 X → X.cell? ⟨w.heap.size, 3, none⟩ = some (.int .i64 tab) := fun X hX => hpCell (hpKeep p0 hX) 3
  have y4 : ∀ X, Below W0.heap.size W0 X → X.cell? ⟨w.heap.size, 4, none⟩ = some (.int .i64 f) := fun X hX => hpCell (hpKeep p0 hX) 4
  have y5 : ∀ X, Below W0.heap.size W0 X → X.cell? ⟨w.heap.size, 5, none⟩ = some (.int .i64 cnt) := fun X hX => hpCell (hpKeep p0 hX) 5
  have y6 : ∀ X, Below W0.heap.size W0 X → X.cell? ⟨w.heap.size, 6, none⟩ = some (.int .i64 n) := fun X hX => hpCell (hpKeep p0 hX) 6
  have HON : Hid (∀ X, Calls Tryz.prog 138 #[.agg #[.int .i64 4, .int .i64 id, .slice va ln vc, .int .i64 tab, .int .i64 f, .int .i64 cnt, .int .i64 n]] X fun r w' => r = .returned (.agg #[.int .i64 4, .int .i64 0, .slice none 0 0, .int .i64 tab, .int .i64 f, .int .i64 cnt, .int .i64 0]) ∧ Below X.heap.size X w') := fun X => only_d id tab f cnt n va ln vc X
  obtain ⟨E, hE⟩ : ∃ E, decide ([] = val) = E := ⟨_, rfl⟩
  have HEQ : Hid (∀ X, Below W0.heap.size W0 X → Calls Tryz.prog 139 #[.slice none 0 0, .slice va ln vc] X (BoolPost X E)) := fun X hX => bequal_any _ _ [] val X (Bs.nil _) (hval.keep (bt hb0 hX (Nat.le_refl _))) E hE
  have HEL : Hid ((ln = 0 → E = true) ∧ (¬ ln = 0 → E = false)) := ⟨fun h => by rw [← hE, decide_eq_true]; exact (List.eq_nil_of_length_eq_zero (hln.trans h)).symm, fun h => by rw [← hE, decide_eq_false]; rintro rfl; exact h hln.symm⟩
  have HW0 := hid hW0
  have HB0 := hid hb0
  have r0 : Below W0.heap.size W0 W0 := Below.refl _ _
  have HWI : Hid (∀ x a b X B, (decide (a ≤ x) && decide (x ≤ b)) = B → Calls Tryz.prog 108 #[.int .i64 x, .int .i64 a, .int .i64 b] X (BoolPost X B)) := fun x a b X B h => within_any x a b X B h
  have HTI : Hid (∀ x X B, (decide (1 ≤ x) && decide (x ≤ 4)) = B → Calls Tryz.prog 140 #[.int .i64 x] X (BoolPost X B)) := fun x X B h => istab_any x X B h
  clear hW0 hb0 p0 hE hval hV
  by_cases c_id : id = 0
  rotate_left
  · have hv := HF.out (by unfold CdP; omega)
    subst hv
    clear HF HT
    have p_id : (0 != id) = true := by rw [bne_iff_ne]; omega
    have q_id : (id != 0) = true := by rw [bne_iff_ne]; omega
    have r_id : (0 == id) = false := by rw [beq_eq_false_iff_ne]; omega
    have s_id : (id == 0) = false := by rw [beq_eq_false_iff_ne]; omega
    clear c_id
    go_enter Tryz.func109, Tryz.ntmps109
    go_upto_region 1 with (fail)
    rw [HW0.out]
    go_wp2_with (first
      | (go_at_call 138; (with_reducible refine (HON.out _).mono ?_); rintro r w1 ⟨rfl, hb1⟩; have hbA := bta hb1 (Nat.le_refl _) (.cells #[.int .i64 4, .int .i64 0, .slice none 0 0, .int .i64 tab, .int .i64 f, .int .i64 cnt, .int .i64 0] 124))
      | (go_at_call 139; (with_reducible refine (HEQ.out _ hbA).mono ?_); rintro r w2 ⟨rfl, hb2⟩; have hbB := bt hbA hb2 (Nat.le_refl _); have x0 : w2.cell? ⟨w1.heap.size, 0, none⟩ = some (.int .i64 4) := hpCell (hpKeep (hpNew w1 (.cells #[.int .i64 4, .int .i64 0, .slice none 0 0, .int .i64 tab, .int .i64 f, .int .i64 cnt, .int .i64 0] 124)) hb2) 0; have x1 : w2.cell? ⟨w1.heap.size, 1, none⟩ = some (.int .i64 0) := hpCell (hpKeep (hpNew w1 (.cells #[.int .i64 4, .int .i64 0, .slice none 0 0, .int .i64 tab, .int .i64 f, .int .i64 cnt, .int .i64 0] 124)) hb2) 1; have x2 : w2.cell? ⟨w1.heap.size, 2, none⟩ = some (.slice none 0 0) := hpCell (hpKeep (hpNew w1 (.cells #[.int .i64 4, .int .i64 0, .slice none 0 0, .int .i64 tab, .int .i64 f, .int .i64 cnt, .int .i64 0] 124)) hb2) 2; have x3 : w2.cell? ⟨w1.heap.size, 3, none⟩ = some (.int .i64 tab) := hpCell (hpKeep (hpNew w1 (.cells #[.int .i64 4, .int .i64 0, .slice none 0 0, .int .i64 tab, .int .i64 f, .int .i64 cnt, .int .i64 0] 124)) hb2) 3; have x4 : w2.cell? ⟨w1.heap.size, 4, none⟩ = some (.int .i64 f) := hpCell (hpKeep (hpNew w1 (.cells #[.int .i64 4, .int .i64 0, .slice none 0 0, .int .i64 tab, .int .i64 f, .int .i64 cnt, .int .i64 0] 124)) hb2) 4; have x5 : w2.cell? ⟨w1.heap.size, 5, none⟩ = some (.int .i64 cnt) := hpCell (hpKeep (hpNew w1 (.cells #[.int .i64 4, .int .i64 0, .slice none 0 0, .int .i64 tab, .int .i64 f, .int .i64 cnt, .int .i64 0] 124)) hb2) 5; have x6 : w2.cell? ⟨w1.heap.size, 6, none⟩ = some (.int .i64 0) := hpCell (hpKeep (hpNew w1 (.cells #[.int .i64 4, .int .i64 0, .slice none 0 0, .int .i64 tab, .int .i64 f, .int .i64 cnt, .int .i64 0] 124)) hb2) 6)
      | (go_at_call 140; (with_reducible refine (HTI.out _ _ _ ht).mono ?_); rintro r w3 ⟨rfl, hb3⟩; have hbC := bt hbB hb3 (Nat.le_refl _))
      | (go_at_call 108; (with_reducible refine (HWI.out _ _ _ _ _ hi).mono ?_); rintro r w3 ⟨rfl, hb3⟩; have hbC := bt hbB hb3 (Nat.le_refl _))
      | (go_at_call 108; (with_reducible refine (HWI.out _ _ _ _ _ hl).mono ?_); rintro r w4 ⟨rfl, hb4⟩; have hbD := bt (by first | exact hbC | exact hbB) hb4 (Nat.le_refl _)))
    go_ret
    refine ⟨rfl, ?_⟩
    first
      | exact bt HB0.out hbD (Nat.le_refl _)
      | exact bt HB0.out hbC (Nat.le_refl _)
      | exact bt HB0.out hbB (Nat.le_refl _)
      | exact bt HB0.out hbA (Nat.le_refl _)
  subst c_id
  by_cases c_ln : ln = 0
  rotate_left
  · have hv := HF.out (by unfold CdP; omega)
    subst hv
    clear HF HT
    obtain rfl := HEL.out.2 c_ln
    clear c_ln
    go_enter Tryz.func109, Tryz.ntmps109
    go_upto_region 1 with (fail)
    rw [HW0.out]
    go_wp2_with (first
      | (go_at_call 138; (with_reducible refine (HON.out _).mono ?_); rintro r w1 ⟨rfl, hb1⟩; have hbA := bta hb1 (Nat.le_refl _) (.cells #[.int .i64 4, .int .i64 0, .slice none 0 0, .int .i64 tab, .int .i64 f, .int .i64 cnt, .int .i64 0] 124))
      | (go_at_call 139; (with_reducible refine (HEQ.out _ hbA).mono ?_); rintro r w2 ⟨rfl, hb2⟩; have hbB := bt hbA hb2 (Nat.le_refl _); have x0 : w2.cell? ⟨w1.heap.size, 0, none⟩ = some (.int .i64 4) := hpCell (hpKeep (hpNew w1 (.cells #[.int .i64 4, .int .i64 0, .slice none 0 0, .int .i64 tab, .int .i64 f, .int .i64 cnt, .int .i64 0] 124)) hb2) 0; have x1 : w2.cell? ⟨w1.heap.size, 1, none⟩ = some (.int .i64 0) := hpCell (hpKeep (hpNew w1 (.cells #[.int .i64 4, .int .i64 0, .slice none 0 0, .int .i64 tab, .int .i64 f, .int .i64 cnt, .int .i64 0] 124)) hb2) 1; have x2 : w2.cell? ⟨w1.heap.size, 2, none⟩ = some (.slice none 0 0) := hpCell (hpKeep (hpNew w1 (.cells #[.int .i64 4, .int .i64 0, .slice none 0 0, .int .i64 tab, .int .i64 f, .int .i64 cnt, .int .i64 0] 124)) hb2) 2; have x3 : w2.cell? ⟨w1.heap.size, 3, none⟩ = some (.int .i64 tab) := hpCell (hpKeep (hpNew w1 (.cells #[.int .i64 4, .int .i64 0, .slice none 0 0, .int .i64 tab, .int .i64 f, .int .i64 cnt, .int .i64 0] 124)) hb2) 3; have x4 : w2.cell? ⟨w1.heap.size, 4, none⟩ = some (.int .i64 f) := hpCell (hpKeep (hpNew w1 (.cells #[.int .i64 4, .int .i64 0, .slice none 0 0, .int .i64 tab, .int .i64 f, .int .i64 cnt, .int .i64 0] 124)) hb2) 4; have x5 : w2.cell? ⟨w1.heap.size, 5, none⟩ = some (.int .i64 cnt) := hpCell (hpKeep (hpNew w1 (.cells #[.int .i64 4, .int .i64 0, .slice none 0 0, .int .i64 tab, .int .i64 f, .int .i64 cnt, .int .i64 0] 124)) hb2) 5; have x6 : w2.cell? ⟨w1.heap.size, 6, none⟩ = some (.int .i64 0) := hpCell (hpKeep (hpNew w1 (.cells #[.int .i64 4, .int .i64 0, .slice none 0 0, .int .i64 tab, .int .i64 f, .int .i64 cnt, .int .i64 0] 124)) hb2) 6)
      | (go_at_call 140; (with_reducible refine (HTI.out _ _ _ ht).mono ?_); rintro r w3 ⟨rfl, hb3⟩; have hbC := bt hbB hb3 (Nat.le_refl _))
      | (go_at_call 108; (with_reducible refine (HWI.out _ _ _ _ _ hi).mono ?_); rintro r w3 ⟨rfl, hb3⟩; have hbC := bt hbB hb3 (Nat.le_refl _))
      | (go_at_call 108; (with_reducible refine (HWI.out _ _ _ _ _ hl).mono ?_); rintro r w4 ⟨rfl, hb4⟩; have hbD := bt (by first | exact hbC | exact hbB) hb4 (Nat.le_refl _)))
    go_ret
    refine ⟨rfl, ?_⟩
    first
      | exact bt HB0.out hbD (Nat.le_refl _)
      | exact bt HB0.out hbC (Nat.le_refl _)
      | exact bt HB0.out hbB (Nat.le_refl _)
      | exact bt HB0.out hbA (Nat.le_refl _)
  obtain rfl := HEL.out.1 c_ln
  subst c_ln
  by_cases c_n : n = 0
  rotate_left
  · have hv := HF.out (by unfold CdP; omega)
    subst hv
    clear HF HT
    have p_n : (0 != n) = true := by rw [bne_iff_ne]; omega
    have q_n : (n != 0) = true := by rw [bne_iff_ne]; omega
    have r_n : (0 == n) = false := by rw [beq_eq_false_iff_ne]; omega
    have s_n : (n == 0) = false := by rw [beq_eq_false_iff_ne]; omega
    clear c_n
    go_enter Tryz.func109, Tryz.ntmps109
    go_upto_region 1 with (fail)
    rw [HW0.out]
    go_wp2_with (first
      | (go_at_call 138; (with_reducible refine (HON.out _).mono ?_); rintro r w1 ⟨rfl, hb1⟩; have hbA := bta hb1 (Nat.le_refl _) (.cells #[.int .i64 4, .int .i64 0, .slice none 0 0, .int .i64 tab, .int .i64 f, .int .i64 cnt, .int .i64 0] 124))
      | (go_at_call 139; (with_reducible refine (HEQ.out _ hbA).mono ?_); rintro r w2 ⟨rfl, hb2⟩; have hbB := bt hbA hb2 (Nat.le_refl _); have x0 : w2.cell? ⟨w1.heap.size, 0, none⟩ = some (.int .i64 4) := hpCell (hpKeep (hpNew w1 (.cells #[.int .i64 4, .int .i64 0, .slice none 0 0, .int .i64 tab, .int .i64 f, .int .i64 cnt, .int .i64 0] 124)) hb2) 0; have x1 : w2.cell? ⟨w1.heap.size, 1, none⟩ = some (.int .i64 0) := hpCell (hpKeep (hpNew w1 (.cells #[.int .i64 4, .int .i64 0, .slice none 0 0, .int .i64 tab, .int .i64 f, .int .i64 cnt, .int .i64 0] 124)) hb2) 1; have x2 : w2.cell? ⟨w1.heap.size, 2, none⟩ = some (.slice none 0 0) := hpCell (hpKeep (hpNew w1 (.cells #[.int .i64 4, .int .i64 0, .slice none 0 0, .int .i64 tab, .int .i64 f, .int .i64 cnt, .int .i64 0] 124)) hb2) 2; have x3 : w2.cell? ⟨w1.heap.size, 3, none⟩ = some (.int .i64 tab) := hpCell (hpKeep (hpNew w1 (.cells #[.int .i64 4, .int .i64 0, .slice none 0 0, .int .i64 tab, .int .i64 f, .int .i64 cnt, .int .i64 0] 124)) hb2) 3; have x4 : w2.cell? ⟨w1.heap.size, 4, none⟩ = some (.int .i64 f) := hpCell (hpKeep (hpNew w1 (.cells #[.int .i64 4, .int .i64 0, .slice none 0 0, .int .i64 tab, .int .i64 f, .int .i64 cnt, .int .i64 0] 124)) hb2) 4; have x5 : w2.cell? ⟨w1.heap.size, 5, none⟩ = some (.int .i64 cnt) := hpCell (hpKeep (hpNew w1 (.cells #[.int .i64 4, .int .i64 0, .slice none 0 0, .int .i64 tab, .int .i64 f, .int .i64 cnt, .int .i64 0] 124)) hb2) 5; have x6 : w2.cell? ⟨w1.heap.size, 6, none⟩ = some (.int .i64 0) := hpCell (hpKeep (hpNew w1 (.cells #[.int .i64 4, .int .i64 0, .slice none 0 0, .int .i64 tab, .int .i64 f, .int .i64 cnt, .int .i64 0] 124)) hb2) 6)
      | (go_at_call 140; (with_reducible refine (HTI.out _ _ _ ht).mono ?_); rintro r w3 ⟨rfl, hb3⟩; have hbC := bt hbB hb3 (Nat.le_refl _))
      | (go_at_call 108; (with_reducible refine (HWI.out _ _ _ _ _ hi).mono ?_); rintro r w3 ⟨rfl, hb3⟩; have hbC := bt hbB hb3 (Nat.le_refl _))
      | (go_at_call 108; (with_reducible refine (HWI.out _ _ _ _ _ hl).mono ?_); rintro r w4 ⟨rfl, hb4⟩; have hbD := bt (by first | exact hbC | exact hbB) hb4 (Nat.le_refl _)))
    go_ret
    refine ⟨rfl, ?_⟩
    first
      | exact bt HB0.out hbD (Nat.le_refl _)
      | exact bt HB0.out hbC (Nat.le_refl _)
      | exact bt HB0.out hbB (Nat.le_refl _)
      | exact bt HB0.out hbA (Nat.le_refl _)
  subst c_n
  by_cases c_tb : (1 : Int) ≤ tab ∧ tab ≤ 4
  rotate_left
  · have hv := HF.out (by unfold CdP; omega)
    subst hv
    clear HF HT
    obtain ⟨BT, ht⟩ : ∃ B, (decide ((1 : Int) ≤ tab) && decide (tab ≤ 4)) = B := ⟨_, rfl⟩
    obtain rfl : false = BT := by rw [← ht]; rw [eq_comm, Bool.and_eq_false_iff, decide_eq_false_iff_not, decide_eq_false_iff_not]; omega
    clear c_tb
    go_enter Tryz.func109, Tryz.ntmps109
    go_upto_region 1 with (fail)
    rw [HW0.out]
    go_wp2_with (first
      | (go_at_call 138; (with_reducible refine (HON.out _).mono ?_); rintro r w1 ⟨rfl, hb1⟩; have hbA := bta hb1 (Nat.le_refl _) (.cells #[.int .i64 4, .int .i64 0, .slice none 0 0, .int .i64 tab, .int .i64 f, .int .i64 cnt, .int .i64 0] 124))
      | (go_at_call 139; (with_reducible refine (HEQ.out _ hbA).mono ?_); rintro r w2 ⟨rfl, hb2⟩; have hbB := bt hbA hb2 (Nat.le_refl _); have x0 : w2.cell? ⟨w1.heap.size, 0, none⟩ = some (.int .i64 4) := hpCell (hpKeep (hpNew w1 (.cells #[.int .i64 4, .int .i64 0, .slice none 0 0, .int .i64 tab, .int .i64 f, .int .i64 cnt, .int .i64 0] 124)) hb2) 0; have x1 : w2.cell? ⟨w1.heap.size, 1, none⟩ = some (.int .i64 0) := hpCell (hpKeep (hpNew w1 (.cells #[.int .i64 4, .int .i64 0, .slice none 0 0, .int .i64 tab, .int .i64 f, .int .i64 cnt, .int .i64 0] 124)) hb2) 1; have x2 : w2.cell? ⟨w1.heap.size, 2, none⟩ = some (.slice none 0 0) := hpCell (hpKeep (hpNew w1 (.cells #[.int .i64 4, .int .i64 0, .slice none 0 0, .int .i64 tab, .int .i64 f, .int .i64 cnt, .int .i64 0] 124)) hb2) 2; have x3 : w2.cell? ⟨w1.heap.size, 3, none⟩ = some (.int .i64 tab) := hpCell (hpKeep (hpNew w1 (.cells #[.int .i64 4, .int .i64 0, .slice none 0 0, .int .i64 tab, .int .i64 f, .int .i64 cnt, .int .i64 0] 124)) hb2) 3; have x4 : w2.cell? ⟨w1.heap.size, 4, none⟩ = some (.int .i64 f) := hpCell (hpKeep (hpNew w1 (.cells #[.int .i64 4, .int .i64 0, .slice none 0 0, .int .i64 tab, .int .i64 f, .int .i64 cnt, .int .i64 0] 124)) hb2) 4; have x5 : w2.cell? ⟨w1.heap.size, 5, none⟩ = some (.int .i64 cnt) := hpCell (hpKeep (hpNew w1 (.cells #[.int .i64 4, .int .i64 0, .slice none 0 0, .int .i64 tab, .int .i64 f, .int .i64 cnt, .int .i64 0] 124)) hb2) 5; have x6 : w2.cell? ⟨w1.heap.size, 6, none⟩ = some (.int .i64 0) := hpCell (hpKeep (hpNew w1 (.cells #[.int .i64 4, .int .i64 0, .slice none 0 0, .int .i64 tab, .int .i64 f, .int .i64 cnt, .int .i64 0] 124)) hb2) 6)
      | (go_at_call 140; (with_reducible refine (HTI.out _ _ _ ht).mono ?_); rintro r w3 ⟨rfl, hb3⟩; have hbC := bt hbB hb3 (Nat.le_refl _))
      | (go_at_call 108; (with_reducible refine (HWI.out _ _ _ _ _ hi).mono ?_); rintro r w3 ⟨rfl, hb3⟩; have hbC := bt hbB hb3 (Nat.le_refl _))
      | (go_at_call 108; (with_reducible refine (HWI.out _ _ _ _ _ hl).mono ?_); rintro r w4 ⟨rfl, hb4⟩; have hbD := bt (by first | exact hbC | exact hbB) hb4 (Nat.le_refl _)))
    go_ret
    refine ⟨rfl, ?_⟩
    first
      | exact bt HB0.out hbD (Nat.le_refl _)
      | exact bt HB0.out hbC (Nat.le_refl _)
      | exact bt HB0.out hbB (Nat.le_refl _)
      | exact bt HB0.out hbA (Nat.le_refl _)
  obtain ⟨BT, ht⟩ : ∃ B, (decide ((1 : Int) ≤ tab) && decide (tab ≤ 4)) = B := ⟨_, rfl⟩
  obtain rfl : true = BT := by rw [← ht, decide_eq_true (by omega), decide_eq_true (by omega)]; rfl
  by_cases c_f : 0 ≤ f
  rotate_left
  · have hv := HF.out (by unfold CdP; omega)
    subst hv
    clear HF HT
    have g_f : decide (0 ≤ f) = false := by rw [decide_eq_false_iff_not]; omega
    clear c_f
    go_enter Tryz.func109, Tryz.ntmps109
    go_upto_region 1 with (fail)
    rw [HW0.out]
    go_wp2_with (first
      | (go_at_call 138; (with_reducible refine (HON.out _).mono ?_); rintro r w1 ⟨rfl, hb1⟩; have hbA := bta hb1 (Nat.le_refl _) (.cells #[.int .i64 4, .int .i64 0, .slice none 0 0, .int .i64 tab, .int .i64 f, .int .i64 cnt, .int .i64 0] 124))
      | (go_at_call 139; (with_reducible refine (HEQ.out _ hbA).mono ?_); rintro r w2 ⟨rfl, hb2⟩; have hbB := bt hbA hb2 (Nat.le_refl _); have x0 : w2.cell? ⟨w1.heap.size, 0, none⟩ = some (.int .i64 4) := hpCell (hpKeep (hpNew w1 (.cells #[.int .i64 4, .int .i64 0, .slice none 0 0, .int .i64 tab, .int .i64 f, .int .i64 cnt, .int .i64 0] 124)) hb2) 0; have x1 : w2.cell? ⟨w1.heap.size, 1, none⟩ = some (.int .i64 0) := hpCell (hpKeep (hpNew w1 (.cells #[.int .i64 4, .int .i64 0, .slice none 0 0, .int .i64 tab, .int .i64 f, .int .i64 cnt, .int .i64 0] 124)) hb2) 1; have x2 : w2.cell? ⟨w1.heap.size, 2, none⟩ = some (.slice none 0 0) := hpCell (hpKeep (hpNew w1 (.cells #[.int .i64 4, .int .i64 0, .slice none 0 0, .int .i64 tab, .int .i64 f, .int .i64 cnt, .int .i64 0] 124)) hb2) 2; have x3 : w2.cell? ⟨w1.heap.size, 3, none⟩ = some (.int .i64 tab) := hpCell (hpKeep (hpNew w1 (.cells #[.int .i64 4, .int .i64 0, .slice none 0 0, .int .i64 tab, .int .i64 f, .int .i64 cnt, .int .i64 0] 124)) hb2) 3; have x4 : w2.cell? ⟨w1.heap.size, 4, none⟩ = some (.int .i64 f) := hpCell (hpKeep (hpNew w1 (.cells #[.int .i64 4, .int .i64 0, .slice none 0 0, .int .i64 tab, .int .i64 f, .int .i64 cnt, .int .i64 0] 124)) hb2) 4; have x5 : w2.cell? ⟨w1.heap.size, 5, none⟩ = some (.int .i64 cnt) := hpCell (hpKeep (hpNew w1 (.cells #[.int .i64 4, .int .i64 0, .slice none 0 0, .int .i64 tab, .int .i64 f, .int .i64 cnt, .int .i64 0] 124)) hb2) 5; have x6 : w2.cell? ⟨w1.heap.size, 6, none⟩ = some (.int .i64 0) := hpCell (hpKeep (hpNew w1 (.cells #[.int .i64 4, .int .i64 0, .slice none 0 0, .int .i64 tab, .int .i64 f, .int .i64 cnt, .int .i64 0] 124)) hb2) 6)
      | (go_at_call 140; (with_reducible refine (HTI.out _ _ _ ht).mono ?_); rintro r w3 ⟨rfl, hb3⟩; have hbC := bt hbB hb3 (Nat.le_refl _))
      | (go_at_call 108; (with_reducible refine (HWI.out _ _ _ _ _ hi).mono ?_); rintro r w3 ⟨rfl, hb3⟩; have hbC := bt hbB hb3 (Nat.le_refl _))
      | (go_at_call 108; (with_reducible refine (HWI.out _ _ _ _ _ hl).mono ?_); rintro r w4 ⟨rfl, hb4⟩; have hbD := bt (by first | exact hbC | exact hbB) hb4 (Nat.le_refl _)))
    go_ret
    refine ⟨rfl, ?_⟩
    first
      | exact bt HB0.out hbD (Nat.le_refl _)
      | exact bt HB0.out hbC (Nat.le_refl _)
      | exact bt HB0.out hbB (Nat.le_refl _)
      | exact bt HB0.out hbA (Nat.le_refl _)
  have g_f : decide (0 ≤ f) = true := by rw [decide_eq_true_eq]; omega
  by_cases c_cn : 1 ≤ cnt
  rotate_left
  · have hv := HF.out (by unfold CdP; omega)
    subst hv
    clear HF HT
    have g_cn : decide (1 ≤ cnt) = false := by rw [decide_eq_false_iff_not]; omega
    clear c_cn
    go_enter Tryz.func109, Tryz.ntmps109
    go_upto_region 1 with (fail)
    rw [HW0.out]
    go_wp2_with (first
      | (go_at_call 138; (with_reducible refine (HON.out _).mono ?_); rintro r w1 ⟨rfl, hb1⟩; have hbA := bta hb1 (Nat.le_refl _) (.cells #[.int .i64 4, .int .i64 0, .slice none 0 0, .int .i64 tab, .int .i64 f, .int .i64 cnt, .int .i64 0] 124))
      | (go_at_call 139; (with_reducible refine (HEQ.out _ hbA).mono ?_); rintro r w2 ⟨rfl, hb2⟩; have hbB := bt hbA hb2 (Nat.le_refl _); have x0 : w2.cell? ⟨w1.heap.size, 0, none⟩ = some (.int .i64 4) := hpCell (hpKeep (hpNew w1 (.cells #[.int .i64 4, .int .i64 0, .slice none 0 0, .int .i64 tab, .int .i64 f, .int .i64 cnt, .int .i64 0] 124)) hb2) 0; have x1 : w2.cell? ⟨w1.heap.size, 1, none⟩ = some (.int .i64 0) := hpCell (hpKeep (hpNew w1 (.cells #[.int .i64 4, .int .i64 0, .slice none 0 0, .int .i64 tab, .int .i64 f, .int .i64 cnt, .int .i64 0] 124)) hb2) 1; have x2 : w2.cell? ⟨w1.heap.size, 2, none⟩ = some (.slice none 0 0) := hpCell (hpKeep (hpNew w1 (.cells #[.int .i64 4, .int .i64 0, .slice none 0 0, .int .i64 tab, .int .i64 f, .int .i64 cnt, .int .i64 0] 124)) hb2) 2; have x3 : w2.cell? ⟨w1.heap.size, 3, none⟩ = some (.int .i64 tab) := hpCell (hpKeep (hpNew w1 (.cells #[.int .i64 4, .int .i64 0, .slice none 0 0, .int .i64 tab, .int .i64 f, .int .i64 cnt, .int .i64 0] 124)) hb2) 3; have x4 : w2.cell? ⟨w1.heap.size, 4, none⟩ = some (.int .i64 f) := hpCell (hpKeep (hpNew w1 (.cells #[.int .i64 4, .int .i64 0, .slice none 0 0, .int .i64 tab, .int .i64 f, .int .i64 cnt, .int .i64 0] 124)) hb2) 4; have x5 : w2.cell? ⟨w1.heap.size, 5, none⟩ = some (.int .i64 cnt) := hpCell (hpKeep (hpNew w1 (.cells #[.int .i64 4, .int .i64 0, .slice none 0 0, .int .i64 tab, .int .i64 f, .int .i64 cnt, .int .i64 0] 124)) hb2) 5; have x6 : w2.cell? ⟨w1.heap.size, 6, none⟩ = some (.int .i64 0) := hpCell (hpKeep (hpNew w1 (.cells #[.int .i64 4, .int .i64 0, .slice none 0 0, .int .i64 tab, .int .i64 f, .int .i64 cnt, .int .i64 0] 124)) hb2) 6)
      | (go_at_call 140; (with_reducible refine (HTI.out _ _ _ ht).mono ?_); rintro r w3 ⟨rfl, hb3⟩; have hbC := bt hbB hb3 (Nat.le_refl _))
      | (go_at_call 108; (with_reducible refine (HWI.out _ _ _ _ _ hi).mono ?_); rintro r w3 ⟨rfl, hb3⟩; have hbC := bt hbB hb3 (Nat.le_refl _))
      | (go_at_call 108; (with_reducible refine (HWI.out _ _ _ _ _ hl).mono ?_); rintro r w4 ⟨rfl, hb4⟩; have hbD := bt (by first | exact hbC | exact hbB) hb4 (Nat.le_refl _)))
    go_ret
    refine ⟨rfl, ?_⟩
    first
      | exact bt HB0.out hbD (Nat.le_refl _)
      | exact bt HB0.out hbC (Nat.le_refl _)
      | exact bt HB0.out hbB (Nat.le_refl _)
      | exact bt HB0.out hbA (Nat.le_refl _)
  have g_cn : decide (1 ≤ cnt) = true := by rw [decide_eq_true_eq]; omega
  by_cases c_fc : f ≤ 65536 - cnt
  rotate_left
  · have hv := HF.out (by unfold CdP; omega)
    subst hv
    clear HF HT
    have g_fc : decide (f ≤ 65536 - cnt) = false := by rw [decide_eq_false_iff_not]; omega
    have k_fc : decide (f ≤ wrap64 (65536 - cnt)) = false := by rw [show wrap64 (65536 - cnt) = 65536 - cnt by unfold wrap64; omega, decide_eq_false_iff_not]; omega
    clear c_fc
    go_enter Tryz.func109, Tryz.ntmps109
    go_upto_region 1 with (fail)
    rw [HW0.out]
    go_wp2_with (first
      | (go_at_call 138; (with_reducible refine (HON.out _).mono ?_); rintro r w1 ⟨rfl, hb1⟩; have hbA := bta hb1 (Nat.le_refl _) (.cells #[.int .i64 4, .int .i64 0, .slice none 0 0, .int .i64 tab, .int .i64 f, .int .i64 cnt, .int .i64 0] 124))
      | (go_at_call 139; (with_reducible refine (HEQ.out _ hbA).mono ?_); rintro r w2 ⟨rfl, hb2⟩; have hbB := bt hbA hb2 (Nat.le_refl _); have x0 : w2.cell? ⟨w1.heap.size, 0, none⟩ = some (.int .i64 4) := hpCell (hpKeep (hpNew w1 (.cells #[.int .i64 4, .int .i64 0, .slice none 0 0, .int .i64 tab, .int .i64 f, .int .i64 cnt, .int .i64 0] 124)) hb2) 0; have x1 : w2.cell? ⟨w1.heap.size, 1, none⟩ = some (.int .i64 0) := hpCell (hpKeep (hpNew w1 (.cells #[.int .i64 4, .int .i64 0, .slice none 0 0, .int .i64 tab, .int .i64 f, .int .i64 cnt, .int .i64 0] 124)) hb2) 1; have x2 : w2.cell? ⟨w1.heap.size, 2, none⟩ = some (.slice none 0 0) := hpCell (hpKeep (hpNew w1 (.cells #[.int .i64 4, .int .i64 0, .slice none 0 0, .int .i64 tab, .int .i64 f, .int .i64 cnt, .int .i64 0] 124)) hb2) 2; have x3 : w2.cell? ⟨w1.heap.size, 3, none⟩ = some (.int .i64 tab) := hpCell (hpKeep (hpNew w1 (.cells #[.int .i64 4, .int .i64 0, .slice none 0 0, .int .i64 tab, .int .i64 f, .int .i64 cnt, .int .i64 0] 124)) hb2) 3; have x4 : w2.cell? ⟨w1.heap.size, 4, none⟩ = some (.int .i64 f) := hpCell (hpKeep (hpNew w1 (.cells #[.int .i64 4, .int .i64 0, .slice none 0 0, .int .i64 tab, .int .i64 f, .int .i64 cnt, .int .i64 0] 124)) hb2) 4; have x5 : w2.cell? ⟨w1.heap.size, 5, none⟩ = some (.int .i64 cnt) := hpCell (hpKeep (hpNew w1 (.cells #[.int .i64 4, .int .i64 0, .slice none 0 0, .int .i64 tab, .int .i64 f, .int .i64 cnt, .int .i64 0] 124)) hb2) 5; have x6 : w2.cell? ⟨w1.heap.size, 6, none⟩ = some (.int .i64 0) := hpCell (hpKeep (hpNew w1 (.cells #[.int .i64 4, .int .i64 0, .slice none 0 0, .int .i64 tab, .int .i64 f, .int .i64 cnt, .int .i64 0] 124)) hb2) 6)
      | (go_at_call 140; (with_reducible refine (HTI.out _ _ _ ht).mono ?_); rintro r w3 ⟨rfl, hb3⟩; have hbC := bt hbB hb3 (Nat.le_refl _))
      | (go_at_call 108; (with_reducible refine (HWI.out _ _ _ _ _ hi).mono ?_); rintro r w3 ⟨rfl, hb3⟩; have hbC := bt hbB hb3 (Nat.le_refl _))
      | (go_at_call 108; (with_reducible refine (HWI.out _ _ _ _ _ hl).mono ?_); rintro r w4 ⟨rfl, hb4⟩; have hbD := bt (by first | exact hbC | exact hbB) hb4 (Nat.le_refl _)))
    go_ret
    refine ⟨rfl, ?_⟩
    first
      | exact bt HB0.out hbD (Nat.le_refl _)
      | exact bt HB0.out hbC (Nat.le_refl _)
      | exact bt HB0.out hbB (Nat.le_refl _)
      | exact bt HB0.out hbA (Nat.le_refl _)
  have g_fc : decide (f ≤ 65536 - cnt) = true := by rw [decide_eq_true_eq]; omega
  have k_fc : decide (f ≤ wrap64 (65536 - cnt)) = true := by rw [show wrap64 (65536 - cnt) = 65536 - cnt by unfold wrap64; omega, decide_eq_true_eq]; omega
  have hv := HT.out (by unfold CdP; omega)
  subst hv
  clear HF HT
  go_enter Tryz.func109, Tryz.ntmps109
  go_upto_region 1 with (fail)
  rw [HW0.out]
  go_wp2_with (first
    | (go_at_call 138; (with_reducible refine (HON.out _).mono ?_); rintro r w1 ⟨rfl, hb1⟩; have hbA := bta hb1 (Nat.le_refl _) (.cells #[.int .i64 4, .int .i64 0, .slice none 0 0, .int .i64 tab, .int .i64 f, .int .i64 cnt, .int .i64 0] 124))
    | (go_at_call 139; (with_reducible refine (HEQ.out _ hbA).mono ?_); rintro r w2 ⟨rfl, hb2⟩; have hbB := bt hbA hb2 (Nat.le_refl _); have x0 : w2.cell? ⟨w1.heap.size, 0, none⟩ = some (.int .i64 4) := hpCell (hpKeep (hpNew w1 (.cells #[.int .i64 4, .int .i64 0, .slice none 0 0, .int .i64 tab, .int .i64 f, .int .i64 cnt, .int .i64 0] 124)) hb2) 0; have x1 : w2.cell? ⟨w1.heap.size, 1, none⟩ = some (.int .i64 0) := hpCell (hpKeep (hpNew w1 (.cells #[.int .i64 4, .int .i64 0, .slice none 0 0, .int .i64 tab, .int .i64 f, .int .i64 cnt, .int .i64 0] 124)) hb2) 1; have x2 : w2.cell? ⟨w1.heap.size, 2, none⟩ = some (.slice none 0 0) := hpCell (hpKeep (hpNew w1 (.cells #[.int .i64 4, .int .i64 0, .slice none 0 0, .int .i64 tab, .int .i64 f, .int .i64 cnt, .int .i64 0] 124)) hb2) 2; have x3 : w2.cell? ⟨w1.heap.size, 3, none⟩ = some (.int .i64 tab) := hpCell (hpKeep (hpNew w1 (.cells #[.int .i64 4, .int .i64 0, .slice none 0 0, .int .i64 tab, .int .i64 f, .int .i64 cnt, .int .i64 0] 124)) hb2) 3; have x4 : w2.cell? ⟨w1.heap.size, 4, none⟩ = some (.int .i64 f) := hpCell (hpKeep (hpNew w1 (.cells #[.int .i64 4, .int .i64 0, .slice none 0 0, .int .i64 tab, .int .i64 f, .int .i64 cnt, .int .i64 0] 124)) hb2) 4; have x5 : w2.cell? ⟨w1.heap.size, 5, none⟩ = some (.int .i64 cnt) := hpCell (hpKeep (hpNew w1 (.cells #[.int .i64 4, .int .i64 0, .slice none 0 0, .int .i64 tab, .int .i64 f, .int .i64 cnt, .int .i64 0] 124)) hb2) 5; have x6 : w2.cell? ⟨w1.heap.size, 6, none⟩ = some (.int .i64 0) := hpCell (hpKeep (hpNew w1 (.cells #[.int .i64 4, .int .i64 0, .slice none 0 0, .int .i64 tab, .int .i64 f, .int .i64 cnt, .int .i64 0] 124)) hb2) 6)
    | (go_at_call 140; (with_reducible refine (HTI.out _ _ _ ht).mono ?_); rintro r w3 ⟨rfl, hb3⟩; have hbC := bt hbB hb3 (Nat.le_refl _))
    | (go_at_call 108; (with_reducible refine (HWI.out _ _ _ _ _ hi).mono ?_); rintro r w3 ⟨rfl, hb3⟩; have hbC := bt hbB hb3 (Nat.le_refl _))
    | (go_at_call 108; (with_reducible refine (HWI.out _ _ _ _ _ hl).mono ?_); rintro r w4 ⟨rfl, hb4⟩; have hbD := bt (by first | exact hbC | exact hbB) hb4 (Nat.le_refl _)))
  go_ret
  refine ⟨rfl, ?_⟩
  first
    | exact bt HB0.out hbD (Nat.le_refl _)
    | exact bt HB0.out hbC (Nat.le_refl _)
    | exact bt HB0.out hbB (Nat.le_refl _)
    | exact bt HB0.out hbA (Nat.le_refl _)

set_option maxRecDepth 100000 in
set_option maxHeartbeats 12800000 in
theorem pcond_e (id tab f cnt n : Int) (va : Option Addr) (ln vc : Nat) (val : List UInt8) (w : World) (hval : Bs w (.slice va ln vc) val) (hln : val.length = ln) (hm : ln ≤ 9223372036854775807) (V : Bool) (hV : Hid (V = true ↔ CdP 5 id ln tab f cnt n)) :
    Calls Tryz.prog 109 #[.agg #[.int .i64 5, .int .i64 id, .slice va ln vc, .int .i64 tab, .int .i64 f, .int .i64 cnt, .int .i64 n]] w (BoolPost w V) := by
  have HF : Hid (¬ CdP 5 id ln tab f cnt n → V = false) := fun h => by
    cases e : V with
    | false => rfl
    | true => exact absurd (hV.out.1 e) h
  have HT : Hid (CdP 5 id ln tab f cnt n → V = true) := hV.out.2
  obtain ⟨W0, hW0⟩ : ∃ W, w.alloc (.cells #[.int .i64 5, .int .i64 id, .slice va ln vc, .int .i64 tab, .int .i64 f, .int .i64 cnt, .int .i64 n] 124) = W := ⟨_, rfl⟩
  have hb0 : Below w.heap.size w W0 := by rw [← hW0]; exact bal' w _
  have p0 : W0.heap[w.heap.size]? = some (.cells #[.int .i64 5, .int .i64 id, .slice va ln vc, .int .i64 tab, .int .i64 f, .int .i64 cnt, .int .i64 n] 124) := by rw [← hW0]; exact hpNew w _
  have y0 : ∀ X, Below W0.heap.size W0 X → X.cell? ⟨w.heap.size, 0, none⟩ = some (.int .i64 5) := fun X hX => hpCell (hpKeep p0 hX) 0
  have y1 : ∀ X, Below W0.heap.size W0 X → X.cell? ⟨w.heap.size, 1, none⟩ = some (.int .i64 id) := fun X hX => hpCell (hpKeep p0 hX) 1
  have y2 : ∀ X, Below W0.heap.size W0 X → X.cell? ⟨w.heap.size, 2, none⟩ = some (.slice va ln vc) := fun X hX => hpCell (hpKeep p0 hX) 2
  have y3 : ∀ X, Below W0.heap.size W0 X → X.cell? ⟨w.heap.size, 3, none⟩ = some (.int .i64 tab) := fun X hX => hpCell (hpKeep p0 hX) 3
  have y4 : ∀ X, Below W0.heap.size W0 X → X.cell? ⟨w.heap.size, 4, none⟩ = some (.int .i64 f) := fun X hX => hpCell (hpKeep p0 hX) 4
  have y5 : ∀ X, Below W0.heap.size W0 X → X.cell? ⟨w.heap.size, 5, none⟩ = some (.int .i64 cnt) := fun X hX => hpCell (hpKeep p0 hX) 5
  have y6 : ∀ X, Below W0.heap.size W0 X → X.cell? ⟨w.heap.size, 6, none⟩ = some (.int .i64 n) := fun X hX => hpCell (hpKeep p0 hX) 6
  have HON : Hid (∀ X, Calls Tryz.prog 138 #[.agg #[.int .i64 5, .int .i64 id, .slice va ln vc, .int .i64 tab, .int .i64 f, .int .i64 cnt, .int .i64 n]] X fun r w' => r = .returned (.agg #[.int .i64 5, .int .i64 0, .slice none 0 0, .int .i64 tab, .int .i64 0, .int .i64 0, .int .i64 n]) ∧ Below X.heap.size X w') := fun X => only_e id tab f cnt n va ln vc X
  obtain ⟨E, hE⟩ : ∃ E, decide ([] = val) = E := ⟨_, rfl⟩
  have HEQ : Hid (∀ X, Below W0.heap.size W0 X → Calls Tryz.prog 139 #[.slice none 0 0, .slice va ln vc] X (BoolPost X E)) := fun X hX => bequal_any _ _ [] val X (Bs.nil _) (hval.keep (bt hb0 hX (Nat.le_refl _))) E hE
  have HEL : Hid ((ln = 0 → E = true) ∧ (¬ ln = 0 → E = false)) := ⟨fun h => by rw [← hE, decide_eq_true]; exact (List.eq_nil_of_length_eq_zero (hln.trans h)).symm, fun h => by rw [← hE, decide_eq_false]; rintro rfl; exact h hln.symm⟩
  have HW0 := hid hW0
  have HB0 := hid hb0
  have r0 : Below W0.heap.size W0 W0 := Below.refl _ _
  have HWI : Hid (∀ x a b X B, (decide (a ≤ x) && decide (x ≤ b)) = B → Calls Tryz.prog 108 #[.int .i64 x, .int .i64 a, .int .i64 b] X (BoolPost X B)) := fun x a b X B h => within_any x a b X B h
  have HTI : Hid (∀ x X B, (decide (1 ≤ x) && decide (x ≤ 4)) = B → Calls Tryz.prog 140 #[.int .i64 x] X (BoolPost X B)) := fun x X B h => istab_any x X B h
  clear hW0 hb0 p0 hE hval hV
  by_cases c_id : id = 0
  rotate_left
  · have hv := HF.out (by unfold CdP; omega)
    subst hv
    clear HF HT
    have p_id : (0 != id) = true := by rw [bne_iff_ne]; omega
    have q_id : (id != 0) = true := by rw [bne_iff_ne]; omega
    have r_id : (0 == id) = false := by rw [beq_eq_false_iff_ne]; omega
    have s_id : (id == 0) = false := by rw [beq_eq_false_iff_ne]; omega
    clear c_id
    go_enter Tryz.func109, Tryz.ntmps109
    go_upto_region 1 with (fail)
    rw [HW0.out]
    go_wp2_with (first
      | (go_at_call 138; (with_reducible refine (HON.out _).mono ?_); rintro r w1 ⟨rfl, hb1⟩; have hbA := bta hb1 (Nat.le_refl _) (.cells #[.int .i64 5, .int .i64 0, .slice none 0 0, .int .i64 tab, .int .i64 0, .int .i64 0, .int .i64 n] 124))
      | (go_at_call 139; (with_reducible refine (HEQ.out _ hbA).mono ?_); rintro r w2 ⟨rfl, hb2⟩; have hbB := bt hbA hb2 (Nat.le_refl _); have x0 : w2.cell? ⟨w1.heap.size, 0, none⟩ = some (.int .i64 5) := hpCell (hpKeep (hpNew w1 (.cells #[.int .i64 5, .int .i64 0, .slice none 0 0, .int .i64 tab, .int .i64 0, .int .i64 0, .int .i64 n] 124)) hb2) 0; have x1 : w2.cell? ⟨w1.heap.size, 1, none⟩ = some (.int .i64 0) := hpCell (hpKeep (hpNew w1 (.cells #[.int .i64 5, .int .i64 0, .slice none 0 0, .int .i64 tab, .int .i64 0, .int .i64 0, .int .i64 n] 124)) hb2) 1; have x2 : w2.cell? ⟨w1.heap.size, 2, none⟩ = some (.slice none 0 0) := hpCell (hpKeep (hpNew w1 (.cells #[.int .i64 5, .int .i64 0, .slice none 0 0, .int .i64 tab, .int .i64 0, .int .i64 0, .int .i64 n] 124)) hb2) 2; have x3 : w2.cell? ⟨w1.heap.size, 3, none⟩ = some (.int .i64 tab) := hpCell (hpKeep (hpNew w1 (.cells #[.int .i64 5, .int .i64 0, .slice none 0 0, .int .i64 tab, .int .i64 0, .int .i64 0, .int .i64 n] 124)) hb2) 3; have x4 : w2.cell? ⟨w1.heap.size, 4, none⟩ = some (.int .i64 0) := hpCell (hpKeep (hpNew w1 (.cells #[.int .i64 5, .int .i64 0, .slice none 0 0, .int .i64 tab, .int .i64 0, .int .i64 0, .int .i64 n] 124)) hb2) 4; have x5 : w2.cell? ⟨w1.heap.size, 5, none⟩ = some (.int .i64 0) := hpCell (hpKeep (hpNew w1 (.cells #[.int .i64 5, .int .i64 0, .slice none 0 0, .int .i64 tab, .int .i64 0, .int .i64 0, .int .i64 n] 124)) hb2) 5; have x6 : w2.cell? ⟨w1.heap.size, 6, none⟩ = some (.int .i64 n) := hpCell (hpKeep (hpNew w1 (.cells #[.int .i64 5, .int .i64 0, .slice none 0 0, .int .i64 tab, .int .i64 0, .int .i64 0, .int .i64 n] 124)) hb2) 6)
      | (go_at_call 140; (with_reducible refine (HTI.out _ _ _ ht).mono ?_); rintro r w3 ⟨rfl, hb3⟩; have hbC := bt hbB hb3 (Nat.le_refl _))
      | (go_at_call 108; (with_reducible refine (HWI.out _ _ _ _ _ hi).mono ?_); rintro r w3 ⟨rfl, hb3⟩; have hbC := bt hbB hb3 (Nat.le_refl _))
      | (go_at_call 108; (with_reducible refine (HWI.out _ _ _ _ _ hl).mono ?_); rintro r w4 ⟨rfl, hb4⟩; have hbD := bt (by first | exact hbC | exact hbB) hb4 (Nat.le_refl _)))
    go_ret
    refine ⟨rfl, ?_⟩
    first
      | exact bt HB0.out hbD (Nat.le_refl _)
      | exact bt HB0.out hbC (Nat.le_refl _)
      | exact bt HB0.out hbB (Nat.le_refl _)
      | exact bt HB0.out hbA (Nat.le_refl _)
  subst c_id
  by_cases c_ln : ln = 0
  rotate_left
  · have hv := HF.out (by unfold CdP; omega)
    subst hv
    clear HF HT
    obtain rfl := HEL.out.2 c_ln
    clear c_ln
    go_enter Tryz.func109, Tryz.ntmps109
    go_upto_region 1 with (fail)
    rw [HW0.out]
    go_wp2_with (first
      | (go_at_call 138; (with_reducible refine (HON.out _).mono ?_); rintro r w1 ⟨rfl, hb1⟩; have hbA := bta hb1 (Nat.le_refl _) (.cells #[.int .i64 5, .int .i64 0, .slice none 0 0, .int .i64 tab, .int .i64 0, .int .i64 0, .int .i64 n] 124))
      | (go_at_call 139; (with_reducible refine (HEQ.out _ hbA).mono ?_); rintro r w2 ⟨rfl, hb2⟩; have hbB := bt hbA hb2 (Nat.le_refl _); have x0 : w2.cell? ⟨w1.heap.size, 0, none⟩ = some (.int .i64 5) := hpCell (hpKeep (hpNew w1 (.cells #[.int .i64 5, .int .i64 0, .slice none 0 0, .int .i64 tab, .int .i64 0, .int .i64 0, .int .i64 n] 124)) hb2) 0; have x1 : w2.cell? ⟨w1.heap.size, 1, none⟩ = some (.int .i64 0) := hpCell (hpKeep (hpNew w1 (.cells #[.int .i64 5, .int .i64 0, .slice none 0 0, .int .i64 tab, .int .i64 0, .int .i64 0, .int .i64 n] 124)) hb2) 1; have x2 : w2.cell? ⟨w1.heap.size, 2, none⟩ = some (.slice none 0 0) := hpCell (hpKeep (hpNew w1 (.cells #[.int .i64 5, .int .i64 0, .slice none 0 0, .int .i64 tab, .int .i64 0, .int .i64 0, .int .i64 n] 124)) hb2) 2; have x3 : w2.cell? ⟨w1.heap.size, 3, none⟩ = some (.int .i64 tab) := hpCell (hpKeep (hpNew w1 (.cells #[.int .i64 5, .int .i64 0, .slice none 0 0, .int .i64 tab, .int .i64 0, .int .i64 0, .int .i64 n] 124)) hb2) 3; have x4 : w2.cell? ⟨w1.heap.size, 4, none⟩ = some (.int .i64 0) := hpCell (hpKeep (hpNew w1 (.cells #[.int .i64 5, .int .i64 0, .slice none 0 0, .int .i64 tab, .int .i64 0, .int .i64 0, .int .i64 n] 124)) hb2) 4; have x5 : w2.cell? ⟨w1.heap.size, 5, none⟩ = some (.int .i64 0) := hpCell (hpKeep (hpNew w1 (.cells #[.int .i64 5, .int .i64 0, .slice none 0 0, .int .i64 tab, .int .i64 0, .int .i64 0, .int .i64 n] 124)) hb2) 5; have x6 : w2.cell? ⟨w1.heap.size, 6, none⟩ = some (.int .i64 n) := hpCell (hpKeep (hpNew w1 (.cells #[.int .i64 5, .int .i64 0, .slice none 0 0, .int .i64 tab, .int .i64 0, .int .i64 0, .int .i64 n] 124)) hb2) 6)
      | (go_at_call 140; (with_reducible refine (HTI.out _ _ _ ht).mono ?_); rintro r w3 ⟨rfl, hb3⟩; have hbC := bt hbB hb3 (Nat.le_refl _))
      | (go_at_call 108; (with_reducible refine (HWI.out _ _ _ _ _ hi).mono ?_); rintro r w3 ⟨rfl, hb3⟩; have hbC := bt hbB hb3 (Nat.le_refl _))
      | (go_at_call 108; (with_reducible refine (HWI.out _ _ _ _ _ hl).mono ?_); rintro r w4 ⟨rfl, hb4⟩; have hbD := bt (by first | exact hbC | exact hbB) hb4 (Nat.le_refl _)))
    go_ret
    refine ⟨rfl, ?_⟩
    first
      | exact bt HB0.out hbD (Nat.le_refl _)
      | exact bt HB0.out hbC (Nat.le_refl _)
      | exact bt HB0.out hbB (Nat.le_refl _)
      | exact bt HB0.out hbA (Nat.le_refl _)
  obtain rfl := HEL.out.1 c_ln
  subst c_ln
  by_cases c_f : f = 0
  rotate_left
  · have hv := HF.out (by unfold CdP; omega)
    subst hv
    clear HF HT
    have p_f : (0 != f) = true := by rw [bne_iff_ne]; omega
    have q_f : (f != 0) = true := by rw [bne_iff_ne]; omega
    have r_f : (0 == f) = false := by rw [beq_eq_false_iff_ne]; omega
    have s_f : (f == 0) = false := by rw [beq_eq_false_iff_ne]; omega
    clear c_f
    go_enter Tryz.func109, Tryz.ntmps109
    go_upto_region 1 with (fail)
    rw [HW0.out]
    go_wp2_with (first
      | (go_at_call 138; (with_reducible refine (HON.out _).mono ?_); rintro r w1 ⟨rfl, hb1⟩; have hbA := bta hb1 (Nat.le_refl _) (.cells #[.int .i64 5, .int .i64 0, .slice none 0 0, .int .i64 tab, .int .i64 0, .int .i64 0, .int .i64 n] 124))
      | (go_at_call 139; (with_reducible refine (HEQ.out _ hbA).mono ?_); rintro r w2 ⟨rfl, hb2⟩; have hbB := bt hbA hb2 (Nat.le_refl _); have x0 : w2.cell? ⟨w1.heap.size, 0, none⟩ = some (.int .i64 5) := hpCell (hpKeep (hpNew w1 (.cells #[.int .i64 5, .int .i64 0, .slice none 0 0, .int .i64 tab, .int .i64 0, .int .i64 0, .int .i64 n] 124)) hb2) 0; have x1 : w2.cell? ⟨w1.heap.size, 1, none⟩ = some (.int .i64 0) := hpCell (hpKeep (hpNew w1 (.cells #[.int .i64 5, .int .i64 0, .slice none 0 0, .int .i64 tab, .int .i64 0, .int .i64 0, .int .i64 n] 124)) hb2) 1; have x2 : w2.cell? ⟨w1.heap.size, 2, none⟩ = some (.slice none 0 0) := hpCell (hpKeep (hpNew w1 (.cells #[.int .i64 5, .int .i64 0, .slice none 0 0, .int .i64 tab, .int .i64 0, .int .i64 0, .int .i64 n] 124)) hb2) 2; have x3 : w2.cell? ⟨w1.heap.size, 3, none⟩ = some (.int .i64 tab) := hpCell (hpKeep (hpNew w1 (.cells #[.int .i64 5, .int .i64 0, .slice none 0 0, .int .i64 tab, .int .i64 0, .int .i64 0, .int .i64 n] 124)) hb2) 3; have x4 : w2.cell? ⟨w1.heap.size, 4, none⟩ = some (.int .i64 0) := hpCell (hpKeep (hpNew w1 (.cells #[.int .i64 5, .int .i64 0, .slice none 0 0, .int .i64 tab, .int .i64 0, .int .i64 0, .int .i64 n] 124)) hb2) 4; have x5 : w2.cell? ⟨w1.heap.size, 5, none⟩ = some (.int .i64 0) := hpCell (hpKeep (hpNew w1 (.cells #[.int .i64 5, .int .i64 0, .slice none 0 0, .int .i64 tab, .int .i64 0, .int .i64 0, .int .i64 n] 124)) hb2) 5; have x6 : w2.cell? ⟨w1.heap.size, 6, none⟩ = some (.int .i64 n) := hpCell (hpKeep (hpNew w1 (.cells #[.int .i64 5, .int .i64 0, .slice none 0 0, .int .i64 tab, .int .i64 0, .int .i64 0, .int .i64 n] 124)) hb2) 6)
      | (go_at_call 140; (with_reducible refine (HTI.out _ _ _ ht).mono ?_); rintro r w3 ⟨rfl, hb3⟩; have hbC := bt hbB hb3 (Nat.le_refl _))
      | (go_at_call 108; (with_reducible refine (HWI.out _ _ _ _ _ hi).mono ?_); rintro r w3 ⟨rfl, hb3⟩; have hbC := bt hbB hb3 (Nat.le_refl _))
      | (go_at_call 108; (with_reducible refine (HWI.out _ _ _ _ _ hl).mono ?_); rintro r w4 ⟨rfl, hb4⟩; have hbD := bt (by first | exact hbC | exact hbB) hb4 (Nat.le_refl _)))
    go_ret
    refine ⟨rfl, ?_⟩
    first
      | exact bt HB0.out hbD (Nat.le_refl _)
      | exact bt HB0.out hbC (Nat.le_refl _)
      | exact bt HB0.out hbB (Nat.le_refl _)
      | exact bt HB0.out hbA (Nat.le_refl _)
  subst c_f
  by_cases c_cnt : cnt = 0
  rotate_left
  · have hv := HF.out (by unfold CdP; omega)
    subst hv
    clear HF HT
    have p_cnt : (0 != cnt) = true := by rw [bne_iff_ne]; omega
    have q_cnt : (cnt != 0) = true := by rw [bne_iff_ne]; omega
    have r_cnt : (0 == cnt) = false := by rw [beq_eq_false_iff_ne]; omega
    have s_cnt : (cnt == 0) = false := by rw [beq_eq_false_iff_ne]; omega
    clear c_cnt
    go_enter Tryz.func109, Tryz.ntmps109
    go_upto_region 1 with (fail)
    rw [HW0.out]
    go_wp2_with (first
      | (go_at_call 138; (with_reducible refine (HON.out _).mono ?_); rintro r w1 ⟨rfl, hb1⟩; have hbA := bta hb1 (Nat.le_refl _) (.cells #[.int .i64 5, .int .i64 0, .slice none 0 0, .int .i64 tab, .int .i64 0, .int .i64 0, .int .i64 n] 124))
      | (go_at_call 139; (with_reducible refine (HEQ.out _ hbA).mono ?_); rintro r w2 ⟨rfl, hb2⟩; have hbB := bt hbA hb2 (Nat.le_refl _); have x0 : w2.cell? ⟨w1.heap.size, 0, none⟩ = some (.int .i64 5) := hpCell (hpKeep (hpNew w1 (.cells #[.int .i64 5, .int .i64 0, .slice none 0 0, .int .i64 tab, .int .i64 0, .int .i64 0, .int .i64 n] 124)) hb2) 0; have x1 : w2.cell? ⟨w1.heap.size, 1, none⟩ = some (.int .i64 0) := hpCell (hpKeep (hpNew w1 (.cells #[.int .i64 5, .int .i64 0, .slice none 0 0, .int .i64 tab, .int .i64 0, .int .i64 0, .int .i64 n] 124)) hb2) 1; have x2 : w2.cell? ⟨w1.heap.size, 2, none⟩ = some (.slice none 0 0) := hpCell (hpKeep (hpNew w1 (.cells #[.int .i64 5, .int .i64 0, .slice none 0 0, .int .i64 tab, .int .i64 0, .int .i64 0, .int .i64 n] 124)) hb2) 2; have x3 : w2.cell? ⟨w1.heap.size, 3, none⟩ = some (.int .i64 tab) := hpCell (hpKeep (hpNew w1 (.cells #[.int .i64 5, .int .i64 0, .slice none 0 0, .int .i64 tab, .int .i64 0, .int .i64 0, .int .i64 n] 124)) hb2) 3; have x4 : w2.cell? ⟨w1.heap.size, 4, none⟩ = some (.int .i64 0) := hpCell (hpKeep (hpNew w1 (.cells #[.int .i64 5, .int .i64 0, .slice none 0 0, .int .i64 tab, .int .i64 0, .int .i64 0, .int .i64 n] 124)) hb2) 4; have x5 : w2.cell? ⟨w1.heap.size, 5, none⟩ = some (.int .i64 0) := hpCell (hpKeep (hpNew w1 (.cells #[.int .i64 5, .int .i64 0, .slice none 0 0, .int .i64 tab, .int .i64 0, .int .i64 0, .int .i64 n] 124)) hb2) 5; have x6 : w2.cell? ⟨w1.heap.size, 6, none⟩ = some (.int .i64 n) := hpCell (hpKeep (hpNew w1 (.cells #[.int .i64 5, .int .i64 0, .slice none 0 0, .int .i64 tab, .int .i64 0, .int .i64 0, .int .i64 n] 124)) hb2) 6)
      | (go_at_call 140; (with_reducible refine (HTI.out _ _ _ ht).mono ?_); rintro r w3 ⟨rfl, hb3⟩; have hbC := bt hbB hb3 (Nat.le_refl _))
      | (go_at_call 108; (with_reducible refine (HWI.out _ _ _ _ _ hi).mono ?_); rintro r w3 ⟨rfl, hb3⟩; have hbC := bt hbB hb3 (Nat.le_refl _))
      | (go_at_call 108; (with_reducible refine (HWI.out _ _ _ _ _ hl).mono ?_); rintro r w4 ⟨rfl, hb4⟩; have hbD := bt (by first | exact hbC | exact hbB) hb4 (Nat.le_refl _)))
    go_ret
    refine ⟨rfl, ?_⟩
    first
      | exact bt HB0.out hbD (Nat.le_refl _)
      | exact bt HB0.out hbC (Nat.le_refl _)
      | exact bt HB0.out hbB (Nat.le_refl _)
      | exact bt HB0.out hbA (Nat.le_refl _)
  subst c_cnt
  by_cases c_tb : (1 : Int) ≤ tab ∧ tab ≤ 4
  rotate_left
  · have hv := HF.out (by unfold CdP; omega)
    subst hv
    clear HF HT
    obtain ⟨BT, ht⟩ : ∃ B, (decide ((1 : Int) ≤ tab) && decide (tab ≤ 4)) = B := ⟨_, rfl⟩
    obtain rfl : false = BT := by rw [← ht]; rw [eq_comm, Bool.and_eq_false_iff, decide_eq_false_iff_not, decide_eq_false_iff_not]; omega
    clear c_tb
    go_enter Tryz.func109, Tryz.ntmps109
    go_upto_region 1 with (fail)
    rw [HW0.out]
    go_wp2_with (first
      | (go_at_call 138; (with_reducible refine (HON.out _).mono ?_); rintro r w1 ⟨rfl, hb1⟩; have hbA := bta hb1 (Nat.le_refl _) (.cells #[.int .i64 5, .int .i64 0, .slice none 0 0, .int .i64 tab, .int .i64 0, .int .i64 0, .int .i64 n] 124))
      | (go_at_call 139; (with_reducible refine (HEQ.out _ hbA).mono ?_); rintro r w2 ⟨rfl, hb2⟩; have hbB := bt hbA hb2 (Nat.le_refl _); have x0 : w2.cell? ⟨w1.heap.size, 0, none⟩ = some (.int .i64 5) := hpCell (hpKeep (hpNew w1 (.cells #[.int .i64 5, .int .i64 0, .slice none 0 0, .int .i64 tab, .int .i64 0, .int .i64 0, .int .i64 n] 124)) hb2) 0; have x1 : w2.cell? ⟨w1.heap.size, 1, none⟩ = some (.int .i64 0) := hpCell (hpKeep (hpNew w1 (.cells #[.int .i64 5, .int .i64 0, .slice none 0 0, .int .i64 tab, .int .i64 0, .int .i64 0, .int .i64 n] 124)) hb2) 1; have x2 : w2.cell? ⟨w1.heap.size, 2, none⟩ = some (.slice none 0 0) := hpCell (hpKeep (hpNew w1 (.cells #[.int .i64 5, .int .i64 0, .slice none 0 0, .int .i64 tab, .int .i64 0, .int .i64 0, .int .i64 n] 124)) hb2) 2; have x3 : w2.cell? ⟨w1.heap.size, 3, none⟩ = some (.int .i64 tab) := hpCell (hpKeep (hpNew w1 (.cells #[.int .i64 5, .int .i64 0, .slice none 0 0, .int .i64 tab, .int .i64 0, .int .i64 0, .int .i64 n] 124)) hb2) 3; have x4 : w2.cell? ⟨w1.heap.size, 4, none⟩ = some (.int .i64 0) := hpCell (hpKeep (hpNew w1 (.cells #[.int .i64 5, .int .i64 0, .slice none 0 0, .int .i64 tab, .int .i64 0, .int .i64 0, .int .i64 n] 124)) hb2) 4; have x5 : w2.cell? ⟨w1.heap.size, 5, none⟩ = some (.int .i64 0) := hpCell (hpKeep (hpNew w1 (.cells #[.int .i64 5, .int .i64 0, .slice none 0 0, .int .i64 tab, .int .i64 0, .int .i64 0, .int .i64 n] 124)) hb2) 5; have x6 : w2.cell? ⟨w1.heap.size, 6, none⟩ = some (.int .i64 n) := hpCell (hpKeep (hpNew w1 (.cells #[.int .i64 5, .int .i64 0, .slice none 0 0, .int .i64 tab, .int .i64 0, .int .i64 0, .int .i64 n] 124)) hb2) 6)
      | (go_at_call 140; (with_reducible refine (HTI.out _ _ _ ht).mono ?_); rintro r w3 ⟨rfl, hb3⟩; have hbC := bt hbB hb3 (Nat.le_refl _))
      | (go_at_call 108; (with_reducible refine (HWI.out _ _ _ _ _ hi).mono ?_); rintro r w3 ⟨rfl, hb3⟩; have hbC := bt hbB hb3 (Nat.le_refl _))
      | (go_at_call 108; (with_reducible refine (HWI.out _ _ _ _ _ hl).mono ?_); rintro r w4 ⟨rfl, hb4⟩; have hbD := bt (by first | exact hbC | exact hbB) hb4 (Nat.le_refl _)))
    go_ret
    refine ⟨rfl, ?_⟩
    first
      | exact bt HB0.out hbD (Nat.le_refl _)
      | exact bt HB0.out hbC (Nat.le_refl _)
      | exact bt HB0.out hbB (Nat.le_refl _)
      | exact bt HB0.out hbA (Nat.le_refl _)
  obtain ⟨BT, ht⟩ : ∃ B, (decide ((1 : Int) ≤ tab) && decide (tab ≤ 4)) = B := ⟨_, rfl⟩
  obtain rfl : true = BT := by rw [← ht, decide_eq_true (by omega), decide_eq_true (by omega)]; rfl
  by_cases c_nn : (1 : Int) ≤ n ∧ n ≤ 2000
  rotate_left
  · have hv := HF.out (by unfold CdP; omega)
    subst hv
    clear HF HT
    obtain ⟨BL, hl⟩ : ∃ B, (decide ((1 : Int) ≤ n) && decide (n ≤ 2000)) = B := ⟨_, rfl⟩
    obtain rfl : false = BL := by rw [← hl]; rw [eq_comm, Bool.and_eq_false_iff, decide_eq_false_iff_not, decide_eq_false_iff_not]; omega
    clear c_nn
    go_enter Tryz.func109, Tryz.ntmps109
    go_upto_region 1 with (fail)
    rw [HW0.out]
    go_wp2_with (first
      | (go_at_call 138; (with_reducible refine (HON.out _).mono ?_); rintro r w1 ⟨rfl, hb1⟩; have hbA := bta hb1 (Nat.le_refl _) (.cells #[.int .i64 5, .int .i64 0, .slice none 0 0, .int .i64 tab, .int .i64 0, .int .i64 0, .int .i64 n] 124))
      | (go_at_call 139; (with_reducible refine (HEQ.out _ hbA).mono ?_); rintro r w2 ⟨rfl, hb2⟩; have hbB := bt hbA hb2 (Nat.le_refl _); have x0 : w2.cell? ⟨w1.heap.size, 0, none⟩ = some (.int .i64 5) := hpCell (hpKeep (hpNew w1 (.cells #[.int .i64 5, .int .i64 0, .slice none 0 0, .int .i64 tab, .int .i64 0, .int .i64 0, .int .i64 n] 124)) hb2) 0; have x1 : w2.cell? ⟨w1.heap.size, 1, none⟩ = some (.int .i64 0) := hpCell (hpKeep (hpNew w1 (.cells #[.int .i64 5, .int .i64 0, .slice none 0 0, .int .i64 tab, .int .i64 0, .int .i64 0, .int .i64 n] 124)) hb2) 1; have x2 : w2.cell? ⟨w1.heap.size, 2, none⟩ = some (.slice none 0 0) := hpCell (hpKeep (hpNew w1 (.cells #[.int .i64 5, .int .i64 0, .slice none 0 0, .int .i64 tab, .int .i64 0, .int .i64 0, .int .i64 n] 124)) hb2) 2; have x3 : w2.cell? ⟨w1.heap.size, 3, none⟩ = some (.int .i64 tab) := hpCell (hpKeep (hpNew w1 (.cells #[.int .i64 5, .int .i64 0, .slice none 0 0, .int .i64 tab, .int .i64 0, .int .i64 0, .int .i64 n] 124)) hb2) 3; have x4 : w2.cell? ⟨w1.heap.size, 4, none⟩ = some (.int .i64 0) := hpCell (hpKeep (hpNew w1 (.cells #[.int .i64 5, .int .i64 0, .slice none 0 0, .int .i64 tab, .int .i64 0, .int .i64 0, .int .i64 n] 124)) hb2) 4; have x5 : w2.cell? ⟨w1.heap.size, 5, none⟩ = some (.int .i64 0) := hpCell (hpKeep (hpNew w1 (.cells #[.int .i64 5, .int .i64 0, .slice none 0 0, .int .i64 tab, .int .i64 0, .int .i64 0, .int .i64 n] 124)) hb2) 5; have x6 : w2.cell? ⟨w1.heap.size, 6, none⟩ = some (.int .i64 n) := hpCell (hpKeep (hpNew w1 (.cells #[.int .i64 5, .int .i64 0, .slice none 0 0, .int .i64 tab, .int .i64 0, .int .i64 0, .int .i64 n] 124)) hb2) 6)
      | (go_at_call 140; (with_reducible refine (HTI.out _ _ _ ht).mono ?_); rintro r w3 ⟨rfl, hb3⟩; have hbC := bt hbB hb3 (Nat.le_refl _))
      | (go_at_call 108; (with_reducible refine (HWI.out _ _ _ _ _ hi).mono ?_); rintro r w3 ⟨rfl, hb3⟩; have hbC := bt hbB hb3 (Nat.le_refl _))
      | (go_at_call 108; (with_reducible refine (HWI.out _ _ _ _ _ hl).mono ?_); rintro r w4 ⟨rfl, hb4⟩; have hbD := bt (by first | exact hbC | exact hbB) hb4 (Nat.le_refl _)))
    go_ret
    refine ⟨rfl, ?_⟩
    first
      | exact bt HB0.out hbD (Nat.le_refl _)
      | exact bt HB0.out hbC (Nat.le_refl _)
      | exact bt HB0.out hbB (Nat.le_refl _)
      | exact bt HB0.out hbA (Nat.le_refl _)
  obtain ⟨BL, hl⟩ : ∃ B, (decide ((1 : Int) ≤ n) && decide (n ≤ 2000)) = B := ⟨_, rfl⟩
  obtain rfl : true = BL := by rw [← hl, decide_eq_true (by omega), decide_eq_true (by omega)]; rfl
  have hv := HT.out (by unfold CdP; omega)
  subst hv
  clear HF HT
  go_enter Tryz.func109, Tryz.ntmps109
  go_upto_region 1 with (fail)
  rw [HW0.out]
  go_wp2_with (first
    | (go_at_call 138; (with_reducible refine (HON.out _).mono ?_); rintro r w1 ⟨rfl, hb1⟩; have hbA := bta hb1 (Nat.le_refl _) (.cells #[.int .i64 5, .int .i64 0, .slice none 0 0, .int .i64 tab, .int .i64 0, .int .i64 0, .int .i64 n] 124))
    | (go_at_call 139; (with_reducible refine (HEQ.out _ hbA).mono ?_); rintro r w2 ⟨rfl, hb2⟩; have hbB := bt hbA hb2 (Nat.le_refl _); have x0 : w2.cell? ⟨w1.heap.size, 0, none⟩ = some (.int .i64 5) := hpCell (hpKeep (hpNew w1 (.cells #[.int .i64 5, .int .i64 0, .slice none 0 0, .int .i64 tab, .int .i64 0, .int .i64 0, .int .i64 n] 124)) hb2) 0; have x1 : w2.cell? ⟨w1.heap.size, 1, none⟩ = some (.int .i64 0) := hpCell (hpKeep (hpNew w1 (.cells #[.int .i64 5, .int .i64 0, .slice none 0 0, .int .i64 tab, .int .i64 0, .int .i64 0, .int .i64 n] 124)) hb2) 1; have x2 : w2.cell? ⟨w1.heap.size, 2, none⟩ = some (.slice none 0 0) := hpCell (hpKeep (hpNew w1 (.cells #[.int .i64 5, .int .i64 0, .slice none 0 0, .int .i64 tab, .int .i64 0, .int .i64 0, .int .i64 n] 124)) hb2) 2; have x3 : w2.cell? ⟨w1.heap.size, 3, none⟩ = some (.int .i64 tab) := hpCell (hpKeep (hpNew w1 (.cells #[.int .i64 5, .int .i64 0, .slice none 0 0, .int .i64 tab, .int .i64 0, .int .i64 0, .int .i64 n] 124)) hb2) 3; have x4 : w2.cell? ⟨w1.heap.size, 4, none⟩ = some (.int .i64 0) := hpCell (hpKeep (hpNew w1 (.cells #[.int .i64 5, .int .i64 0, .slice none 0 0, .int .i64 tab, .int .i64 0, .int .i64 0, .int .i64 n] 124)) hb2) 4; have x5 : w2.cell? ⟨w1.heap.size, 5, none⟩ = some (.int .i64 0) := hpCell (hpKeep (hpNew w1 (.cells #[.int .i64 5, .int .i64 0, .slice none 0 0, .int .i64 tab, .int .i64 0, .int .i64 0, .int .i64 n] 124)) hb2) 5; have x6 : w2.cell? ⟨w1.heap.size, 6, none⟩ = some (.int .i64 n) := hpCell (hpKeep (hpNew w1 (.cells #[.int .i64 5, .int .i64 0, .slice none 0 0, .int .i64 tab, .int .i64 0, .int .i64 0, .int .i64 n] 124)) hb2) 6)
    | (go_at_call 140; (with_reducible refine (HTI.out _ _ _ ht).mono ?_); rintro r w3 ⟨rfl, hb3⟩; have hbC := bt hbB hb3 (Nat.le_refl _))
    | (go_at_call 108; (with_reducible refine (HWI.out _ _ _ _ _ hi).mono ?_); rintro r w3 ⟨rfl, hb3⟩; have hbC := bt hbB hb3 (Nat.le_refl _))
    | (go_at_call 108; (with_reducible refine (HWI.out _ _ _ _ _ hl).mono ?_); rintro r w4 ⟨rfl, hb4⟩; have hbD := bt (by first | exact hbC | exact hbB) hb4 (Nat.le_refl _)))
  go_ret
  refine ⟨rfl, ?_⟩
  first
    | exact bt HB0.out hbD (Nat.le_refl _)
    | exact bt HB0.out hbC (Nat.le_refl _)
    | exact bt HB0.out hbB (Nat.le_refl _)
    | exact bt HB0.out hbA (Nat.le_refl _)

set_option maxRecDepth 100000 in
set_option maxHeartbeats 12800000 in
theorem pcond_f (k : Int) (id tab f cnt n : Int) (va : Option Addr) (ln vc : Nat) (val : List UInt8) (w : World) (hval : Bs w (.slice va ln vc) val) (hln : val.length = ln) (hm : ln ≤ 9223372036854775807) (V : Bool) (hV : Hid (V = true ↔ CdP k id ln tab f cnt n)) (k1 : (k == 1) = false) (k2 : (k == 2) = false) (k3 : (k == 3) = false) (k4 : (k == 4) = false) (k5 : (k == 5) = false) (hk : Hid (¬ k = 1 ∧ ¬ k = 2 ∧ ¬ k = 3 ∧ ¬ k = 4 ∧ ¬ k = 5)) :
    Calls Tryz.prog 109 #[.agg #[.int .i64 k, .int .i64 id, .slice va ln vc, .int .i64 tab, .int .i64 f, .int .i64 cnt, .int .i64 n]] w (BoolPost w V) := by
  have HF : Hid (¬ CdP k id ln tab f cnt n → V = false) := fun h => by
    cases e : V with
    | false => rfl
    | true => exact absurd (hV.out.1 e) h
  have HT : Hid (CdP k id ln tab f cnt n → V = true) := hV.out.2
  obtain ⟨W0, hW0⟩ : ∃ W, w.alloc (.cells #[.int .i64 k, .int .i64 id, .slice va ln vc, .int .i64 tab, .int .i64 f, .int .i64 cnt, .int .i64 n] 124) = W := ⟨_, rfl⟩
  have hb0 : Below w.heap.size w W0 := by rw [← hW0]; exact bal' w _
  have p0 : W0.heap[w.heap.size]? = some (.cells #[.int .i64 k, .int .i64 id, .slice va ln vc, .int .i64 tab, .int .i64 f, .int .i64 cnt, .int .i64 n] 124) := by rw [← hW0]; exact hpNew w _
  have y0 : ∀ X, Below W0.heap.size W0 X → X.cell? ⟨w.heap.size, 0, none⟩ = some (.int .i64 k) := fun X hX => hpCell (hpKeep p0 hX) 0
  have y1 : ∀ X, Below W0.heap.size W0 X → X.cell? ⟨w.heap.size, 1, none⟩ = some (.int .i64 id) := fun X hX => hpCell (hpKeep p0 hX) 1
  have y2 : ∀ X, Below W0.heap.size W0 X → X.cell? ⟨w.heap.size, 2, none⟩ = some (.slice va ln vc) := fun X hX => hpCell (hpKeep p0 hX) 2
  have y3 : ∀ X, Below W0.heap.size W0 X → X.cell? ⟨w.heap.size, 3, none⟩ = some (.int .i64 tab) := fun X hX => hpCell (hpKeep p0 hX) 3
  have y4 : ∀ X, Below W0.heap.size W0 X → X.cell? ⟨w.heap.size, 4, none⟩ = some (.int .i64 f) := fun X hX => hpCell (hpKeep p0 hX) 4
  have y5 : ∀ X, Below W0.heap.size W0 X → X.cell? ⟨w.heap.size, 5, none⟩ = some (.int .i64 cnt) := fun X hX => hpCell (hpKeep p0 hX) 5
  have y6 : ∀ X, Below W0.heap.size W0 X → X.cell? ⟨w.heap.size, 6, none⟩ = some (.int .i64 n) := fun X hX => hpCell (hpKeep p0 hX) 6
  have HON : Hid (∀ X, Calls Tryz.prog 138 #[.agg #[.int .i64 k, .int .i64 id, .slice va ln vc, .int .i64 tab, .int .i64 f, .int .i64 cnt, .int .i64 n]] X fun r w' => r = .returned (.agg #[.int .i64 k, .int .i64 0, .slice none 0 0, .int .i64 0, .int .i64 0, .int .i64 0, .int .i64 0]) ∧ Below X.heap.size X w') := fun X => only_f k id tab f cnt n va ln vc X k1 k2 k3 k4 k5
  obtain ⟨E, hE⟩ : ∃ E, decide ([] = val) = E := ⟨_, rfl⟩
  have HEQ : Hid (∀ X, Below W0.heap.size W0 X → Calls Tryz.prog 139 #[.slice none 0 0, .slice va ln vc] X (BoolPost X E)) := fun X hX => bequal_any _ _ [] val X (Bs.nil _) (hval.keep (bt hb0 hX (Nat.le_refl _))) E hE
  have HEL : Hid ((ln = 0 → E = true) ∧ (¬ ln = 0 → E = false)) := ⟨fun h => by rw [← hE, decide_eq_true]; exact (List.eq_nil_of_length_eq_zero (hln.trans h)).symm, fun h => by rw [← hE, decide_eq_false]; rintro rfl; exact h hln.symm⟩
  have HW0 := hid hW0
  have HB0 := hid hb0
  have r0 : Below W0.heap.size W0 W0 := Below.refl _ _
  have HWI : Hid (∀ x a b X B, (decide (a ≤ x) && decide (x ≤ b)) = B → Calls Tryz.prog 108 #[.int .i64 x, .int .i64 a, .int .i64 b] X (BoolPost X B)) := fun x a b X B h => within_any x a b X B h
  have HTI : Hid (∀ x X B, (decide (1 ≤ x) && decide (x ≤ 4)) = B → Calls Tryz.prog 140 #[.int .i64 x] X (BoolPost X B)) := fun x X B h => istab_any x X B h
  clear hW0 hb0 p0 hE hval hV
  by_cases c_id : id = 0
  rotate_left
  · have hv := HF.out (by have hkk := hk.out; unfold CdP; omega)
    subst hv
    clear HF HT
    have p_id : (0 != id) = true := by rw [bne_iff_ne]; omega
    have q_id : (id != 0) = true := by rw [bne_iff_ne]; omega
    have r_id : (0 == id) = false := by rw [beq_eq_false_iff_ne]; omega
    have s_id : (id == 0) = false := by rw [beq_eq_false_iff_ne]; omega
    clear c_id
    go_enter Tryz.func109, Tryz.ntmps109
    go_upto_region 1 with (fail)
    rw [HW0.out]
    go_wp2_with (first
      | (go_at_call 138; (with_reducible refine (HON.out _).mono ?_); rintro r w1 ⟨rfl, hb1⟩; have hbA := bta hb1 (Nat.le_refl _) (.cells #[.int .i64 k, .int .i64 0, .slice none 0 0, .int .i64 0, .int .i64 0, .int .i64 0, .int .i64 0] 124))
      | (go_at_call 139; (with_reducible refine (HEQ.out _ hbA).mono ?_); rintro r w2 ⟨rfl, hb2⟩; have hbB := bt hbA hb2 (Nat.le_refl _); have x0 : w2.cell? ⟨w1.heap.size, 0, none⟩ = some (.int .i64 k) := hpCell (hpKeep (hpNew w1 (.cells #[.int .i64 k, .int .i64 0, .slice none 0 0, .int .i64 0, .int .i64 0, .int .i64 0, .int .i64 0] 124)) hb2) 0; have x1 : w2.cell? ⟨w1.heap.size, 1, none⟩ = some (.int .i64 0) := hpCell (hpKeep (hpNew w1 (.cells #[.int .i64 k, .int .i64 0, .slice none 0 0, .int .i64 0, .int .i64 0, .int .i64 0, .int .i64 0] 124)) hb2) 1; have x2 : w2.cell? ⟨w1.heap.size, 2, none⟩ = some (.slice none 0 0) := hpCell (hpKeep (hpNew w1 (.cells #[.int .i64 k, .int .i64 0, .slice none 0 0, .int .i64 0, .int .i64 0, .int .i64 0, .int .i64 0] 124)) hb2) 2; have x3 : w2.cell? ⟨w1.heap.size, 3, none⟩ = some (.int .i64 0) := hpCell (hpKeep (hpNew w1 (.cells #[.int .i64 k, .int .i64 0, .slice none 0 0, .int .i64 0, .int .i64 0, .int .i64 0, .int .i64 0] 124)) hb2) 3; have x4 : w2.cell? ⟨w1.heap.size, 4, none⟩ = some (.int .i64 0) := hpCell (hpKeep (hpNew w1 (.cells #[.int .i64 k, .int .i64 0, .slice none 0 0, .int .i64 0, .int .i64 0, .int .i64 0, .int .i64 0] 124)) hb2) 4; have x5 : w2.cell? ⟨w1.heap.size, 5, none⟩ = some (.int .i64 0) := hpCell (hpKeep (hpNew w1 (.cells #[.int .i64 k, .int .i64 0, .slice none 0 0, .int .i64 0, .int .i64 0, .int .i64 0, .int .i64 0] 124)) hb2) 5; have x6 : w2.cell? ⟨w1.heap.size, 6, none⟩ = some (.int .i64 0) := hpCell (hpKeep (hpNew w1 (.cells #[.int .i64 k, .int .i64 0, .slice none 0 0, .int .i64 0, .int .i64 0, .int .i64 0, .int .i64 0] 124)) hb2) 6)
      | (go_at_call 140; (with_reducible refine (HTI.out _ _ _ ht).mono ?_); rintro r w3 ⟨rfl, hb3⟩; have hbC := bt hbB hb3 (Nat.le_refl _))
      | (go_at_call 108; (with_reducible refine (HWI.out _ _ _ _ _ hi).mono ?_); rintro r w3 ⟨rfl, hb3⟩; have hbC := bt hbB hb3 (Nat.le_refl _))
      | (go_at_call 108; (with_reducible refine (HWI.out _ _ _ _ _ hl).mono ?_); rintro r w4 ⟨rfl, hb4⟩; have hbD := bt (by first | exact hbC | exact hbB) hb4 (Nat.le_refl _)))
    go_ret
    refine ⟨rfl, ?_⟩
    first
      | exact bt HB0.out hbD (Nat.le_refl _)
      | exact bt HB0.out hbC (Nat.le_refl _)
      | exact bt HB0.out hbB (Nat.le_refl _)
      | exact bt HB0.out hbA (Nat.le_refl _)
  subst c_id
  by_cases c_ln : ln = 0
  rotate_left
  · have hv := HF.out (by have hkk := hk.out; unfold CdP; omega)
    subst hv
    clear HF HT
    obtain rfl := HEL.out.2 c_ln
    clear c_ln
    go_enter Tryz.func109, Tryz.ntmps109
    go_upto_region 1 with (fail)
    rw [HW0.out]
    go_wp2_with (first
      | (go_at_call 138; (with_reducible refine (HON.out _).mono ?_); rintro r w1 ⟨rfl, hb1⟩; have hbA := bta hb1 (Nat.le_refl _) (.cells #[.int .i64 k, .int .i64 0, .slice none 0 0, .int .i64 0, .int .i64 0, .int .i64 0, .int .i64 0] 124))
      | (go_at_call 139; (with_reducible refine (HEQ.out _ hbA).mono ?_); rintro r w2 ⟨rfl, hb2⟩; have hbB := bt hbA hb2 (Nat.le_refl _); have x0 : w2.cell? ⟨w1.heap.size, 0, none⟩ = some (.int .i64 k) := hpCell (hpKeep (hpNew w1 (.cells #[.int .i64 k, .int .i64 0, .slice none 0 0, .int .i64 0, .int .i64 0, .int .i64 0, .int .i64 0] 124)) hb2) 0; have x1 : w2.cell? ⟨w1.heap.size, 1, none⟩ = some (.int .i64 0) := hpCell (hpKeep (hpNew w1 (.cells #[.int .i64 k, .int .i64 0, .slice none 0 0, .int .i64 0, .int .i64 0, .int .i64 0, .int .i64 0] 124)) hb2) 1; have x2 : w2.cell? ⟨w1.heap.size, 2, none⟩ = some (.slice none 0 0) := hpCell (hpKeep (hpNew w1 (.cells #[.int .i64 k, .int .i64 0, .slice none 0 0, .int .i64 0, .int .i64 0, .int .i64 0, .int .i64 0] 124)) hb2) 2; have x3 : w2.cell? ⟨w1.heap.size, 3, none⟩ = some (.int .i64 0) := hpCell (hpKeep (hpNew w1 (.cells #[.int .i64 k, .int .i64 0, .slice none 0 0, .int .i64 0, .int .i64 0, .int .i64 0, .int .i64 0] 124)) hb2) 3; have x4 : w2.cell? ⟨w1.heap.size, 4, none⟩ = some (.int .i64 0) := hpCell (hpKeep (hpNew w1 (.cells #[.int .i64 k, .int .i64 0, .slice none 0 0, .int .i64 0, .int .i64 0, .int .i64 0, .int .i64 0] 124)) hb2) 4; have x5 : w2.cell? ⟨w1.heap.size, 5, none⟩ = some (.int .i64 0) := hpCell (hpKeep (hpNew w1 (.cells #[.int .i64 k, .int .i64 0, .slice none 0 0, .int .i64 0, .int .i64 0, .int .i64 0, .int .i64 0] 124)) hb2) 5; have x6 : w2.cell? ⟨w1.heap.size, 6, none⟩ = some (.int .i64 0) := hpCell (hpKeep (hpNew w1 (.cells #[.int .i64 k, .int .i64 0, .slice none 0 0, .int .i64 0, .int .i64 0, .int .i64 0, .int .i64 0] 124)) hb2) 6)
      | (go_at_call 140; (with_reducible refine (HTI.out _ _ _ ht).mono ?_); rintro r w3 ⟨rfl, hb3⟩; have hbC := bt hbB hb3 (Nat.le_refl _))
      | (go_at_call 108; (with_reducible refine (HWI.out _ _ _ _ _ hi).mono ?_); rintro r w3 ⟨rfl, hb3⟩; have hbC := bt hbB hb3 (Nat.le_refl _))
      | (go_at_call 108; (with_reducible refine (HWI.out _ _ _ _ _ hl).mono ?_); rintro r w4 ⟨rfl, hb4⟩; have hbD := bt (by first | exact hbC | exact hbB) hb4 (Nat.le_refl _)))
    go_ret
    refine ⟨rfl, ?_⟩
    first
      | exact bt HB0.out hbD (Nat.le_refl _)
      | exact bt HB0.out hbC (Nat.le_refl _)
      | exact bt HB0.out hbB (Nat.le_refl _)
      | exact bt HB0.out hbA (Nat.le_refl _)
  obtain rfl := HEL.out.1 c_ln
  subst c_ln
  by_cases c_tab : tab = 0
  rotate_left
  · have hv := HF.out (by have hkk := hk.out; unfold CdP; omega)
    subst hv
    clear HF HT
    have p_tab : (0 != tab) = true := by rw [bne_iff_ne]; omega
    have q_tab : (tab != 0) = true := by rw [bne_iff_ne]; omega
    have r_tab : (0 == tab) = false := by rw [beq_eq_false_iff_ne]; omega
    have s_tab : (tab == 0) = false := by rw [beq_eq_false_iff_ne]; omega
    clear c_tab
    go_enter Tryz.func109, Tryz.ntmps109
    go_upto_region 1 with (fail)
    rw [HW0.out]
    go_wp2_with (first
      | (go_at_call 138; (with_reducible refine (HON.out _).mono ?_); rintro r w1 ⟨rfl, hb1⟩; have hbA := bta hb1 (Nat.le_refl _) (.cells #[.int .i64 k, .int .i64 0, .slice none 0 0, .int .i64 0, .int .i64 0, .int .i64 0, .int .i64 0] 124))
      | (go_at_call 139; (with_reducible refine (HEQ.out _ hbA).mono ?_); rintro r w2 ⟨rfl, hb2⟩; have hbB := bt hbA hb2 (Nat.le_refl _); have x0 : w2.cell? ⟨w1.heap.size, 0, none⟩ = some (.int .i64 k) := hpCell (hpKeep (hpNew w1 (.cells #[.int .i64 k, .int .i64 0, .slice none 0 0, .int .i64 0, .int .i64 0, .int .i64 0, .int .i64 0] 124)) hb2) 0; have x1 : w2.cell? ⟨w1.heap.size, 1, none⟩ = some (.int .i64 0) := hpCell (hpKeep (hpNew w1 (.cells #[.int .i64 k, .int .i64 0, .slice none 0 0, .int .i64 0, .int .i64 0, .int .i64 0, .int .i64 0] 124)) hb2) 1; have x2 : w2.cell? ⟨w1.heap.size, 2, none⟩ = some (.slice none 0 0) := hpCell (hpKeep (hpNew w1 (.cells #[.int .i64 k, .int .i64 0, .slice none 0 0, .int .i64 0, .int .i64 0, .int .i64 0, .int .i64 0] 124)) hb2) 2; have x3 : w2.cell? ⟨w1.heap.size, 3, none⟩ = some (.int .i64 0) := hpCell (hpKeep (hpNew w1 (.cells #[.int .i64 k, .int .i64 0, .slice none 0 0, .int .i64 0, .int .i64 0, .int .i64 0, .int .i64 0] 124)) hb2) 3; have x4 : w2.cell? ⟨w1.heap.size, 4, none⟩ = some (.int .i64 0) := hpCell (hpKeep (hpNew w1 (.cells #[.int .i64 k, .int .i64 0, .slice none 0 0, .int .i64 0, .int .i64 0, .int .i64 0, .int .i64 0] 124)) hb2) 4; have x5 : w2.cell? ⟨w1.heap.size, 5, none⟩ = some (.int .i64 0) := hpCell (hpKeep (hpNew w1 (.cells #[.int .i64 k, .int .i64 0, .slice none 0 0, .int .i64 0, .int .i64 0, .int .i64 0, .int .i64 0] 124)) hb2) 5; have x6 : w2.cell? ⟨w1.heap.size, 6, none⟩ = some (.int .i64 0) := hpCell (hpKeep (hpNew w1 (.cells #[.int .i64 k, .int .i64 0, .slice none 0 0, .int .i64 0, .int .i64 0, .int .i64 0, .int .i64 0] 124)) hb2) 6)
      | (go_at_call 140; (with_reducible refine (HTI.out _ _ _ ht).mono ?_); rintro r w3 ⟨rfl, hb3⟩; have hbC := bt hbB hb3 (Nat.le_refl _))
      | (go_at_call 108; (with_reducible refine (HWI.out _ _ _ _ _ hi).mono ?_); rintro r w3 ⟨rfl, hb3⟩; have hbC := bt hbB hb3 (Nat.le_refl _))
      | (go_at_call 108; (with_reducible refine (HWI.out _ _ _ _ _ hl).mono ?_); rintro r w4 ⟨rfl, hb4⟩; have hbD := bt (by first | exact hbC | exact hbB) hb4 (Nat.le_refl _)))
    go_ret
    refine ⟨rfl, ?_⟩
    first
      | exact bt HB0.out hbD (Nat.le_refl _)
      | exact bt HB0.out hbC (Nat.le_refl _)
      | exact bt HB0.out hbB (Nat.le_refl _)
      | exact bt HB0.out hbA (Nat.le_refl _)
  subst c_tab
  by_cases c_f : f = 0
  rotate_left
  · have hv := HF.out (by have hkk := hk.out; unfold CdP; omega)
    subst hv
    clear HF HT
    have p_f : (0 != f) = true := by rw [bne_iff_ne]; omega
    have q_f : (f != 0) = true := by rw [bne_iff_ne]; omega
    have r_f : (0 == f) = false := by rw [beq_eq_false_iff_ne]; omega
    have s_f : (f == 0) = false := by rw [beq_eq_false_iff_ne]; omega
    clear c_f
    go_enter Tryz.func109, Tryz.ntmps109
    go_upto_region 1 with (fail)
    rw [HW0.out]
    go_wp2_with (first
      | (go_at_call 138; (with_reducible refine (HON.out _).mono ?_); rintro r w1 ⟨rfl, hb1⟩; have hbA := bta hb1 (Nat.le_refl _) (.cells #[.int .i64 k, .int .i64 0, .slice none 0 0, .int .i64 0, .int .i64 0, .int .i64 0, .int .i64 0] 124))
      | (go_at_call 139; (with_reducible refine (HEQ.out _ hbA).mono ?_); rintro r w2 ⟨rfl, hb2⟩; have hbB := bt hbA hb2 (Nat.le_refl _); have x0 : w2.cell? ⟨w1.heap.size, 0, none⟩ = some (.int .i64 k) := hpCell (hpKeep (hpNew w1 (.cells #[.int .i64 k, .int .i64 0, .slice none 0 0, .int .i64 0, .int .i64 0, .int .i64 0, .int .i64 0] 124)) hb2) 0; have x1 : w2.cell? ⟨w1.heap.size, 1, none⟩ = some (.int .i64 0) := hpCell (hpKeep (hpNew w1 (.cells #[.int .i64 k, .int .i64 0, .slice none 0 0, .int .i64 0, .int .i64 0, .int .i64 0, .int .i64 0] 124)) hb2) 1; have x2 : w2.cell? ⟨w1.heap.size, 2, none⟩ = some (.slice none 0 0) := hpCell (hpKeep (hpNew w1 (.cells #[.int .i64 k, .int .i64 0, .slice none 0 0, .int .i64 0, .int .i64 0, .int .i64 0, .int .i64 0] 124)) hb2) 2; have x3 : w2.cell? ⟨w1.heap.size, 3, none⟩ = some (.int .i64 0) := hpCell (hpKeep (hpNew w1 (.cells #[.int .i64 k, .int .i64 0, .slice none 0 0, .int .i64 0, .int .i64 0, .int .i64 0, .int .i64 0] 124)) hb2) 3; have x4 : w2.cell? ⟨w1.heap.size, 4, none⟩ = some (.int .i64 0) := hpCell (hpKeep (hpNew w1 (.cells #[.int .i64 k, .int .i64 0, .slice none 0 0, .int .i64 0, .int .i64 0, .int .i64 0, .int .i64 0] 124)) hb2) 4; have x5 : w2.cell? ⟨w1.heap.size, 5, none⟩ = some (.int .i64 0) := hpCell (hpKeep (hpNew w1 (.cells #[.int .i64 k, .int .i64 0, .slice none 0 0, .int .i64 0, .int .i64 0, .int .i64 0, .int .i64 0] 124)) hb2) 5; have x6 : w2.cell? ⟨w1.heap.size, 6, none⟩ = some (.int .i64 0) := hpCell (hpKeep (hpNew w1 (.cells #[.int .i64 k, .int .i64 0, .slice none 0 0, .int .i64 0, .int .i64 0, .int .i64 0, .int .i64 0] 124)) hb2) 6)
      | (go_at_call 140; (with_reducible refine (HTI.out _ _ _ ht).mono ?_); rintro r w3 ⟨rfl, hb3⟩; have hbC := bt hbB hb3 (Nat.le_refl _))
      | (go_at_call 108; (with_reducible refine (HWI.out _ _ _ _ _ hi).mono ?_); rintro r w3 ⟨rfl, hb3⟩; have hbC := bt hbB hb3 (Nat.le_refl _))
      | (go_at_call 108; (with_reducible refine (HWI.out _ _ _ _ _ hl).mono ?_); rintro r w4 ⟨rfl, hb4⟩; have hbD := bt (by first | exact hbC | exact hbB) hb4 (Nat.le_refl _)))
    go_ret
    refine ⟨rfl, ?_⟩
    first
      | exact bt HB0.out hbD (Nat.le_refl _)
      | exact bt HB0.out hbC (Nat.le_refl _)
      | exact bt HB0.out hbB (Nat.le_refl _)
      | exact bt HB0.out hbA (Nat.le_refl _)
  subst c_f
  by_cases c_cnt : cnt = 0
  rotate_left
  · have hv := HF.out (by have hkk := hk.out; unfold CdP; omega)
    subst hv
    clear HF HT
    have p_cnt : (0 != cnt) = true := by rw [bne_iff_ne]; omega
    have q_cnt : (cnt != 0) = true := by rw [bne_iff_ne]; omega
    have r_cnt : (0 == cnt) = false := by rw [beq_eq_false_iff_ne]; omega
    have s_cnt : (cnt == 0) = false := by rw [beq_eq_false_iff_ne]; omega
    clear c_cnt
    go_enter Tryz.func109, Tryz.ntmps109
    go_upto_region 1 with (fail)
    rw [HW0.out]
    go_wp2_with (first
      | (go_at_call 138; (with_reducible refine (HON.out _).mono ?_); rintro r w1 ⟨rfl, hb1⟩; have hbA := bta hb1 (Nat.le_refl _) (.cells #[.int .i64 k, .int .i64 0, .slice none 0 0, .int .i64 0, .int .i64 0, .int .i64 0, .int .i64 0] 124))
      | (go_at_call 139; (with_reducible refine (HEQ.out _ hbA).mono ?_); rintro r w2 ⟨rfl, hb2⟩; have hbB := bt hbA hb2 (Nat.le_refl _); have x0 : w2.cell? ⟨w1.heap.size, 0, none⟩ = some (.int .i64 k) := hpCell (hpKeep (hpNew w1 (.cells #[.int .i64 k, .int .i64 0, .slice none 0 0, .int .i64 0, .int .i64 0, .int .i64 0, .int .i64 0] 124)) hb2) 0; have x1 : w2.cell? ⟨w1.heap.size, 1, none⟩ = some (.int .i64 0) := hpCell (hpKeep (hpNew w1 (.cells #[.int .i64 k, .int .i64 0, .slice none 0 0, .int .i64 0, .int .i64 0, .int .i64 0, .int .i64 0] 124)) hb2) 1; have x2 : w2.cell? ⟨w1.heap.size, 2, none⟩ = some (.slice none 0 0) := hpCell (hpKeep (hpNew w1 (.cells #[.int .i64 k, .int .i64 0, .slice none 0 0, .int .i64 0, .int .i64 0, .int .i64 0, .int .i64 0] 124)) hb2) 2; have x3 : w2.cell? ⟨w1.heap.size, 3, none⟩ = some (.int .i64 0) := hpCell (hpKeep (hpNew w1 (.cells #[.int .i64 k, .int .i64 0, .slice none 0 0, .int .i64 0, .int .i64 0, .int .i64 0, .int .i64 0] 124)) hb2) 3; have x4 : w2.cell? ⟨w1.heap.size, 4, none⟩ = some (.int .i64 0) := hpCell (hpKeep (hpNew w1 (.cells #[.int .i64 k, .int .i64 0, .slice none 0 0, .int .i64 0, .int .i64 0, .int .i64 0, .int .i64 0] 124)) hb2) 4; have x5 : w2.cell? ⟨w1.heap.size, 5, none⟩ = some (.int .i64 0) := hpCell (hpKeep (hpNew w1 (.cells #[.int .i64 k, .int .i64 0, .slice none 0 0, .int .i64 0, .int .i64 0, .int .i64 0, .int .i64 0] 124)) hb2) 5; have x6 : w2.cell? ⟨w1.heap.size, 6, none⟩ = some (.int .i64 0) := hpCell (hpKeep (hpNew w1 (.cells #[.int .i64 k, .int .i64 0, .slice none 0 0, .int .i64 0, .int .i64 0, .int .i64 0, .int .i64 0] 124)) hb2) 6)
      | (go_at_call 140; (with_reducible refine (HTI.out _ _ _ ht).mono ?_); rintro r w3 ⟨rfl, hb3⟩; have hbC := bt hbB hb3 (Nat.le_refl _))
      | (go_at_call 108; (with_reducible refine (HWI.out _ _ _ _ _ hi).mono ?_); rintro r w3 ⟨rfl, hb3⟩; have hbC := bt hbB hb3 (Nat.le_refl _))
      | (go_at_call 108; (with_reducible refine (HWI.out _ _ _ _ _ hl).mono ?_); rintro r w4 ⟨rfl, hb4⟩; have hbD := bt (by first | exact hbC | exact hbB) hb4 (Nat.le_refl _)))
    go_ret
    refine ⟨rfl, ?_⟩
    first
      | exact bt HB0.out hbD (Nat.le_refl _)
      | exact bt HB0.out hbC (Nat.le_refl _)
      | exact bt HB0.out hbB (Nat.le_refl _)
      | exact bt HB0.out hbA (Nat.le_refl _)
  subst c_cnt
  by_cases c_n : n = 0
  rotate_left
  · have hv := HF.out (by have hkk := hk.out; unfold CdP; omega)
    subst hv
    clear HF HT
    have p_n : (0 != n) = true := by rw [bne_iff_ne]; omega
    have q_n : (n != 0) = true := by rw [bne_iff_ne]; omega
    have r_n : (0 == n) = false := by rw [beq_eq_false_iff_ne]; omega
    have s_n : (n == 0) = false := by rw [beq_eq_false_iff_ne]; omega
    clear c_n
    go_enter Tryz.func109, Tryz.ntmps109
    go_upto_region 1 with (fail)
    rw [HW0.out]
    go_wp2_with (first
      | (go_at_call 138; (with_reducible refine (HON.out _).mono ?_); rintro r w1 ⟨rfl, hb1⟩; have hbA := bta hb1 (Nat.le_refl _) (.cells #[.int .i64 k, .int .i64 0, .slice none 0 0, .int .i64 0, .int .i64 0, .int .i64 0, .int .i64 0] 124))
      | (go_at_call 139; (with_reducible refine (HEQ.out _ hbA).mono ?_); rintro r w2 ⟨rfl, hb2⟩; have hbB := bt hbA hb2 (Nat.le_refl _); have x0 : w2.cell? ⟨w1.heap.size, 0, none⟩ = some (.int .i64 k) := hpCell (hpKeep (hpNew w1 (.cells #[.int .i64 k, .int .i64 0, .slice none 0 0, .int .i64 0, .int .i64 0, .int .i64 0, .int .i64 0] 124)) hb2) 0; have x1 : w2.cell? ⟨w1.heap.size, 1, none⟩ = some (.int .i64 0) := hpCell (hpKeep (hpNew w1 (.cells #[.int .i64 k, .int .i64 0, .slice none 0 0, .int .i64 0, .int .i64 0, .int .i64 0, .int .i64 0] 124)) hb2) 1; have x2 : w2.cell? ⟨w1.heap.size, 2, none⟩ = some (.slice none 0 0) := hpCell (hpKeep (hpNew w1 (.cells #[.int .i64 k, .int .i64 0, .slice none 0 0, .int .i64 0, .int .i64 0, .int .i64 0, .int .i64 0] 124)) hb2) 2; have x3 : w2.cell? ⟨w1.heap.size, 3, none⟩ = some (.int .i64 0) := hpCell (hpKeep (hpNew w1 (.cells #[.int .i64 k, .int .i64 0, .slice none 0 0, .int .i64 0, .int .i64 0, .int .i64 0, .int .i64 0] 124)) hb2) 3; have x4 : w2.cell? ⟨w1.heap.size, 4, none⟩ = some (.int .i64 0) := hpCell (hpKeep (hpNew w1 (.cells #[.int .i64 k, .int .i64 0, .slice none 0 0, .int .i64 0, .int .i64 0, .int .i64 0, .int .i64 0] 124)) hb2) 4; have x5 : w2.cell? ⟨w1.heap.size, 5, none⟩ = some (.int .i64 0) := hpCell (hpKeep (hpNew w1 (.cells #[.int .i64 k, .int .i64 0, .slice none 0 0, .int .i64 0, .int .i64 0, .int .i64 0, .int .i64 0] 124)) hb2) 5; have x6 : w2.cell? ⟨w1.heap.size, 6, none⟩ = some (.int .i64 0) := hpCell (hpKeep (hpNew w1 (.cells #[.int .i64 k, .int .i64 0, .slice none 0 0, .int .i64 0, .int .i64 0, .int .i64 0, .int .i64 0] 124)) hb2) 6)
      | (go_at_call 140; (with_reducible refine (HTI.out _ _ _ ht).mono ?_); rintro r w3 ⟨rfl, hb3⟩; have hbC := bt hbB hb3 (Nat.le_refl _))
      | (go_at_call 108; (with_reducible refine (HWI.out _ _ _ _ _ hi).mono ?_); rintro r w3 ⟨rfl, hb3⟩; have hbC := bt hbB hb3 (Nat.le_refl _))
      | (go_at_call 108; (with_reducible refine (HWI.out _ _ _ _ _ hl).mono ?_); rintro r w4 ⟨rfl, hb4⟩; have hbD := bt (by first | exact hbC | exact hbB) hb4 (Nat.le_refl _)))
    go_ret
    refine ⟨rfl, ?_⟩
    first
      | exact bt HB0.out hbD (Nat.le_refl _)
      | exact bt HB0.out hbC (Nat.le_refl _)
      | exact bt HB0.out hbB (Nat.le_refl _)
      | exact bt HB0.out hbA (Nat.le_refl _)
  subst c_n
  have hv := HF.out (by have hkk := hk.out; unfold CdP; omega)
  subst hv
  clear HF HT
  go_enter Tryz.func109, Tryz.ntmps109
  go_upto_region 1 with (fail)
  rw [HW0.out]
  go_wp2_with (first
    | (go_at_call 138; (with_reducible refine (HON.out _).mono ?_); rintro r w1 ⟨rfl, hb1⟩; have hbA := bta hb1 (Nat.le_refl _) (.cells #[.int .i64 k, .int .i64 0, .slice none 0 0, .int .i64 0, .int .i64 0, .int .i64 0, .int .i64 0] 124))
    | (go_at_call 139; (with_reducible refine (HEQ.out _ hbA).mono ?_); rintro r w2 ⟨rfl, hb2⟩; have hbB := bt hbA hb2 (Nat.le_refl _); have x0 : w2.cell? ⟨w1.heap.size, 0, none⟩ = some (.int .i64 k) := hpCell (hpKeep (hpNew w1 (.cells #[.int .i64 k, .int .i64 0, .slice none 0 0, .int .i64 0, .int .i64 0, .int .i64 0, .int .i64 0] 124)) hb2) 0; have x1 : w2.cell? ⟨w1.heap.size, 1, none⟩ = some (.int .i64 0) := hpCell (hpKeep (hpNew w1 (.cells #[.int .i64 k, .int .i64 0, .slice none 0 0, .int .i64 0, .int .i64 0, .int .i64 0, .int .i64 0] 124)) hb2) 1; have x2 : w2.cell? ⟨w1.heap.size, 2, none⟩ = some (.slice none 0 0) := hpCell (hpKeep (hpNew w1 (.cells #[.int .i64 k, .int .i64 0, .slice none 0 0, .int .i64 0, .int .i64 0, .int .i64 0, .int .i64 0] 124)) hb2) 2; have x3 : w2.cell? ⟨w1.heap.size, 3, none⟩ = some (.int .i64 0) := hpCell (hpKeep (hpNew w1 (.cells #[.int .i64 k, .int .i64 0, .slice none 0 0, .int .i64 0, .int .i64 0, .int .i64 0, .int .i64 0] 124)) hb2) 3; have x4 : w2.cell? ⟨w1.heap.size, 4, none⟩ = some (.int .i64 0) := hpCell (hpKeep (hpNew w1 (.cells #[.int .i64 k, .int .i64 0, .slice none 0 0, .int .i64 0, .int .i64 0, .int .i64 0, .int .i64 0] 124)) hb2) 4; have x5 : w2.cell? ⟨w1.heap.size, 5, none⟩ = some (.int .i64 0) := hpCell (hpKeep (hpNew w1 (.cells #[.int .i64 k, .int .i64 0, .slice none 0 0, .int .i64 0, .int .i64 0, .int .i64 0, .int .i64 0] 124)) hb2) 5; have x6 : w2.cell? ⟨w1.heap.size, 6, none⟩ = some (.int .i64 0) := hpCell (hpKeep (hpNew w1 (.cells #[.int .i64 k, .int .i64 0, .slice none 0 0, .int .i64 0, .int .i64 0, .int .i64 0, .int .i64 0] 124)) hb2) 6)
    | (go_at_call 140; (with_reducible refine (HTI.out _ _ _ ht).mono ?_); rintro r w3 ⟨rfl, hb3⟩; have hbC := bt hbB hb3 (Nat.le_refl _))
    | (go_at_call 108; (with_reducible refine (HWI.out _ _ _ _ _ hi).mono ?_); rintro r w3 ⟨rfl, hb3⟩; have hbC := bt hbB hb3 (Nat.le_refl _))
    | (go_at_call 108; (with_reducible refine (HWI.out _ _ _ _ _ hl).mono ?_); rintro r w4 ⟨rfl, hb4⟩; have hbD := bt (by first | exact hbC | exact hbB) hb4 (Nat.le_refl _)))
  go_ret
  refine ⟨rfl, ?_⟩
  first
    | exact bt HB0.out hbD (Nat.le_refl _)
    | exact bt HB0.out hbC (Nat.le_refl _)
    | exact bt HB0.out hbB (Nat.le_refl _)
    | exact bt HB0.out hbA (Nat.le_refl _)

end Go.Proofs.YtipnamoocemeeaaGreat
