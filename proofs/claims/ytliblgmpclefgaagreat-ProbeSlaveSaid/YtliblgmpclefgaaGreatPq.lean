/-
  The contracts of request.isTable and request.Valid.
-/
import Derived.Test.YtliblgmpclefgaaGreatRq
namespace Go.Proofs.YtliblgmpclefgaaGreat
open Go.RowKit

set_option maxHeartbeats 800000 in
theorem isTableQ_any (f : Int) (w : World) : Calls Tryz.prog 30 #[.int .i64 f] w fun r w' => r = .returned (.bool (tblB f)) ∧ w = w' := by
  obtain ⟨V, hV⟩ : ∃ V, tblB f = V := ⟨_, rfl⟩
  rw [hV]
  unfold tblB at hV
  by_cases h1 : 1 ≤ f
  · have d1 : decide (1 ≤ f) = true := decide_eq_true h1
    rw [d1, Bool.true_and] at hV
    have HV := hid hV
    clear hV
    go_enter Tryz.func30, Tryz.ntmps30
    go_wp2
    go_ret
    exact ⟨ret_bool HV.out, rfl⟩
  · have d1 : decide (1 ≤ f) = false := decide_eq_false h1
    rw [d1, Bool.false_and] at hV
    subst hV
    go_enter Tryz.func30, Tryz.ntmps30
    go_wp2
    go_ret
    exact ⟨rfl, rfl⟩

set_option maxRecDepth 100000 in
set_option maxHeartbeats 3200000 in
theorem pqvalid_tab (f a q c o : Int) (h1 : 1 ≤ f) (h4 : f ≤ 4) (w : World) :
    Calls Tryz.prog 11 #[.agg #[.int .i64 f, .int .i64 a, .int .i64 q, .int .i64 c, .int .i64 o]] w fun r w' => r = .returned (.bool (Rq.ok ⟨f, a, q, c, o⟩)) ∧ Below w.heap.size w w' := by
  obtain ⟨L, hL⟩ : ∃ L, limI f = L := ⟨_, rfl⟩
  have hL2 : L ≤ 2000 := by rw [← hL]; exact (limI_bd f).2
  have HLM : Hid (∀ W, Calls Tryz.prog 31 #[.int .i64 f] W fun r w' => r = .returned (.int .i64 L) ∧ W = w') := fun W => by rw [← hL]; exact limit_any f W
  obtain ⟨V, hV⟩ : ∃ V, Rq.ok ⟨f, a, q, c, o⟩ = V := ⟨_, rfl⟩
  rw [hV]
  unfold Rq.ok at hV
  rw [if_pos ⟨h1, h4⟩] at hV
  simp only at hV
  rw [hL] at hV
  replace hV := hid hV
  have hbd : 1 ≤ q → q ≤ L → IntKind.i64.wrap (65536 - q) = 65536 - q := fun _ _ => IntWalk.i64_in _ (by omega)
  have HB : Hid (∀ X, Below w.heap.size w (w.alloc X)) := fun X => bal' w X
  have hf := (show f = 1 ∨ f = 2 ∨ f = 3 ∨ f = 4 by omega)
  clear hL h1 h4
  rcases (show ¬ 0 ≤ a ∨ (0 ≤ a ∧ ¬ 1 ≤ q) ∨ (0 ≤ a ∧ 1 ≤ q ∧ ¬ q ≤ L) ∨ (0 ≤ a ∧ 1 ≤ q ∧ q ≤ L ∧ ¬ a ≤ 65536 - q) ∨ (0 ≤ a ∧ 1 ≤ q ∧ q ≤ L ∧ a ≤ 65536 - q ∧ ¬ c = 0) ∨ (0 ≤ a ∧ 1 ≤ q ∧ q ≤ L ∧ a ≤ 65536 - q ∧ c = 0) by omega) with g1 | ⟨g1, g2⟩ | ⟨g1, g2, g3⟩ | ⟨g1, g2, g3, g4⟩ | ⟨g1, g2, g3, g4, g5⟩ | ⟨g1, g2, g3, g4, g5⟩
  · have d1 : decide (0 ≤ a) = false := decide_eq_false g1
    have e : V = false := by rw [← hV.out, d1]; simp
    clear hV hbd g1
    subst e
    rcases hf with rfl | rfl | rfl | rfl
    all_goals
      go_enter Tryz.func11, Tryz.ntmps11
      go_wp2_with (go_at_call 30; (with_reducible refine (isTableQ_any _ _).mono ?_); rintro r wi ⟨rfl, rfl⟩); go_quiet ((go_at_call 31; exact Calls.quiet_of_same ((HLM.out _).mono fun _ _ h => ⟨h.1, h.2.symm⟩))); go_wp2; go_ret
      exact ⟨rfl, below_drewN (HB.out _) _⟩
  · have d1 : decide (0 ≤ a) = true := decide_eq_true g1
    have d2 : decide (1 ≤ q) = false := decide_eq_false g2
    have e : V = false := by rw [← hV.out, d2]; simp
    clear hV hbd g1 g2
    subst e
    rcases hf with rfl | rfl | rfl | rfl
    all_goals
      go_enter Tryz.func11, Tryz.ntmps11
      go_wp2_with (go_at_call 30; (with_reducible refine (isTableQ_any _ _).mono ?_); rintro r wi ⟨rfl, rfl⟩); go_quiet ((go_at_call 31; exact Calls.quiet_of_same ((HLM.out _).mono fun _ _ h => ⟨h.1, h.2.symm⟩))); go_wp2; go_ret
      exact ⟨rfl, below_drewN (HB.out _) _⟩
  · have d1 : decide (0 ≤ a) = true := decide_eq_true g1
    have d2 : decide (1 ≤ q) = true := decide_eq_true g2
    have d3 : decide (q ≤ L) = false := decide_eq_false g3
    have e : V = false := by rw [← hV.out, d3]; simp
    clear hV hbd g1 g2 g3
    subst e
    rcases hf with rfl | rfl | rfl | rfl
    all_goals
      go_enter Tryz.func11, Tryz.ntmps11
      go_wp2_with (go_at_call 30; (with_reducible refine (isTableQ_any _ _).mono ?_); rintro r wi ⟨rfl, rfl⟩); go_quiet ((go_at_call 31; exact Calls.quiet_of_same ((HLM.out _).mono fun _ _ h => ⟨h.1, h.2.symm⟩))); go_wp2; go_ret
      exact ⟨rfl, below_drewN (HB.out _) _⟩
  · have d1 : decide (0 ≤ a) = true := decide_eq_true g1
    have d2 : decide (1 ≤ q) = true := decide_eq_true g2
    have d3 : decide (q ≤ L) = true := decide_eq_true g3
    have d4 : decide (a ≤ 65536 - q) = false := decide_eq_false g4
    have w4 := hbd g2 g3
    have e : V = false := by rw [← hV.out, d4]; simp
    clear hV hbd g1 g2 g3 g4
    subst e
    rcases hf with rfl | rfl | rfl | rfl
    all_goals
      go_enter Tryz.func11, Tryz.ntmps11
      go_wp2_with (go_at_call 30; (with_reducible refine (isTableQ_any _ _).mono ?_); rintro r wi ⟨rfl, rfl⟩); go_quiet ((go_at_call 31; exact Calls.quiet_of_same ((HLM.out _).mono fun _ _ h => ⟨h.1, h.2.symm⟩))); go_wp2; go_ret
      exact ⟨rfl, below_drewN (HB.out _) _⟩
  · have d1 : decide (0 ≤ a) = true := decide_eq_true g1
    have d2 : decide (1 ≤ q) = true := decide_eq_true g2
    have d3 : decide (q ≤ L) = true := decide_eq_true g3
    have d4 : decide (a ≤ 65536 - q) = true := decide_eq_true g4
    have d5 : (c == 0) = false := by simpa using g5
    have w4 := hbd g2 g3
    have e : V = false := by rw [← hV.out, d5]; simp
    clear hV hbd g1 g2 g3 g4 g5
    subst e
    rcases hf with rfl | rfl | rfl | rfl
    all_goals
      go_enter Tryz.func11, Tryz.ntmps11
      go_wp2_with (go_at_call 30; (with_reducible refine (isTableQ_any _ _).mono ?_); rintro r wi ⟨rfl, rfl⟩); go_quiet ((go_at_call 31; exact Calls.quiet_of_same ((HLM.out _).mono fun _ _ h => ⟨h.1, h.2.symm⟩))); go_wp2; go_ret
      exact ⟨rfl, below_drewN (HB.out _) _⟩
  · subst g5
    have d1 : decide (0 ≤ a) = true := decide_eq_true g1
    have d2 : decide (1 ≤ q) = true := decide_eq_true g2
    have d3 : decide (q ≤ L) = true := decide_eq_true g3
    have d4 : decide (a ≤ 65536 - q) = true := decide_eq_true g4
    have w4 := hbd g2 g3
    have e : (o == 0) = V := by rw [← hV.out, d1, d2, d3, d4]; simp
    have e' := hid e
    clear hV hbd g1 g2 g3 g4 e
    rcases hf with rfl | rfl | rfl | rfl
    all_goals
      go_enter Tryz.func11, Tryz.ntmps11
      go_wp2_with (go_at_call 30; (with_reducible refine (isTableQ_any _ _).mono ?_); rintro r wi ⟨rfl, rfl⟩); go_quiet ((go_at_call 31; exact Calls.quiet_of_same ((HLM.out _).mono fun _ _ h => ⟨h.1, h.2.symm⟩))); go_wp2; go_ret
      exact ⟨ret_bool e'.out, below_drewN (HB.out _) _⟩

set_option maxRecDepth 100000 in
set_option maxHeartbeats 3200000 in
theorem pqvalid_any (f a q c o : Int) (w : World) :
    Calls Tryz.prog 11 #[.agg #[.int .i64 f, .int .i64 a, .int .i64 q, .int .i64 c, .int .i64 o]] w fun r w' => r = .returned (.bool (Rq.ok ⟨f, a, q, c, o⟩)) ∧ Below w.heap.size w w' := by
  by_cases h : 1 ≤ f ∧ f ≤ 4
  · exact pqvalid_tab f a q c o h.1 h.2 w
  · obtain ⟨V, hV⟩ : ∃ V, Rq.ok ⟨f, a, q, c, o⟩ = V := ⟨_, rfl⟩
    rw [hV]
    unfold Rq.ok at hV
    rw [if_neg h] at hV
    simp only at hV
    have HB : Hid (∀ X, Below w.heap.size w (w.alloc X)) := fun X => bal' w X
    by_cases h17 : f = 17
    · subst h17
      rw [if_pos rfl] at hV
      replace hV := hid hV
      clear h
      go_enter Tryz.func11, Tryz.ntmps11
      go_wp2_with (go_at_call 30; (with_reducible refine (isTableQ_any _ _).mono ?_); rintro r wi ⟨rfl, rfl⟩)
      all_goals
        go_ret
        refine ⟨ret_bool ?_, HB.out _⟩
        rw [← hV.out]
        first | rfl | (rw [Bool.eq_iff_iff]; simp; done) | (rw [Bool.eq_iff_iff]; simp; omega)
    · rw [if_neg h17] at hV
      by_cases h43 : f = 43
      · subst h43
        rw [if_pos rfl] at hV
        replace hV := hid hV
        clear h h17
        go_enter Tryz.func11, Tryz.ntmps11
        go_wp2_with (go_at_call 30; (with_reducible refine (isTableQ_any _ _).mono ?_); rintro r wi ⟨rfl, rfl⟩)
        all_goals
          go_ret
          refine ⟨ret_bool ?_, HB.out _⟩
          rw [← hV.out]
          first | rfl | (rw [Bool.eq_iff_iff]; simp [*]; done) | (rw [Bool.eq_iff_iff]; simp; omega)
      · rw [if_neg h43] at hV
        subst hV
        have k1 : (f == 1) = false := by rw [beq_eq_false_iff_ne]; omega
        have k2 : (f == 2) = false := by rw [beq_eq_false_iff_ne]; omega
        have k3 : (f == 3) = false := by rw [beq_eq_false_iff_ne]; omega
        have k4 : (f == 4) = false := by rw [beq_eq_false_iff_ne]; omega
        have k5 : (f == 17) = false := by rw [beq_eq_false_iff_ne]; omega
        have k6 : (f == 43) = false := by rw [beq_eq_false_iff_ne]; omega
        have kt : tblB f = false := by
          unfold tblB
          cases hx : (decide (1 ≤ f) && decide (f ≤ 4)) with
          | false => rfl
          | true => simp at hx; omega
        clear h h17 h43
        go_enter Tryz.func11, Tryz.ntmps11
        go_wp2_with (go_at_call 30; (with_reducible refine (isTableQ_any _ _).mono ?_); rintro r wi ⟨rfl, rfl⟩)
        go_ret
        exact ⟨rfl, HB.out _⟩

end Go.Proofs.YtliblgmpclefgaaGreat
