/-
  Texts B2 of the claim.
-/
import Derived.Test.YtpkheiaanjhffaaGreatU05
import Derived.Test.YtpkheiaanjhffaaGreatUB01
import Derived.Deep.OwnRows
import Derived.Deep.QuietTactic
import Derived.BigQuiet
namespace Go.Proofs.YtpkheiaanjhffaaGreat
open Go.RowKit
set_option maxRecDepth 100000 in
set_option maxHeartbeats 3200000 in
theorem rvalid_ok (b p : Int) (h : Hid (Okset b p)) (w : World) :
    Calls Tryz.prog 49 #[.agg #[.int .i64 b, .int .i64 p]] w fun r w' => r = .returned (.bool true) ∧ Below w.heap.size w w' := by
  have HM := hid (allS_mem h.out)
  go_enter Tryz.func49, Tryz.ntmps49
  go_wp2_with fail
  refine (rall_any _).mono ?_
  rintro r w1 ⟨v, rfl, hown, hb1⟩
  obtain ⟨g, c, rfl, hnc, hcm, hel⟩ := own_setting hown (by decide)
  have HE := hid hel
  have q0 := hpCell (hpKeep (hpNew w _) hb1) 0
  have q1 := hpCell (hpKeep (hpNew w _) hb1) 1
  unfold maxLen at hcm
  have hbw := bt (bal' w _) hb1 (Nat.le_refl _)
  clear hel hown hb1
  go_wp2
  go_loopw [4] (fun i wr => ∃ k : Nat, k ≤ 24 ∧ i = .int .i64 k ∧ Hid (∀ j, j < k → allS[j]? ≠ some (b, p)) ∧ ∃ n, wr = w1.drewN n) (fun i _ => 24 - (intOf i).toNat)
  case atStart => exact ⟨0, by omega, rfl, fun j hj => absurd hj (by omega), 0, rfl⟩
  case round =>
    obtain ⟨k, hk, rfl, hno, nd, rfl⟩ := hrel
    by_cases hlt : k < 24
    · have hkl : (k : Int) < 24 := by omega
      obtain ⟨x, hgx⟩ : ∃ x, allS[k]? = some x := ⟨_, List.getElem?_eq_getElem (show k < allS.length by rw [allS_len]; exact hlt)⟩
      obtain ⟨e0, e1⟩ := HE.out k x hgx
      have HG := hid hgx
      clear hgx
      obtain ⟨x1, x2⟩ := x
      by_cases hx : x1 = b ∧ x2 = p
      · obtain ⟨d1, d2⟩ : (x1 == b) = true ∧ (x2 == p) = true := ⟨by rw [beq_iff_eq]; exact hx.1, by rw [beq_iff_eq]; exact hx.2⟩
        clear hx
        go_wp2
        go_quiet (fail)
        go_wp2
        go_ret
        exact ⟨rfl, below_drewN (below_drewN hbw _) _⟩
      · have HN : Hid (∀ j, j < k + 1 → allS[j]? ≠ some (b, p)) := by
          intro j hj e
          by_cases hjk : j = k
          · subst hjk
            rw [HG.out] at e
            cases e
            exact hx ⟨rfl, rfl⟩
          · exact hno.out j (by omega) e
        rcases (show (x1 == b) = false ∨ ((x1 == b) = true ∧ (x2 == p) = false) by
          by_cases h1 : x1 = b
          · exact .inr ⟨by rw [beq_iff_eq]; exact h1, by rw [beq_eq_false_iff_ne]; exact fun h2 => hx ⟨h1, h2⟩⟩
          · exact .inl (by rw [beq_eq_false_iff_ne]; exact h1)) with d1 | ⟨d1, d2⟩
        all_goals
          clear hx
          go_wp2
          go_quiet (fail)
          go_wp2
          go_roundw
          case rel => exact ⟨k + 1, by omega, by go_num, HN, nd + nq, rfl⟩
          case measure => simp [intOf]; omega
    · exfalso
      obtain rfl : k = 24 := by omega
      obtain ⟨j, hj⟩ := List.getElem?_of_mem HM.out
      exact hno.out j (by have := (List.getElem?_eq_some_iff.1 hj).1; rw [allS_len] at this; exact this) hj
set_option maxHeartbeats 800000 in
theorem rup_any (a b : Int) (h1 : 1 ≤ b) (h2 : b ≤ 115200) (h3 : 0 ≤ a) (h4 : a ≤ 38500000) (w : World) :
    Calls Tryz.prog 50 #[.int .i64 a, .int .i64 b] w fun r w' => r = .returned (.int .i64 (upI a b)) ∧ w = w' := by
  go_enter Tryz.func50, Tryz.ntmps50
  go_wp2
  go_ret
  exact ⟨rfl, rfl⟩
set_option maxRecDepth 100000 in
set_option maxHeartbeats 800000 in
theorem rchar_ok (b p : Int) (h : Hid (Okset b p)) (w : World) :
    Calls Tryz.prog 21 #[.agg #[.int .i64 b, .int .i64 p]] w fun r w' => r = .returned (.int .i64 (charT b)) ∧ Below w.heap.size w w' := by
  have HU : Hid (∀ W, Calls Tryz.prog 50 #[.int .i64 11000000, .int .i64 b] W fun r w' => r = .returned (.int .i64 (charT b)) ∧ W = w') := fun W => rup_any _ b (by have := h.out.bd; omega) (by have := h.out.bd; omega) (by decide) (by decide) W
  go_enter Tryz.func21, Tryz.ntmps21
  go_wp2_with (first | (go_at_call 49; (with_reducible refine (rvalid_ok b p h _).mono ?_); rintro r w1 ⟨rfl, hb1⟩; have y0 := hpCell (hpKeep (hpNew w _) hb1) 0) | (go_at_call 50; (with_reducible refine (HU.out _).mono ?_); rintro r w2 ⟨rfl, rfl⟩))
  go_ret
  exact ⟨rfl, bt (bal' w _) hb1 (Nat.le_refl _)⟩
set_option maxRecDepth 100000 in
set_option maxHeartbeats 800000 in
theorem rt35_ok (b p : Int) (h : Hid (Okset b p)) (w : World) :
    Calls Tryz.prog 20 #[.agg #[.int .i64 b, .int .i64 p]] w fun r w' => r = .returned (.int .i64 (t35T b)) ∧ Below w.heap.size w w' := by
  by_cases hs : 19200 < b
  · have HT : Hid (t35T b = 1750) := if_pos hs
    go_enter Tryz.func20, Tryz.ntmps20
    go_wp2_with (first | (go_at_call 49; (with_reducible refine (rvalid_ok b p h _).mono ?_); rintro r w1 ⟨rfl, hb1⟩; have y0 := hpCell (hpKeep (hpNew w _) hb1) 0) | fail)
    go_ret
    exact ⟨by rw [HT.out]; rfl, bt (bal' w _) hb1 (Nat.le_refl _)⟩
  · have HT : Hid (t35T b = upI 38500000 b) := if_neg hs
    have HU : Hid (∀ W, Calls Tryz.prog 50 #[.int .i64 38500000, .int .i64 b] W fun r w' => r = .returned (.int .i64 (upI 38500000 b)) ∧ W = w') := fun W => rup_any _ b (by have := h.out.bd; omega) (by have := h.out.bd; omega) (by decide) (by decide) W
    go_enter Tryz.func20, Tryz.ntmps20
    go_wp2_with (first | (go_at_call 49; (with_reducible refine (rvalid_ok b p h _).mono ?_); rintro r w1 ⟨rfl, hb1⟩; have y0 := hpCell (hpKeep (hpNew w _) hb1) 0) | (go_at_call 50; (with_reducible refine (HU.out _).mono ?_); rintro r w2 ⟨rfl, rfl⟩))
    go_ret
    exact ⟨by rw [HT.out]; rfl, bt (bal' w _) hb1 (Nat.le_refl _)⟩
set_option maxRecDepth 100000 in
set_option maxHeartbeats 800000 in
theorem rframe_ok (b p : Int) (h : Hid (Okset b p)) (n : Nat) (hn : n ≤ 256) (w : World) :
    Calls Tryz.prog 19 #[.agg #[.int .i64 b, .int .i64 p], .int .i64 (n : Int)] w fun r w' => r = .returned (.int .i64 (frameT b n)) ∧ Below w.heap.size w w' := by
  obtain ⟨t1, t2, _, _, t5, t6⟩ := time_bd h.out
  obtain ⟨C, hC⟩ : ∃ C, charT b = C := ⟨_, rfl⟩
  have HCH : Hid (∀ W, Calls Tryz.prog 21 #[.agg #[.int .i64 b, .int .i64 p]] W fun r w' => r = .returned (.int .i64 C) ∧ Below W.heap.size W w') := fun W => by rw [← hC]; exact rchar_ok b p h W
  have HF : Hid (frameT b n = (n : Int) * C) := by show _ = _; unfold frameT; rw [hC]
  rw [hC] at t1 t2
  have hm : (0 : Int) ≤ (n : Int) * C := Int.mul_nonneg (by omega) (by omega)
  have hm2 : (n : Int) * C ≤ 256 * 9167 := Int.mul_le_mul (by omega) t2 (by omega) (by decide)
  have s1 : IntKind.i64.wrap ((n : Int) * C) = (n : Int) * C := IntWalk.i64_in _ (by omega)
  clear hC
  go_enter Tryz.func19, Tryz.ntmps19
  go_wp2_with (go_at_call 21; (with_reducible refine (HCH.out _).mono ?_); rintro r w1 ⟨rfl, hb1⟩)
  go_ret
  exact ⟨by rw [HF.out]; rfl, bt (bal' w _) hb1 (Nat.le_refl _)⟩
end Go.Proofs.YtpkheiaanjhffaaGreat
