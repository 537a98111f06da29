/-
  Texts 24 of the claim.
-/
import Derived.Test.YtpkheiaanjhffaaN13
namespace Go.Proofs.Ytpkheiaanjhffaa
open Go.RowKit
set_option maxRecDepth 100000 in
set_option maxHeartbeats 800000 in
theorem possible_any (n : Int) (h0 : 0 ≤ n) (h1 : n < 65536) (w : World) : Calls Try.prog 59 #[.int .i64 n] w fun r w' => r = .returned (.bool true) ∧ w = w' := by
  have d0 : decide (0 ≤ n) = true := decide_eq_true h0
  have d1 : decide (n < 65536) = true := decide_eq_true h1
  clear h0 h1
  go_enter Try.func59, Try.ntmps59
  go_wp2
  go_ret
  exact ⟨rfl, rfl⟩
set_option maxRecDepth 100000 in
set_option maxHeartbeats 1600000 in
theorem pword_any (t a x : Int) (t0 : 1 ≤ t) (t1 : t ≤ 4) (a0 : 0 ≤ a) (a1 : a < 65536) (x0 : 0 ≤ x) (x1 : x ≤ 65535) (w : World) :
    Calls Try.prog 79 #[.int .i64 t, .int .i64 a, .int .i64 x] w fun r w' => ∃ n : Int, r = .returned (.int .i64 n) ∧ Hid (n = wordV t a x) ∧ 0 ≤ n ∧ n < 65536 ∧ w = w' := by
  have b1 : decide (t < 1) = false := decide_eq_false (by omega)
  have b2 : decide (4 < t) = false := decide_eq_false (by omega)
  have HP1 := hid (possible_any a a0 a1)
  have HP2 := hid (possible_any x x0 (by omega))
  obtain ⟨p, hp⟩ : ∃ p, 7919 * a = p := ⟨_, rfl⟩
  have s1 : IntKind.i64.wrap (7919 * a) = p := (IntWalk.i64_in _ (by omega)).trans hp
  obtain ⟨q, hq⟩ : ∃ q, x + p = q := ⟨_, rfl⟩
  have s2 : IntKind.i64.wrap (x + p) = q := (IntWalk.i64_in _ (by omega)).trans hq
  obtain ⟨u, hu⟩ : ∃ u, 104729 * t = u := ⟨_, rfl⟩
  have s3 : IntKind.i64.wrap (104729 * t) = u := (IntWalk.i64_in _ (by omega)).trans hu
  obtain ⟨z, hz⟩ : ∃ z, q + u = z := ⟨_, rfl⟩
  have s4 : IntKind.i64.wrap (q + u) = z := (IntWalk.i64_in _ (by omega)).trans hz
  obtain ⟨y, hy⟩ : ∃ y, z.tmod 65536 = y := ⟨_, rfl⟩
  have HY : Hid (y = wordV t a x ∧ 0 ≤ y ∧ y < 65536) := by
    show _ ∧ _ ∧ _
    rw [← hy, Int.tmod_eq_emod_of_nonneg (by omega)]
    unfold wordV
    omega
  clear t0 t1 a0 a1 x0 x1 hp hq hu hz
  go_enter Try.func79, Try.ntmps79
  go_wp2_with (first
    | (go_at_call 59; (with_reducible refine (HP1.out _).mono ?_); rintro r w2 ⟨rfl, rfl⟩)
    | (go_at_call 59; (with_reducible refine (HP2.out _).mono ?_); rintro r w2 ⟨rfl, rfl⟩))
  go_ret
  exact ⟨y, rfl, HY.out.1, HY.out.2.1, HY.out.2.2, rfl⟩
def RefPost (w : World) (fn e : Int) (r : Ending) (w' : World) : Prop := r = .returned (.agg #[.int .i64 fn, .int .i64 e, .slice none 0 0, .int .i64 0, .int .i64 0, .bool false, .int .i64 0, .slice none 0 0]) ∧ Below w.heap.size w w'
set_option maxRecDepth 100000 in
set_option maxHeartbeats 1600000 in
theorem refuse_any (fn ad qt co ob e : Int) (w : World) : Calls Try.prog 62 #[.agg #[.int .i64 fn, .int .i64 ad, .int .i64 qt, .int .i64 co, .int .i64 ob], .int .i64 e] w (RefPost w fn e) := by
  have hb := bta (bal' w (.cells #[.int .i64 fn, .int .i64 ad, .int .i64 qt, .int .i64 co, .int .i64 ob] 70)) (Nat.le_refl _) (.cells #[.int .i64 fn, .int .i64 e, .slice none 0 0, .int .i64 0, .int .i64 0, .bool false, .int .i64 0, .slice none 0 0] 98)
  have hg : ((w.alloc (.cells #[.int .i64 fn, .int .i64 ad, .int .i64 qt, .int .i64 co, .int .i64 ob] 70)).alloc (.cells #[.int .i64 fn, .int .i64 e, .slice none 0 0, .int .i64 0, .int .i64 0, .bool false, .int .i64 0, .slice none 0 0] 98)).heap[w.heap.size + 1]? = some (.cells #[.int .i64 fn, .int .i64 e, .slice none 0 0, .int .i64 0, .int .i64 0, .bool false, .int .i64 0, .slice none 0 0] 98) := by
    have h := hpNew (w.alloc (.cells #[.int .i64 fn, .int .i64 ad, .int .i64 qt, .int .i64 co, .int .i64 ob] 70)) (.cells #[.int .i64 fn, .int .i64 e, .slice none 0 0, .int .i64 0, .int .i64 0, .bool false, .int .i64 0, .slice none 0 0] 98)
    rw [World.size_alloc] at h
    exact h
  go_enter Try.func62, Try.ntmps62
  go_wp2
  refine bodyPost_ret (results_cell_row rfl _ _ (w.heap.size + 1) 98 _ (0, 0) _ rfl hg Try.underlying98 rfl info8) rfl ?_
  exact ⟨rfl, hb⟩
end Go.Proofs.Ytpkheiaanjhffaa
