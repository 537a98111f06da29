/-
  The walk of the law LinkNone.
-/
import Derived.Test.YtoaajdbjlaffgaaLkX
namespace Go.Proofs.Ytoaajdbjlaffgaa
open Go.RowKit

set_option maxRecDepth 100000 in
set_option maxHeartbeats 800000 in
theorem begin_nil (unit tick : Int) (qf qa qq qc qo : Int) (w : World) : Calls Try.prog 19 #[.pointer none, .int .i64 unit, .agg #[.int .i64 qf, .int .i64 qa, .int .i64 qq, .int .i64 qc, .int .i64 qo], .int .i64 tick] w fun r w' => r = .returned (.int .i64 13) ∧ Below w.heap.size w w' := by
  go_enter Try.func19, Try.ntmps19
  go_wp2
  go_ret
  exact ⟨rfl, bal' w _⟩
set_option maxRecDepth 100000 in
set_option maxHeartbeats 800000 in
theorem sent_nil (e : Int) (w : World) : Calls Try.prog 22 #[.pointer none, .int .i64 e] w fun r w' => r = .returned (.int .i64 13) ∧ Below w.heap.size w w' := by
  go_enter Try.func22, Try.ntmps22
  go_wp2
  go_ret
  exact ⟨rfl, Below.refl _ _⟩
set_option maxRecDepth 100000 in
set_option maxHeartbeats 800000 in
theorem char_nil (a b c : Int) (w : World) : Calls Try.prog 25 #[.pointer none, .agg #[.int .i64 a, .int .u8 b, .int .i64 c]] w fun r w' => r = .returned (.int .i64 13) ∧ Below w.heap.size w w' := by
  go_enter Try.func25, Try.ntmps25
  go_wp2
  go_ret
  exact ⟨rfl, bal' w _⟩
set_option maxRecDepth 100000 in
set_option maxHeartbeats 800000 in
theorem silence_nil (w : World) : Calls Try.prog 26 #[.pointer none] w fun r w' => r = .returned (.int .i64 13) ∧ Below w.heap.size w w' := by
  go_enter Try.func26, Try.ntmps26
  go_wp2
  go_ret
  exact ⟨rfl, Below.refl _ _⟩
set_option maxRecDepth 100000 in
set_option maxHeartbeats 800000 in
theorem attempts_nil (w : World) : Calls Try.prog 29 #[.pointer none] w fun r w' => r = .returned (.int .i64 0) ∧ Below w.heap.size w w' := by
  go_enter Try.func29, Try.ntmps29
  go_wp2
  go_ret
  exact ⟨rfl, Below.refl _ _⟩
set_option maxRecDepth 100000 in
set_option maxHeartbeats 800000 in
theorem now_nil (w : World) : Calls Try.prog 30 #[.pointer none] w fun r w' => r = .returned (.int .i64 0) ∧ Below w.heap.size w w' := by
  go_enter Try.func30, Try.ntmps30
  go_wp2
  go_ret
  exact ⟨rfl, Below.refl _ _⟩
set_option maxRecDepth 100000 in
set_option maxHeartbeats 800000 in
theorem outcome_nil (w : World) : Calls Try.prog 27 #[.pointer none] w fun r w' => r = .returned (.tuple #[.agg #[.int .i64 0, .int .i64 0, .int .i64 0, .slice none 0 0, .int .i64 0, .int .i64 0, .bool false, .int .i64 0, .slice none 0 0], .bool false]) ∧ Below w.heap.size w w' := by
  go_enter Try.func27, Try.ntmps27
  go_wp2
  refine bodyPost_ret (v := .tuple #[.agg #[.int .i64 0, .int .i64 0, .int .i64 0, .slice none 0 0, .int .i64 0, .int .i64 0, .bool false, .int .i64 0, .slice none 0 0], .bool false]) (by simp [results, Try.results27, go_sem]) rfl ?_
  exact ⟨rfl, bal' w _⟩
set_option maxRecDepth 100000 in
set_option maxHeartbeats 800000 in
theorem action_nil (w : World) : Calls Try.prog 20 #[.pointer none] w fun r w' => r = .returned (.agg #[.int .i64 0, .int .i64 0, .slice none 0 0]) ∧ Below w.heap.size w w' := by
  go_enter Try.func20, Try.ntmps20
  go_wp2
  refine bodyPost_ret (v := .agg #[.int .i64 0, .int .i64 0, .slice none 0 0]) (by simp [results, Try.results20, go_sem]) rfl ?_
  exact ⟨rfl, bal' w _⟩

set_option maxRecDepth 100000 in
set_option maxHeartbeats 3200000 in
theorem Walk.linkNone {w : World} : Calls Try.prog 6 #[] w fun r w' => r = .returned (.bool true) ∧ Below w.heap.size w w' := by
  have hfd : ∀ W, (Instr.field 54 (.agg #[.int .i64 0, .int .i64 0, .slice none 0 0]) 0).run Try.prog W = .ok (.int .i64 0) W := fun W => by first | rfl | kernel_rfl
  go_enter Try.func6, Try.ntmps6
  go_wp2_with (first
    | (go_at_call 27; (with_reducible refine (outcome_nil _).mono ?_); rintro r w1 ⟨rfl, hb1⟩)
    | (go_at_call 9; (with_reducible refine (lkawake_any _).mono ?_); rintro r w2 ⟨rfl, hb2⟩)
    | (go_at_call 19; (with_reducible refine (begin_nil _ _ _ _ _ _ _ _).mono ?_); rintro r w3 ⟨rfl, hb3⟩)
    | (go_at_call 22; (with_reducible refine (sent_nil _ _).mono ?_); rintro r w4 ⟨rfl, hb4⟩)
    | (go_at_call 25; (with_reducible refine (char_nil _ _ _ _).mono ?_); rintro r w5 ⟨rfl, hb5⟩)
    | (go_at_call 26; (with_reducible refine (silence_nil _).mono ?_); rintro r w6 ⟨rfl, hb6⟩)
    | (go_at_call 29; (with_reducible refine (attempts_nil _).mono ?_); rintro r w7 ⟨rfl, hb7⟩)
    | (go_at_call 30; (with_reducible refine (now_nil _).mono ?_); rintro r w8 ⟨rfl, hb8⟩)
    | (go_at_call 20; (with_reducible refine (action_nil _).mono ?_); rintro r w9 ⟨rfl, hb9⟩))
  go_ret
  refine ⟨rfl, ?_⟩
  exact bt (bt (bt (bt (bt (bt (bt (bt (bta hb1 (Nat.le_refl _) _) hb2 (Nat.le_refl _)) hb3 (Nat.le_refl _)) hb4 (Nat.le_refl _)) hb5 (Nat.le_refl _)) hb6 (Nat.le_refl _)) hb7 (Nat.le_refl _)) hb8 (Nat.le_refl _)) hb9 (Nat.le_refl _)

end Go.Proofs.Ytoaajdbjlaffgaa
