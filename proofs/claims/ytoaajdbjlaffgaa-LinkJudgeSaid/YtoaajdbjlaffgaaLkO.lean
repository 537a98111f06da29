/-
  The contract of a link's Outcome behind a transaction without a reply.
-/
import Derived.Test.YtoaajdbjlaffgaaLkA
import Derived.Test.YtoaajdbjlaffgaaMrech
import Derived.Deep.RegionWith
namespace Go.Proofs.Ytoaajdbjlaffgaa
open Go.RowKit

set_option maxRecDepth 100000 in
set_option maxHeartbeats 800000 in
theorem clone_nil (w : World) : Calls Try.prog 46 #[.slice none 0 0] w fun r w' => r = .returned (.slice none 0 0) ∧ w = w' := by
  have hq := Lib.run_eql_slice_nil (P := Try.prog)
  go_enter Try.func46, Try.ntmps46
  go_wp2
  go_ret
  exact ⟨rfl, rfl⟩
set_option maxRecDepth 100000 in
set_option maxHeartbeats 800000 in
theorem cloneO_nil (w : World) : Calls Try.prog 82 #[.slice none 0 0] w fun r w' => r = .returned (.slice none 0 0) ∧ w = w' := by
  have hq := Lib.run_eql_slice_nil (P := Try.prog)
  go_enter Try.func82, Try.ntmps82
  go_wp2
  go_ret
  exact ⟨rfl, rfl⟩

set_option maxRecDepth 100000 in
set_option maxHeartbeats 3200000 in
theorem copied_bare (v : Int) (w : World) : Calls Try.prog 58 #[.agg #[.int .i64 v, .int .i64 0, .int .i64 0, .slice none 0 0, .int .i64 0, .int .i64 0, .bool false, .int .i64 0, .slice none 0 0]] w fun r w' => r = .returned (.agg #[.int .i64 v, .int .i64 0, .int .i64 0, .slice none 0 0, .int .i64 0, .int .i64 0, .bool false, .int .i64 0, .slice none 0 0]) ∧ Below w.heap.size w w' := by
  go_enter Try.func58, Try.ntmps58
  go_wp2_with fail
  go_region_with (first | (go_at_call 46; (with_reducible refine (clone_nil _).mono ?_); rintro r w1 ⟨rfl, rfl⟩) | (go_at_call 82; (with_reducible refine (cloneO_nil _).mono ?_); rintro r w1 ⟨rfl, rfl⟩))
  all_goals
    go_wp2
    go_loop [27] (fun i => i = .int .i64 0) (fun _ => 0)
    case atStart => rfl
    case round =>
      obtain rfl := hrel
      go_wp2
      refine bodyPost_ret (v := .agg #[.int .i64 v, .int .i64 0, .int .i64 0, .slice none 0 0, .int .i64 0, .int .i64 0, .bool false, .int .i64 0, .slice none 0 0]) (by simp [results, Try.results58, go_sem]) rfl ?_
      exact ⟨rfl, (bta (bal' w _) (Nat.le_refl _) _).drew⟩

/-- What Outcome answers behind a transaction without a reply. -/
def OutBare (w : World) (v : Int) (r : Ending) (w' : World) : Prop := r = .returned (.tuple #[.agg #[.int .i64 v, .int .i64 0, .int .i64 0, .slice none 0 0, .int .i64 0, .int .i64 0, .bool false, .int .i64 0, .slice none 0 0], .bool true]) ∧ Below w.heap.size w w'

set_option maxRecDepth 100000 in
set_option maxHeartbeats 3200000 in
theorem outcome_bare (g : Nat) (s : Lk) (v : Int) (w : World) (hl : LkAt w g (s.silent v)) :
    Calls Try.prog 27 #[.pointer (some ⟨g, 0, none⟩)] w (OutBare w v) := by
  have hg := hl.lt
  obtain ⟨W1, hW1⟩ : ∃ W, w.alloc (.cells #[.int .i64 0, .int .i64 0, .int .i64 0, .slice none 0 0, .int .i64 0, .int .i64 0, .bool false, .int .i64 0, .slice none 0 0] 41) = W := ⟨_, rfl⟩
  have hb1 : Below w.heap.size w W1 := by rw [← hW1]; exact bal' w _
  have g1 : W1.heap[w.heap.size]? = some (.cells #[.int .i64 0, .int .i64 0, .int .i64 0, .slice none 0 0, .int .i64 0, .int .i64 0, .bool false, .int .i64 0, .slice none 0 0] 41) := by rw [← hW1]; exact hpNew w _
  have l1 := hl.keep hb1
  have c5 : W1.cell? ⟨g, 5, none⟩ = some (.int .i64 5) := l1.cell 5
  have c20 : W1.cell? ⟨g, 20, none⟩ = some (.int .i64 v) := l1.cell 20
  have c21 : W1.cell? ⟨g, 21, none⟩ = some (.int .i64 0) := l1.cell 21
  have c22 : W1.cell? ⟨g, 22, none⟩ = some (.int .i64 0) := l1.cell 22
  have c23 : W1.cell? ⟨g, 23, none⟩ = some (.slice none 0 0) := l1.cell 23
  have c24 : W1.cell? ⟨g, 24, none⟩ = some (.int .i64 0) := l1.cell 24
  have c25 : W1.cell? ⟨g, 25, none⟩ = some (.int .i64 0) := l1.cell 25
  have c26 : W1.cell? ⟨g, 26, none⟩ = some (.bool false) := l1.cell 26
  have c27 : W1.cell? ⟨g, 27, none⟩ = some (.int .i64 0) := l1.cell 27
  have c28 : W1.cell? ⟨g, 28, none⟩ = some (.slice none 0 0) := l1.cell 28
  have HW1 := hid hW1
  have HB1 := hid hb1
  have G1 := hid g1
  clear hl hW1 hb1 g1 l1
  go_enter Try.func27, Try.ntmps27
  go_upto_region 1 with (fail)
  rw [HW1.out]
  go_wp2_with fail
  refine (copied_bare v W1).mono ?_
  rintro r w2 ⟨rfl, hb2⟩
  have gz := hpKeep G1.out hb2
  have hbw := bt HB1.out hb2 (Nat.le_refl _)
  clear c5 c20 c21 c22 c23 c24 c25 c26 c27 c28
  go_wp2_with (refine wpList_storeW rfl 41 (.tmp 2) (.tmp 18) rfl w.heap.size 0 _ _ (#[.int .i64 v, .int .i64 0, .int .i64 0, .slice none 0 0, .int .i64 0, .int .i64 0, .bool false, .int .i64 0, .slice none 0 0]) rfl rfl gz (by simp) (by kernel_rfl) (by rfl) ?_; intro w4 g4 hk4 hz4)
  obtain ⟨q0, q1, q2, q3, q4, q5, q6, q7, q8⟩ : w4.cell? ⟨w.heap.size, 0, none⟩ = some (.int .i64 v) ∧ w4.cell? ⟨w.heap.size, 1, none⟩ = some (.int .i64 0) ∧ w4.cell? ⟨w.heap.size, 2, none⟩ = some (.int .i64 0) ∧ w4.cell? ⟨w.heap.size, 3, none⟩ = some (.slice none 0 0) ∧ w4.cell? ⟨w.heap.size, 4, none⟩ = some (.int .i64 0) ∧ w4.cell? ⟨w.heap.size, 5, none⟩ = some (.int .i64 0) ∧ w4.cell? ⟨w.heap.size, 6, none⟩ = some (.bool false) ∧ w4.cell? ⟨w.heap.size, 7, none⟩ = some (.int .i64 0) ∧ w4.cell? ⟨w.heap.size, 8, none⟩ = some (.slice none 0 0) := ⟨hpCell g4 0, hpCell g4 1, hpCell g4 2, hpCell g4 3, hpCell g4 4, hpCell g4 5, hpCell g4 6, hpCell g4 7, hpCell g4 8⟩
  refine bodyPost_ret (v := .tuple #[.agg #[.int .i64 v, .int .i64 0, .int .i64 0, .slice none 0 0, .int .i64 0, .int .i64 0, .bool false, .int .i64 0, .slice none 0 0], .bool true]) (by simp [results, Try.results27, go_sem, q0, q1, q2, q3, q4, q5, q6, q7, q8]) rfl ?_
  exact ⟨rfl, hbw.trans (hk4.below hbw.size (fun k hk e => by omega))⟩

end Go.Proofs.Ytoaajdbjlaffgaa
