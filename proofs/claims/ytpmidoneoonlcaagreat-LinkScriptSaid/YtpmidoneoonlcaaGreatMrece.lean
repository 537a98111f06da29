/-
  Several texts of this claim in one file.
-/
import Derived.Test.YtpmidoneoonlcaaGreatRecD
/-
The contract of the reference's ValidReply: device identifications, part 1.
-/
namespace Go.Proofs.YtpmidoneoonlcaaGreat
open Go.RowKit

set_option maxRecDepth 100000 in
set_option maxHeartbeats 6400000 in
theorem vreply_dev1 (w : World) (a2 a : Option Addr) (n c2 m c : Nat) (code level : Int) (more : Bool) (next : Int) (hb : ¬ n = 0 ∨ (n = 0 ∧ code < 1) ∨ (n = 0 ∧ 1 ≤ code ∧ 3 < code)) :
    Calls Tryz.prog 100 #[.agg #[.int .i64 43, .int .i64 0, .slice a2 n c2, .int .i64 code, .int .i64 level, .bool more, .int .i64 next, .slice a m c]] w fun r w' => r = .returned (.bool false) ∧ Below w.heap.size w w' := by
  have HKN : Hid (∀ W, Calls Tryz.prog 98 #[.int .i64 43] W fun r w' => r = .returned (.bool true) ∧ W = w') := fun W => by rw [← (show knownB 43 = true from rfl)]; exact function_any _ W
  obtain ⟨pb, hpb0⟩ : ∃ pb, pb = (code == 0 && level == 0 && !more && next == 0 && decide (m = 0)) := ⟨_, rfl⟩
  have hpb := hid hpb0
  clear hpb0
  have hB : ∀ n, Hid (Below w.heap.size w (w.alloc (.cells #[.int .i64 43, .int .i64 0, .slice a2 n c2, .int .i64 code, .int .i64 level, .bool more, .int .i64 next, .slice a m c] 48))) := fun n => bal' w _
  go_enter Tryz.func100, Tryz.ntmps100
  go_upto_region 3 with (first | (go_at_call 98; (with_reducible refine (HKN.out _).mono ?_); rintro r w1 ⟨rfl, rfl⟩))
  go_cut [0, 3] (fun s0 s3 wc => s0 = .agg #[.int .i64 43, .int .i64 0, .slice a2 n c2, .int .i64 code, .int .i64 level, .bool more, .int .i64 next, .slice a m c] ∧ s3 = .bool pb ∧ wc = (w.alloc (.cells #[.int .i64 43, .int .i64 0, .slice a2 n c2, .int .i64 code, .int .i64 level, .bool more, .int .i64 next, .slice a m c] 48)))
  case first =>
    go_wp2
    all_goals
      go_meet
      case rel => exact ⟨by simp [*], by first | (rw [hpb.out]; done) | (rw [hpb.out]; simp [*]; done) | (rw [hpb.out]; congr 1; done) | (rw [hpb.out]; congr 1; rw [Bool.eq_iff_iff]; simp [*]; done) | (rw [hpb.out]; congr 1; rw [Bool.eq_iff_iff]; simp [*]; omega), by simp [*]⟩
  case rest =>
    obtain ⟨rfl, rfl, rfl⟩ := hcut
    rcases hb with h | ⟨rfl, h⟩ | ⟨rfl, h, h'⟩
    all_goals
      rcases lv_cases level with ⟨l1, l2, _⟩ | ⟨l1, l2, _⟩ | ⟨_, l1 | l1 | l1⟩
      all_goals
        go_wp2
        go_ret
        exact ⟨rfl, (hB _).out⟩

end Go.Proofs.YtpmidoneoonlcaaGreat

/-
The contract of the reference's ValidReply: device identifications, part 2.
-/
namespace Go.Proofs.YtpmidoneoonlcaaGreat
open Go.RowKit

set_option maxRecDepth 100000 in
set_option maxHeartbeats 3200000 in
theorem vreply_dev2 (w : World) (a2 a : Option Addr) (n c2 m c : Nat) (code level : Int) (more : Bool) (next : Int) (h0 : n = 0) (c1 : 1 ≤ code) (c2' : code ≤ 3) (hl : level < 1 ∨ (3 < level ∧ level ≤ 128) ∨ 131 < level) :
    Calls Tryz.prog 100 #[.agg #[.int .i64 43, .int .i64 0, .slice a2 n c2, .int .i64 code, .int .i64 level, .bool more, .int .i64 next, .slice a m c]] w fun r w' => r = .returned (.bool false) ∧ Below w.heap.size w w' := by
  subst h0
  have HKN : Hid (∀ W, Calls Tryz.prog 98 #[.int .i64 43] W fun r w' => r = .returned (.bool true) ∧ W = w') := fun W => by rw [← (show knownB 43 = true from rfl)]; exact function_any _ W
  obtain ⟨pb, hpb0⟩ : ∃ pb, pb = (code == 0 && level == 0 && !more && next == 0 && decide (m = 0)) := ⟨_, rfl⟩
  have hpb := hid hpb0
  clear hpb0
  have hB : Hid (Below w.heap.size w (w.alloc (.cells #[.int .i64 43, .int .i64 0, .slice a2 0 c2, .int .i64 code, .int .i64 level, .bool more, .int .i64 next, .slice a m c] 48))) := bal' w _
  go_enter Tryz.func100, Tryz.ntmps100
  go_upto_region 3 with (first | (go_at_call 98; (with_reducible refine (HKN.out _).mono ?_); rintro r w1 ⟨rfl, rfl⟩))
  go_cut [0, 3] (fun s0 s3 wc => s0 = .agg #[.int .i64 43, .int .i64 0, .slice a2 0 c2, .int .i64 code, .int .i64 level, .bool more, .int .i64 next, .slice a m c] ∧ s3 = .bool pb ∧ wc = (w.alloc (.cells #[.int .i64 43, .int .i64 0, .slice a2 0 c2, .int .i64 code, .int .i64 level, .bool more, .int .i64 next, .slice a m c] 48)))
  case first =>
    go_wp2
    all_goals
      go_meet
      case rel => exact ⟨by simp [*], by first | (rw [hpb.out]; done) | (rw [hpb.out]; simp [*]; done) | (rw [hpb.out]; congr 1; done) | (rw [hpb.out]; congr 1; rw [Bool.eq_iff_iff]; simp [*]; done) | (rw [hpb.out]; congr 1; rw [Bool.eq_iff_iff]; simp [*]; omega), by simp [*]⟩
  case rest =>
    obtain ⟨rfl, rfl, rfl⟩ := hcut
    rcases hl with l1 | l1 | l1
    all_goals
      go_wp2
      go_ret
      exact ⟨rfl, hB.out⟩

end Go.Proofs.YtpmidoneoonlcaaGreat
