/-
  Requests: the plain rule, and the contracts of the reference's Limit and Valid and of the helper Make.
-/
import Derived.Test.YtliblgmpclefgaaMrecb
import Derived.Deep.QuietTactic
import Derived.BigQuiet
namespace Go.Proofs.Ytliblgmpclefgaa
open Go.RowKit

structure Rq where
  fn : Int
  addr : Int
  qty : Int
  code : Int
  obj : Int

def Rq.ok (q : Rq) : Bool :=
  if 1 ≤ q.fn ∧ q.fn ≤ 4 then decide (0 ≤ q.addr) && decide (1 ≤ q.qty) && decide (q.qty ≤ limI q.fn) && decide (q.addr ≤ 65536 - q.qty) && q.code == 0 && q.obj == 0
  else if q.fn = 17 then q.addr == 0 && q.qty == 0 && q.code == 0 && q.obj == 0
  else if q.fn = 43 then q.addr == 0 && q.qty == 0 && decide (1 ≤ q.code) && decide (q.code ≤ 3) && decide (0 ≤ q.obj) && decide (q.obj ≤ 255)
  else false

theorem limI_bd (f : Int) : 0 ≤ limI f ∧ limI f ≤ 2000 := by unfold limI; repeat' split <;> omega

set_option maxHeartbeats 800000 in
theorem rlimit_any (f : Int) (w : World) :
    Calls Try.prog 72 #[.int .i64 f] w fun r w' => r = .returned (.int .i64 (limI f)) ∧ w = w' := by
  rcases tbl_cases f with h | ⟨h0, h1, h2, h3, h4⟩
  · rcases h with rfl | rfl | rfl | rfl
    all_goals
      go_enter Try.func72, Try.ntmps72
      go_wp2
      go_ret
      exact ⟨rfl, rfl⟩
  · have hl : limI f = 0 := by
      rw [beq_eq_false_iff_ne] at h1 h2 h3 h4
      unfold limI
      rw [if_neg (by omega), if_neg (by omega)]
    replace hl := hid hl
    go_enter Try.func72, Try.ntmps72
    go_wp2
    go_ret
    exact ⟨by rw [hl.out]; rfl, rfl⟩

end Go.Proofs.Ytliblgmpclefgaa
