/-
  The contract of slices.Clone at bytes.
-/
import Derived.Test.YtlaaoifjiogogaaRows
import Derived.Test.YtlaaoifjiogogaaObj
namespace Go.Proofs.Ytlaaoifjiogogaa
open Go.RowKit

theorem bal' (w : World) (o : Obj) : Below w.heap.size w (w.alloc o) := (Below.refl _ _).alloc (Nat.le_refl _) _
theorem infoB : (Try.prog.info? 5).map (fun i => (i.zero, i.size, i.bytes)) = some (some (.int .u8 0), 1, 1) := by kernel_rfl

set_option maxHeartbeats 800000 in
theorem clone_any (v : Value) (l : List UInt8) (w : World) (hv : Bs w v l) (hl : l.length ≤ 140737488355328) :
    Calls Try.prog 42 #[v] w fun r w' => ∃ v', r = .returned v' ∧ w'.ownsRow w.heap.size 5 1 v' l.length (u8s l) ∧ Below w.heap.size w w' := by
  obtain ⟨i5, hi, hz0, hz1, hz2⟩ := info_parts infoB
  obtain ⟨a, c, rfl, hc, hcm, hac, _⟩ := id hv
  unfold maxLen at hcm
  have HV := hid hv
  clear hv
  cases a with
  | none =>
    obtain rfl := hac rfl
    have hl0 : l = [] := by simpa using hc
    subst hl0
    have hq := Lib.run_eql_slice_nil (P := Try.prog)
    go_enter Try.func42, Try.ntmps42
    go_wp2
    go_ret
    exact ⟨_, rfl, World.ownsRow_nil _ _ _ _, Below.refl _ _⟩
  | some a =>
    have hq := Lib.run_eql_slice_nil (P := Try.prog)
    go_enter Try.func42, Try.ntmps42
    go_wp2_with (at_builtin; refine wpList_app rfl _ _ 22 rfl w.heap.size 5 i5 Try.underlying22 hi hz0 hz1 hz2 _ [] rfl (World.ownsRow_made _ _ _ (Nat.le_refl _) (by decide) rfl) _ l rfl (HV.out.keep ((Below.refl _ _).alloc (Nat.le_refl _) _)) ?c1 ?c2 ?c3)
    any_goals first | omega | (simp; done) | (simp; omega)
    case c3 =>
      intro v' w1 hown hgr
      have hbel := (bal' w (.cells #[] 5)).grown hgr (bal' w (.cells #[] 5)).size (by intro k hk; simp [Value.ownBlock] at hk; omega)
      replace hown : w1.ownsRow w.heap.size 5 1 v' l.length (u8s l) := by simpa using hown
      clear hgr
      go_wp2
      go_ret
      exact ⟨_, rfl, hown, hbel⟩

end Go.Proofs.Ytlaaoifjiogogaa
