/-
  The state that an outcome says of a unit: the contracts of the program's and the reference's function, and the walk of the law PresenceState.
-/
import Derived.Test.YtliblgmpclefgaaGreatRows
import Derived.Test.YtliblgmpclefgaaGreatMbase
import Derived.Deep.RegionHeld3
namespace Go.Proofs.YtliblgmpclefgaaGreat
open Go.RowKit

def stateOf (v : Int) : Int := if v == 1 then 2 else if v == 2 then 2 else if v == 3 then 1 else if v == 4 then 3 else if v == 5 then 4 else 0

theorem list9 {α : Type} {l : List α} (h : l.length = 9) : ∃ a b c d e f g i j, l = [a, b, c, d, e, f, g, i, j] := by
  match l, h with
  | [a, b, c, d, e, f, g, i, j], _ => exact ⟨a, b, c, d, e, f, g, i, j, rfl⟩

theorem cells31 : Tryz.prog.cellsOf 54 = 9 := by kernel_rfl
theorem cells3 : Tryz.prog.cellsOf 3 = 1 := by kernel_rfl

theorem outcome_shape {w : World} {cs : Array Value} (h : Rd Tryz.prog w 54 cs.toList) : ∃ n a b c d e f g i, cs = #[.int .i64 n, a, b, c, d, e, f, g, i] ∧ (Lit.int .i64 n).wf = true := by
  obtain ⟨hl, hf⟩ := h.struct Tryz.underlying54
  obtain ⟨a, b, c, d, e, f, g, i, j, he⟩ := list9 (hl.trans cells31)
  have h0 := hf _ (List.mem_cons_self ..)
  rw [he] at h0
  simp only [cells3] at h0
  obtain ⟨n, hn, hw⟩ := Rd.int Tryz.underlying3 h0
  simp at hn
  subst hn
  exact ⟨n, b, c, d, e, f, g, i, j, Array.toList_inj.1 (by simpa using he), hw⟩

set_option maxHeartbeats 400000 in
theorem state_any (n : Int) (a b c d e f g i : Value) (w : World) :
    Calls Tryz.prog 28 #[.agg #[.int .i64 n, a, b, c, d, e, f, g, i]] w fun r w' => r = .returned (.int .i64 (stateOf n)) ∧ Below w.heap.size w w' := by
  have hb := (Below.refl w.heap.size w).alloc (Nat.le_refl _) (.cells #[.int .i64 n, a, b, c, d, e, f, g, i] 54)
  go_enter Tryz.func28, Tryz.ntmps28
  go_wp2
  all_goals (go_ret; refine ⟨ret_int ?_, hb⟩; simp only [stateOf, *, ↓reduceIte, Bool.false_eq_true])

set_option maxHeartbeats 400000 in
theorem prequest_any (w : World) :
    Calls Tryz.prog 26 #[] w fun r w' => r = .returned (.agg #[.int .i64 3, .int .i64 0, .int .i64 1, .int .i64 0, .int .i64 0]) ∧ Below w.heap.size w w' := by
  go_enter Tryz.func26, Tryz.ntmps26
  go_wp2
  exact bodyPost_ret (v := .agg #[.int .i64 3, .int .i64 0, .int .i64 1, .int .i64 0, .int .i64 0]) (by simp [results, Tryz.results26, go_sem]) rfl ⟨rfl, (Below.refl _ _).alloc (Nat.le_refl _) _⟩

end Go.Proofs.YtliblgmpclefgaaGreat
