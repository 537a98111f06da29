/-
  Texts 34 of the claim.
-/
import Derived.Test.YtipnamoocemeeaaGreatA04
/-
  The reference's search: NewSearch, Refused, Next.
-/
namespace Go.Proofs.YtipnamoocemeeaaGreat
open Go.RowKit

def Sr.rcells (s : Sr) : Array Value := #[.int .i64 s.tb, .int .i64 s.lo, .int .i64 s.hi, .int .i64 s.cnt, .int .i64 s.st]
def SqAt (w : World) (g : Nat) (s : Sr) : Prop := w.heap[g]? = some (.cells s.rcells 165)
theorem SqAt.cell {w : World} {g : Nat} {s : Sr} (h : SqAt w g s) (i : Nat) : w.cell? ⟨g, i, none⟩ = s.rcells[i]? := hpCell h i
theorem SqAt.free {w : World} {g : Nat} {s : Sr} (h : SqAt w g s) (i : Nat) : w.frozen? ⟨g, i, none⟩ = false := hpFree h i
theorem SqAt.keep {w w' : World} {g : Nat} {s : Sr} (h : SqAt w g s) (hb : Below w.heap.size w w') : SqAt w' g s := hpKeep h hb
theorem SqAt.lt {w : World} {g : Nat} {s : Sr} (h : SqAt w g s) : g < w.heap.size := hpLt h

set_option maxRecDepth 100000 in
set_option maxHeartbeats 1600000 in
theorem rsnew_any (t : Int) (w : World) :
    Calls Tryz.prog 133 #[.int .i64 t] w fun r w' => ∃ g : Nat, r = .returned (.pointer (some ⟨g, 0, none⟩)) ∧ w.heap.size ≤ g ∧ SqAt w' g (Sr.new t) ∧ Below w.heap.size w w' := by
  obtain ⟨L, hL⟩ : ∃ L, limI t = L := ⟨_, rfl⟩
  have HLM : Hid (∀ W, Calls Tryz.prog 113 #[.int .i64 t] W fun r w' => r = .returned (.int .i64 L) ∧ W = w') := fun W => by rw [← hL]; exact rlimit_any t W
  have hb := limI_bd t
  rw [hL] at hb
  have s1 : IntKind.i64.wrap (L + 1) = L + 1 := IntWalk.i64_in _ (by omega)
  have HL := hid hL
  clear hL hb
  go_enter Tryz.func133, Tryz.ntmps133
  go_wp2_with (go_at_call 113; (with_reducible refine (HLM.out _).mono ?_); rintro r w1 ⟨rfl, rfl⟩)
  go_ret
  refine ⟨w.heap.size, rfl, Nat.le_refl _, ?_, bal' w _⟩
  unfold Sr.new SqAt
  rw [HL.out]
  exact hpNew w _

def refB (v x k : Int) : Bool := v == 2 && x == k
set_option maxHeartbeats 800000 in
theorem refused_any (v x k : Int) (f d c l m n ob : Value) (w : World) :
    Calls Tryz.prog 134 #[.agg #[.int .i64 v, f, .int .i64 x, d, c, l, m, n, ob], .int .i64 k] w fun r w' => r = .returned (.bool (refB v x k)) ∧ Below w.heap.size w w' := by
  obtain ⟨V, hV⟩ : ∃ V, refB v x k = V := ⟨_, rfl⟩
  rw [hV]
  unfold refB at hV
  have hb := bal' w (.cells #[.int .i64 v, f, .int .i64 x, d, c, l, m, n, ob] 55)
  by_cases h : v = 2
  · have d1 := b1 h
    rw [d1, Bool.true_and] at hV
    have HV := hid hV
    clear hV h
    go_enter Tryz.func134, Tryz.ntmps134
    go_wp2
    go_ret
    exact ⟨ret_bool HV.out, hb⟩
  · have d1 := b0 h
    rw [d1, Bool.false_and] at hV
    subst hV
    clear h
    go_enter Tryz.func134, Tryz.ntmps134
    go_wp2
    go_ret
    exact ⟨rfl, hb⟩

end Go.Proofs.YtipnamoocemeeaaGreat
