/-
  The state that an outcome says of a unit: the contracts of the program's and the reference's function, and the walk of the law PresenceState.
-/
import Derived.Test.YthkclnehekbpgaaRows
import Derived.Test.YthkclnehekbpgaaBase
import Derived.Test.YthkclnehekbpgaaRead
import Derived.Deep.RegionHeld3
namespace Go.Proofs.Ythkclnehekbpgaa
open Go.RowKit

def stateOf (v : Int) : Int := if v == 1 then 2 else if v == 2 then 2 else if v == 3 then 1 else if v == 4 then 3 else if v == 5 then 4 else 0

theorem list9 {α : Type} {l : List α} (h : l.length = 9) : ∃ a b c d e f g i j, l = [a, b, c, d, e, f, g, i, j] := by
  match l, h with
  | [a, b, c, d, e, f, g, i, j], _ => exact ⟨a, b, c, d, e, f, g, i, j, rfl⟩

theorem cells31 : Try.prog.cellsOf 31 = 9 := by kernel_rfl
theorem cells3 : Try.prog.cellsOf 3 = 1 := by kernel_rfl

theorem outcome_shape {w : World} {cs : Array Value} (h : Rd Try.prog w 31 cs.toList) : ∃ n a b c d e f g i, cs = #[.int .i64 n, a, b, c, d, e, f, g, i] ∧ (Lit.int .i64 n).wf = true := by
  obtain ⟨hl, hf⟩ := h.struct Try.underlying31
  obtain ⟨a, b, c, d, e, f, g, i, j, he⟩ := list9 (hl.trans cells31)
  have h0 := hf _ (List.mem_cons_self ..)
  rw [he] at h0
  simp only [cells3] at h0
  obtain ⟨n, hn, hw⟩ := Rd.int Try.underlying3 h0
  simp at hn
  subst hn
  exact ⟨n, b, c, d, e, f, g, i, j, Array.toList_inj.1 (by simpa using he), hw⟩

set_option maxHeartbeats 400000 in
theorem state_any (n : Int) (a b c d e f g i : Value) (w : World) :
    Calls Try.prog 22 #[.agg #[.int .i64 n, a, b, c, d, e, f, g, i]] w fun r w' => r = .returned (.int .i64 (stateOf n)) ∧ Below w.heap.size w w' := by
  have hb := (Below.refl w.heap.size w).alloc (Nat.le_refl _) (.cells #[.int .i64 n, a, b, c, d, e, f, g, i] 31)
  go_enter Try.func22, Try.ntmps22
  go_wp2
  all_goals (go_ret; refine ⟨ret_int ?_, hb⟩; simp only [stateOf, *, ↓reduceIte, Bool.false_eq_true])

set_option maxHeartbeats 400000 in
theorem rstate_any (n : Int) (a b c d e f g i : Value) (w : World) :
    Calls Try.prog 23 #[.agg #[.int .i64 n, a, b, c, d, e, f, g, i]] w fun r w' => r = .returned (.int .i64 (stateOf n)) ∧ Below w.heap.size w w' := by
  have hb := (Below.refl w.heap.size w).alloc (Nat.le_refl _) (.cells #[.int .i64 n, a, b, c, d, e, f, g, i] 31)
  go_enter Try.func23, Try.ntmps23
  go_wp2
  all_goals (go_ret; refine ⟨ret_int ?_, hb⟩; simp only [stateOf, *, ↓reduceIte, Bool.false_eq_true])

set_option maxHeartbeats 400000 in
theorem prequest_any (w : World) :
    Calls Try.prog 51 #[] w fun r w' => r = .returned (.agg #[.int .i64 3, .int .i64 0, .int .i64 1, .int .i64 0, .int .i64 0]) ∧ Below w.heap.size w w' := by
  go_enter Try.func51, Try.ntmps51
  go_wp2
  exact bodyPost_ret (v := .agg #[.int .i64 3, .int .i64 0, .int .i64 1, .int .i64 0, .int .i64 0]) (by simp [results, Try.results51, go_sem]) rfl ⟨rfl, (Below.refl _ _).alloc (Nat.le_refl _) _⟩

set_option maxHeartbeats 400000 in
theorem pawake_any (w : World) :
    Calls Try.prog 21 #[] w fun r w' => r = .returned (.bool true) ∧ Below w.heap.size w w' := by
  have h1 : stateOf 2 = 2 := rfl
  have h2 : stateOf 4 = 3 := rfl
  go_enter Try.func21, Try.ntmps21
  go_wp2_with (first | (go_at_call 22; refine (state_any _ _ _ _ _ _ _ _ _ _).mono ?_; rintro r w' ⟨rfl, hb⟩) | (go_at_call 51; refine (prequest_any _).mono ?_; rintro r w' ⟨rfl, hc⟩))
  go_ret
  exact ⟨rfl, bt (bt (by assumption) (by assumption) (Nat.le_refl _)) (by assumption) (Nat.le_refl _)⟩

set_option maxHeartbeats 400000 in
theorem Walk.presenceState (cs : Array Value) (w : World) (hr : Rd Try.prog w 31 cs.toList) :
    Calls Try.prog 4 #[.agg cs] w fun r w' => r = .returned (.bool true) ∧ Below w.heap.size w w' := by
  obtain ⟨n, a, b, c, d, e, f, g, i, rfl, _⟩ := outcome_shape hr
  clear hr
  go_enter Try.func4, Try.ntmps4
  go_wp2
  go_region_held3 (fun w' => w'.cell? ⟨w.heap.size, 0, none⟩ = some (.int .i64 n) ∧ w'.cell? ⟨w.heap.size, 1, none⟩ = some a ∧ w'.cell? ⟨w.heap.size, 2, none⟩ = some b ∧ w'.cell? ⟨w.heap.size, 3, none⟩ = some c ∧ w'.cell? ⟨w.heap.size, 4, none⟩ = some d ∧ w'.cell? ⟨w.heap.size, 5, none⟩ = some e ∧ w'.cell? ⟨w.heap.size, 6, none⟩ = some f ∧ w'.cell? ⟨w.heap.size, 7, none⟩ = some g ∧ w'.cell? ⟨w.heap.size, 8, none⟩ = some i) ((repeat' apply And.intro) <;> (first | (simp [World.cell?_alloc_new]; done) | exact cell_keep (by assumption) (by simp [*])))
    (first
      | (go_at_call 21; refine (pawake_any _).mono ?_; rintro r w' ⟨rfl, hb⟩)
      | (go_at_call 22; refine (state_any _ _ _ _ _ _ _ _ _ _).mono ?_; rintro r w' ⟨rfl, hb2⟩)
      | (go_at_call 23; refine (rstate_any _ _ _ _ _ _ _ _ _ _).mono ?_; rintro r w' ⟨rfl, hb3⟩))
  go_wp2
  go_ret
  refine ⟨rfl, ?_⟩
  have hx : Below w.heap.size w (w.alloc (.cells #[.int .i64 n, a, b, c, d, e, f, g, i] 31)).drew := ((Below.refl _ _).alloc (Nat.le_refl _) _).drew
  repeat (first | exact hx | refine bt ?_ (by assumption) (Nat.le_refl _))

end Go.Proofs.Ythkclnehekbpgaa
