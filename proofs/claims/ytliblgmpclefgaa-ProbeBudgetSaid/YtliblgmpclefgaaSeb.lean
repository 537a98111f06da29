/-
  The program's search: Next, Result, New.
-/
import Derived.Test.YtliblgmpclefgaaSea
namespace Go.Proofs.Ytliblgmpclefgaa
open Go.RowKit

def Sr.ask (s : Sr) : Rq := if s.st = 0 then ⟨s.tb, 0, s.qty, 0, 0⟩ else ⟨0, 0, 0, 0, 0⟩
/-- What Next answers. -/
def AskPost (w : World) (q : Rq) (V : Bool) (r : Ending) (w' : World) : Prop := r = .returned (.tuple #[.agg #[.int .i64 q.fn, .int .i64 q.addr, .int .i64 q.qty, .int .i64 q.code, .int .i64 q.obj], .bool V]) ∧ Below w.heap.size w w'

set_option maxRecDepth 100000 in
set_option maxHeartbeats 1600000 in
theorem snext_any (g : Nat) (s : Sr) (hs : s.ok) (w : World) (hl : SrAt w g s) :
    Calls Try.prog 123 #[.pointer (some ⟨g, 0, none⟩)] w (AskPost w s.ask (decide (s.st = 0))) := by
  obtain ⟨W0, hW0⟩ : ∃ W, w.alloc (.cells #[.int .i64 0, .int .i64 0, .int .i64 0, .int .i64 0, .int .i64 0] 34) = W := ⟨_, rfl⟩
  have hb0 : Below w.heap.size w W0 := by rw [← hW0]; exact bal' w _
  have p0 : W0.heap[w.heap.size]? = some (.cells #[.int .i64 0, .int .i64 0, .int .i64 0, .int .i64 0, .int .i64 0] 34) := by rw [← hW0]; exact hpNew w _
  have l0 := hl.keep hb0
  obtain ⟨Q, hQ⟩ : ∃ Q, s.qty = Q := ⟨_, rfl⟩
  have HQU : Hid (Calls Try.prog 125 #[.pointer (some ⟨g, 0, none⟩)] W0.drew fun r w'' => r = .returned (.int .i64 Q) ∧ ∃ m, w'' = W0.drew.drewN m) := by rw [← hQ]; exact squan_any g s hs W0.drew (l0.keep (Below.refl _ _).drew)
  have c0 : W0.cell? ⟨g, 0, none⟩ = some (.int .i64 s.tb) := l0.cell 0
  have c3 : W0.cell? ⟨g, 3, none⟩ = some (.int .i64 s.st) := l0.cell 3
  have z0 : W0.cell? ⟨w.heap.size, 0, none⟩ = some (.int .i64 0) := hpCell p0 0
  have z1 : W0.cell? ⟨w.heap.size, 1, none⟩ = some (.int .i64 0) := hpCell p0 1
  have z2 : W0.cell? ⟨w.heap.size, 2, none⟩ = some (.int .i64 0) := hpCell p0 2
  have z3 : W0.cell? ⟨w.heap.size, 3, none⟩ = some (.int .i64 0) := hpCell p0 3
  have z4 : W0.cell? ⟨w.heap.size, 4, none⟩ = some (.int .i64 0) := hpCell p0 4
  have y0 : W0.frozen? ⟨w.heap.size, 0, none⟩ = false := hpFree p0 0
  have y1 : W0.frozen? ⟨w.heap.size, 1, none⟩ = false := hpFree p0 1
  have y2 : W0.frozen? ⟨w.heap.size, 2, none⟩ = false := hpFree p0 2
  have y3 : W0.frozen? ⟨w.heap.size, 3, none⟩ = false := hpFree p0 3
  have y4 : W0.frozen? ⟨w.heap.size, 4, none⟩ = false := hpFree p0 4
  have HW0 := hid hW0
  have HB0 := hid hb0
  have P0 := hid p0
  clear hW0 hb0 p0 l0
  by_cases h0 : s.st = 0
  · have d : (s.st != 0) = false := by rw [bne_eq_false_iff_eq]; exact h0
    have HE : Hid (s.ask = ⟨s.tb, 0, Q, 0, 0⟩ ∧ decide (s.st = 0) = true) := ⟨by unfold Sr.ask; rw [if_pos h0, hQ], decide_eq_true h0⟩
    clear h0 hQ
    go_enter Try.func123, Try.ntmps123
    go_upto_region 1 with (fail)
    rw [HW0.out]
    go_upto_region 3 with (fail)
    go_region_with (go_at_call 125; (with_reducible refine HQU.out.mono ?_); rintro r w2 ⟨rfl, m, rfl⟩)
    all_goals
      try simp only [List.getElem_toArray, List.getElem_cons_succ, List.getElem_cons_zero]
      go_wp2
      refine bodyPost_ret (v := .tuple #[.agg #[.int .i64 s.tb, .int .i64 0, .int .i64 Q, .int .i64 0, .int .i64 0], .bool true]) (by simp [results, Try.results123, go_sem, z0, z1, z2, z3, z4]) rfl ⟨by rw [HE.out.1, HE.out.2], ?_⟩
      exact (((((bt HB0.out (below_drewN (Below.refl _ _) _) (Nat.le_refl _)).setCell (p := ⟨w.heap.size, 0, none⟩) (Nat.le_refl _) _).setCell (p := ⟨w.heap.size, 1, none⟩) (Nat.le_refl _) _).setCell (p := ⟨w.heap.size, 2, none⟩) (Nat.le_refl _) _).setCell (p := ⟨w.heap.size, 3, none⟩) (Nat.le_refl _) _).setCell (p := ⟨w.heap.size, 4, none⟩) (Nat.le_refl _) _
  · have d : (s.st != 0) = true := by rw [bne_iff_ne]; exact h0
    have HE : Hid (s.ask = ⟨0, 0, 0, 0, 0⟩ ∧ decide (s.st = 0) = false) := ⟨by unfold Sr.ask; rw [if_neg h0], decide_eq_false h0⟩
    clear h0 hQ
    go_enter Try.func123, Try.ntmps123
    go_upto_region 1 with (fail)
    rw [HW0.out]
    go_wp2
    refine bodyPost_ret (v := .tuple #[.agg #[.int .i64 0, .int .i64 0, .int .i64 0, .int .i64 0, .int .i64 0], .bool false]) (by simp [results, Try.results123, go_sem, z0, z1, z2, z3, z4]) rfl ⟨by rw [HE.out.1, HE.out.2], ?_⟩
    exact ((((HB0.out.setCell (p := ⟨w.heap.size, 0, none⟩) (Nat.le_refl _) _).setCell (p := ⟨w.heap.size, 1, none⟩) (Nat.le_refl _) _).setCell (p := ⟨w.heap.size, 2, none⟩) (Nat.le_refl _) _).setCell (p := ⟨w.heap.size, 3, none⟩) (Nat.le_refl _) _).setCell (p := ⟨w.heap.size, 4, none⟩) (Nat.le_refl _) _

def Sr.most (s : Sr) : Int := if s.st = 2 then s.lo else 0
set_option maxRecDepth 100000 in
set_option maxHeartbeats 1600000 in
theorem sresult_any (g : Nat) (s : Sr) (w : World) (hl : SrAt w g s) :
    Calls Try.prog 81 #[.pointer (some ⟨g, 0, none⟩)] w fun r w' => r = .returned (.tuple #[.int .i64 s.st, .int .i64 s.most]) ∧ Below w.heap.size w w' := by
  have c1 : w.cell? ⟨g, 1, none⟩ = some (.int .i64 s.lo) := hl.cell 1
  have c3 : w.cell? ⟨g, 3, none⟩ = some (.int .i64 s.st) := hl.cell 3
  clear hl
  by_cases h : s.st = 2
  · have d : (s.st != 2) = false := by rw [bne_eq_false_iff_eq]; exact h
    have HE : Hid (s.most = s.lo) := if_pos h
    clear h
    go_enter Try.func81, Try.ntmps81
    go_wp2
    go_quiet (fail)
    go_wp2
    go_ret2
    exact ⟨(by rw [HE.out]; rfl), below_drewN (Below.refl _ _) _⟩
  · have d : (s.st != 2) = true := by rw [bne_iff_ne]; exact h
    have HE : Hid (s.most = 0) := if_neg h
    clear h
    go_enter Try.func81, Try.ntmps81
    go_wp2
    go_ret2
    exact ⟨(by rw [HE.out]; rfl), Below.refl _ _⟩

def Sr.new (t : Int) : Sr := ⟨t, 0, limI t + 1, 0, 0⟩
theorem Sr.new_ok (t : Int) : (Sr.new t).ok := by
  have := limI_bd t
  exact ⟨by show (0 : Int) ≤ 0; decide, by show (0 : Int) ≤ 2001; decide, by show 0 ≤ limI t + 1; omega, by show limI t + 1 ≤ 2001; omega, by show (0 : Int) ≤ 0; decide, by show (0 : Int) ≤ 100000; decide⟩
set_option maxRecDepth 100000 in
set_option maxHeartbeats 1600000 in
theorem snew_any (t : Int) (ht : 1 ≤ t ∧ t ≤ 4) (w : World) :
    Calls Try.prog 79 #[.int .i64 t] w fun r w' => ∃ g : Nat, r = .returned (.pointer (some ⟨g, 0, none⟩)) ∧ w.heap.size ≤ g ∧ SrAt w' g (Sr.new t) ∧ Below w.heap.size w w' := by
  obtain ⟨L, hL⟩ : ∃ L, limI t = L := ⟨_, rfl⟩
  have HLM : Hid (∀ W, Calls Try.prog 63 #[.int .i64 t] W fun r w' => r = .returned (.int .i64 L) ∧ W = w') := fun W => by rw [← hL]; exact limit_any t W
  have hb := limI_bd t
  rw [hL] at hb
  have d : (L == 0) = false := b0 (by rw [← hL]; unfold limI; split; decide; split; decide; omega)
  have s1 : IntKind.i64.wrap (L + 1) = L + 1 := IntWalk.i64_in _ (by omega)
  have HL := hid hL
  clear hL hb ht
  go_enter Try.func79, Try.ntmps79
  go_wp2_with (go_at_call 63; (with_reducible refine (HLM.out _).mono ?_); rintro r w1 ⟨rfl, rfl⟩)
  go_ret
  refine ⟨w.heap.size, rfl, Nat.le_refl _, ?_, bal' w _⟩
  unfold Sr.new SrAt
  rw [HL.out]
  exact hpNew w _

end Go.Proofs.Ytliblgmpclefgaa
