/-
  Texts 46 of the claim.
-/
import Derived.Test.YtipnamoocemeeaaGreatC07
import Derived.Deep.QuietTactic
import Derived.BigQuiet
import Derived.Test.YtipnamoocemeeaaGreatC26
import Derived.Test.YtipnamoocemeeaaGreatC24
/-
  Conditions of a profile: profile.validCondition and modscanref31.Condition answer alike.
-/
namespace Go.Proofs.YtipnamoocemeeaaGreat
open Go.RowKit
/-- A condition is valid (kind, number, length of the value, table, range, quantity). -/
def CdP (k id : Int) (ln : Nat) (tab f cnt n : Int) : Prop :=
  (k = 1 ∧ 0 ≤ id ∧ id ≤ 255 ∧ ln ≤ 244 ∧ tab = 0 ∧ f = 0 ∧ cnt = 0 ∧ n = 0) ∨
  (k = 2 ∧ 0 ≤ id ∧ id ≤ 255 ∧ 1 ≤ ln ∧ ln ≤ 244 ∧ tab = 0 ∧ f = 0 ∧ cnt = 0 ∧ n = 0) ∨
  (k = 3 ∧ id = 0 ∧ 1 ≤ ln ∧ ln ≤ 251 ∧ tab = 0 ∧ f = 0 ∧ cnt = 0 ∧ n = 0) ∨
  (k = 4 ∧ id = 0 ∧ ln = 0 ∧ 1 ≤ tab ∧ tab ≤ 4 ∧ 0 ≤ f ∧ 1 ≤ cnt ∧ f ≤ 65536 - cnt ∧ n = 0) ∨
  (k = 5 ∧ id = 0 ∧ ln = 0 ∧ 1 ≤ tab ∧ tab ≤ 4 ∧ f = 0 ∧ cnt = 0 ∧ 1 ≤ n ∧ n ≤ 2000)
theorem within_any (x a b : Int) (w : World) (V : Bool) (hV : (decide (a ≤ x) && decide (x ≤ b)) = V) : Calls Tryz.prog 108 #[.int .i64 x, .int .i64 a, .int .i64 b] w (BoolPost w V) := by
  subst hV
  by_cases h : a ≤ x
  · have g : decide (a ≤ x) = true := decide_eq_true h
    rw [g]
    clear h
    go_enter Tryz.func108, Tryz.ntmps108
    go_wp2
    go_ret
    exact ⟨rfl, Below.refl _ _⟩
  · have g : decide (a ≤ x) = false := decide_eq_false h
    rw [g]
    clear h
    go_enter Tryz.func108, Tryz.ntmps108
    go_wp2
    go_ret
    exact ⟨rfl, Below.refl _ _⟩
theorem istab_any (x : Int) (w : World) (V : Bool) (hV : (decide (1 ≤ x) && decide (x ≤ 4)) = V) : Calls Tryz.prog 140 #[.int .i64 x] w (BoolPost w V) := by
  have HW : Hid (∀ X, Calls Tryz.prog 108 #[.int .i64 x, .int .i64 1, .int .i64 4] X (BoolPost X V)) := fun X => within_any x 1 4 X V hV
  clear hV
  go_enter Tryz.func140, Tryz.ntmps140
  go_wp2_with (go_at_call 108; (with_reducible refine (HW.out _).mono ?_); rintro r w1 ⟨rfl, hb1⟩)
  go_ret
  exact ⟨rfl, hb1⟩

set_option maxRecDepth 100000 in
set_option maxHeartbeats 3200000 in
theorem only_a (id tab f cnt n : Int) (va : Option Addr) (ln vc : Nat) (w : World) :
    Calls Tryz.prog 138 #[.agg #[.int .i64 1, .int .i64 id, .slice va ln vc, .int .i64 tab, .int .i64 f, .int .i64 cnt, .int .i64 n]] w fun r w' => r = .returned (.agg #[.int .i64 1, .int .i64 id, .slice va ln vc, .int .i64 0, .int .i64 0, .int .i64 0, .int .i64 0]) ∧ Below w.heap.size w w' := by
  have HB : Hid (∀ o1 o2 o3 : Obj, Below w.heap.size w (((w.alloc o1).alloc o2).alloc o3)) := fun o1 o2 o3 => bta (bta (bal' w o1) (Nat.le_refl _) o2) (Nat.le_refl _) o3
  go_enter Tryz.func138, Tryz.ntmps138
  go_upto_region 5 with (fail)
  go_region
  all_goals
    go_wp2
    refine bodyPost_ret (v := .agg #[.int .i64 1, .int .i64 id, .slice va ln vc, .int .i64 0, .int .i64 0, .int .i64 0, .int .i64 0]) (by simp [results, Tryz.results138, go_sem]) rfl ?_
    exact ⟨rfl, by first | exact HB.out _ _ _ | exact (HB.out _ _ _).drew⟩
set_option maxRecDepth 100000 in
set_option maxHeartbeats 3200000 in
theorem only_b (id tab f cnt n : Int) (va : Option Addr) (ln vc : Nat) (w : World) :
    Calls Tryz.prog 138 #[.agg #[.int .i64 2, .int .i64 id, .slice va ln vc, .int .i64 tab, .int .i64 f, .int .i64 cnt, .int .i64 n]] w fun r w' => r = .returned (.agg #[.int .i64 2, .int .i64 id, .slice va ln vc, .int .i64 0, .int .i64 0, .int .i64 0, .int .i64 0]) ∧ Below w.heap.size w w' := by
  have HB : Hid (∀ o1 o2 o3 : Obj, Below w.heap.size w (((w.alloc o1).alloc o2).alloc o3)) := fun o1 o2 o3 => bta (bta (bal' w o1) (Nat.le_refl _) o2) (Nat.le_refl _) o3
  go_enter Tryz.func138, Tryz.ntmps138
  go_upto_region 5 with (fail)
  go_region
  all_goals
    go_wp2
    refine bodyPost_ret (v := .agg #[.int .i64 2, .int .i64 id, .slice va ln vc, .int .i64 0, .int .i64 0, .int .i64 0, .int .i64 0]) (by simp [results, Tryz.results138, go_sem]) rfl ?_
    exact ⟨rfl, by first | exact HB.out _ _ _ | exact (HB.out _ _ _).drew⟩
set_option maxRecDepth 100000 in
set_option maxHeartbeats 3200000 in
theorem only_c (id tab f cnt n : Int) (va : Option Addr) (ln vc : Nat) (w : World) :
    Calls Tryz.prog 138 #[.agg #[.int .i64 3, .int .i64 id, .slice va ln vc, .int .i64 tab, .int .i64 f, .int .i64 cnt, .int .i64 n]] w fun r w' => r = .returned (.agg #[.int .i64 3, .int .i64 0, .slice va ln vc, .int .i64 0, .int .i64 0, .int .i64 0, .int .i64 0]) ∧ Below w.heap.size w w' := by
  have HB : Hid (∀ o1 o2 o3 : Obj, Below w.heap.size w (((w.alloc o1).alloc o2).alloc o3)) := fun o1 o2 o3 => bta (bta (bal' w o1) (Nat.le_refl _) o2) (Nat.le_refl _) o3
  go_enter Tryz.func138, Tryz.ntmps138
  go_wp2
  refine bodyPost_ret (v := .agg #[.int .i64 3, .int .i64 0, .slice va ln vc, .int .i64 0, .int .i64 0, .int .i64 0, .int .i64 0]) (by simp [results, Tryz.results138, go_sem]) rfl ?_
  exact ⟨rfl, HB.out _ _ _⟩
set_option maxRecDepth 100000 in
set_option maxHeartbeats 3200000 in
theorem only_d (id tab f cnt n : Int) (va : Option Addr) (ln vc : Nat) (w : World) :
    Calls Tryz.prog 138 #[.agg #[.int .i64 4, .int .i64 id, .slice va ln vc, .int .i64 tab, .int .i64 f, .int .i64 cnt, .int .i64 n]] w fun r w' => r = .returned (.agg #[.int .i64 4, .int .i64 0, .slice none 0 0, .int .i64 tab, .int .i64 f, .int .i64 cnt, .int .i64 0]) ∧ Below w.heap.size w w' := by
  have HB : Hid (∀ o1 o2 o3 : Obj, Below w.heap.size w (((w.alloc o1).alloc o2).alloc o3)) := fun o1 o2 o3 => bta (bta (bal' w o1) (Nat.le_refl _) o2) (Nat.le_refl _) o3
  go_enter Tryz.func138, Tryz.ntmps138
  go_upto_region 9 with (fail)
  go_region
  all_goals
    go_wp2
    refine bodyPost_ret (v := .agg #[.int .i64 4, .int .i64 0, .slice none 0 0, .int .i64 tab, .int .i64 f, .int .i64 cnt, .int .i64 0]) (by simp [results, Tryz.results138, go_sem]) rfl ?_
    exact ⟨rfl, by first | exact HB.out _ _ _ | exact (HB.out _ _ _).drew⟩
set_option maxRecDepth 100000 in
set_option maxHeartbeats 3200000 in
theorem only_e (id tab f cnt n : Int) (va : Option Addr) (ln vc : Nat) (w : World) :
    Calls Tryz.prog 138 #[.agg #[.int .i64 5, .int .i64 id, .slice va ln vc, .int .i64 tab, .int .i64 f, .int .i64 cnt, .int .i64 n]] w fun r w' => r = .returned (.agg #[.int .i64 5, .int .i64 0, .slice none 0 0, .int .i64 tab, .int .i64 0, .int .i64 0, .int .i64 n]) ∧ Below w.heap.size w w' := by
  have HB : Hid (∀ o1 o2 o3 : Obj, Below w.heap.size w (((w.alloc o1).alloc o2).alloc o3)) := fun o1 o2 o3 => bta (bta (bal' w o1) (Nat.le_refl _) o2) (Nat.le_refl _) o3
  go_enter Tryz.func138, Tryz.ntmps138
  go_upto_region 11 with (fail)
  go_region
  all_goals
    go_wp2
    refine bodyPost_ret (v := .agg #[.int .i64 5, .int .i64 0, .slice none 0 0, .int .i64 tab, .int .i64 0, .int .i64 0, .int .i64 n]) (by simp [results, Tryz.results138, go_sem]) rfl ?_
    exact ⟨rfl, by first | exact HB.out _ _ _ | exact (HB.out _ _ _).drew⟩
set_option maxRecDepth 100000 in
set_option maxHeartbeats 3200000 in
theorem only_f (k id tab f cnt n : Int) (va : Option Addr) (ln vc : Nat) (w : World) (k1 : (k == 1) = false) (k2 : (k == 2) = false) (k3 : (k == 3) = false) (k4 : (k == 4) = false) (k5 : (k == 5) = false) :
    Calls Tryz.prog 138 #[.agg #[.int .i64 k, .int .i64 id, .slice va ln vc, .int .i64 tab, .int .i64 f, .int .i64 cnt, .int .i64 n]] w fun r w' => r = .returned (.agg #[.int .i64 k, .int .i64 0, .slice none 0 0, .int .i64 0, .int .i64 0, .int .i64 0, .int .i64 0]) ∧ Below w.heap.size w w' := by
  have HB : Hid (∀ o1 o2 o3 : Obj, Below w.heap.size w (((w.alloc o1).alloc o2).alloc o3)) := fun o1 o2 o3 => bta (bta (bal' w o1) (Nat.le_refl _) o2) (Nat.le_refl _) o3
  go_enter Tryz.func138, Tryz.ntmps138
  go_wp2
  refine bodyPost_ret (v := .agg #[.int .i64 k, .int .i64 0, .slice none 0 0, .int .i64 0, .int .i64 0, .int .i64 0, .int .i64 0]) (by simp [results, Tryz.results138, go_sem]) rfl ?_
  exact ⟨rfl, HB.out _ _ _⟩

end Go.Proofs.YtipnamoocemeeaaGreat

/-
  What the form's reading of an argument gives for a configuration.
-/
namespace Go.Proofs.YtipnamoocemeeaaGreat
open Go.RowKit

theorem cellsCf : Tryz.prog.cellsOf 27 = 16 := by kernel_rfl
theorem cellsSts : Tryz.prog.cellsOf 22 = 1 := by kernel_rfl
theorem cellsSet : Tryz.prog.cellsOf 82 = 2 := by kernel_rfl
theorem cellsWin : Tryz.prog.cellsOf 25 = 8 := by kernel_rfl
theorem set_rd {w : World} {cs : List Value} (h : Rd Tryz.prog w 82 cs) : ∃ x, RgR w cs x := by
  obtain ⟨hl, hf⟩ := h.struct Tryz.underlying82
  rw [cellsSet] at hl
  obtain ⟨c0, c1, rfl⟩ := lst2 hl
  have f0 := hf _ (List.mem_cons_self ..)
  have f1 := hf _ (List.mem_cons_of_mem _ (List.mem_cons_self ..))
  simp only [cellsInt, List.drop_zero, List.drop_succ_cons, List.take_succ_cons, List.take_zero] at f0 f1
  obtain ⟨a, rfl, w0⟩ := int_rd f0
  obtain ⟨b, rfl, w1⟩ := int_rd f1
  exact ⟨(a, b), rfl, w0, w1⟩
theorem sets_rd {w : World} {v : Value} (h : Rd Tryz.prog w 22 [v]) : ∃ l, Rgs w v l :=
  Sls.of_rd (R := RgR) Tryz.underlying22 cellsSet (by decide) (fun _ h => set_rd h) h
theorem lst16 {α : Type} {l : List α} (h : l.length = 16) : ∃ a b c d e f g i j k m n o p q r, l = [a, b, c, d, e, f, g, i, j, k, m, n, o, p, q, r] := by
  match l, h with
  | [a, b, c, d, e, f, g, i, j, k, m, n, o, p, q, r], _ => exact ⟨a, b, c, d, e, f, g, i, j, k, m, n, o, p, q, r, rfl⟩
/-- The numbers of a configuration are ints. -/
structure CfW (c : Cf) : Prop where
  fi : wfI c.fi
  la : wfI c.la
theorem cf_rd {w : World} {cs : Array Value} (h : Rd Tryz.prog w 27 cs.toList) : ∃ c sv, cs = CfC c sv ∧ Rgs w sv c.sets ∧ CfW c := by
  obtain ⟨hl, hf⟩ := h.struct Tryz.underlying27
  rw [cellsCf] at hl
  obtain ⟨cl⟩ := cs
  obtain ⟨c0, c1, c2, c3, c4, c5, c6, c7, c8, c9, c10, c11, c12, c13, c14, c15, rfl⟩ := lst16 hl
  have f0 := hf _ (List.mem_cons_self ..)
  have f1 := hf _ (List.mem_cons_of_mem _ (List.mem_cons_self ..))
  have f2 := hf _ (List.mem_cons_of_mem _ (List.mem_cons_of_mem _ (List.mem_cons_self ..)))
  have f3 := hf _ (List.mem_cons_of_mem _ (List.mem_cons_of_mem _ (List.mem_cons_of_mem _ (List.mem_cons_self ..))))
  have f4 := hf _ (List.mem_cons_of_mem _ (List.mem_cons_of_mem _ (List.mem_cons_of_mem _ (List.mem_cons_of_mem _ (List.mem_cons_self ..)))))
  have f5 := hf _ (List.mem_cons_of_mem _ (List.mem_cons_of_mem _ (List.mem_cons_of_mem _ (List.mem_cons_of_mem _ (List.mem_cons_of_mem _ (List.mem_cons_self ..))))))
  have f6 := hf _ (List.mem_cons_of_mem _ (List.mem_cons_of_mem _ (List.mem_cons_of_mem _ (List.mem_cons_of_mem _ (List.mem_cons_of_mem _ (List.mem_cons_of_mem _ (List.mem_cons_self ..)))))))
  have f7 := hf _ (List.mem_cons_of_mem _ (List.mem_cons_of_mem _ (List.mem_cons_of_mem _ (List.mem_cons_of_mem _ (List.mem_cons_of_mem _ (List.mem_cons_of_mem _ (List.mem_cons_of_mem _ (List.mem_cons_self ..))))))))
  have f8 := hf _ (List.mem_cons_of_mem _ (List.mem_cons_of_mem _ (List.mem_cons_of_mem _ (List.mem_cons_of_mem _ (List.mem_cons_of_mem _ (List.mem_cons_of_mem _ (List.mem_cons_of_mem _ (List.mem_cons_of_mem _ (List.mem_cons_self ..)))))))))
  simp only [cellsInt, cellsSts, cellsWin, List.drop_zero, List.drop_succ_cons, List.take_succ_cons, List.take_zero] at f0 f1 f2 f3 f4 f5 f6 f7 f8
  obtain ⟨l, hll⟩ := sets_rd f0
  obtain ⟨b1, rfl, w1⟩ := int_rd f1
  obtain ⟨b2, rfl, w2⟩ := int_rd f2
  obtain ⟨b3, rfl, w3⟩ := int_rd f3
  obtain ⟨b4, rfl, w4⟩ := int_rd f4
  obtain ⟨b5, rfl, w5⟩ := int_rd f5
  obtain ⟨hl2, g2⟩ := f6.array Tryz.underlying25
  have t0 := g2 0 (by decide)
  have t1 := g2 1 (by decide)
  have t2 := g2 2 (by decide)
  have t3 := g2 3 (by decide)
  simp only [cellsRg, Nat.zero_mul, Nat.reduceMul, List.drop_zero, List.drop_succ_cons, List.take_succ_cons, List.take_zero] at t0 t1 t2 t3
  obtain ⟨x0, e0, -, -⟩ := rg_rd t0
  obtain ⟨x1, e1, -, -⟩ := rg_rd t1
  obtain ⟨x2, e2, -, -⟩ := rg_rd t2
  obtain ⟨x3, e3, -, -⟩ := rg_rd t3
  obtain ⟨b7, rfl, w7⟩ := int_rd f7
  obtain ⟨b8, rfl, w8⟩ := int_rd f8
  simp only [List.cons.injEq, and_true] at e0 e1 e2 e3
  obtain ⟨rfl, rfl⟩ := e0
  obtain ⟨rfl, rfl⟩ := e1
  obtain ⟨rfl, rfl⟩ := e2
  obtain ⟨rfl, rfl⟩ := e3
  exact ⟨⟨l, b1, b2, b3, b4, b5, mk4 x0 x1 x2 x3, b7, b8⟩, c0, rfl, hll, w1, w2⟩

end Go.Proofs.YtipnamoocemeeaaGreat
