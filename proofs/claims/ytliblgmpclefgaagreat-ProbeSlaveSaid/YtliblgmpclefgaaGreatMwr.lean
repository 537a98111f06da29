/-
  Several texts of this claim in one file.
-/
import Derived.Test.YtliblgmpclefgaaGreatMrech
import Derived.OpenShut
import Derived.Test.YtliblgmpclefgaaGreatPbs
/-
Outcomes that came in: the number that asks for more fits an int.
-/
namespace Go.Proofs.YtliblgmpclefgaaGreat
open Go.RowKit

theorem rp_next {w : World} {cs : List Value} (h : Rd Tryz.prog w 52 cs) : ∃ n, cs[6]? = some (.int .i64 n) ∧ n ≤ 9223372036854775807 := by
  obtain ⟨hl, hf⟩ := h.struct Tryz.underlying52
  rw [cellsRp] at hl
  obtain ⟨c0, c1, c2, c3, c4, c5, c6, c7, rfl⟩ := lst8 hl
  have f6 := hf _ (List.mem_cons_of_mem _ (List.mem_cons_of_mem _ (List.mem_cons_of_mem _ (List.mem_cons_of_mem _ (List.mem_cons_of_mem _ (List.mem_cons_of_mem _ (List.mem_cons_self ..)))))))
  simp only [cellsInt, List.drop_zero, List.drop_succ_cons, List.take_succ_cons, List.take_zero] at f6
  obtain ⟨n6, e6, w6⟩ := Rd.int Tryz.underlying3 f6
  simp only [List.cons.injEq, and_true] at e6
  subst e6
  have hb := bounds_i64 w6
  exact ⟨n6, rfl, by omega⟩
theorem oc_next {w : World} {cs : List Value} (h : Rd Tryz.prog w 54 cs) : ∃ n, cs[7]? = some (.int .i64 n) ∧ n ≤ 9223372036854775807 := by
  obtain ⟨hl, hf⟩ := h.struct Tryz.underlying54
  rw [cellsOc] at hl
  obtain ⟨v0, c0, c1, c2, c3, c4, c5, c6, c7, rfl⟩ := lst9 hl
  have f1 := hf _ (List.mem_cons_of_mem _ (List.mem_cons_self ..))
  simp only [cellsRp, List.drop_zero, List.drop_succ_cons, List.take_succ_cons, List.take_zero] at f1
  obtain ⟨n, h1, h2⟩ := rp_next f1
  exact ⟨n, by simpa using h1, h2⟩

/-- Outcomes, and their next objects fit. -/
def OcRx (w : World) (cs : List Value) (x : Oc) : Prop := OcR w cs x ∧ x.reply.next ≤ 9223372036854775807
theorem ocRx_rd {w : World} {cs : List Value} (h : Rd Tryz.prog w 54 cs) : ∃ x, OcRx w cs x := by
  obtain ⟨x, hx⟩ := ocR_rd h
  obtain ⟨n, h1, h2⟩ := oc_next h
  refine ⟨x, hx, ?_⟩
  obtain ⟨da, dc, oa, oc, rfl, _⟩ := hx
  simp at h1
  omega
end Go.Proofs.YtliblgmpclefgaaGreat

/-
The windows that a law is called with, and the size of the outcomes that came in.
-/
namespace Go.Proofs.YtliblgmpclefgaaGreat
open Go.RowKit

theorem okWide_arr4 {P : Program} {w : World} {r : Reach} {base : Nat} {t e : TypeId} {n : Nat} {v : Value} (ht : P.underlying t = some (.array n e)) (h : Value.okWide P w r base t v) : ∃ cs, v = .agg cs ∧ cs.size = P.cellsOf t := by
  simp only [Value.okWide, ht] at h
  obtain ⟨cs, h1, h2, _⟩ := h
  exact ⟨cs, h1, h2⟩
theorem cellsW : Tryz.prog.cellsOf 34 = 8 := by kernel_rfl
theorem cellsR : Tryz.prog.cellsOf 33 = 2 := by kernel_rfl
theorem win_rd {w : World} {cs : Array Value} (h : Rd Tryz.prog w 34 cs.toList) : ∃ win : Nat → Int × Int, cs = WgC win ∧ ∀ k, k < 4 → (Lit.int .i64 (win k).1).wf = true ∧ (Lit.int .i64 (win k).2).wf = true := by
  obtain ⟨hl, hel⟩ := h.array Tryz.underlying34
  rw [cellsW] at hl
  have hk : ∀ k, k < 4 → ∃ a b : Int, cs.toList[k * 2]? = some (.int .i64 a) ∧ cs.toList[k * 2 + 1]? = some (.int .i64 b) ∧ (Lit.int .i64 a).wf = true ∧ (Lit.int .i64 b).wf = true := fun k hk => by
    have h1 := hel k hk
    rw [cellsR] at h1
    obtain ⟨hl1, hf⟩ := h1.struct Tryz.underlying33
    rw [cellsR] at hl1
    obtain ⟨c0, c1, e⟩ := lst2 hl1
    rw [e] at hf
    have f0 := hf _ (List.mem_cons_self ..)
    have f1 := hf _ (List.mem_cons_of_mem _ (List.mem_cons_self ..))
    simp only [cellsInt, List.drop_zero, List.drop_succ_cons, List.take_succ_cons, List.take_zero] at f0 f1
    obtain ⟨a, e0, w0⟩ := Rd.int Tryz.underlying3 f0
    obtain ⟨b, e1, w1⟩ := Rd.int Tryz.underlying3 f1
    simp only [List.cons.injEq, and_true] at e0 e1
    subst e0 e1
    refine ⟨a, b, ?_, ?_, w0, w1⟩
    · have := congrArg (fun l => l[0]?) e
      simpa using this
    · have := congrArg (fun l => l[1]?) e
      simpa using this
  obtain ⟨a0, b0, p0, q0, u0, v0⟩ := hk 0 (by decide)
  obtain ⟨a1, b1, p1, q1, u1, v1⟩ := hk 1 (by decide)
  obtain ⟨a2, b2, p2, q2, u2, v2⟩ := hk 2 (by decide)
  obtain ⟨a3, b3, p3, q3, u3, v3⟩ := hk 3 (by decide)
  refine ⟨fun k => if k = 0 then (a0, b0) else if k = 1 then (a1, b1) else if k = 2 then (a2, b2) else (a3, b3), ?_, fun k hk => ?_⟩
  · obtain ⟨l⟩ := cs
    obtain ⟨x0, x1, x2, x3, x4, x5, x6, x7, rfl⟩ := lst8 hl
    simp at p0 q0 p1 q1 p2 q2 p3 q3
    subst p0 q0 p1 q1 p2 q2 p3 q3
    rfl
  · match k, hk with
    | 0, _ => exact ⟨u0, v0⟩
    | 1, _ => exact ⟨u1, v1⟩
    | 2, _ => exact ⟨u2, v2⟩
    | 3, _ => exact ⟨u3, v3⟩

theorem small_fit {l : List Oc} {n : Int} (h : smallOcs l n = true) (hx : ∀ (i : Nat) (x : Oc), l[i]? = some x → x.reply.next ≤ 9223372036854775807) {i : Nat} {x : Oc} (hi : l[i]? = some x) : x.fit := by
  simp only [smallOcs, Bool.and_eq_true, List.all_eq_true, Rp.small, smallObs, decide_eq_true_eq] at h
  have h1 := h.1 x (List.mem_of_getElem? hi)
  exact ⟨h1.2.1, h1.2.2, h1.1, hx i x hi⟩


end Go.Proofs.YtliblgmpclefgaaGreat
