/-
  Outcomes that came in: the number that asks for more fits an int.
-/
import Derived.Test.YtliblgmpclefgaaMrech
import Derived.OpenShut
namespace Go.Proofs.Ytliblgmpclefgaa
open Go.RowKit

theorem rp_next {w : World} {cs : List Value} (h : Rd Try.prog w 57 cs) : ∃ n, cs[6]? = some (.int .i64 n) ∧ n ≤ 9223372036854775807 := by
  obtain ⟨hl, hf⟩ := h.struct Try.underlying57
  rw [cellsRp] at hl
  obtain ⟨c0, c1, c2, c3, c4, c5, c6, c7, rfl⟩ := lst8 hl
  have f6 := hf _ (List.mem_cons_of_mem _ (List.mem_cons_of_mem _ (List.mem_cons_of_mem _ (List.mem_cons_of_mem _ (List.mem_cons_of_mem _ (List.mem_cons_of_mem _ (List.mem_cons_self ..)))))))
  simp only [cellsInt, List.drop_zero, List.drop_succ_cons, List.take_succ_cons, List.take_zero] at f6
  obtain ⟨n6, e6, w6⟩ := Rd.int Try.underlying3 f6
  simp only [List.cons.injEq, and_true] at e6
  subst e6
  have hb := bounds_i64 w6
  exact ⟨n6, rfl, by omega⟩
theorem oc_next {w : World} {cs : List Value} (h : Rd Try.prog w 59 cs) : ∃ n, cs[7]? = some (.int .i64 n) ∧ n ≤ 9223372036854775807 := by
  obtain ⟨hl, hf⟩ := h.struct Try.underlying59
  rw [cellsOc] at hl
  obtain ⟨v0, c0, c1, c2, c3, c4, c5, c6, c7, rfl⟩ := lst9 hl
  have f1 := hf _ (List.mem_cons_of_mem _ (List.mem_cons_self ..))
  simp only [cellsRp, List.drop_zero, List.drop_succ_cons, List.take_succ_cons, List.take_zero] at f1
  obtain ⟨n, h1, h2⟩ := rp_next f1
  exact ⟨n, by simpa using h1, h2⟩

/-- Outcomes, and their next objects fit. -/
def OcRx (w : World) (cs : List Value) (x : Oc) : Prop := OcR w cs x ∧ x.reply.next ≤ 9223372036854775807
theorem ocRx_rd {w : World} {cs : List Value} (h : Rd Try.prog w 59 cs) : ∃ x, OcRx w cs x := by
  obtain ⟨x, hx⟩ := ocR_rd h
  obtain ⟨n, h1, h2⟩ := oc_next h
  refine ⟨x, hx, ?_⟩
  obtain ⟨da, dc, oa, oc, rfl, _⟩ := hx
  simp at h1
  omega
theorem ocsx_rd {w : World} {v : Value} (h : Rd Try.prog w 25 [v]) : ∃ l : List Oc, Ocs w v l ∧ ∀ (i : Nat) (x : Oc), l[i]? = some x → x.reply.next ≤ 9223372036854775807 := by
  obtain ⟨l, hl⟩ := Sls.of_rd (R := OcRx) Try.underlying25 cellsOc (by decide) (fun _ h => ocRx_rd h) h
  obtain ⟨a, c, rfl, h1, h2, h3, h4⟩ := hl
  refine ⟨l, ⟨a, c, rfl, h1, h2, h3, fun hne => ?_⟩, fun i x hx => ?_⟩
  · obtain ⟨b, o, ha, hel⟩ := h4 hne
    refine ⟨b, o, ha, fun i x hx => ?_⟩
    obtain ⟨r, hr, hR, hc⟩ := hel i x hx
    exact ⟨r, hr, hR.1, hc⟩
  · obtain ⟨b, o, ha, hel⟩ := h4 (by rintro rfl; simp at hx)
    obtain ⟨r, hr, hR, hc⟩ := hel i x hx
    exact hR.2

end Go.Proofs.Ytliblgmpclefgaa
