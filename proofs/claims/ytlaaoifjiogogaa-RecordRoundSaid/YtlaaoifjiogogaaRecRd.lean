/-
  What the form's reading of an argument gives for objects, replies and outcomes.
-/
import Derived.Test.YtlaaoifjiogogaaRec
import Derived.Test.YtlaaoifjiogogaaRead
namespace Go.Proofs.Ytlaaoifjiogogaa
open Go.RowKit

theorem cellsU8 : Try.prog.cellsOf 5 = 1 := by kernel_rfl
theorem cellsInt : Try.prog.cellsOf 3 = 1 := by kernel_rfl
theorem cellsBool : Try.prog.cellsOf 4 = 1 := by kernel_rfl
theorem cellsBytes : Try.prog.cellsOf 22 = 1 := by kernel_rfl
theorem cellsObs : Try.prog.cellsOf 23 = 1 := by kernel_rfl
theorem cellsOb : Try.prog.cellsOf 87 = 2 := by kernel_rfl
theorem cellsRp : Try.prog.cellsOf 25 = 8 := by kernel_rfl
theorem cellsOc : Try.prog.cellsOf 27 = 9 := by kernel_rfl

theorem lst2 {α : Type} {l : List α} (h : l.length = 2) : ∃ a b, l = [a, b] := by
  match l, h with
  | [a, b], _ => exact ⟨a, b, rfl⟩
theorem lst8 {α : Type} {l : List α} (h : l.length = 8) : ∃ a b c d e f g i, l = [a, b, c, d, e, f, g, i] := by
  match l, h with
  | [a, b, c, d, e, f, g, i], _ => exact ⟨a, b, c, d, e, f, g, i, rfl⟩
theorem lst9 {α : Type} {l : List α} (h : l.length = 9) : ∃ v a b c d e f g i, l = [v, a, b, c, d, e, f, g, i] := by
  match l, h with
  | [v, a, b, c, d, e, f, g, i], _ => exact ⟨v, a, b, c, d, e, f, g, i, rfl⟩

theorem list_of {α : Type} (n : Nat) (P : Nat → α → Prop) (h : ∀ i, i < n → ∃ x, P i x) : ∃ l : List α, l.length = n ∧ ∀ i x, l[i]? = some x → P i x := by
  induction n with
  | zero => exact ⟨[], rfl, fun i x hx => by simp at hx⟩
  | succ n ih =>
    obtain ⟨l, hl, hp⟩ := ih (fun i hi => h i (by omega))
    obtain ⟨x, hx⟩ := h n (by omega)
    refine ⟨l ++ [x], by simp [hl], fun i y hy => ?_⟩
    by_cases hi : i < n
    · rw [List.getElem?_append_left (by omega)] at hy; exact hp i y hy
    · have hlt := (List.getElem?_eq_some_iff.1 hy).1
      have : i = n := by simp at hlt; omega
      subst this
      rw [List.getElem?_append_right (by omega), hl] at hy
      simp at hy
      subst hy
      exact hx

/-- A slice of objects that can be read. -/
theorem Obs.of_rd {w : World} {v : Value} (h : Rd Try.prog w 23 [v]) : ∃ l, Obs w v l := by
  rcases h.slice Try.underlying23 with h | ⟨a, len, cap, h, hl, hm, hel⟩
  · cases h; exact ⟨[], Obs.nil w⟩
  · cases h
    have hb : ∀ i, i < len → ∃ x : Ob, w.cell? (a.add (i * 2)) = some (.int .i64 x.id) ∧ ∃ v, w.cell? ((a.add (i * 2)).add 1) = some v ∧ Bs w v x.val := by
      intro i hi
      obtain ⟨ds, hd, hcell, hr⟩ := hel i hi
      rw [cellsOb] at hd hcell
      obtain ⟨d0, d1, rfl⟩ := lst2 hd
      obtain ⟨_, hf⟩ := hr.struct Try.underlying87
      have f0 := hf _ (List.mem_cons_self ..)
      have f1 := hf _ (List.mem_cons_of_mem _ (List.mem_cons_self ..))
      simp only [cellsInt, cellsBytes, List.drop_zero, List.drop_succ_cons, List.take_succ_cons, List.take_zero] at f0 f1
      obtain ⟨k, hk, _⟩ := Rd.int Try.underlying3 f0
      obtain ⟨x, hx⟩ := Bs.of_rd Try.underlying22 Try.underlying5 cellsU8 f1
      simp only [List.cons.injEq, and_true] at hk
      subst hk
      have c0 := hcell 0 (by omega)
      have c1 := hcell 1 (by omega)
      exact ⟨⟨k, x⟩, by simpa [Addr.add] using c0, d1, c1, hx⟩
    obtain ⟨l, hll, hlp⟩ := list_of len _ hb
    refine ⟨l, some a, cap, by rw [hll], by omega, hm, fun h => by simp at h, fun hne => ?_⟩
    have hpos : 0 < len := by
      rcases Nat.eq_zero_or_pos len with h | h
      · exfalso; apply hne; exact List.eq_nil_of_length_eq_zero (by omega)
      · exact h
    obtain ⟨x0, hx0⟩ : ∃ x, l[0]? = some x := ⟨l[0], List.getElem?_eq_getElem (by omega)⟩
    have hs2 : a = ⟨a.block, a.off, none⟩ := by
      have := (hlp 0 x0 hx0).1
      exact spot_of (v := .int .i64 x0.id) (by simpa [Addr.add] using this)
    refine ⟨a.block, a.off, by rw [← hs2], fun i x hx => ?_⟩
    obtain ⟨h1, vv, h2, h3⟩ := hlp i x hx
    rw [hs2, add_lit] at h1
    rw [hs2, add_lit, add_lit] at h2
    exact ⟨h1, vv, h2, h3⟩

/-- The cells of a reply. -/
def RpCs (w : World) (cs : List Value) (r : Rp) : Prop := ∃ da dc oa oc, cs = [.int .i64 r.fn, .int .i64 r.exc, .slice da r.data.length dc, .int .i64 r.code, .int .i64 r.level, .bool r.more, .int .i64 r.next, .slice oa r.objs.length oc] ∧ Bs w (.slice da r.data.length dc) r.data ∧ Obs w (.slice oa r.objs.length oc) r.objs ∧ r.level ≤ 9223372036854775807 ∧ -9223372036854775808 ≤ r.level

theorem rp_rd {w : World} {cs : List Value} (h : Rd Try.prog w 25 cs) : ∃ r, RpCs w cs r := by
  obtain ⟨hl, hf⟩ := h.struct Try.underlying25
  rw [cellsRp] at hl
  obtain ⟨c0, c1, c2, c3, c4, c5, c6, c7, rfl⟩ := lst8 hl
  have f0 := hf _ (List.mem_cons_self ..)
  have f1 := hf _ (List.mem_cons_of_mem _ (List.mem_cons_self ..))
  have f2 := hf _ (List.mem_cons_of_mem _ (List.mem_cons_of_mem _ (List.mem_cons_self ..)))
  have f3 := hf _ (List.mem_cons_of_mem _ (List.mem_cons_of_mem _ (List.mem_cons_of_mem _ (List.mem_cons_self ..))))
  have f4 := hf _ (List.mem_cons_of_mem _ (List.mem_cons_of_mem _ (List.mem_cons_of_mem _ (List.mem_cons_of_mem _ (List.mem_cons_self ..)))))
  have f5 := hf _ (List.mem_cons_of_mem _ (List.mem_cons_of_mem _ (List.mem_cons_of_mem _ (List.mem_cons_of_mem _ (List.mem_cons_of_mem _ (List.mem_cons_self ..))))))
  have f6 := hf _ (List.mem_cons_of_mem _ (List.mem_cons_of_mem _ (List.mem_cons_of_mem _ (List.mem_cons_of_mem _ (List.mem_cons_of_mem _ (List.mem_cons_of_mem _ (List.mem_cons_self ..)))))))
  have f7 := hf _ (List.mem_cons_of_mem _ (List.mem_cons_of_mem _ (List.mem_cons_of_mem _ (List.mem_cons_of_mem _ (List.mem_cons_of_mem _ (List.mem_cons_of_mem _ (List.mem_cons_of_mem _ (List.mem_cons_self ..))))))))
  simp only [cellsInt, cellsBytes, cellsBool, cellsObs, List.drop_zero, List.drop_succ_cons, List.take_succ_cons, List.take_zero] at f0 f1 f2 f3 f4 f5 f6 f7
  obtain ⟨n0, e0, _⟩ := Rd.int Try.underlying3 f0
  obtain ⟨n1, e1, _⟩ := Rd.int Try.underlying3 f1
  obtain ⟨data, hd⟩ := Bs.of_rd Try.underlying22 Try.underlying5 cellsU8 f2
  obtain ⟨n3, e3, _⟩ := Rd.int Try.underlying3 f3
  obtain ⟨n4, e4, w4⟩ := Rd.int Try.underlying3 f4
  obtain ⟨b5, e5⟩ := Rd.bool Try.underlying4 f5
  obtain ⟨n6, e6, _⟩ := Rd.int Try.underlying3 f6
  obtain ⟨objs, ho⟩ := Obs.of_rd f7
  simp only [List.cons.injEq, and_true] at e0 e1 e3 e4 e5 e6
  subst e0; subst e1; subst e3; subst e4; subst e5; subst e6
  obtain ⟨da, dc, rfl, _⟩ := id hd
  obtain ⟨oa, oc, rfl, _⟩ := id ho
  have hb := bounds_i64 w4
  exact ⟨⟨n0, n1, data, n3, n4, b5, n6, objs⟩, da, dc, oa, oc, rfl, hd, ho, show n4 ≤ 9223372036854775807 by omega, show -9223372036854775808 ≤ n4 by omega⟩

theorem oc_rd {w : World} {cs : List Value} (h : Rd Try.prog w 27 cs) : ∃ (v : Int) (r : Rp) (rs : List Value), cs = .int .i64 v :: rs ∧ RpCs w rs r := by
  obtain ⟨hl, hf⟩ := h.struct Try.underlying27
  rw [cellsOc] at hl
  obtain ⟨v0, c0, c1, c2, c3, c4, c5, c6, c7, rfl⟩ := lst9 hl
  have f0 := hf _ (List.mem_cons_self ..)
  have f1 := hf _ (List.mem_cons_of_mem _ (List.mem_cons_self ..))
  simp only [cellsInt, cellsRp, List.drop_zero, List.drop_succ_cons, List.take_succ_cons, List.take_zero] at f0 f1
  obtain ⟨n0, e0, _⟩ := Rd.int Try.underlying3 f0
  obtain ⟨r, hr⟩ := rp_rd f1
  simp only [List.cons.injEq, and_true] at e0
  subst e0
  exact ⟨n0, r, _, rfl, hr⟩

end Go.Proofs.Ytlaaoifjiogogaa
