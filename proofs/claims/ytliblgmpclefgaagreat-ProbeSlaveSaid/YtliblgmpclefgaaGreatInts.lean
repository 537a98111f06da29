/-
  Slices of ints that read as a list, for every program.
-/
import Derived.Test.YtliblgmpclefgaaGreatMbase
namespace Go.Proofs.YtliblgmpclefgaaGreat
open Go.RowKit

/-- A slice of ints that reads as a list; each fits. -/
def Ns (w : World) (v : Value) (l : List Int) : Prop :=
  (∃ a c, v = .slice a l.length c ∧ l.length ≤ c ∧ c ≤ maxLen ∧ (a = none → c = 0) ∧
    (l ≠ [] → ∃ b o, a = some ⟨b, o, none⟩ ∧ ∀ i, i < l.length → w.cell? ⟨b, o + i, none⟩ = some (.int .i64 (l.getD i 0)))) ∧ ∀ n ∈ l, (Lit.int .i64 n).wf = true

theorem Ns.nil (w : World) : Ns w (.slice none 0 0) [] := ⟨⟨none, 0, rfl, Nat.le_refl _, Nat.zero_le _, fun _ => rfl, fun h => absurd rfl h⟩, by simp⟩

theorem Ns.keep {w w' : World} {v : Value} {l : List Int} (h : Ns w v l) (hb : Below w.heap.size w w') : Ns w' v l := by
  obtain ⟨⟨a, c, hv, h1, h2, h3, h4⟩, h5⟩ := h
  refine ⟨⟨a, c, hv, h1, h2, h3, fun hl => ?_⟩, h5⟩
  obtain ⟨b, o, ha, hc⟩ := h4 hl
  exact ⟨b, o, ha, fun i hi => by rw [hb.cell (cell_lt (hc i hi))]; exact hc i hi⟩

theorem Ns.at {w : World} {v : Value} {l : List Int} (h : Ns w v l) (hl : l ≠ []) :
    ∃ b o c, v = .slice (some ⟨b, o, none⟩) l.length c ∧ l.length ≤ c ∧ c ≤ maxLen ∧ ∀ i, i < l.length → w.cell? ⟨b, o + i, none⟩ = some (.int .i64 (l.getD i 0)) := by
  obtain ⟨⟨a, c, hv, h1, h2, h3, h4⟩, _⟩ := h
  obtain ⟨b, o, rfl, hc⟩ := h4 hl
  exact ⟨b, o, c, hv, h1, h2, hc⟩

theorem Ns.row {w : World} {a : Option Addr} {len cap : Nat} {zs : List Int}
    (h : (a = none ∧ len = 0 ∧ cap = 0 ∧ zs = []) ∨
      ∃ x, a = some x ∧ len ≤ cap ∧ cap ≤ maxLen ∧ zs.length = cap ∧ (∀ i, i < zs.length → w.cell? (x.add i) = some (.int .i64 (zs.getD i 0))) ∧ ∀ n ∈ zs, (Lit.int .i64 n).wf = true) :
    ∃ l, Ns w (.slice a len cap) l ∧ l.length = len := by
  rcases h with ⟨rfl, rfl, rfl, rfl⟩ | ⟨x, rfl, hl, hm, hz, hc, hw⟩
  · exact ⟨[], Ns.nil w, rfl⟩
  · have e1 : (zs.take len).length = len := by simp; omega
    refine ⟨zs.take len, ⟨⟨some x, cap, by rw [e1], by omega, hm, fun h => by simp at h, fun hne => ?_⟩, fun n hn => hw n (List.mem_of_mem_take hn)⟩, e1⟩
    have hpos : 0 < len := by
      rcases Nat.eq_zero_or_pos len with h | h
      · subst h; simp at hne
      · exact h
    obtain ⟨b, off, spot⟩ := x
    have h0 := hc 0 (by omega)
    have hspot : spot = none := by simpa [Addr.add] using World.cell?_spot h0
    subst hspot
    refine ⟨b, off, rfl, fun i hi => ?_⟩
    rw [e1] at hi
    have e2 : (⟨b, off, none⟩ : Addr).add i = ⟨b, off + i, none⟩ := by unfold Addr.add; split <;> simp_all
    have h3 := hc i (by omega)
    rw [e2] at h3
    rw [h3]
    simp [List.getD, hi]

end Go.Proofs.YtliblgmpclefgaaGreat
