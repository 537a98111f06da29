/-
  Texts 22 of the claim.
-/
import Derived.Test.YtipnamoocemeeaaGreatA01
import Derived.Test.YtipnamoocemeeaaGreatA21
import Derived.Laws.Rows
import Derived.Test.YtipnamoocemeeaaGreatA20
import Derived.OpenShut
/-
  Slices of ints that read as a list, for every program.
-/
namespace Go.Proofs.YtipnamoocemeeaaGreat
open Go.RowKit

/-- A slice of ints that reads as a list; each fits. -/
def Ns (w : World) (v : Value) (l : List Int) : Prop :=
  (∃ a c, v = .slice a l.length c ∧ l.length ≤ c ∧ c ≤ maxLen ∧ (a = none → c = 0) ∧
    (l ≠ [] → ∃ b o, a = some ⟨b, o, none⟩ ∧ ∀ i, i < l.length → w.cell? ⟨b, o + i, none⟩ = some (.int .i64 (l.getD i 0)))) ∧ ∀ n ∈ l, (Lit.int .i64 n).wf = true

theorem Ns.nil (w : World) : Ns w (.slice none 0 0) [] := ⟨⟨none, 0, rfl, Nat.le_refl _, Nat.zero_le _, fun _ => rfl, fun h => absurd rfl h⟩, by simp⟩

theorem Ns.keep {w w' : World} {v : Value} {l : List Int} (h : Ns w v l) (hb : Below w.heap.size w w') : Ns w' v l := by
  obtain ⟨⟨a, c, hv, h1, h2, h3, h4⟩, h5⟩ := h
  refine ⟨⟨a, c, hv, h1, h2, h3, fun hl => ?_⟩, h5⟩
  obtain ⟨b, o, ha, hc⟩ := h4 hl
  exact ⟨b, o, ha, fun i hi => by rw [hb.cell (cell_lt (hc i hi))]; exact hc i hi⟩

theorem Ns.at {w : World} {v : Value} {l : List Int} (h : Ns w v l) (hl : l ≠ []) :
    ∃ b o c, v = .slice (some ⟨b, o, none⟩) l.length c ∧ l.length ≤ c ∧ c ≤ maxLen ∧ ∀ i, i < l.length → w.cell? ⟨b, o + i, none⟩ = some (.int .i64 (l.getD i 0)) := by
  obtain ⟨⟨a, c, hv, h1, h2, h3, h4⟩, _⟩ := h
  obtain ⟨b, o, rfl, hc⟩ := h4 hl
  exact ⟨b, o, c, hv, h1, h2, hc⟩

theorem Ns.row {w : World} {a : Option Addr} {len cap : Nat} {zs : List Int}
    (h : (a = none ∧ len = 0 ∧ cap = 0 ∧ zs = []) ∨
      ∃ x, a = some x ∧ len ≤ cap ∧ cap ≤ maxLen ∧ zs.length = cap ∧ (∀ i, i < zs.length → w.cell? (x.add i) = some (.int .i64 (zs.getD i 0))) ∧ ∀ n ∈ zs, (Lit.int .i64 n).wf = true) :
    ∃ l, Ns w (.slice a len cap) l ∧ l.length = len := by
  rcases h with ⟨rfl, rfl, rfl, rfl⟩ | ⟨x, rfl, hl, hm, hz, hc, hw⟩
  · exact ⟨[], Ns.nil w, rfl⟩
  · have e1 : (zs.take len).length = len := by simp; omega
    refine ⟨zs.take len, ⟨⟨some x, cap, by rw [e1], by omega, hm, fun h => by simp at h, fun hne => ?_⟩, fun n hn => hw n (List.mem_of_mem_take hn)⟩, e1⟩
    have hpos : 0 < len := by
      rcases Nat.eq_zero_or_pos len with h | h
      · subst h; simp at hne
      · exact h
    obtain ⟨b, off, spot⟩ := x
    have h0 := hc 0 (by omega)
    have hspot : spot = none := by simpa [Addr.add] using World.cell?_spot h0
    subst hspot
    refine ⟨b, off, rfl, fun i hi => ?_⟩
    rw [e1] at hi
    have e2 : (⟨b, off, none⟩ : Addr).add i = ⟨b, off + i, none⟩ := by unfold Addr.add; split <;> simp_all
    have h3 := hc i (by omega)
    rw [e2] at h3
    rw [h3]
    simp [List.getD, hi]

end Go.Proofs.YtipnamoocemeeaaGreat

/-
  The contract of modscanlaw26.Windows.
-/
namespace Go.Proofs.YtipnamoocemeeaaGreat
open Go.RowKit

def WgC (win : Nat → Int × Int) : Array Value := #[.int .i64 (win 0).1, .int .i64 (win 0).2, .int .i64 (win 1).1, .int .i64 (win 1).2, .int .i64 (win 2).1, .int .i64 (win 2).2, .int .i64 (win 3).1, .int .i64 (win 3).2]
def WgI (W : World) (b : Nat) (win : Nat → Int × Int) : Prop := W.heap[b]? = some (.cells (WgC win) 25)
theorem WgI.first {W : World} {b : Nat} {win : Nat → Int × Int} (h : WgI W b win) {k : Nat} (hk : k < 4) : W.cell? ⟨b, k * 2, none⟩ = some (.int .i64 (win k).1) := by
  rw [hpCell h]
  match k, hk with
  | 0, _ => rfl
  | 1, _ => rfl
  | 2, _ => rfl
  | 3, _ => rfl
theorem WgI.count {W : World} {b : Nat} {win : Nat → Int × Int} (h : WgI W b win) {k : Nat} (hk : k < 4) : W.cell? ⟨b, k * 2 + 1, none⟩ = some (.int .i64 (win k).2) := by
  rw [hpCell h]
  match k, hk with
  | 0, _ => rfl
  | 1, _ => rfl
  | 2, _ => rfl
  | 3, _ => rfl
theorem infoW : (Tryz.prog.info? 25).map (·.size) = some 8 := by kernel_rfl

def wfI (n : Int) : Prop := -9223372036854775808 ≤ n ∧ n ≤ 9223372036854775807

end Go.Proofs.YtipnamoocemeeaaGreat

/-
  Several texts of this claim in one file.
-/
/-
Outcomes that came in: the number that asks for more fits an int.
-/
namespace Go.Proofs.YtipnamoocemeeaaGreat
open Go.RowKit

theorem rp_next {w : World} {cs : List Value} (h : Rd Tryz.prog w 53 cs) : ∃ n, cs[6]? = some (.int .i64 n) ∧ n ≤ 9223372036854775807 := by
  obtain ⟨hl, hf⟩ := h.struct Tryz.underlying53
  rw [cellsRp] at hl
  obtain ⟨c0, c1, c2, c3, c4, c5, c6, c7, rfl⟩ := lst8 hl
  have f6 := hf _ (List.mem_cons_of_mem _ (List.mem_cons_of_mem _ (List.mem_cons_of_mem _ (List.mem_cons_of_mem _ (List.mem_cons_of_mem _ (List.mem_cons_of_mem _ (List.mem_cons_self ..)))))))
  simp only [cellsInt, List.drop_zero, List.drop_succ_cons, List.take_succ_cons, List.take_zero] at f6
  obtain ⟨n6, e6, w6⟩ := Rd.int Tryz.underlying3 f6
  simp only [List.cons.injEq, and_true] at e6
  subst e6
  have hb := bounds_i64 w6
  exact ⟨n6, rfl, by omega⟩
theorem oc_next {w : World} {cs : List Value} (h : Rd Tryz.prog w 55 cs) : ∃ n, cs[7]? = some (.int .i64 n) ∧ n ≤ 9223372036854775807 := by
  obtain ⟨hl, hf⟩ := h.struct Tryz.underlying55
  rw [cellsOc] at hl
  obtain ⟨v0, c0, c1, c2, c3, c4, c5, c6, c7, rfl⟩ := lst9 hl
  have f1 := hf _ (List.mem_cons_of_mem _ (List.mem_cons_self ..))
  simp only [cellsRp, List.drop_zero, List.drop_succ_cons, List.take_succ_cons, List.take_zero] at f1
  obtain ⟨n, h1, h2⟩ := rp_next f1
  exact ⟨n, by simpa using h1, h2⟩

/-- Outcomes, and their next objects fit. -/
def OcRx (w : World) (cs : List Value) (x : Oc) : Prop := OcR w cs x ∧ x.reply.next ≤ 9223372036854775807
theorem ocRx_rd {w : World} {cs : List Value} (h : Rd Tryz.prog w 55 cs) : ∃ x, OcRx w cs x := by
  obtain ⟨x, hx⟩ := ocR_rd h
  obtain ⟨n, h1, h2⟩ := oc_next h
  refine ⟨x, hx, ?_⟩
  obtain ⟨da, dc, oa, oc, rfl, _⟩ := hx
  simp at h1
  omega
theorem ocsx_rd {w : World} {v : Value} (h : Rd Tryz.prog w 28 [v]) : ∃ l : List Oc, Ocs w v l ∧ ∀ (i : Nat) (x : Oc), l[i]? = some x → x.reply.next ≤ 9223372036854775807 := by
  obtain ⟨l, hl⟩ := Sls.of_rd (R := OcRx) Tryz.underlying28 cellsOc (by decide) (fun _ h => ocRx_rd h) h
  obtain ⟨a, c, rfl, h1, h2, h3, h4⟩ := hl
  refine ⟨l, ⟨a, c, rfl, h1, h2, h3, fun hne => ?_⟩, fun i x hx => ?_⟩
  · obtain ⟨b, o, ha, hel⟩ := h4 hne
    refine ⟨b, o, ha, fun i x hx => ?_⟩
    obtain ⟨r, hr, hR, hc⟩ := hel i x hx
    exact ⟨r, hr, hR.1, hc⟩
  · obtain ⟨b, o, ha, hel⟩ := h4 (by rintro rfl; simp at hx)
    obtain ⟨r, hr, hR, hc⟩ := hel i x hx
    exact hR.2

end Go.Proofs.YtipnamoocemeeaaGreat

/-
The windows that a law is called with, and the size of the outcomes that came in.
-/
namespace Go.Proofs.YtipnamoocemeeaaGreat
open Go.RowKit
theorem small_fit {l : List Oc} {n : Int} (h : smallOcs l n = true) (hx : ∀ (i : Nat) (x : Oc), l[i]? = some x → x.reply.next ≤ 9223372036854775807) {i : Nat} {x : Oc} (hi : l[i]? = some x) : x.fit := by
  simp only [smallOcs, Bool.and_eq_true, List.all_eq_true, Rp.small, smallObs, decide_eq_true_eq] at h
  have h1 := h.1 x (List.mem_of_getElem? hi)
  exact ⟨h1.2.1, h1.2.2, h1.1, hx i x hi⟩


end Go.Proofs.YtipnamoocemeeaaGreat
