/-
  Texts 28 of the claim.
-/
import Derived.Test.YtipnamoocemeeaaGreatC27
import Derived.Test.YtipnamoocemeeaaGreatC03
/-
  Devices that are equal: the contracts of modscanref21.SameSpans and SameDevice.
-/
namespace Go.Proofs.YtipnamoocemeeaaGreat
open Go.RowKit

theorem Spn.at {base : Nat} {w : World} {v : Value} {l : List (Int × Int)} (h : Spn base w v l) {k : Nat} {p : Int × Int} (hp : l[k]? = some p) :
    ∃ g cap, v = .slice (some ⟨g, 0, none⟩) l.length cap ∧ w.cell? ⟨g, k * 2, none⟩ = some (.int .i64 p.1) ∧ w.cell? ⟨g, k * 2 + 1, none⟩ = some (.int .i64 p.2) := by
  have hk := (List.getElem?_eq_some_iff.1 hp).1
  have h' : w.ownsRow base 192 2 v l.length (rcs l) := h
  rcases h.2 with ⟨_, h0⟩ | ⟨g, cap, cur, hv, hg, _, hnc, hcm, _⟩
  · omega
  · subst hv
    obtain ⟨h2, h3⟩ := rcs_get l k p hp
    exact ⟨g, cap, rfl, by rw [h'.cellAt _ (by omega)]; exact h2, by rw [h'.cellAt _ (by omega)]; exact h3⟩

end Go.Proofs.YtipnamoocemeeaaGreat
