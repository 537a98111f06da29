/-
  Small rows of bytes that a call owns.
-/
import Derived.Test.YtpmidoneoonlcaaGreatMbase
namespace Go.Proofs.YtpmidoneoonlcaaGreat
open Go.RowKit

theorem own_lit (w : World) (base : Nat) (e : TypeId) (x : UInt8) (hb : base ≤ w.heap.size) :
    (w.alloc (.cells #[.int .u8 (x.toNat : Int)] e)).ownsRow base e 1 (.slice (some ⟨w.heap.size, 0, none⟩) 1 1) [x].length (u8s [x]) :=
  ⟨rfl, .inr ⟨w.heap.size, 1, _, rfl, hb, heap_alloc_new _ _, Nat.le_refl _, by decide, rfl, rfl⟩⟩

theorem own_slot {w : World} {base : Nat} {e : TypeId} {n : Nat} {v : Value} {xs : List Value} (h : w.ownsRow base e 1 v n xs) (hn : 0 < n) :
    ∃ g cap, v = .slice (some ⟨g, 0, none⟩) n cap ∧ base ≤ g ∧ n ≤ cap ∧ cap ≤ maxLen ∧ g < w.heap.size := by
  rcases h.2 with ⟨_, h0⟩ | ⟨g, cap, cur, hv, hg, hh, hnc, hcm, _⟩
  · omega
  · exact ⟨g, cap, hv, hg, hnc, hcm, (Array.getElem?_eq_some_iff.1 hh).1⟩

theorem own_cell0 {w : World} {base : Nat} {e : TypeId} {g n cap : Nat} {l : List UInt8} (h : w.ownsRow base e 1 (.slice (some ⟨g, 0, none⟩) n cap) n (u8s l)) (i : Nat) (hi : i < n) :
    w.cell? ⟨g, i, none⟩ = some (.int .u8 ((l.getD i 0).toNat : Int)) := by
  have hl : l.length = n := by simpa using h.1
  rw [h.cellAt i (by omega), u8s_get l i (by omega)]


end Go.Proofs.YtpmidoneoonlcaaGreat
