/-
  Texts 29 of the claim.
-/
import Derived.Test.YtipnamoocemeeaaGreatB28
import Derived.Test.YtipnamoocemeeaaGreatB04
/-
  Devices that are equal: the contracts of modscanref21.SameSpans and SameDevice.
-/
namespace Go.Proofs.YtipnamoocemeeaaGreat
open Go.RowKit

theorem Spn.at {base : Nat} {w : World} {v : Value} {l : List (Int × Int)} (h : Spn base w v l) {k : Nat} {p : Int × Int} (hp : l[k]? = some p) :
    ∃ g cap, v = .slice (some ⟨g, 0, none⟩) l.length cap ∧ w.cell? ⟨g, k * 2, none⟩ = some (.int .i64 p.1) ∧ w.cell? ⟨g, k * 2 + 1, none⟩ = some (.int .i64 p.2) := by
  have hk := (List.getElem?_eq_some_iff.1 hp).1
  have h' : w.ownsRow base 192 2 v l.length (rcs l) := h
  rcases h.2 with ⟨_, h0⟩ | ⟨g, cap, cur, hv, hg, _, hnc, hcm, _⟩
  · omega
  · subst hv
    obtain ⟨h2, h3⟩ := rcs_get l k p hp
    exact ⟨g, cap, rfl, by rw [h'.cellAt _ (by omega)]; exact h2, by rw [h'.cellAt _ (by omega)]; exact h3⟩

set_option maxRecDepth 100000 in
set_option maxHeartbeats 3200000 in
theorem samespans_eq (v1 v2 : Value) (l : List (Int × Int)) (hl : l.length ≤ 1024) (w : World) (h1 : Spn 0 w v1 l) (h2 : Spn 0 w v2 l) :
    Calls Tryz.prog 91 #[v1, v2] w (BoolPost w true) := by
  obtain ⟨a1, c1, rfl⟩ := h1.slice
  obtain ⟨a2, c2, rfl⟩ := h2.slice
  obtain ⟨n, hN⟩ : ∃ n, l.length = n := ⟨_, rfl⟩
  rw [hN] at h1 h2 hl ⊢
  have HN := hid hN
  have H1 := hid h1
  have H2 := hid h2
  clear hN h1 h2
  go_enter Tryz.func91, Tryz.ntmps91
  go_wp2
  go_loopw [5] (fun iv wr => ∃ k : Nat, k ≤ n ∧ iv = .int .i64 k ∧ Below w.heap.size w wr) (fun iv _ => n - (intOf iv).toNat)
  case atStart => exact ⟨0, Nat.zero_le _, rfl, Below.refl _ _⟩
  case round =>
    obtain ⟨k, hk, rfl, hbw⟩ := hrel
    by_cases hlt : k < n
    · obtain ⟨p, hp⟩ := gs (l := l) HN.out hlt
      obtain ⟨g, cap, hv, d0, d1⟩ := (H1.out.keep hbw).at hp
      rw [HN.out] at hv
      simp only [Value.slice.injEq, true_and] at hv
      obtain ⟨rfl, rfl⟩ := hv
      obtain ⟨g2, cap2, hv2, e0, e1⟩ := (H2.out.keep hbw).at hp
      rw [HN.out] at hv2
      simp only [Value.slice.injEq, true_and] at hv2
      obtain ⟨rfl, rfl⟩ := hv2
      have hki : (0 : Int) ≤ (k : Int) := Int.natCast_nonneg _
      have hkl : (k : Int) < (n : Int) := by omega
      have hbq : ∀ m, Below w.heap.size w (wr.drewN m) := fun m => below_drewN hbw m
      clear hp
      go_wp2
      go_quiet (fail)
      go_wp2
      go_roundw
      case rel => exact ⟨k + 1, by omega, by go_num, hbq _⟩
      case measure => simp [intOf]; omega
    · obtain rfl : k = n := by omega
      go_wp2
      go_ret
      exact ⟨rfl, hbw⟩

theorem DvI.tab0 {W : World} {b : Nat} {d : Dv} {ov sv : Value} {mv : Nat → Value} (h : DvI W b d ov sv mv) {k : Nat} (hk : k < 4) : W.cell? ⟨b, 8 + k * 3, none⟩ = some (.int .i64 (d.ts k).st) ∧ W.cell? ⟨b, 8 + k * 3 + 1, none⟩ = some (.int .i64 (d.ts k).most) := by
  rw [hpCell h, hpCell h]
  match k, hk with
  | 0, _ => exact ⟨rfl, rfl⟩
  | 1, _ => exact ⟨rfl, rfl⟩
  | 2, _ => exact ⟨rfl, rfl⟩
  | 3, _ => exact ⟨rfl, rfl⟩
end Go.Proofs.YtipnamoocemeeaaGreat
