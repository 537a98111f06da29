/-
  Texts 23 of the claim.
-/
import Derived.Test.YtipnamoocemeeaaGreatC22
import Derived.Deep.OwnRows
import Derived.Deep.QuietTactic
import Derived.BigQuiet
/-
  The reference's settings and times at a valid setting.
-/
namespace Go.Proofs.YtipnamoocemeeaaGreat
open Go.RowKit

set_option maxRecDepth 100000 in
set_option maxHeartbeats 800000 in
theorem rbauds_any (w : World) : Calls Tryz.prog 160 #[] w fun r w' => (∃ b c, r = .returned (.slice (some ⟨b, 0, none⟩) 8 c) ∧ 8 ≤ c ∧ ∀ i, i < 8 → w'.cell? ⟨b, i, none⟩ = some (.int .i64 (baudL.getD i 0))) ∧ Below w.heap.size w w' := by
  go_enter Tryz.func160, Tryz.ntmps160
  go_wp2
  go_ret
  refine ⟨⟨w.heap.size, _, rfl, Nat.le_refl _, fun i hi => ?_⟩, bal' w _⟩
  rw [hpCell (hpNew w _)]
  rcases (show i = 0 ∨ i = 1 ∨ i = 2 ∨ i = 3 ∨ i = 4 ∨ i = 5 ∨ i = 6 ∨ i = 7 by omega) with rfl | rfl | rfl | rfl | rfl | rfl | rfl | rfl <;> rfl

/-- All valid settings. -/
def allS : List (Int × Int) := baudL.flatMap fun b => [(b, 0), (b, 1), (b, 2)]
def setV : List (Int × Int) → List Value
  | [] => []
  | x :: l => .int .i64 x.1 :: .int .i64 x.2 :: setV l
theorem setV_append (l k : List (Int × Int)) : setV (l ++ k) = setV l ++ setV k := by
  induction l with
  | nil => rfl
  | cons x l ih => simp [setV, ih]
theorem setV_length (l : List (Int × Int)) : (setV l).length = l.length * 2 := by
  induction l with
  | nil => rfl
  | cons x l ih => simp [setV, ih]; omega
theorem setV_get : ∀ (l : List (Int × Int)) (i : Nat) (x : Int × Int), l[i]? = some x → (setV l)[i * 2]? = some (.int .i64 x.1) ∧ (setV l)[i * 2 + 1]? = some (.int .i64 x.2)
  | [], i, x, h => by simp at h
  | y :: l, 0, x, h => by
    simp at h
    subst h
    exact ⟨rfl, rfl⟩
  | y :: l, i + 1, x, h => by
    have := setV_get l i x (by simpa using h)
    rw [show (i + 1) * 2 = i * 2 + 2 by omega]
    exact this
theorem allS_len : allS.length = 24 := by decide
theorem allS_step : ∀ k, k < 8 → ∀ q, q < 3 → allS.take (3 * k + q + 1) = allS.take (3 * k + q) ++ [(baudL.getD k 0, (q : Int))] := by decide
theorem allS_ok {x : Int × Int} (h : x ∈ allS) : Okset x.1 x.2 := by
  have h2 : ∀ x ∈ allS, x.1 ∈ baudL ∧ 0 ≤ x.2 ∧ x.2 ≤ 2 := by decide
  exact ⟨(h2 x h).1, (h2 x h).2.1, (h2 x h).2.2⟩
theorem allS_mem {b p : Int} (h : Okset b p) : (b, p) ∈ allS := by
  have h1 := h.mem
  have hp : p = 0 ∨ p = 1 ∨ p = 2 := by have := h.lo; have := h.hi; omega
  simp [baudL] at h1
  rcases h1 with rfl | rfl | rfl | rfl | rfl | rfl | rfl | rfl <;> rcases hp with rfl | rfl | rfl <;> decide

theorem infoS : (Tryz.prog.info? 82).map (fun i => (i.zero, i.size, i.bytes)) = some (some (.agg #[.int .i64 0, .int .i64 0]), 2, 16) := by kernel_rfl

def AllPost (w : World) (r : Ending) (w' : World) : Prop := ∃ v, r = .returned v ∧ w'.ownsRow w.heap.size 82 2 v 24 (setV allS) ∧ Below w.heap.size w w'

set_option maxRecDepth 100000 in
set_option maxHeartbeats 3200000 in
theorem rall_any (w : World) : Calls Tryz.prog 132 #[] w (AllPost w) := by
  obtain ⟨i5, hi, hz0, hz1, hz2⟩ := info_parts infoS
  go_enter Tryz.func132, Tryz.ntmps132
  go_wp2_with fail
  refine (rbauds_any w).mono ?_
  rintro r w1 ⟨⟨b, c, rfl, hc8, hcell⟩, hb1⟩
  have HC := hid hcell
  clear hcell
  have hs1 := hb1.size
  go_wp2
  go_loopw [1, 3, 4] (fun v i _ wr => ∃ k : Nat, k ≤ 8 ∧ i = .int .i64 k ∧ wr.ownsRow w1.heap.size 82 2 v (3 * k) (setV (allS.take (3 * k))) ∧ Below w1.heap.size w1 wr) (fun _ i _ _ => 8 - (intOf i).toNat)
  case atStart => exact ⟨0, by omega, rfl, World.ownsRow_nil _ _ _ _, Below.refl _ _⟩
  case round =>
    obtain ⟨k, hk, rfl, hown, hbr⟩ := hrel
    by_cases hlt : k < 8
    · have hkl : (k : Int) < 8 := by omega
      have HO := hid hown
      clear hown
      obtain ⟨wo, rfl⟩ : ∃ wo : World, wo = wr := ⟨_, rfl⟩
      go_wp2
      go_loopw [1, 4] (fun v q wr => ∃ j : Nat, j ≤ 3 ∧ q = .int .i64 j ∧ wr.ownsRow w1.heap.size 82 2 v (3 * k + j) (setV (allS.take (3 * k + j))) ∧ Below w1.heap.size w1 wr) (fun _ q _ => 3 - (intOf q).toNat)
      case atStart => exact ⟨0, by omega, rfl, HO.out, hbr⟩
      case round =>
        obtain ⟨j, hj, rfl, hown, hbj⟩ := hrel
        by_cases hjt : j < 3
        · have hjl : (j : Int) < 3 := by omega
          have hcb := cell_keep hbj (HC.out k hlt)
          have HS := hid (allS_step k hlt j hjt)
          have hsz := hbj.size
          generalize hE : baudL.getD k 0 = bd at *
          go_wp2_with (at_builtin; refine wpList_appN rfl _ _ 22 rfl w1.heap.size 82 i5 _ 2 16 Tryz.underlying22 hi hz0 hz1 hz2 rfl (by decide) _ (3 * k + j) _ rfl (hown.alloc _) ⟨wr.heap.size, 0, none⟩ 1 1 [.int .i64 bd, .int .i64 (j : Int)] rfl rfl (newsNew wr [.int .i64 bd, .int .i64 (j : Int)] _) (by intro u hu; simp at hu; rcases hu with rfl | rfl <;> rfl) (by unfold maxLen; omega) (by omega) (by simp; omega) ?c1)
          case c1 =>
            intro v' w2 hown2 hgr _
            have hbel : Below w1.heap.size w1 w2 := (bta hbj (Nat.le_refl _) _).grown hgr (bta hbj (Nat.le_refl _) _).size (fun k hk => (hown.lt k hk).1)
            have HO2 : Hid (w2.ownsRow w1.heap.size 82 2 v' (3 * k + (j + 1)) (setV (allS.take (3 * k + (j + 1))))) := by
              rw [← Nat.add_assoc, HS.out, setV_append]
              exact hown2
            clear hown2 hgr
            go_wp2
            go_roundw
            case rel => exact ⟨j + 1, by omega, by go_num, HO2.out, hbel⟩
            case measure => simp [intOf]; omega
        · obtain rfl : j = 3 := by omega
          have HO2 := hid hown
          clear hown
          go_wp2
          go_roundw
          case rel => exact ⟨k + 1, by omega, by go_num, HO2.out, hbj⟩
          case measure => simp [intOf]; omega
    · obtain rfl : k = 8 := by omega
      go_wp2
      go_ret
      refine ⟨_, rfl, own_lower hown hs1, bt hb1 hbr (Nat.le_refl _)⟩

/-- A row of settings, element by element. -/
theorem own_setting {w : World} {base : Nat} {E : TypeId} {v : Value} {n : Nat} {l : List (Int × Int)} (h : w.ownsRow base E 2 v n (setV l)) (hl : l ≠ []) : ∃ g c, v = .slice (some ⟨g, 0, none⟩) n c ∧ n ≤ c ∧ c ≤ maxLen ∧ ∀ i x, l[i]? = some x → w.cell? ⟨g, i * 2, none⟩ = some (.int .i64 x.1) ∧ w.cell? ⟨g, i * 2 + 1, none⟩ = some (.int .i64 x.2) := by
  obtain ⟨hlen, h | ⟨g, cap, cur, hv, hb, hh, hnc, hcm, hcs, ht⟩⟩ := h
  · obtain ⟨rfl, h0⟩ := h
    rw [setV_length, h0] at hlen
    exact absurd (List.eq_nil_of_length_eq_zero (by omega)) hl
  · refine ⟨g, cap, hv, hnc, hcm, fun i x hx => ?_⟩
    have hi := (List.getElem?_eq_some_iff.1 hx).1
    have hs := setV_length l
    obtain ⟨h1, h2⟩ := setV_get l i x hx
    have hc : ∀ j, j < l.length * 2 → w.cell? ⟨g, j, none⟩ = (setV l)[j]? := by
      intro j hj
      have := take_get ht j (by omega)
      simp only [World.cell?, hh, Option.isSome_none]
      exact this
    exact ⟨by rw [hc _ (by omega)]; exact h1, by rw [hc _ (by omega)]; exact h2⟩

end Go.Proofs.YtipnamoocemeeaaGreat
