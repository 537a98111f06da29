/-
  Texts 6 of the claim.
-/
import Derived.Test.YtpkheiaanjhffaaN04
import Derived.Test.YtpkheiaanjhffaaN01
import Derived.Laws.Rows
import Derived.Test.YtpkheiaanjhffaaN05
import Derived.OpenShut
import Derived.Test.YtpkheiaanjhffaaRows
import Derived.Deep.QuietTactic
import Derived.BigQuiet
import Derived.Deep.RegionHeld3
namespace Go.Proofs.Ytpkheiaanjhffaa
open Go.RowKit
end Go.Proofs.Ytpkheiaanjhffaa

namespace Go.Proofs.Ytpkheiaanjhffaa
open Go.RowKit
def Ns (w : World) (v : Value) (l : List Int) : Prop :=
  (∃ a c, v = .slice a l.length c ∧ l.length ≤ c ∧ c ≤ maxLen ∧ (a = none → c = 0) ∧
    (l ≠ [] → ∃ b o, a = some ⟨b, o, none⟩ ∧ ∀ i, i < l.length → w.cell? ⟨b, o + i, none⟩ = some (.int .i64 (l.getD i 0)))) ∧ ∀ n ∈ l, (Lit.int .i64 n).wf = true
theorem Ns.nil (w : World) : Ns w (.slice none 0 0) [] := ⟨⟨none, 0, rfl, Nat.le_refl _, Nat.zero_le _, fun _ => rfl, fun h => absurd rfl h⟩, by simp⟩
theorem Ns.keep {w w' : World} {v : Value} {l : List Int} (h : Ns w v l) (hb : Below w.heap.size w w') : Ns w' v l := by
  obtain ⟨⟨a, c, hv, h1, h2, h3, h4⟩, h5⟩ := h
  refine ⟨⟨a, c, hv, h1, h2, h3, fun hl => ?_⟩, h5⟩
  obtain ⟨b, o, ha, hc⟩ := h4 hl
  exact ⟨b, o, ha, fun i hi => by rw [hb.cell (cell_lt (hc i hi))]; exact hc i hi⟩
theorem Ns.at {w : World} {v : Value} {l : List Int} (h : Ns w v l) (hl : l ≠ []) :
    ∃ b o c, v = .slice (some ⟨b, o, none⟩) l.length c ∧ l.length ≤ c ∧ c ≤ maxLen ∧ ∀ i, i < l.length → w.cell? ⟨b, o + i, none⟩ = some (.int .i64 (l.getD i 0)) := by
  obtain ⟨⟨a, c, hv, h1, h2, h3, h4⟩, _⟩ := h
  obtain ⟨b, o, rfl, hc⟩ := h4 hl
  exact ⟨b, o, c, hv, h1, h2, hc⟩
theorem Ns.row {w : World} {a : Option Addr} {len cap : Nat} {zs : List Int}
    (h : (a = none ∧ len = 0 ∧ cap = 0 ∧ zs = []) ∨
      ∃ x, a = some x ∧ len ≤ cap ∧ cap ≤ maxLen ∧ zs.length = cap ∧ (∀ i, i < zs.length → w.cell? (x.add i) = some (.int .i64 (zs.getD i 0))) ∧ ∀ n ∈ zs, (Lit.int .i64 n).wf = true) :
    ∃ l, Ns w (.slice a len cap) l ∧ l.length = len := by
  rcases h with ⟨rfl, rfl, rfl, rfl⟩ | ⟨x, rfl, hl, hm, hz, hc, hw⟩
  · exact ⟨[], Ns.nil w, rfl⟩
  · have e1 : (zs.take len).length = len := by simp; omega
    refine ⟨zs.take len, ⟨⟨some x, cap, by rw [e1], by omega, hm, fun h => by simp at h, fun hne => ?_⟩, fun n hn => hw n (List.mem_of_mem_take hn)⟩, e1⟩
    have hpos : 0 < len := by
      rcases Nat.eq_zero_or_pos len with h | h
      · subst h; simp at hne
      · exact h
    obtain ⟨b, off, spot⟩ := x
    have h0 := hc 0 (by omega)
    have hspot : spot = none := by simpa [Addr.add] using World.cell?_spot h0
    subst hspot
    refine ⟨b, off, rfl, fun i hi => ?_⟩
    rw [e1] at hi
    have e2 : (⟨b, off, none⟩ : Addr).add i = ⟨b, off + i, none⟩ := by unfold Addr.add; split <;> simp_all
    have h3 := hc i (by omega)
    rw [e2] at h3
    rw [h3]
    simp [List.getD, hi]
end Go.Proofs.Ytpkheiaanjhffaa

namespace Go.Proofs.Ytpkheiaanjhffaa
open Go.RowKit
def wfI (n : Int) : Prop := -9223372036854775808 ≤ n ∧ n ≤ 9223372036854775807
end Go.Proofs.Ytpkheiaanjhffaa

namespace Go.Proofs.Ytpkheiaanjhffaa
open Go.RowKit
end Go.Proofs.Ytpkheiaanjhffaa
namespace Go.Proofs.Ytpkheiaanjhffaa
open Go.RowKit
end Go.Proofs.Ytpkheiaanjhffaa

namespace Go.Proofs.Ytpkheiaanjhffaa
open Go.RowKit
def IdxI (V : Bool) (r : Ending) : Prop := ∃ i : Int, r = .returned (.int .i64 i) ∧ (0 ≤ i ↔ V = true)
set_option maxRecDepth 100000 in
set_option maxHeartbeats 1600000 in
theorem idxI_any (v : Value) (l : List Int) (x : Int) (w : World) (hl : Ns w v l) (V : Bool) (hV : Hid (l.any (fun y => decide (x = y)) = V)) :
    Calls Try.prog 36 #[v, .int .i64 x] w fun r w' => IdxI V r ∧ w = w' := by
  have HL := hid hl
  obtain ⟨⟨a, c, rfl, hnc, hcm, hac, hel⟩, _⟩ := hl
  unfold maxLen at hcm
  obtain ⟨n, hn⟩ : ∃ n, l.length = n := ⟨_, rfl⟩
  have hcell : ∀ k, k < n → ∃ b o, a = some ⟨b, o, none⟩ ∧ w.cell? ⟨b, o + k, none⟩ = some (.int .i64 (l.getD k 0)) := by
    intro k hk
    obtain ⟨b, o, ha, hc⟩ := hel (by rintro rfl; simp at hn; omega)
    exact ⟨b, o, ha, hc k (by omega)⟩
  have hst : ∀ k, k < n → l.take (k + 1) = l.take k ++ [l.getD k 0] := by
    intro k hk
    rw [List.take_succ_eq_append_getElem (by omega)]
    simp [List.getD, hn, hk]
  have HFIN := hid (show l.take n = l by rw [← hn, List.take_length])
  have HST := hid hst
  have HCE := hid hcell
  rw [hn] at hnc ⊢
  clear hel hst hcell hac hn HL
  go_enter Try.func36, Try.ntmps36
  go_wp2
  go_loop [8] (fun i => ∃ k : Nat, k ≤ n ∧ i = .int .i64 k ∧ Hid ((l.take k).any (fun y => decide (x = y)) = false)) (fun i => n - (intOf i).toNat)
  case atStart => exact ⟨0, Nat.zero_le _, rfl, rfl⟩
  case round =>
    obtain ⟨k, hk, rfl, hno⟩ := hrel
    by_cases hlt : k < n
    · obtain ⟨b, o, rfl, hc⟩ := HCE.out k hlt
      have HS := hid (HST.out k hlt)
      have hkl : (k : Int) < (n : Int) := by omega
      generalize l.getD k 0 = y at *
      by_cases hx : x = y
      · have d : (x == y) = true := by rw [beq_iff_eq]; exact hx
        have HF : Hid (V = true) := by
          show _ = _
          rw [← hV.out]
          refine List.any_eq_true.2 ⟨y, ?_, decide_eq_true hx⟩
          have : y ∈ l.take (k + 1) := by rw [HS.out]; simp
          exact List.mem_of_mem_take this
        clear hx
        go_wp2
        go_ret
        exact ⟨⟨k, rfl, ⟨fun _ => HF.out, fun _ => Int.natCast_nonneg _⟩⟩, rfl⟩
      · have d : (x == y) = false := by rw [beq_eq_false_iff_ne]; exact hx
        have HN : Hid ((l.take (k + 1)).any (fun y => decide (x = y)) = false) := by
          show _ = _
          rw [HS.out, List.any_append, hno.out]
          simp [hx]
        clear hx
        go_wp2
        go_round
        case rel => exact ⟨k + 1, by omega, by go_num, HN⟩
        case measure => simp [intOf]; omega
    · obtain rfl : k = n := by omega
      have HF : Hid (V = false) := by
        have h1 := hno.out
        rw [HFIN.out] at h1
        show _ = _
        rw [← hV.out, h1]
      go_wp2
      go_ret
      exact ⟨⟨-1, rfl, ⟨fun h => absurd h (by decide), fun h => by rw [HF.out] at h; cases h⟩⟩, rfl⟩
set_option maxRecDepth 100000 in
set_option maxHeartbeats 800000 in
theorem contI_any (v : Value) (l : List Int) (x : Int) (w : World) (hl : Ns w v l) (V : Bool) (hV : Hid (l.any (fun y => decide (x = y)) = V)) :
    Calls Try.prog 20 #[v, .int .i64 x] w fun r w' => r = .returned (.bool V) ∧ w = w' := by
  have HI := hid (idxI_any v l x w hl V hV)
  obtain ⟨⟨a, c, rfl, _⟩, _⟩ := hl
  clear hV
  go_enter Try.func20, Try.ntmps20
  go_wp2_with fail
  refine HI.out.mono ?_
  rintro r w1 ⟨⟨i, rfl, hi⟩, rfl⟩
  have HV : Hid (decide (0 ≤ i) = V) := by
    show _ = _
    cases V with
    | true => exact decide_eq_true (hi.2 rfl)
    | false => exact decide_eq_false (fun h => by cases hi.1 h)
  clear hi
  go_wp2
  go_ret
  exact ⟨ret_bool HV.out, rfl⟩
def baudL : List Int := [1200, 2400, 4800, 9600, 19200, 38400, 57600, 115200]
structure Okset (b p : Int) : Prop where
  mem : b ∈ baudL
  lo : 0 ≤ p
  hi : p ≤ 2
theorem Okset.bd {b p : Int} (h : Okset b p) : 1200 ≤ b ∧ b ≤ 115200 := by
  have := h.mem
  simp [baudL] at this
  omega
set_option maxRecDepth 100000 in
set_option maxHeartbeats 800000 in
theorem bauds_any (w : World) : Calls Try.prog 21 #[] w fun r w' => (∃ a n c, r = .returned (.slice a n c) ∧ Ns w' (.slice a n c) baudL) ∧ Below w.heap.size w w' := by
  go_enter Try.func21, Try.ntmps21
  go_wp2
  go_ret
  refine ⟨⟨_, _, _, rfl, ⟨_, 8, rfl, by decide, by unfold maxLen; exact Nat.le_of_ble_eq_true rfl, (fun h => by cases h), fun _ => ⟨w.heap.size, 0, rfl, fun i hi => ?_⟩⟩, ?_⟩, bal' w _⟩
  · rw [hpCell (hpNew w _)]
    have : i < 8 := hi
    rcases (show i = 0 ∨ i = 1 ∨ i = 2 ∨ i = 3 ∨ i = 4 ∨ i = 5 ∨ i = 6 ∨ i = 7 by omega) with rfl | rfl | rfl | rfl | rfl | rfl | rfl | rfl <;> rfl
  · intro n hn
    simp [baudL] at hn
    rcases hn with rfl | rfl | rfl | rfl | rfl | rfl | rfl | rfl <;> rfl
set_option maxRecDepth 100000 in
set_option maxHeartbeats 1600000 in
theorem svalid_ok (b p : Int) (h : Okset b p) (w : World) :
    Calls Try.prog 10 #[.agg #[.int .i64 b, .int .i64 p]] w fun r w' => r = .returned (.bool true) ∧ Below w.heap.size w w' := by
  have HV : Hid (baudL.any (fun y => decide (b = y)) = true) := List.any_eq_true.2 ⟨b, h.mem, decide_eq_true rfl⟩
  obtain ⟨W0, hW0⟩ : ∃ W, w.alloc (.cells #[.int .i64 b, .int .i64 p] 27) = W := ⟨_, rfl⟩
  have g0 : W0.heap[w.heap.size]? = some (.cells #[.int .i64 b, .int .i64 p] 27) := by rw [← hW0]; exact hpNew w _
  have HB : Hid (Below w.heap.size w W0) := by show Below _ _ _; rw [← hW0]; exact bal' w _
  have c0 : ∀ W, Below W0.heap.size W0 W → W.cell? ⟨w.heap.size, 0, none⟩ = some (.int .i64 b) := fun W hW => hpCell (hpKeep g0 hW) 0
  have c1 : ∀ W, Below W0.heap.size W0 W → W.cell? ⟨w.heap.size, 1, none⟩ = some (.int .i64 p) := fun W hW => hpCell (hpKeep g0 hW) 1
  have d1 : decide (0 ≤ p) = true := decide_eq_true h.lo
  have d2 : decide (p ≤ 2) = true := decide_eq_true h.hi
  have kD : Below W0.heap.size W0 W0.drew := (Below.refl _ _).drew
  have HW0 := hid hW0
  clear h g0 hW0
  go_enter Try.func10, Try.ntmps10
  go_wp2_with fail
  rw [HW0.out]
  go_region_held3 (fun W => Below W0.heap.size W0 W) ((with_reducible (first | exact kD | exact bt kD hb2 (Nat.le_refl _) | assumption))) (first | (go_at_call 21; (with_reducible refine (bauds_any _).mono ?_); rintro r w2 ⟨⟨a2, n2, c2, rfl, hN⟩, hb2⟩) | (go_at_call 20; (with_reducible refine (contI_any _ _ _ _ hN true HV).mono ?_); rintro r w3 ⟨rfl, rfl⟩))
  go_wp2
  go_ret
  exact ⟨rfl, bt HB.out (bt kD hb2 (Nat.le_refl _)) (Nat.le_refl _)⟩
def upI (a b : Int) : Int := (a + b - 1) / b
set_option maxHeartbeats 800000 in
theorem up_any (a b : Int) (h1 : 1 ≤ b) (h2 : b ≤ 115200) (h3 : 0 ≤ a) (h4 : a ≤ 38500000) (w : World) :
    Calls Try.prog 23 #[.int .i64 a, .int .i64 b] w fun r w' => r = .returned (.int .i64 (upI a b)) ∧ w = w' := by
  go_enter Try.func23, Try.ntmps23
  go_wp2
  go_ret
  exact ⟨rfl, rfl⟩
def charT (b : Int) : Int := upI 11000000 b
def t15T (b : Int) : Int := if 19200 < b then 750 else upI 16500000 b
def t35T (b : Int) : Int := if 19200 < b then 1750 else upI 38500000 b
theorem time_bd {b p : Int} (h : Okset b p) : 96 ≤ charT b ∧ charT b ≤ 9167 ∧ 750 ≤ t15T b ∧ t15T b ≤ 13750 ∧ 1750 ≤ t35T b ∧ t35T b ≤ 32084 := by
  have := h.mem
  simp [baudL] at this
  rcases this with rfl | rfl | rfl | rfl | rfl | rfl | rfl | rfl <;> decide
set_option maxRecDepth 100000 in
set_option maxHeartbeats 800000 in
theorem char_ok (b p : Int) (h : Hid (Okset b p)) (w : World) :
    Calls Try.prog 22 #[.agg #[.int .i64 b, .int .i64 p]] w fun r w' => r = .returned (.int .i64 (charT b)) ∧ Below w.heap.size w w' := by
  have HU : Hid (∀ W, Calls Try.prog 23 #[.int .i64 11000000, .int .i64 b] W fun r w' => r = .returned (.int .i64 (charT b)) ∧ W = w') := fun W => up_any _ b (by have := h.out.bd; omega) (by have := h.out.bd; omega) (by decide) (by decide) W
  go_enter Try.func22, Try.ntmps22
  go_wp2_with (first | (go_at_call 10; (with_reducible refine (svalid_ok b p h.out _).mono ?_); rintro r w1 ⟨rfl, hb1⟩; have y0 := hpCell (hpKeep (hpNew w _) hb1) 0) | (go_at_call 23; (with_reducible refine (HU.out _).mono ?_); rintro r w2 ⟨rfl, rfl⟩))
  go_ret
  exact ⟨rfl, bt (bal' w _) hb1 (Nat.le_refl _)⟩
set_option maxRecDepth 100000 in
set_option maxHeartbeats 800000 in
theorem t35_ok (b p : Int) (h : Hid (Okset b p)) (w : World) :
    Calls Try.prog 13 #[.agg #[.int .i64 b, .int .i64 p]] w fun r w' => r = .returned (.int .i64 (t35T b)) ∧ Below w.heap.size w w' := by
  by_cases hs : 19200 < b
  · have HT : Hid (t35T b = 1750) := if_pos hs
    go_enter Try.func13, Try.ntmps13
    go_wp2_with (first | (go_at_call 10; (with_reducible refine (svalid_ok b p h.out _).mono ?_); rintro r w1 ⟨rfl, hb1⟩; have y0 := hpCell (hpKeep (hpNew w _) hb1) 0) | fail)
    go_ret
    exact ⟨by rw [HT.out]; rfl, bt (bal' w _) hb1 (Nat.le_refl _)⟩
  · have HT : Hid (t35T b = upI 38500000 b) := if_neg hs
    have HU : Hid (∀ W, Calls Try.prog 23 #[.int .i64 38500000, .int .i64 b] W fun r w' => r = .returned (.int .i64 (upI 38500000 b)) ∧ W = w') := fun W => up_any _ b (by have := h.out.bd; omega) (by have := h.out.bd; omega) (by decide) (by decide) W
    go_enter Try.func13, Try.ntmps13
    go_wp2_with (first | (go_at_call 10; (with_reducible refine (svalid_ok b p h.out _).mono ?_); rintro r w1 ⟨rfl, hb1⟩; have y0 := hpCell (hpKeep (hpNew w _) hb1) 0) | (go_at_call 23; (with_reducible refine (HU.out _).mono ?_); rintro r w2 ⟨rfl, rfl⟩))
    go_ret
    exact ⟨by rw [HT.out]; rfl, bt (bal' w _) hb1 (Nat.le_refl _)⟩
end Go.Proofs.Ytpkheiaanjhffaa
