/-
  Texts 5 of the claim.
-/
import Derived.Test.YtpkheiaanjhffaaGreatU01
import Derived.Test.YtpkheiaanjhffaaGreatU04
import Derived.Deep.CutRange
import Derived.Laws.Rows
import Derived.Test.YtpkheiaanjhffaaGreatRows
import Derived.Test.YtpkheiaanjhffaaGreatU03
import Derived.Deep.QuietTactic
import Derived.BigQuiet
import Derived.Deep.RegionHeld3
import Derived.Deep.OwnRows
namespace Go.Proofs.YtpkheiaanjhffaaGreat
open Go.RowKit
def Ns (w : World) (v : Value) (l : List Int) : Prop :=
  (∃ a c, v = .slice a l.length c ∧ l.length ≤ c ∧ c ≤ maxLen ∧ (a = none → c = 0) ∧
    (l ≠ [] → ∃ b o, a = some ⟨b, o, none⟩ ∧ ∀ i, i < l.length → w.cell? ⟨b, o + i, none⟩ = some (.int .i64 (l.getD i 0)))) ∧ ∀ n ∈ l, (Lit.int .i64 n).wf = true
theorem Ns.nil (w : World) : Ns w (.slice none 0 0) [] := ⟨⟨none, 0, rfl, Nat.le_refl _, Nat.zero_le _, fun _ => rfl, fun h => absurd rfl h⟩, by simp⟩
theorem Ns.keep {w w' : World} {v : Value} {l : List Int} (h : Ns w v l) (hb : Below w.heap.size w w') : Ns w' v l := by
  obtain ⟨⟨a, c, hv, h1, h2, h3, h4⟩, h5⟩ := h
  refine ⟨⟨a, c, hv, h1, h2, h3, fun hl => ?_⟩, h5⟩
  obtain ⟨b, o, ha, hc⟩ := h4 hl
  exact ⟨b, o, ha, fun i hi => by rw [hb.cell (cell_lt (hc i hi))]; exact hc i hi⟩
theorem Ns.at {w : World} {v : Value} {l : List Int} (h : Ns w v l) (hl : l ≠ []) :
    ∃ b o c, v = .slice (some ⟨b, o, none⟩) l.length c ∧ l.length ≤ c ∧ c ≤ maxLen ∧ ∀ i, i < l.length → w.cell? ⟨b, o + i, none⟩ = some (.int .i64 (l.getD i 0)) := by
  obtain ⟨⟨a, c, hv, h1, h2, h3, h4⟩, _⟩ := h
  obtain ⟨b, o, rfl, hc⟩ := h4 hl
  exact ⟨b, o, c, hv, h1, h2, hc⟩
theorem Ns.row {w : World} {a : Option Addr} {len cap : Nat} {zs : List Int}
    (h : (a = none ∧ len = 0 ∧ cap = 0 ∧ zs = []) ∨
      ∃ x, a = some x ∧ len ≤ cap ∧ cap ≤ maxLen ∧ zs.length = cap ∧ (∀ i, i < zs.length → w.cell? (x.add i) = some (.int .i64 (zs.getD i 0))) ∧ ∀ n ∈ zs, (Lit.int .i64 n).wf = true) :
    ∃ l, Ns w (.slice a len cap) l ∧ l.length = len := by
  rcases h with ⟨rfl, rfl, rfl, rfl⟩ | ⟨x, rfl, hl, hm, hz, hc, hw⟩
  · exact ⟨[], Ns.nil w, rfl⟩
  · have e1 : (zs.take len).length = len := by simp; omega
    refine ⟨zs.take len, ⟨⟨some x, cap, by rw [e1], by omega, hm, fun h => by simp at h, fun hne => ?_⟩, fun n hn => hw n (List.mem_of_mem_take hn)⟩, e1⟩
    have hpos : 0 < len := by
      rcases Nat.eq_zero_or_pos len with h | h
      · subst h; simp at hne
      · exact h
    obtain ⟨b, off, spot⟩ := x
    have h0 := hc 0 (by omega)
    have hspot : spot = none := by simpa [Addr.add] using World.cell?_spot h0
    subst hspot
    refine ⟨b, off, rfl, fun i hi => ?_⟩
    rw [e1] at hi
    have e2 : (⟨b, off, none⟩ : Addr).add i = ⟨b, off + i, none⟩ := by unfold Addr.add; split <;> simp_all
    have h3 := hc i (by omega)
    rw [e2] at h3
    rw [h3]
    simp [List.getD, hi]
def wfI (n : Int) : Prop := -9223372036854775808 ≤ n ∧ n ≤ 9223372036854775807
def IdxI (V : Bool) (r : Ending) : Prop := ∃ i : Int, r = .returned (.int .i64 i) ∧ (0 ≤ i ↔ V = true)
set_option maxRecDepth 100000 in
set_option maxHeartbeats 1600000 in
theorem idxI_any (v : Value) (l : List Int) (x : Int) (w : World) (hl : Ns w v l) (V : Bool) (hV : Hid (l.any (fun y => decide (x = y)) = V)) :
    Calls Tryz.prog 100 #[v, .int .i64 x] w fun r w' => IdxI V r ∧ w = w' := by
  have HL := hid hl
  obtain ⟨⟨a, c, rfl, hnc, hcm, hac, hel⟩, _⟩ := hl
  unfold maxLen at hcm
  obtain ⟨n, hn⟩ : ∃ n, l.length = n := ⟨_, rfl⟩
  have hcell : ∀ k, k < n → ∃ b o, a = some ⟨b, o, none⟩ ∧ w.cell? ⟨b, o + k, none⟩ = some (.int .i64 (l.getD k 0)) := by
    intro k hk
    obtain ⟨b, o, ha, hc⟩ := hel (by rintro rfl; simp at hn; omega)
    exact ⟨b, o, ha, hc k (by omega)⟩
  have hst : ∀ k, k < n → l.take (k + 1) = l.take k ++ [l.getD k 0] := by
    intro k hk
    rw [List.take_succ_eq_append_getElem (by omega)]
    simp [List.getD, hn, hk]
  have HFIN := hid (show l.take n = l by rw [← hn, List.take_length])
  have HST := hid hst
  have HCE := hid hcell
  rw [hn] at hnc ⊢
  clear hel hst hcell hac hn HL
  go_enter Tryz.func100, Tryz.ntmps100
  go_wp2
  go_loop [8] (fun i => ∃ k : Nat, k ≤ n ∧ i = .int .i64 k ∧ Hid ((l.take k).any (fun y => decide (x = y)) = false)) (fun i => n - (intOf i).toNat)
  case atStart => exact ⟨0, Nat.zero_le _, rfl, rfl⟩
  case round =>
    obtain ⟨k, hk, rfl, hno⟩ := hrel
    by_cases hlt : k < n
    · obtain ⟨b, o, rfl, hc⟩ := HCE.out k hlt
      have HS := hid (HST.out k hlt)
      have hkl : (k : Int) < (n : Int) := by omega
      generalize l.getD k 0 = y at *
      by_cases hx : x = y
      · have d : (x == y) = true := by rw [beq_iff_eq]; exact hx
        have HF : Hid (V = true) := by
          show _ = _
          rw [← hV.out]
          refine List.any_eq_true.2 ⟨y, ?_, decide_eq_true hx⟩
          have : y ∈ l.take (k + 1) := by rw [HS.out]; simp
          exact List.mem_of_mem_take this
        clear hx
        go_wp2
        go_ret
        exact ⟨⟨k, rfl, ⟨fun _ => HF.out, fun _ => Int.natCast_nonneg _⟩⟩, rfl⟩
      · have d : (x == y) = false := by rw [beq_eq_false_iff_ne]; exact hx
        have HN : Hid ((l.take (k + 1)).any (fun y => decide (x = y)) = false) := by
          show _ = _
          rw [HS.out, List.any_append, hno.out]
          simp [hx]
        clear hx
        go_wp2
        go_round
        case rel => exact ⟨k + 1, by omega, by go_num, HN⟩
        case measure => simp [intOf]; omega
    · obtain rfl : k = n := by omega
      have HF : Hid (V = false) := by
        have h1 := hno.out
        rw [HFIN.out] at h1
        show _ = _
        rw [← hV.out, h1]
      go_wp2
      go_ret
      exact ⟨⟨-1, rfl, ⟨fun h => absurd h (by decide), fun h => by rw [HF.out] at h; cases h⟩⟩, rfl⟩
set_option maxRecDepth 100000 in
set_option maxHeartbeats 800000 in
theorem contI_any (v : Value) (l : List Int) (x : Int) (w : World) (hl : Ns w v l) (V : Bool) (hV : Hid (l.any (fun y => decide (x = y)) = V)) :
    Calls Tryz.prog 82 #[v, .int .i64 x] w fun r w' => r = .returned (.bool V) ∧ w = w' := by
  have HI := hid (idxI_any v l x w hl V hV)
  obtain ⟨⟨a, c, rfl, _⟩, _⟩ := hl
  clear hV
  go_enter Tryz.func82, Tryz.ntmps82
  go_wp2_with fail
  refine HI.out.mono ?_
  rintro r w1 ⟨⟨i, rfl, hi⟩, rfl⟩
  have HV : Hid (decide (0 ≤ i) = V) := by
    show _ = _
    cases V with
    | true => exact decide_eq_true (hi.2 rfl)
    | false => exact decide_eq_false (fun h => by cases hi.1 h)
  clear hi
  go_wp2
  go_ret
  exact ⟨ret_bool HV.out, rfl⟩
def baudL : List Int := [1200, 2400, 4800, 9600, 19200, 38400, 57600, 115200]
structure Okset (b p : Int) : Prop where
  mem : b ∈ baudL
  lo : 0 ≤ p
  hi : p ≤ 2
theorem Okset.bd {b p : Int} (h : Okset b p) : 1200 ≤ b ∧ b ≤ 115200 := by
  have := h.mem
  simp [baudL] at this
  omega
set_option maxRecDepth 100000 in
set_option maxHeartbeats 800000 in
theorem bauds_any (w : World) : Calls Tryz.prog 83 #[] w fun r w' => (∃ a n c, r = .returned (.slice a n c) ∧ Ns w' (.slice a n c) baudL) ∧ Below w.heap.size w w' := by
  go_enter Tryz.func83, Tryz.ntmps83
  go_wp2
  go_ret
  refine ⟨⟨_, _, _, rfl, ⟨_, 8, rfl, by decide, by unfold maxLen; exact Nat.le_of_ble_eq_true rfl, (fun h => by cases h), fun _ => ⟨w.heap.size, 0, rfl, fun i hi => ?_⟩⟩, ?_⟩, bal' w _⟩
  · rw [hpCell (hpNew w _)]
    have : i < 8 := hi
    rcases (show i = 0 ∨ i = 1 ∨ i = 2 ∨ i = 3 ∨ i = 4 ∨ i = 5 ∨ i = 6 ∨ i = 7 by omega) with rfl | rfl | rfl | rfl | rfl | rfl | rfl | rfl <;> rfl
  · intro n hn
    simp [baudL] at hn
    rcases hn with rfl | rfl | rfl | rfl | rfl | rfl | rfl | rfl <;> rfl
set_option maxRecDepth 100000 in
set_option maxHeartbeats 1600000 in
theorem svalid_ok (b p : Int) (h : Okset b p) (w : World) :
    Calls Tryz.prog 58 #[.agg #[.int .i64 b, .int .i64 p]] w fun r w' => r = .returned (.bool true) ∧ Below w.heap.size w w' := by
  have HV : Hid (baudL.any (fun y => decide (b = y)) = true) := List.any_eq_true.2 ⟨b, h.mem, decide_eq_true rfl⟩
  obtain ⟨W0, hW0⟩ : ∃ W, w.alloc (.cells #[.int .i64 b, .int .i64 p] 30) = W := ⟨_, rfl⟩
  have g0 : W0.heap[w.heap.size]? = some (.cells #[.int .i64 b, .int .i64 p] 30) := by rw [← hW0]; exact hpNew w _
  have HB : Hid (Below w.heap.size w W0) := by show Below _ _ _; rw [← hW0]; exact bal' w _
  have c0 : ∀ W, Below W0.heap.size W0 W → W.cell? ⟨w.heap.size, 0, none⟩ = some (.int .i64 b) := fun W hW => hpCell (hpKeep g0 hW) 0
  have c1 : ∀ W, Below W0.heap.size W0 W → W.cell? ⟨w.heap.size, 1, none⟩ = some (.int .i64 p) := fun W hW => hpCell (hpKeep g0 hW) 1
  have d1 : decide (0 ≤ p) = true := decide_eq_true h.lo
  have d2 : decide (p ≤ 2) = true := decide_eq_true h.hi
  have kD : Below W0.heap.size W0 W0.drew := (Below.refl _ _).drew
  have HW0 := hid hW0
  clear h g0 hW0
  go_enter Tryz.func58, Tryz.ntmps58
  go_wp2_with fail
  rw [HW0.out]
  go_region_held3 (fun W => Below W0.heap.size W0 W) ((with_reducible (first | exact kD | exact bt kD hb2 (Nat.le_refl _) | assumption))) (first | (go_at_call 83; (with_reducible refine (bauds_any _).mono ?_); rintro r w2 ⟨⟨a2, n2, c2, rfl, hN⟩, hb2⟩) | (go_at_call 82; (with_reducible refine (contI_any _ _ _ _ hN true HV).mono ?_); rintro r w3 ⟨rfl, rfl⟩))
  go_wp2
  go_ret
  exact ⟨rfl, bt HB.out (bt kD hb2 (Nat.le_refl _)) (Nat.le_refl _)⟩
def upI (a b : Int) : Int := (a + b - 1) / b
set_option maxHeartbeats 800000 in
theorem up_any (a b : Int) (h1 : 1 ≤ b) (h2 : b ≤ 115200) (h3 : 0 ≤ a) (h4 : a ≤ 38500000) (w : World) :
    Calls Tryz.prog 85 #[.int .i64 a, .int .i64 b] w fun r w' => r = .returned (.int .i64 (upI a b)) ∧ w = w' := by
  go_enter Tryz.func85, Tryz.ntmps85
  go_wp2
  go_ret
  exact ⟨rfl, rfl⟩
def charT (b : Int) : Int := upI 11000000 b
def t15T (b : Int) : Int := if 19200 < b then 750 else upI 16500000 b
def t35T (b : Int) : Int := if 19200 < b then 1750 else upI 38500000 b
theorem time_bd {b p : Int} (h : Okset b p) : 96 ≤ charT b ∧ charT b ≤ 9167 ∧ 750 ≤ t15T b ∧ t15T b ≤ 13750 ∧ 1750 ≤ t35T b ∧ t35T b ≤ 32084 := by
  have := h.mem
  simp [baudL] at this
  rcases this with rfl | rfl | rfl | rfl | rfl | rfl | rfl | rfl <;> decide
set_option maxRecDepth 100000 in
set_option maxHeartbeats 800000 in
theorem char_ok (b p : Int) (h : Hid (Okset b p)) (w : World) :
    Calls Tryz.prog 84 #[.agg #[.int .i64 b, .int .i64 p]] w fun r w' => r = .returned (.int .i64 (charT b)) ∧ Below w.heap.size w w' := by
  have HU : Hid (∀ W, Calls Tryz.prog 85 #[.int .i64 11000000, .int .i64 b] W fun r w' => r = .returned (.int .i64 (charT b)) ∧ W = w') := fun W => up_any _ b (by have := h.out.bd; omega) (by have := h.out.bd; omega) (by decide) (by decide) W
  go_enter Tryz.func84, Tryz.ntmps84
  go_wp2_with (first | (go_at_call 58; (with_reducible refine (svalid_ok b p h.out _).mono ?_); rintro r w1 ⟨rfl, hb1⟩; have y0 := hpCell (hpKeep (hpNew w _) hb1) 0) | (go_at_call 85; (with_reducible refine (HU.out _).mono ?_); rintro r w2 ⟨rfl, rfl⟩))
  go_ret
  exact ⟨rfl, bt (bal' w _) hb1 (Nat.le_refl _)⟩
set_option maxRecDepth 100000 in
set_option maxHeartbeats 800000 in
theorem t35_ok (b p : Int) (h : Hid (Okset b p)) (w : World) :
    Calls Tryz.prog 61 #[.agg #[.int .i64 b, .int .i64 p]] w fun r w' => r = .returned (.int .i64 (t35T b)) ∧ Below w.heap.size w w' := by
  by_cases hs : 19200 < b
  · have HT : Hid (t35T b = 1750) := if_pos hs
    go_enter Tryz.func61, Tryz.ntmps61
    go_wp2_with (first | (go_at_call 58; (with_reducible refine (svalid_ok b p h.out _).mono ?_); rintro r w1 ⟨rfl, hb1⟩; have y0 := hpCell (hpKeep (hpNew w _) hb1) 0) | fail)
    go_ret
    exact ⟨by rw [HT.out]; rfl, bt (bal' w _) hb1 (Nat.le_refl _)⟩
  · have HT : Hid (t35T b = upI 38500000 b) := if_neg hs
    have HU : Hid (∀ W, Calls Tryz.prog 85 #[.int .i64 38500000, .int .i64 b] W fun r w' => r = .returned (.int .i64 (upI 38500000 b)) ∧ W = w') := fun W => up_any _ b (by have := h.out.bd; omega) (by have := h.out.bd; omega) (by decide) (by decide) W
    go_enter Tryz.func61, Tryz.ntmps61
    go_wp2_with (first | (go_at_call 58; (with_reducible refine (svalid_ok b p h.out _).mono ?_); rintro r w1 ⟨rfl, hb1⟩; have y0 := hpCell (hpKeep (hpNew w _) hb1) 0) | (go_at_call 85; (with_reducible refine (HU.out _).mono ?_); rintro r w2 ⟨rfl, rfl⟩))
    go_ret
    exact ⟨by rw [HT.out]; rfl, bt (bal' w _) hb1 (Nat.le_refl _)⟩
set_option maxRecDepth 100000 in
set_option maxHeartbeats 800000 in
theorem rbauds_any (w : World) : Calls Tryz.prog 52 #[] w fun r w' => (∃ b c, r = .returned (.slice (some ⟨b, 0, none⟩) 8 c) ∧ 8 ≤ c ∧ ∀ i, i < 8 → w'.cell? ⟨b, i, none⟩ = some (.int .i64 (baudL.getD i 0))) ∧ Below w.heap.size w w' := by
  go_enter Tryz.func52, Tryz.ntmps52
  go_wp2
  go_ret
  refine ⟨⟨w.heap.size, _, rfl, Nat.le_refl _, fun i hi => ?_⟩, bal' w _⟩
  rw [hpCell (hpNew w _)]
  rcases (show i = 0 ∨ i = 1 ∨ i = 2 ∨ i = 3 ∨ i = 4 ∨ i = 5 ∨ i = 6 ∨ i = 7 by omega) with rfl | rfl | rfl | rfl | rfl | rfl | rfl | rfl <;> rfl
def allS : List (Int × Int) := baudL.flatMap fun b => [(b, 0), (b, 1), (b, 2)]
def setV : List (Int × Int) → List Value
  | [] => []
  | x :: l => .int .i64 x.1 :: .int .i64 x.2 :: setV l
theorem setV_append (l k : List (Int × Int)) : setV (l ++ k) = setV l ++ setV k := by
  induction l with
  | nil => rfl
  | cons x l ih => simp [setV, ih]
theorem setV_length (l : List (Int × Int)) : (setV l).length = l.length * 2 := by
  induction l with
  | nil => rfl
  | cons x l ih => simp [setV, ih]; omega
theorem setV_get : ∀ (l : List (Int × Int)) (i : Nat) (x : Int × Int), l[i]? = some x → (setV l)[i * 2]? = some (.int .i64 x.1) ∧ (setV l)[i * 2 + 1]? = some (.int .i64 x.2)
  | [], i, x, h => by simp at h
  | y :: l, 0, x, h => by
    simp at h
    subst h
    exact ⟨rfl, rfl⟩
  | y :: l, i + 1, x, h => by
    have := setV_get l i x (by simpa using h)
    rw [show (i + 1) * 2 = i * 2 + 2 by omega]
    exact this
theorem allS_len : allS.length = 24 := by decide
theorem allS_step : ∀ k, k < 8 → ∀ q, q < 3 → allS.take (3 * k + q + 1) = allS.take (3 * k + q) ++ [(baudL.getD k 0, (q : Int))] := by decide
theorem allS_ok {x : Int × Int} (h : x ∈ allS) : Okset x.1 x.2 := by
  have h2 : ∀ x ∈ allS, x.1 ∈ baudL ∧ 0 ≤ x.2 ∧ x.2 ≤ 2 := by decide
  exact ⟨(h2 x h).1, (h2 x h).2.1, (h2 x h).2.2⟩
theorem allS_mem {b p : Int} (h : Okset b p) : (b, p) ∈ allS := by
  have h1 := h.mem
  have hp : p = 0 ∨ p = 1 ∨ p = 2 := by have := h.lo; have := h.hi; omega
  simp [baudL] at h1
  rcases h1 with rfl | rfl | rfl | rfl | rfl | rfl | rfl | rfl <;> rcases hp with rfl | rfl | rfl <;> decide
theorem infoS : (Tryz.prog.info? 30).map (fun i => (i.zero, i.size, i.bytes)) = some (some (.agg #[.int .i64 0, .int .i64 0]), 2, 16) := by kernel_rfl
def AllPost (w : World) (r : Ending) (w' : World) : Prop := ∃ v, r = .returned v ∧ w'.ownsRow w.heap.size 30 2 v 24 (setV allS) ∧ Below w.heap.size w w'
set_option maxRecDepth 100000 in
set_option maxHeartbeats 3200000 in
theorem rall_any (w : World) : Calls Tryz.prog 23 #[] w (AllPost w) := by
  obtain ⟨i5, hi, hz0, hz1, hz2⟩ := info_parts infoS
  go_enter Tryz.func23, Tryz.ntmps23
  go_wp2_with fail
  refine (rbauds_any w).mono ?_
  rintro r w1 ⟨⟨b, c, rfl, hc8, hcell⟩, hb1⟩
  have HC := hid hcell
  clear hcell
  have hs1 := hb1.size
  go_wp2
  go_loopw [1, 3, 4] (fun v i _ wr => ∃ k : Nat, k ≤ 8 ∧ i = .int .i64 k ∧ wr.ownsRow w1.heap.size 30 2 v (3 * k) (setV (allS.take (3 * k))) ∧ Below w1.heap.size w1 wr) (fun _ i _ _ => 8 - (intOf i).toNat)
  case atStart => exact ⟨0, by omega, rfl, World.ownsRow_nil _ _ _ _, Below.refl _ _⟩
  case round =>
    obtain ⟨k, hk, rfl, hown, hbr⟩ := hrel
    by_cases hlt : k < 8
    · have hkl : (k : Int) < 8 := by omega
      have HO := hid hown
      clear hown
      obtain ⟨wo, rfl⟩ : ∃ wo : World, wo = wr := ⟨_, rfl⟩
      go_wp2
      go_loopw [1, 4] (fun v q wr => ∃ j : Nat, j ≤ 3 ∧ q = .int .i64 j ∧ wr.ownsRow w1.heap.size 30 2 v (3 * k + j) (setV (allS.take (3 * k + j))) ∧ Below w1.heap.size w1 wr) (fun _ q _ => 3 - (intOf q).toNat)
      case atStart => exact ⟨0, by omega, rfl, HO.out, hbr⟩
      case round =>
        obtain ⟨j, hj, rfl, hown, hbj⟩ := hrel
        by_cases hjt : j < 3
        · have hjl : (j : Int) < 3 := by omega
          have hcb := cell_keep hbj (HC.out k hlt)
          have HS := hid (allS_step k hlt j hjt)
          have hsz := hbj.size
          generalize hE : baudL.getD k 0 = bd at *
          go_wp2_with (at_builtin; refine wpList_appN rfl _ _ 63 rfl w1.heap.size 30 i5 _ 2 16 Tryz.underlying63 hi hz0 hz1 hz2 rfl (by decide) _ (3 * k + j) _ rfl (hown.alloc _) ⟨wr.heap.size, 0, none⟩ 1 1 [.int .i64 bd, .int .i64 (j : Int)] rfl rfl (newsNew wr [.int .i64 bd, .int .i64 (j : Int)] _) (by intro u hu; simp at hu; rcases hu with rfl | rfl <;> rfl) (by unfold maxLen; omega) (by omega) (by simp; omega) ?c1)
          case c1 =>
            intro v' w2 hown2 hgr _
            have hbel : Below w1.heap.size w1 w2 := (bta hbj (Nat.le_refl _) _).grown hgr (bta hbj (Nat.le_refl _) _).size (fun k hk => (hown.lt k hk).1)
            have HO2 : Hid (w2.ownsRow w1.heap.size 30 2 v' (3 * k + (j + 1)) (setV (allS.take (3 * k + (j + 1))))) := by
              rw [← Nat.add_assoc, HS.out, setV_append]
              exact hown2
            clear hown2 hgr
            go_wp2
            go_roundw
            case rel => exact ⟨j + 1, by omega, by go_num, HO2.out, hbel⟩
            case measure => simp [intOf]; omega
        · obtain rfl : j = 3 := by omega
          have HO2 := hid hown
          clear hown
          go_wp2
          go_roundw
          case rel => exact ⟨k + 1, by omega, by go_num, HO2.out, hbj⟩
          case measure => simp [intOf]; omega
    · obtain rfl : k = 8 := by omega
      go_wp2
      go_ret
      refine ⟨_, rfl, own_lower hown hs1, bt hb1 hbr (Nat.le_refl _)⟩
theorem own_setting {w : World} {base : Nat} {E : TypeId} {v : Value} {n : Nat} {l : List (Int × Int)} (h : w.ownsRow base E 2 v n (setV l)) (hl : l ≠ []) : ∃ g c, v = .slice (some ⟨g, 0, none⟩) n c ∧ n ≤ c ∧ c ≤ maxLen ∧ ∀ i x, l[i]? = some x → w.cell? ⟨g, i * 2, none⟩ = some (.int .i64 x.1) ∧ w.cell? ⟨g, i * 2 + 1, none⟩ = some (.int .i64 x.2) := by
  obtain ⟨hlen, h | ⟨g, cap, cur, hv, hb, hh, hnc, hcm, hcs, ht⟩⟩ := h
  · obtain ⟨rfl, h0⟩ := h
    rw [setV_length, h0] at hlen
    exact absurd (List.eq_nil_of_length_eq_zero (by omega)) hl
  · refine ⟨g, cap, hv, hnc, hcm, fun i x hx => ?_⟩
    have hi := (List.getElem?_eq_some_iff.1 hx).1
    have hs := setV_length l
    obtain ⟨h1, h2⟩ := setV_get l i x hx
    have hc : ∀ j, j < l.length * 2 → w.cell? ⟨g, j, none⟩ = (setV l)[j]? := by
      intro j hj
      have := take_get ht j (by omega)
      simp only [World.cell?, hh, Option.isSome_none]
      exact this
    exact ⟨by rw [hc _ (by omega)]; exact h1, by rw [hc _ (by omega)]; exact h2⟩
def frameT (b : Int) (n : Nat) : Int := n * charT b
end Go.Proofs.YtpkheiaanjhffaaGreat
