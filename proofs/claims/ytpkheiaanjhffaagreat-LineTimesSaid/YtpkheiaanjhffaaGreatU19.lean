/-
  Texts 19 of the claim.
-/
import Derived.Test.YtpkheiaanjhffaaGreatU18
import Derived.Test.YtpkheiaanjhffaaGreatU01
import Derived.Deep.RegionHeld3
import Derived.Test.YtpkheiaanjhffaaGreatU04
import Derived.Test.YtpkheiaanjhffaaGreatU02
import Derived.Test.YtpkheiaanjhffaaGreatU03
import Derived.Deep.RegionLaw
import Derived.Deep.CutBlock
import Derived.Deep.CutRange
namespace Go.Proofs.YtpkheiaanjhffaaGreat
open Go.RowKit
theorem crcExt_snoc (c : Nat) (l : List UInt8) (x : UInt8) : crcExt c (l ++ [x]) = crcUpd (crcExt c l) x.toNat := by simp [crcExt]
theorem steps_shift (k y : Nat) : crcSteps k (2 ^ k * y) = y := by
  induction k generalizing y with
  | zero => simp [crcSteps]
  | succ k ih =>
    rw [crcSteps, show 2 ^ (k + 1) * y = 2 ^ k * (2 * y) by rw [Nat.pow_succ, Nat.mul_assoc], ih, step_even]
theorem upd2 (s x y : Nat) : crcUpd (crcUpd s x) y = crcSteps 16 (s ^^^ x ^^^ 256 * y) := by
  have h := steps_shift 8 y
  have h2 : crcSteps 8 (s ^^^ x) ^^^ y = crcSteps 8 (s ^^^ x ^^^ 256 * y) := by
    rw [steps_xor 8 (s ^^^ x)]
    rw [show (256 : Nat) = 2 ^ 8 from rfl, h]
  unfold crcUpd
  rw [h2, ← steps_add]
theorem join_bytes (x y : Nat) (hx : x < 256) : x ^^^ 256 * y = x + 256 * y := by
  apply Nat.eq_of_testBit_eq
  intro i
  rw [Nat.testBit_xor, show x + 256 * y = 2 ^ 8 * y + x by omega, Nat.testBit_two_pow_mul_add y (show x < 2 ^ 8 by omega)]
  rw [show (256 : Nat) = 2 ^ 8 from rfl, Nat.testBit_two_pow_mul]
  by_cases h : i < 8
  · rw [if_pos h]
    have : ¬ (8 ≤ i) := by omega
    simp [this]
  · rw [if_neg h]
    have h1 : x.testBit i = false := Nat.testBit_lt_two_pow (Nat.lt_of_lt_of_le (show x < 2 ^ 8 by omega) (Nat.pow_le_pow_right (by decide) (by omega)))
    have : 8 ≤ i := by omega
    simp [h1, this]
theorem xor_zero_iff (a b : Nat) : a ^^^ b = 0 ↔ a = b := by
  constructor
  · intro h
    have := congrArg (· ^^^ b) h
    simpa [Nat.xor_assoc] using this
  · rintro rfl; exact Nat.xor_self a
theorem upd2_zero (s x y : Nat) (hs : s < 65536) (hx : x < 256) (hy : y < 256) : crcUpd (crcUpd s x) y = 0 ↔ x = s % 256 ∧ y = s / 256 := by
  rw [upd2, Nat.xor_assoc, join_bytes x y hx]
  have hlt : s ^^^ (x + 256 * y) < 65536 := xor16 hs (by omega)
  constructor
  · intro h
    have h0 : s ^^^ (x + 256 * y) = 0 := by
      rcases Nat.eq_zero_or_pos (s ^^^ (x + 256 * y)) with h1 | h1
      · exact h1
      · exact absurd h (steps_ne 16 hlt (by omega))
    have := (xor_zero_iff _ _).1 h0
    omega
  · rintro ⟨h1, h2⟩
    have : s ^^^ (x + 256 * y) = 0 := (xor_zero_iff _ _).2 (by omega)
    rw [this, steps_zero]
theorem split2 (l : List UInt8) (h : 2 ≤ l.length) : l = l.take (l.length - 2) ++ [l.getD (l.length - 2) 0, l.getD (l.length - 1) 0] := by
  apply List.ext_getElem
  · simp; omega
  · intro i h1 h2
    by_cases hi : i < l.length - 2
    · rw [List.getElem_append_left (by simp; omega)]
      simp
    · rw [List.getElem_append_right (by simp; omega)]
      simp only [List.length_take, Nat.min_eq_left (Nat.sub_le _ _)]
      by_cases h3 : i = l.length - 2
      · subst h3; simp [List.getD]; rw [List.getElem?_eq_getElem h1]; rfl
      · have h4 : i = l.length - 1 := by omega
        subst h4
        have h5 : l.length - 1 - (l.length - 2) = 1 := by omega
        simp only [h5]
        simp [List.getD]
        rw [List.getElem?_eq_getElem h1]; rfl
theorem chk_iff (l : List UInt8) : crcChk l = true ↔ 2 ≤ l.length ∧ crcExt 65535 l = 0 := by
  unfold crcChk
  by_cases h : 2 ≤ l.length
  · have hs := crcExt_lt (l.take (l.length - 2)) (show 65535 < 65536 by decide)
    have e : crcExt 65535 l = crcUpd (crcUpd (crcExt 65535 (l.take (l.length - 2))) (l.getD (l.length - 2) 0).toNat) (l.getD (l.length - 1) 0).toNat := by
      conv => lhs; rw [split2 l h]
      rw [show l.take (l.length - 2) ++ [l.getD (l.length - 2) 0, l.getD (l.length - 1) 0] = (l.take (l.length - 2) ++ [l.getD (l.length - 2) 0]) ++ [l.getD (l.length - 1) 0] by simp, crcExt_snoc, crcExt_snoc]
    rw [e, upd2_zero _ _ _ hs (byte_lt _) (byte_lt _)]
    simp [h]
  · simp [h]
theorem crcTail_eq (l : List UInt8) : crcTail l = tail2 (divSum l) := by rw [divSum_eq]; rfl
theorem tail_zero (l : List UInt8) : crcExt 65535 (l ++ crcTail l) = 0 := by
  have hs := crcExt_lt l (show 65535 < 65536 by decide)
  rw [show l ++ crcTail l = (l ++ [UInt8.ofNat (crcExt 65535 l)]) ++ [UInt8.ofNat (crcExt 65535 l / 256)] by simp [crcTail], crcExt_snoc, crcExt_snoc]
  rw [upd2_zero _ _ _ hs (byte_lt _) (byte_lt _)]
  constructor
  · simp
  · simp; omega
theorem chk_tail (l : List UInt8) : crcChk (l ++ crcTail l) = true := (chk_iff _).2 ⟨by simp [crcTail], tail_zero l⟩
theorem rappend_any2 (v : Value) (l : List UInt8) (w : World) (hv : Bs w v l) (hl : l.length ≤ 1000) :
    Calls Tryz.prog 69 #[v] w fun r w' => ∃ v', r = .returned v' ∧ w'.ownsRow w.heap.size 5 1 v' (l.length + 2) (u8s (l ++ crcTail l)) ∧ Below w.heap.size w w' := by
  rw [crcTail_eq]
  exact rappend_any v l w hv hl
theorem own_lit (w : World) (base : Nat) (e : TypeId) (x : UInt8) (hb : base ≤ w.heap.size) :
    (w.alloc (.cells #[.int .u8 (x.toNat : Int)] e)).ownsRow base e 1 (.slice (some ⟨w.heap.size, 0, none⟩) 1 1) [x].length (u8s [x]) :=
  ⟨rfl, .inr ⟨w.heap.size, 1, _, rfl, hb, heap_alloc_new _ _, Nat.le_refl _, by decide, rfl, rfl⟩⟩
theorem Bs.cutAt {w : World} {b o c : Nat} {n : Nat} {l : List UInt8} (h : Bs w (.slice (some ⟨b, o, none⟩) n c) l) (k m : Nat) (hkm : k ≤ m) (hm : m ≤ n) :
    Bs w (.slice (some ⟨b, o + k, none⟩) (m - k) (c - k)) ((l.take m).drop k) := by
  obtain ⟨a', c', hv, h1, h2, h3, h4⟩ := h
  cases hv
  have e : ((l.take m).drop k).length = m - k := by simp; omega
  refine ⟨_, _, by rw [e], by omega, by omega, fun h => by simp at h, fun hne => ?_⟩
  have hl : l ≠ [] := by rintro rfl; simp at hne
  obtain ⟨b', o', hb, hc⟩ := h4 hl
  cases hb
  refine ⟨b, o + k, rfl, fun i hi => ?_⟩
  rw [e] at hi
  rw [Nat.add_assoc, hc (k + i) (by omega)]
  have : ((l.take m).drop k).getD i 0 = l.getD (k + i) 0 := by simp [List.getD]; rw [List.getElem?_take_of_lt (by omega)]
  rw [this]
def aduF (x : UInt8) (l : List UInt8) : List UInt8 := (x :: l) ++ crcTail (x :: l)
theorem aduF_length (x : UInt8) (l : List UInt8) : (aduF x l).length = l.length + 3 := by simp [aduF, crcTail]
set_option maxRecDepth 100000 in
set_option maxHeartbeats 800000 in
theorem poss_yes (u : Int) (h1 : 1 ≤ u) (h2 : u ≤ 247) (w : World) :
    Calls Tryz.prog 43 #[.int .i64 u] w fun r w' => r = .returned (.bool true) ∧ w = w' := by
  go_enter Tryz.func43, Tryz.ntmps43
  go_wp2
  go_ret
  exact ⟨rfl, rfl⟩
set_option maxRecDepth 100000 in
set_option maxHeartbeats 800000 in
theorem poss_no (u : Int) (h1 : u < 1 ∨ 247 < u) (w : World) :
    Calls Tryz.prog 43 #[.int .i64 u] w fun r w' => r = .returned (.bool false) ∧ w = w' := by
  rcases h1 with h1 | h1
  · go_enter Tryz.func43, Tryz.ntmps43
    go_wp2
    go_ret
    exact ⟨rfl, rfl⟩
  · have h2 : 1 ≤ u := by omega
    have hd : decide (u ≤ 247) = false := by simp; omega
    go_enter Tryz.func43, Tryz.ntmps43
    go_wp2
    go_ret
    exact ⟨rfl, rfl⟩
set_option maxRecDepth 100000 in
set_option maxHeartbeats 800000 in
theorem build_range (u : Int) (h1 : u < 1 ∨ 247 < u) (v : Value) (w : World) :
    Calls Tryz.prog 118 #[.int .i64 u, v] w fun r w' => r = .returned (.tuple #[.slice none 0 0, .int .i64 3]) ∧ w = w' := by
  go_enter Tryz.func118, Tryz.ntmps118
  go_wp2_with (first | (go_at_call 43; refine (poss_no _ h1 _).mono ?_; rintro r w1 ⟨rfl, rfl⟩) | fail)
  go_ret2
  exact ⟨rfl, rfl⟩
set_option maxRecDepth 100000 in
set_option maxHeartbeats 800000 in
theorem build_len (u : Int) (h1 : 1 ≤ u) (h2 : u ≤ 247) (v : Value) (l : List UInt8) (hl : l.length < 1 ∨ 253 < l.length) (w : World) (hv : Bs w v l) :
    Calls Tryz.prog 118 #[.int .i64 u, v] w fun r w' => r = .returned (.tuple #[.slice none 0 0, .int .i64 4]) ∧ w = w' := by
  obtain ⟨a, c, rfl, _⟩ := hv
  rcases hl with hl | hl
  · go_enter Tryz.func118, Tryz.ntmps118
    go_wp2_with (first | (go_at_call 43; refine (poss_yes _ h1 h2 _).mono ?_; rintro r w1 ⟨rfl, rfl⟩) | fail)
    go_ret2
    exact ⟨rfl, rfl⟩
  · have h3 : 1 ≤ l.length := by omega
    go_enter Tryz.func118, Tryz.ntmps118
    go_wp2_with (first | (go_at_call 43; refine (poss_yes _ h1 h2 _).mono ?_; rintro r w1 ⟨rfl, rfl⟩) | fail)
    go_ret2
    exact ⟨rfl, rfl⟩
set_option maxRecDepth 100000 in
set_option maxHeartbeats 1600000 in
theorem build_ok (x : UInt8) (h1 : 1 ≤ (x.toNat : Int)) (h2 : (x.toNat : Int) ≤ 247) (v : Value) (l : List UInt8) (h3 : 1 ≤ l.length) (h4 : l.length ≤ 253) (w : World) (hv : Bs w v l) :
    Calls Tryz.prog 118 #[.int .i64 (x.toNat : Int), v] w fun r w' => ∃ v', r = .returned (.tuple #[v', .int .i64 0]) ∧ w'.ownsRow w.heap.size 5 1 v' (l.length + 3) (u8s (aduF x l)) ∧ Below w.heap.size w w' := by
  obtain ⟨i5, hi, hz0, hz1, hz2⟩ := info_parts infoB
  have hb0 : (w.alloc (.cells #[.int .u8 (x.toNat : Int)] 5)).ownsRow w.heap.size 5 1 (.slice (some ⟨w.heap.size, 0, none⟩) 1 1) [x].length (u8s [x]) := own_lit w w.heap.size _ x (Nat.le_refl _)
  have hv1 := hv.keep (bal' w (.cells #[.int .u8 (x.toNat : Int)] 5))
  obtain ⟨a, c, rfl, _⟩ := id hv
  clear hv
  go_enter Tryz.func118, Tryz.ntmps118
  go_wp2_with (first | (go_at_call 43; refine (poss_yes _ h1 h2 _).mono ?_; rintro r w1 ⟨rfl, rfl⟩) | (at_builtin; refine wpList_app rfl _ _ 36 rfl w.heap.size 5 i5 Tryz.underlying36 hi hz0 hz1 hz2 (.slice (some ⟨w.heap.size, 0, none⟩) 1 1) [x] rfl hb0 _ l rfl hv1 ?c1 ?c2 ?c3))
  any_goals first | omega | (simp; done) | (simp; omega)
  case c3 =>
    intro v2 w2 hown hgr
    have hbel := (bal' w (.cells #[.int .u8 (x.toNat : Int)] 5)).grown hgr (bal' w (.cells #[.int .u8 (x.toNat : Int)] 5)).size (by intro k hk; simp [Value.ownBlock] at hk; omega)
    have HB : Hid (Bs w2 v2 (x :: l)) := Bs.own hown
    have hll : (x :: l).length = l.length + 1 := rfl
    have HLL := hid hll
    clear hgr hown hb0 hv1 hll
    go_wp2_with (first | (go_at_call 129; refine (append_any _ _ _ HB.out (by have := HLL.out; omega)).mono ?_; rintro r w3 ⟨v3, rfl, hown3, hbel3⟩) | fail)
    go_ret2
    exact ⟨_, rfl, own_lower hown3 hbel.size, bt hbel hbel3 (Nat.le_refl _)⟩
set_option maxRecDepth 100000 in
set_option maxHeartbeats 800000 in
theorem split_len (v : Value) (l : List UInt8) (hl : l.length < 4 ∨ 256 < l.length) (w : World) (hv : Bs w v l) :
    Calls Tryz.prog 15 #[v] w fun r w' => r = .returned (.tuple #[.int .i64 0, .slice none 0 0, .int .i64 4]) ∧ w = w' := by
  obtain ⟨a, c, rfl, _⟩ := hv
  rcases hl with hl | hl
  · go_enter Tryz.func15, Tryz.ntmps15
    go_wp2
    go_ret3
    exact ⟨rfl, rfl⟩
  · have h3 : 4 ≤ l.length := by omega
    go_enter Tryz.func15, Tryz.ntmps15
    go_wp2
    go_ret3
    exact ⟨rfl, rfl⟩
set_option maxRecDepth 100000 in
set_option maxHeartbeats 800000 in
theorem split_crc (v : Value) (l : List UInt8) (h1 : 4 ≤ l.length) (h2 : l.length ≤ 256) (hc : crcChk l = false) (w : World) (hv : Bs w v l) :
    Calls Tryz.prog 15 #[v] w fun r w' => r = .returned (.tuple #[.int .i64 0, .slice none 0 0, .int .i64 10]) ∧ Below w.heap.size w w' := by
  have HC := hid (check_any v l w hv)
  rw [hc] at HC
  obtain ⟨a, c, rfl, _⟩ := hv
  clear hc
  go_enter Tryz.func15, Tryz.ntmps15
  go_wp2_with (first | (go_at_call 42; refine HC.out.mono ?_; rintro r w1 ⟨rfl, hbel⟩) | fail)
  go_ret3
  exact ⟨rfl, hbel⟩
set_option maxRecDepth 100000 in
set_option maxHeartbeats 800000 in
theorem split_range (v : Value) (l : List UInt8) (h1 : 4 ≤ l.length) (h2 : l.length ≤ 256) (hc : crcChk l = true) (h3 : ((l.getD 0 0).toNat : Int) < 1 ∨ 247 < ((l.getD 0 0).toNat : Int)) (w : World) (hv : Bs w v l) :
    Calls Tryz.prog 15 #[v] w fun r w' => r = .returned (.tuple #[.int .i64 0, .slice none 0 0, .int .i64 3]) ∧ Below w.heap.size w w' := by
  have HC := hid (check_any v l w hv)
  rw [hc] at HC
  obtain ⟨b, o, c, rfl, h4, h5, hcell⟩ := hv.at (by rintro rfl; simp at h1)
  have hc0 : w.cell? ⟨b, o, none⟩ = some (.int .u8 ((l.getD 0 0).toNat : Int)) := hcell 0 (by omega)
  have hx := byte_lt (l.getD 0 0)
  generalize (l.getD 0 0).toNat = x at *
  clear hc hcell hv
  have hp : 0 < l.length := by omega
  go_enter Tryz.func15, Tryz.ntmps15
  go_wp2_with (first | (go_at_call 42; refine HC.out.mono ?_; rintro r w1 ⟨rfl, hbel⟩; replace hc0 := cell_keep hbel hc0) | (go_at_call 43; (with_reducible refine (poss_no _ h3 _).mono ?_); rintro r w2 ⟨rfl, rfl⟩) | fail)
  go_ret3
  exact ⟨rfl, hbel⟩
def aduP (l : List UInt8) : List UInt8 := (l.take (l.length - 2)).drop 1
set_option maxRecDepth 100000 in
set_option maxHeartbeats 1600000 in
theorem split_ok (v : Value) (l : List UInt8) (h1 : 4 ≤ l.length) (h2 : l.length ≤ 256) (hc : crcChk l = true) (h3 : 1 ≤ ((l.getD 0 0).toNat : Int)) (h3' : ((l.getD 0 0).toNat : Int) ≤ 247) (w : World) (hv : Bs w v l) :
    Calls Tryz.prog 15 #[v] w fun r w' => ∃ v', r = .returned (.tuple #[.int .i64 (l.getD 0 0).toNat, v', .int .i64 0]) ∧ w'.ownsRow w.heap.size 5 1 v' (l.length - 3) (u8s (aduP l)) ∧ Below w.heap.size w w' := by
  have HC := hid (check_any v l w hv)
  rw [hc] at HC
  obtain ⟨b, o, c, rfl, h4, h5, hcell⟩ := hv.at (by rintro rfl; simp at h1)
  unfold maxLen at h5
  have hc0 : w.cell? ⟨b, o, none⟩ = some (.int .u8 ((l.getD 0 0).toNat : Int)) := hcell 0 (by omega)
  have HP : Hid (Bs w (.slice (some ⟨b, o + 1, none⟩) (l.length - 2 - 1) (c - 1)) (aduP l)) := hv.cutAt 1 (l.length - 2) (by omega) (by omega)
  have hpl : (aduP l).length = l.length - 3 := by simp [aduP]; omega
  obtain ⟨n, hn⟩ : ∃ n, l.length = n + 3 := ⟨l.length - 3, by omega⟩
  rw [hn] at h1 h2 h4 hpl HP HC ⊢
  rw [show n + 3 - 2 - 1 = n by omega] at HP
  rw [show n + 3 - 3 = n by omega] at hpl ⊢
  generalize (l.getD 0 0).toNat = x at *
  generalize aduP l = p at *
  have HPL := hid hpl
  clear hc hcell hv hn hpl
  go_enter Tryz.func15, Tryz.ntmps15
  go_wp2_with (first | (go_at_call 42; refine HC.out.mono ?_; rintro r w1 ⟨rfl, hbel⟩; replace hc0 := cell_keep hbel hc0) | (go_at_call 43; refine (poss_yes _ h3 h3' _).mono ?_; rintro r w2 ⟨rfl, rfl⟩) | fail)
  have HP1 : Hid (Bs w1.drew (.slice (some ⟨b, o + 1, none⟩) n (c - 1)) p) := HP.out.keep hbel.drew
  have q0 : IntKind.i64.wrap (x : Int) = x := IntWalk.i64_in _ (by omega)
  have q5 : ¬ c = 1 := by omega
  have q1 : (0 : Int) < (n : Int) + 3 := by omega
  have q2 : IntKind.i64.wrap ((n : Int) + 3 - 2) = (n : Int) + 1 := by rw [IntWalk.i64_in _ (by omega)]; omega
  have q3 : (1 : Int) ≤ (n : Int) + 1 := by omega
  have q4 : (n : Int) + 1 ≤ (c : Int) := by omega
  go_region_held3 (fun W => W.cell? ⟨b, o, none⟩ = some (.int .u8 x)) ((first | assumption | (exact cell_keep (by assumption) (by assumption)))) ((go_at_call 44; refine (clone_any _ _ _ HP1.out (by have := HPL.out; omega)).mono ?_; rintro r w3 ⟨v', rfl, hown, hbel3⟩))
  go_wp2
  go_ret3
  exact ⟨_, rfl, by rw [HPL.out] at hown; exact own_lower hown hbel.size, bt hbel.drew hbel3 (Nat.le_refl _)⟩
set_option maxRecDepth 100000 in
set_option maxHeartbeats 1600000 in
theorem rbuild_ok (x : UInt8) (h1 : 1 ≤ (x.toNat : Int)) (h2 : (x.toNat : Int) ≤ 247) (v : Value) (l : List UInt8) (h3 : 1 ≤ l.length) (h4 : l.length ≤ 253) (w : World) (hv : Bs w v l) :
    Calls Tryz.prog 41 #[.int .i64 (x.toNat : Int), v] w fun r w' => ∃ v', r = .returned (.tuple #[v', .int .i64 0]) ∧ w'.ownsRow w.heap.size 5 1 v' (l.length + 3) (u8s (aduF x l)) ∧ Below w.heap.size w w' := by
  obtain ⟨i5, hi, hz0, hz1, hz2⟩ := info_parts infoB
  have hb0 : (w.alloc (.cells #[.int .u8 (x.toNat : Int)] 5)).ownsRow w.heap.size 5 1 (.slice (some ⟨w.heap.size, 0, none⟩) 1 1) [x].length (u8s [x]) := own_lit w w.heap.size _ x (Nat.le_refl _)
  have hv1 := hv.keep (bal' w (.cells #[.int .u8 (x.toNat : Int)] 5))
  obtain ⟨a, c, rfl, _⟩ := id hv
  clear hv
  go_enter Tryz.func41, Tryz.ntmps41
  go_wp2_with (first | (at_builtin; refine wpList_app rfl _ _ 36 rfl w.heap.size 5 i5 Tryz.underlying36 hi hz0 hz1 hz2 (.slice (some ⟨w.heap.size, 0, none⟩) 1 1) [x] rfl hb0 _ l rfl hv1 ?c1 ?c2 ?c3))
  any_goals first | omega | (simp; done) | (simp; omega)
  case c3 =>
    intro v2 w2 hown hgr
    have hbel := (bal' w (.cells #[.int .u8 (x.toNat : Int)] 5)).grown hgr (bal' w (.cells #[.int .u8 (x.toNat : Int)] 5)).size (by intro k hk; simp [Value.ownBlock] at hk; omega)
    have HB : Hid (Bs w2 v2 (x :: l)) := Bs.own hown
    have hll : (x :: l).length = l.length + 1 := rfl
    have HLL := hid hll
    clear hgr hown hb0 hv1 hll
    go_wp2_with (first | (go_at_call 69; refine (rappend_any2 _ _ _ HB.out (by have := HLL.out; omega)).mono ?_; rintro r w3 ⟨v3, rfl, hown3, hbel3⟩) | fail)
    go_ret2
    exact ⟨_, rfl, own_lower hown3 hbel.size, bt hbel hbel3 (Nat.le_refl _)⟩
theorem SplitPost.own {w w' : World} {u : Int} {v : Value} {n : Nat} {p : List UInt8} {e : TypeId} {o : Option (Int × List UInt8)} (hn : p.length = n) (ho : o = some (u, p)) (hown : w'.ownsRow w.heap.size e 1 v n (u8s p)) (hb : Below w.heap.size w w') :
    SplitPost w o (.returned (.tuple #[.int .i64 u, v, .int .i64 0])) w' := by
  subst hn
  have hbs := Bs.own hown
  have hlt := hown.lt
  obtain ⟨a3, c3, rfl, _⟩ := id hbs
  exact ⟨u, a3, _, c3, 0, rfl, hb, .inl ⟨rfl, p, ho, fun W hW => hbs.agree (fun ad had => (hlt ad.block (by rw [had]; rfl)).1) hW⟩⟩
theorem psplit_any (a : Option Addr) (n c : Nat) (l : List UInt8) (w : World) (hb : Bs w (.slice a n c) l) :
    Calls Tryz.prog 15 #[.slice a n c] w (SplitPost w (splitB crcChk l)) := by
  by_cases h1 : l.length < 4 ∨ 256 < l.length
  · refine (split_len _ l h1 w hb).mono ?_
    rintro r w' ⟨rfl, rfl⟩
    exact SplitPost.err (by unfold splitB; rw [if_neg (by omega)]) _ _ _ _ _ (by decide) (Below.refl _ _)
  · cases hc : crcChk l with
    | false =>
      refine (split_crc _ l (by omega) (by omega) hc w hb).mono ?_
      rintro r w' ⟨rfl, h⟩
      exact SplitPost.err (by unfold splitB; rw [if_neg (fun h => by rw [hc] at h; cases h.2.2.1)]) _ _ _ _ _ (by decide) h
    | true =>
      by_cases h2 : ((l.getD 0 0).toNat : Int) < 1 ∨ 247 < ((l.getD 0 0).toNat : Int)
      · refine (split_range _ l (by omega) (by omega) hc h2 w hb).mono ?_
        rintro r w' ⟨rfl, h⟩
        exact SplitPost.err (by unfold splitB; rw [if_neg (fun h => by omega)]) _ _ _ _ _ (by decide) h
      · refine (split_ok _ l (by omega) (by omega) hc (by omega) (by omega) w hb).mono ?_
        rintro r w' ⟨v', rfl, hown, h⟩
        exact SplitPost.own (by simp [aduP]; omega) (by unfold splitB; rw [if_pos ⟨by omega, by omega, hc, by omega, by omega⟩]; rfl) hown h
def buildB (u : Int) (p : List UInt8) : Option (List UInt8) := if 1 ≤ u ∧ u ≤ 247 ∧ 1 ≤ p.length ∧ p.length ≤ 253 then some (aduF (UInt8.ofNat u.toNat) p) else none
def BuildPost (w : World) (o : Option (List UInt8)) (r : Ending) (w' : World) : Prop :=
  ∃ (a : Option Addr) (c : Nat) (e : Int) (f : List UInt8), r = .returned (.tuple #[.slice a f.length c, .int .i64 e]) ∧ w'.ownsRow w.heap.size 5 1 (.slice a f.length c) f.length (u8s f) ∧ Below w.heap.size w w' ∧ ((e = 0 ∧ o = some f) ∨ (e ≠ 0 ∧ o = none ∧ f = []))
theorem BuildPost.err {w : World} {o : Option (List UInt8)} (ho : o = none) (e : Int) (he : e ≠ 0) : BuildPost w o (.returned (.tuple #[.slice none 0 0, .int .i64 e])) w :=
  ⟨none, 0, e, [], rfl, World.ownsRow_nil _ _ _ _, Below.refl _ _, .inr ⟨he, ho, rfl⟩⟩
theorem BuildPost.own {w w' : World} {o : Option (List UInt8)} {v : Value} {n : Nat} {f : List UInt8} (hn : f.length = n) (ho : o = some f) (hown : w'.ownsRow w.heap.size 5 1 v n (u8s f)) (hb : Below w.heap.size w w') :
    BuildPost w o (.returned (.tuple #[v, .int .i64 0])) w' := by
  subst hn
  obtain ⟨a3, c3, rfl, _⟩ := id (Bs.own hown)
  exact ⟨a3, c3, 0, f, rfl, hown, hb, .inl ⟨rfl, ho⟩⟩
theorem byteU {u : Int} (h1 : 1 ≤ u) (h2 : u ≤ 247) : ((UInt8.ofNat u.toNat).toNat : Int) = u := by
  rw [UInt8.toNat_ofNat']; omega
theorem pbuild_any (u : Int) (a : Option Addr) (n c : Nat) (p : List UInt8) (w : World) (hb : Bs w (.slice a n c) p) :
    Calls Tryz.prog 118 #[.int .i64 u, .slice a n c] w (BuildPost w (buildB u p)) := by
  by_cases h1 : u < 1 ∨ 247 < u
  · refine (build_range u h1 _ w).mono ?_
    rintro r w' ⟨rfl, rfl⟩
    exact BuildPost.err (by unfold buildB; rw [if_neg (by omega)]) 3 (by decide)
  · by_cases h2 : p.length < 1 ∨ 253 < p.length
    · refine (build_len u (by omega) (by omega) _ p h2 w hb).mono ?_
      rintro r w' ⟨rfl, rfl⟩
      exact BuildPost.err (by unfold buildB; rw [if_neg (by omega)]) 4 (by decide)
    · have hx := byteU (u := u) (by omega) (by omega)
      have := build_ok (UInt8.ofNat u.toNat) (by omega) (by omega) _ p (by omega) (by omega) w hb
      rw [hx] at this
      refine this.mono ?_
      rintro r w' ⟨v', rfl, hown, h⟩
      exact BuildPost.own (aduF_length _ _) (by unfold buildB; rw [if_pos ⟨by omega, by omega, by omega, by omega⟩]) hown h
theorem bs2 (W : World) (n : Nat) (x y : Int) (h1 : 0 ≤ x) (h2 : x ≤ 255) (h3 : 0 ≤ y) (h4 : y ≤ 255) (hn : n = W.heap.size) : Bs (W.alloc (.cells #[.int .u8 x, .int .u8 y] 5)) (.slice (some ⟨n, 0, none⟩) 2 2) [byteI x, byteI y] := by
  subst hn
  refine Bs.mk (l := [byteI x, byteI y]) (Nat.le_refl 2) (by unfold maxLen; decide) fun i hi => ?_
  rw [World.cell?_alloc_at _ _ _ _ rfl]
  match i, hi with
  | 0, _ => show some (Value.int .u8 x) = some (.int .u8 ((byteI x).toNat : Int)); rw [byteI_val h1 h2]
  | 1, _ => show some (Value.int .u8 y) = some (.int .u8 ((byteI y).toNat : Int)); rw [byteI_val h3 h4]
def EncPost (w : World) (l : List UInt8) (r : Ending) (w' : World) : Prop := ∃ a c, r = .returned (.tuple #[.slice a l.length c, .int .i64 0]) ∧ Bs w' (.slice a l.length c) l ∧ Below w.heap.size w w' ∧ ∀ ad, a = some ad → w.heap.size ≤ ad.block
def mkRq (k a b : Int) : Rq :=
  if k % 6 = 4 then ⟨17, 0, 0, 0, 0⟩ else if k % 6 = 5 then ⟨43, 0, 0, 1 + a % 3, b % 256⟩
  else ⟨1 + k % 6, a % (65536 - (1 + b % limI (1 + k % 6)) + 1), 1 + b % limI (1 + k % 6), 0, 0⟩
theorem mkRq_ok (k a b : Int) : (mkRq k a b).ok = true := by
  have h1 := Int.emod_nonneg k (show (6 : Int) ≠ 0 by decide)
  have h2 := Int.emod_lt_of_pos k (show 0 < (6 : Int) by decide)
  unfold mkRq
  by_cases h4 : k % 6 = 4
  · rw [if_pos h4]; rfl
  · rw [if_neg h4]
    by_cases h5 : k % 6 = 5
    · rw [if_pos h5]
      simp only [Rq.ok]
      simp
      omega
    · rw [if_neg h5]
      obtain ⟨L, hL⟩ : ∃ L, limI (1 + k % 6) = L := ⟨_, rfl⟩
      have hl : 0 < L ∧ L ≤ 2000 := by
        rw [← hL]; unfold limI
        repeat' split
        all_goals omega
      simp only [Rq.ok]
      rw [if_pos ⟨by omega, by omega⟩, hL]
      have h6 := Int.emod_nonneg b (show L ≠ 0 by omega)
      have h7 := Int.emod_lt_of_pos b hl.1
      have h8 := Int.emod_nonneg a (show 65536 - (1 + b % L) + 1 ≠ 0 by omega)
      have h9 := Int.emod_lt_of_pos a (show 0 < 65536 - (1 + b % L) + 1 by omega)
      simp
      omega
set_option maxRecDepth 100000 in
set_option maxHeartbeats 3200000 in
theorem make_any (k a b : Int) (hk : (Lit.int .i64 k).wf = true) (ha : (Lit.int .i64 a).wf = true) (hb : (Lit.int .i64 b).wf = true) (w : World) :
    Calls Tryz.prog 12 #[.int .i64 k, .int .i64 a, .int .i64 b] w fun r w' => r = .returned (.agg #[.int .i64 (mkRq k a b).fn, .int .i64 (mkRq k a b).addr, .int .i64 (mkRq k a b).qty, .int .i64 (mkRq k a b).code, .int .i64 (mkRq k a b).obj]) ∧ Below w.heap.size w w' := by
  have h1 := Int.emod_nonneg k (show (6 : Int) ≠ 0 by decide)
  have h2 := Int.emod_lt_of_pos k (show 0 < (6 : Int) by decide)
  have HM : Hid (∀ W, Calls Tryz.prog 11 #[.int .i64 k, .int .i64 6] W fun r w' => r = .returned (.int .i64 (k % 6)) ∧ W = w') := fun W => mod_any k 6 (by decide) (by decide) hk W
  have HB0 : Hid (∀ X : Obj, Below w.heap.size w (w.alloc X)) := fun X => bal' w X
  obtain ⟨R, hR⟩ : ∃ R, mkRq k a b = R := ⟨_, rfl⟩
  rw [hR]
  unfold mkRq at hR
  obtain ⟨m, hm⟩ : ∃ m, k % 6 = m := ⟨_, rfl⟩
  rw [hm] at h1 h2 HM hR
  clear hm hk
  by_cases h4 : m = 4
  · subst h4
    rw [if_pos rfl] at hR
    subst hR
    clear ha hb h1 h2
    go_enter Tryz.func12, Tryz.ntmps12
    go_wp2_with (go_at_call 11; (with_reducible refine (HM.out _).mono ?_); rintro r w1 ⟨rfl, rfl⟩)
    exact bodyPost_ret (v := .agg #[.int .i64 17, .int .i64 0, .int .i64 0, .int .i64 0, .int .i64 0]) (by simp [results, Tryz.results12, go_sem]) rfl ⟨rfl, by repeat (first | exact HB0.out _ | refine Below.setCell ?_ (by simp) _)⟩
  · rw [if_neg h4] at hR
    by_cases h5 : m = 5
    · subst h5
      rw [if_pos rfl] at hR
      subst hR
      have HA : Hid (∀ W, Calls Tryz.prog 11 #[.int .i64 a, .int .i64 3] W fun r w' => r = .returned (.int .i64 (a % 3)) ∧ W = w') := fun W => mod_any a 3 (by decide) (by decide) ha W
      have HBB : Hid (∀ W, Calls Tryz.prog 11 #[.int .i64 b, .int .i64 256] W fun r w' => r = .returned (.int .i64 (b % 256)) ∧ W = w') := fun W => mod_any b 256 (by decide) (by decide) hb W
      have a1 := Int.emod_nonneg a (show (3 : Int) ≠ 0 by decide)
      have a2 := Int.emod_lt_of_pos a (show 0 < (3 : Int) by decide)
      clear ha hb h1 h2 h4
      generalize a % 3 = x at *
      generalize b % 256 = y at *
      go_enter Tryz.func12, Tryz.ntmps12
      go_wp2_with (first | (go_at_call 11; (with_reducible refine (HM.out _).mono ?_); rintro r w1 ⟨rfl, rfl⟩) | (go_at_call 11; (with_reducible refine (HA.out _).mono ?_); rintro r w1 ⟨rfl, rfl⟩) | (go_at_call 11; (with_reducible refine (HBB.out _).mono ?_); rintro r w1 ⟨rfl, rfl⟩))
      exact bodyPost_ret (v := .agg #[.int .i64 43, .int .i64 0, .int .i64 0, .int .i64 (1 + x), .int .i64 y]) (by simp [results, Tryz.results12, go_sem]) rfl ⟨rfl, by repeat (first | exact HB0.out _ | refine Below.setCell ?_ (by simp) _)⟩
    · rw [if_neg h5] at hR
      obtain ⟨f, hf⟩ : ∃ f, 1 + m = f := ⟨_, rfl⟩
      rw [hf] at hR
      obtain ⟨L, hL⟩ : ∃ L, limI f = L := ⟨_, rfl⟩
      have HLM : Hid (∀ W, Calls Tryz.prog 39 #[.int .i64 f] W fun r w' => r = .returned (.int .i64 L) ∧ W = w') := fun W => by rw [← hL]; exact rlimit_any f W
      have hl : 0 < L ∧ L ≤ 2000 := by
        rw [← hL]; unfold limI
        repeat' split
        all_goals omega
      rw [hL] at hR
      have b1 := Int.emod_nonneg b (show L ≠ 0 by omega)
      have b2 := Int.emod_lt_of_pos b hl.1
      have HBB : Hid (∀ W, Calls Tryz.prog 11 #[.int .i64 b, .int .i64 L] W fun r w' => r = .returned (.int .i64 (b % L)) ∧ W = w') := fun W => mod_any b L hl.1 (by omega) hb W
      have HA : Hid (∀ W, Calls Tryz.prog 11 #[.int .i64 a, .int .i64 (65536 - (1 + b % L) + 1)] W fun r w' => r = .returned (.int .i64 (a % (65536 - (1 + b % L) + 1))) ∧ W = w') := fun W => mod_any a _ (by omega) (by omega) ha W
      subst hR
      generalize b % L = y at *
      generalize a % (65536 - (1 + y) + 1) = x at *
      have hy : y ≤ 1999 := by omega
      have k5 : (1 + m == 5) = false := by rw [beq_eq_false_iff_ne]; omega
      have k6 : (1 + m == 6) = false := by rw [beq_eq_false_iff_ne]; omega
      clear ha hb hL hl b2
      rw [← hf] at HLM ⊢
      clear hf f h4 h5
      go_enter Tryz.func12, Tryz.ntmps12
      go_wp2_with (first | (go_at_call 11; (with_reducible refine (HM.out _).mono ?_); rintro r w1 ⟨rfl, rfl⟩) | (go_at_call 39; (with_reducible refine (HLM.out _).mono ?_); rintro r w1 ⟨rfl, rfl⟩) | (go_at_call 11; (with_reducible refine (HBB.out _).mono ?_); rintro r w1 ⟨rfl, rfl⟩) | (go_at_call 11; (with_reducible refine (HA.out _).mono ?_); rintro r w1 ⟨rfl, rfl⟩))
      exact bodyPost_ret (v := .agg #[.int .i64 (1 + m), .int .i64 x, .int .i64 (1 + y), .int .i64 0, .int .i64 0]) (by simp [results, Tryz.results12, go_sem]) rfl ⟨rfl, by repeat (first | exact HB0.out _ | refine Below.setCell ?_ (by simp) _)⟩
theorem Obs.capOf {w : World} {a : Option Addr} {n c : Nat} {l : List Ob} (h : Obs w (.slice a n c) l) : l.length = n := by
  obtain ⟨_, _, hv, _⟩ := h
  cases hv; rfl
theorem RpIs.zero (w : World) : RpIs w Rp.zero none 0 none 0 := ⟨Bs.nil _, Obs.nil _, by decide, by decide⟩
end Go.Proofs.YtpkheiaanjhffaaGreat
