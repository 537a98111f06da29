/-
  Plain Lean: what the checksum detects.
-/
import Derived.Test.YtpmidoneoonlcaaGreatCrcMath
import Derived.Test.YtpmidoneoonlcaaGreatCrc
namespace Go.Proofs.YtpmidoneoonlcaaGreat
open Go.RowKit

theorem crcExt_snoc (c : Nat) (l : List UInt8) (x : UInt8) : crcExt c (l ++ [x]) = crcUpd (crcExt c l) x.toNat := by simp [crcExt]

theorem steps_shift (k y : Nat) : crcSteps k (2 ^ k * y) = y := by
  induction k generalizing y with
  | zero => simp [crcSteps]
  | succ k ih =>
    rw [crcSteps, show 2 ^ (k + 1) * y = 2 ^ k * (2 * y) by rw [Nat.pow_succ, Nat.mul_assoc], ih, step_even]

/-- Two bytes more. -/
theorem upd2 (s x y : Nat) : crcUpd (crcUpd s x) y = crcSteps 16 (s ^^^ x ^^^ 256 * y) := by
  have h := steps_shift 8 y
  have h2 : crcSteps 8 (s ^^^ x) ^^^ y = crcSteps 8 (s ^^^ x ^^^ 256 * y) := by
    rw [steps_xor 8 (s ^^^ x)]
    rw [show (256 : Nat) = 2 ^ 8 from rfl, h]
  unfold crcUpd
  rw [h2, ← steps_add]

theorem join_bytes (x y : Nat) (hx : x < 256) : x ^^^ 256 * y = x + 256 * y := by
  apply Nat.eq_of_testBit_eq
  intro i
  rw [Nat.testBit_xor, show x + 256 * y = 2 ^ 8 * y + x by omega, Nat.testBit_two_pow_mul_add y (show x < 2 ^ 8 by omega)]
  rw [show (256 : Nat) = 2 ^ 8 from rfl, Nat.testBit_two_pow_mul]
  by_cases h : i < 8
  · rw [if_pos h]
    have : ¬ (8 ≤ i) := by omega
    simp [this]
  · rw [if_neg h]
    have h1 : x.testBit i = false := Nat.testBit_lt_two_pow (Nat.lt_of_lt_of_le (show x < 2 ^ 8 by omega) (Nat.pow_le_pow_right (by decide) (by omega)))
    have : 8 ≤ i := by omega
    simp [h1, this]

theorem xor_zero_iff (a b : Nat) : a ^^^ b = 0 ↔ a = b := by
  constructor
  · intro h
    have := congrArg (· ^^^ b) h
    simpa [Nat.xor_assoc] using this
  · rintro rfl; exact Nat.xor_self a

theorem upd2_zero (s x y : Nat) (hs : s < 65536) (hx : x < 256) (hy : y < 256) : crcUpd (crcUpd s x) y = 0 ↔ x = s % 256 ∧ y = s / 256 := by
  rw [upd2, Nat.xor_assoc, join_bytes x y hx]
  have hlt : s ^^^ (x + 256 * y) < 65536 := xor16 hs (by omega)
  constructor
  · intro h
    have h0 : s ^^^ (x + 256 * y) = 0 := by
      rcases Nat.eq_zero_or_pos (s ^^^ (x + 256 * y)) with h1 | h1
      · exact h1
      · exact absurd h (steps_ne 16 hlt (by omega))
    have := (xor_zero_iff _ _).1 h0
    omega
  · rintro ⟨h1, h2⟩
    have : s ^^^ (x + 256 * y) = 0 := (xor_zero_iff _ _).2 (by omega)
    rw [this, steps_zero]

theorem split2 (l : List UInt8) (h : 2 ≤ l.length) : l = l.take (l.length - 2) ++ [l.getD (l.length - 2) 0, l.getD (l.length - 1) 0] := by
  apply List.ext_getElem
  · simp; omega
  · intro i h1 h2
    by_cases hi : i < l.length - 2
    · rw [List.getElem_append_left (by simp; omega)]
      simp
    · rw [List.getElem_append_right (by simp; omega)]
      simp only [List.length_take, Nat.min_eq_left (Nat.sub_le _ _)]
      by_cases h3 : i = l.length - 2
      · subst h3; simp [List.getD]; rw [List.getElem?_eq_getElem h1]; rfl
      · have h4 : i = l.length - 1 := by omega
        subst h4
        have h5 : l.length - 1 - (l.length - 2) = 1 := by omega
        simp only [h5]
        simp [List.getD]
        rw [List.getElem?_eq_getElem h1]; rfl

theorem chk_iff (l : List UInt8) : crcChk l = true ↔ 2 ≤ l.length ∧ crcExt 65535 l = 0 := by
  unfold crcChk
  by_cases h : 2 ≤ l.length
  · have hs := crcExt_lt (l.take (l.length - 2)) (show 65535 < 65536 by decide)
    have e : crcExt 65535 l = crcUpd (crcUpd (crcExt 65535 (l.take (l.length - 2))) (l.getD (l.length - 2) 0).toNat) (l.getD (l.length - 1) 0).toNat := by
      conv => lhs; rw [split2 l h]
      rw [show l.take (l.length - 2) ++ [l.getD (l.length - 2) 0, l.getD (l.length - 1) 0] = (l.take (l.length - 2) ++ [l.getD (l.length - 2) 0]) ++ [l.getD (l.length - 1) 0] by simp, crcExt_snoc, crcExt_snoc]
    rw [e, upd2_zero _ _ _ hs (byte_lt _) (byte_lt _)]
    simp [h]
  · simp [h]

theorem crcTail_eq (l : List UInt8) : crcTail l = tail2 (divSum l) := by rw [divSum_eq]; rfl

theorem tail_zero (l : List UInt8) : crcExt 65535 (l ++ crcTail l) = 0 := by
  have hs := crcExt_lt l (show 65535 < 65536 by decide)
  rw [show l ++ crcTail l = (l ++ [UInt8.ofNat (crcExt 65535 l)]) ++ [UInt8.ofNat (crcExt 65535 l / 256)] by simp [crcTail], crcExt_snoc, crcExt_snoc]
  rw [upd2_zero _ _ _ hs (byte_lt _) (byte_lt _)]
  constructor
  · simp
  · simp; omega

theorem chk_tail (l : List UInt8) : crcChk (l ++ crcTail l) = true := (chk_iff _).2 ⟨by simp [crcTail], tail_zero l⟩

/-- The reference's Check is the program's. -/
theorem rchk_eq (l : List UInt8) : (decide (2 ≤ l.length) && (l.take (l.length - 2) ++ tail2 (divSum (l.take (l.length - 2))) == l)) = crcChk l := by
  by_cases h : 2 ≤ l.length
  · rw [decide_eq_true h, Bool.true_and]
    have hs := crcExt_lt (l.take (l.length - 2)) (show 65535 < 65536 by decide)
    rw [divSum_eq]
    unfold crcChk
    rw [decide_eq_true h, Bool.true_and]
    generalize crcExt 65535 (l.take (l.length - 2)) = s at *
    have h0 := byte_lt (l.getD (l.length - 2) 0)
    have h1 := byte_lt (l.getD (l.length - 1) 0)
    rw [Bool.eq_iff_iff]
    simp only [beq_iff_eq, Bool.and_eq_true]
    constructor
    · intro he
      have this := List.append_cancel_left (he.trans (split2 l h))
      simp only [tail2, List.cons.injEq, and_true] at this
      obtain ⟨e1, e2⟩ := this
      constructor
      · rw [← e1]; simp
      · rw [← e2]; simp; omega
    · rintro ⟨e1, e2⟩
      conv => rhs; rw [split2 l h]
      congr 1
      unfold tail2
      rw [show UInt8.ofNat s = l.getD (l.length - 2) 0 by apply UInt8.toNat_inj.1; rw [e1]; simp, show UInt8.ofNat (s / 256) = l.getD (l.length - 1) 0 by apply UInt8.toNat_inj.1; rw [e2]; simp; omega]
  · unfold crcChk
    rw [decide_eq_false h]
    rfl

/-! ### Changed bits -/

/-- If the bits of g are those of f but for the errors e, and f is whole, then g passes only if e leaves the register 0 at 0. -/
theorem chk_err (f g : List UInt8) (e : Nat → Bool) (hl : g.length = f.length) (hf : crcExt 65535 f = 0) (hb : ∀ p, p < 8 * f.length → bitAt g p = (bitAt f p ^^ e p))
    (he : bfold 0 e (8 * f.length) ≠ 0) : crcChk g = false := by
  have h1 : crcExt 65535 g = bfold 0 e (8 * f.length) := by
    rw [ext_bits, hl, bfold_congr _ hb]
    have := bfold_xor 65535 0 (bitAt f) e (8 * f.length)
    rw [Nat.xor_zero] at this
    rw [this, ← ext_bits, hf, Nat.zero_xor]
  cases hc : crcChk g with
  | false => rfl
  | true => exact absurd (h1 ▸ ((chk_iff g).1 hc).2) he

theorem bfold_num (e : Nat → Bool) (r : Nat) : bfold 0 e r = crcSteps r (numOf e r) := by
  have h := steps_bits 0 (numOf e r) r
  rw [Nat.zero_xor, Nat.div_eq_of_lt (numOf_lt e r), Nat.xor_zero] at h
  rw [h]
  apply bfold_congr
  intro p hp
  rw [numOf_bit]
  simp [hp]

/-- A burst of at most 16 bits, the first of them changed. -/
theorem burst_ne (e : Nat → Bool) (a n : Nat) (han : a < n) (h0 : ∀ p, p < a → e p = false) (h1 : e a = true) (h2 : ∀ p, a + 16 ≤ p → e p = false) : bfold 0 e n ≠ 0 := by
  obtain ⟨r, hr, hr1, hr2⟩ : ∃ r, 0 < r ∧ r ≤ 16 ∧ (a + r = n ∨ (r = 16 ∧ a + r ≤ n)) := by
    by_cases h : n - a ≤ 16
    · exact ⟨n - a, by omega, h, .inl (by omega)⟩
    · exact ⟨16, by omega, by omega, .inr ⟨rfl, by omega⟩⟩
  have hx : bfold 0 e (a + r) ≠ 0 := by
    rw [bfold_add, bfold_zeros 0 e a h0, steps_zero, bfold_num]
    refine steps_ne r (Nat.lt_of_lt_of_le (numOf_lt _ r) (show 2 ^ r ≤ 2 ^ 16 from Nat.pow_le_pow_right (by decide) hr1)) ?_
    intro hz
    have := numOf_bit (fun p => e (a + p)) r 0
    rw [hz] at this
    simp [hr, h1] at this
  rcases hr2 with h | ⟨h, h'⟩
  · rw [← h]; exact hx
  · obtain ⟨q, rfl⟩ : ∃ q, n = a + r + q := ⟨n - (a + r), by omega⟩
    rw [bfold_add, bfold_zeros _ _ q (fun p _ => h2 _ (by omega))]
    exact steps_ne q (bfold_lt (by decide) e _) hx

/-- The parity of the first n bits. -/
def parE (e : Nat → Bool) : Nat → Bool
  | 0 => false
  | n + 1 => parE e n ^^ e n
theorem parE_xor (f g : Nat → Bool) (n : Nat) : parE (fun k => f k ^^ g k) n = (parE f n ^^ parE g n) := by
  induction n with
  | zero => rfl
  | succ n ih =>
    simp only [parE, ih]
    cases parE f n <;> cases parE g n <;> cases f n <;> cases g n <;> rfl
theorem parE_and (d : Bool) (f : Nat → Bool) (n : Nat) : parE (fun k => d && f k) n = (d && parE f n) := by
  induction n with
  | zero => simp [parE]
  | succ n ih =>
    simp only [parE, ih]
    cases d <;> rfl
theorem parE_shift (f : Nat → Bool) (n : Nat) : parE f (n + 1) = (f 0 ^^ parE (fun k => f (k + 1)) n) := by
  induction n with
  | zero => simp [parE]
  | succ n ih =>
    rw [parE, ih, parE, Bool.xor_assoc]
theorem parE_congr {f g : Nat → Bool} (n : Nat) (h : ∀ k, k < n → f k = g k) : parE f n = parE g n := by
  induction n with
  | zero => rfl
  | succ n ih => rw [parE, parE, ih (fun k hk => h k (by omega)), h n (by omega)]
/-- The parity of a number's 16 bits. -/
def par (c : Nat) : Bool := parE c.testBit 16
theorem par_xor (a b : Nat) : par (a ^^^ b) = (par a ^^ par b) := by
  unfold par
  rw [← parE_xor]
  exact parE_congr 16 (fun k _ => Nat.testBit_xor ..)
theorem par_step {u : Nat} (hu : u < 65536) : par (crcStep u) = par u := by
  have h16 := high_bit hu 16 (Nat.le_refl _)
  unfold par
  rw [parE_congr 16 (fun k _ => step_bit u k), parE_xor, parE_and]
  have hp : parE (fun k => decide (k = 0) || decide (k = 13) || decide (k = 15)) 16 = true := by decide
  rw [hp, Bool.and_true]
  have h1 := parE_shift u.testBit 16
  rw [parE, h16, Bool.xor_false] at h1
  rw [h1, Bool.xor_comm]
theorem par_bit (b : Bool) : par b.toNat = b := by cases b <;> decide
theorem par_fold (e : Nat → Bool) (n : Nat) : par (bfold 0 e n) = parE e n := by
  induction n with
  | zero => show par 0 = false; decide
  | succ n ih =>
    rw [bfold, par_step (xor16 (bfold_lt (by decide) e n) (by cases e n <;> decide)), par_xor, ih, parE, par_bit]
theorem odd_ne (e : Nat → Bool) (n : Nat) (h : parE e n = true) : bfold 0 e n ≠ 0 := by
  intro h0
  have := par_fold e n
  rw [h0, h] at this
  exact absurd this (by decide)

/-- The register 1 does not come back within 2048 steps. -/
def noBack : Nat → Nat → Bool
  | 0, _ => true
  | n + 1, c => (c != 1) && noBack n (crcStep c)
theorem noBack_steps (n : Nat) : ∀ c, noBack n c = true → ∀ d, d < n → crcSteps d c ≠ 1 := by
  induction n with
  | zero => intro c _ d hd; omega
  | succ n ih =>
    intro c h d hd
    simp only [noBack, Bool.and_eq_true, bne_iff_ne] at h
    cases d with
    | zero => exact h.1
    | succ d =>
      have := ih _ h.2 d (by omega)
      rwa [show d + 1 = d + 1 from rfl, steps_add d 1 c]
theorem no_back : noBack 2047 (crcStep 1) = true := by decide +kernel
theorem back_ne (d : Nat) (h0 : 0 < d) (h : d < 2048) : crcSteps d 1 ≠ 1 := by
  obtain ⟨k, rfl⟩ : ∃ k, d = k + 1 := ⟨d - 1, by omega⟩
  rw [steps_add k 1 1]
  exact noBack_steps 2047 _ no_back k (by omega)

/-- Two changed bits. -/
theorem beq_ne {p i : Nat} (h : p ≠ i) : (p == i) = false := by simpa using h
theorem two_off {i k p : Nat} (h1 : p ≠ i) (h2 : p ≠ k) : ((p == i) ^^ (p == k)) = false := by rw [beq_ne h1, beq_ne h2]; rfl

theorem two_ne (i k n : Nat) (hik : i < k) (hk : k < n) (hn : n ≤ 2048) : bfold 0 (fun p => (p == i) ^^ (p == k)) n ≠ 0 := by
  have h1 : bfold 0 (fun p => (p == i) ^^ (p == k)) (i + 1) = crcStep 1 := by
    rw [bfold, bfold_zeros _ _ i (fun p hp => two_off (by omega) (by omega)), steps_zero, beq_ne (show i ≠ k by omega)]
    simp
  obtain ⟨d, rfl⟩ : ∃ d, k = i + 1 + d := ⟨k - (i + 1), by omega⟩
  have h2 : bfold 0 (fun p => (p == i) ^^ (p == i + 1 + d)) (i + 1 + d + 1) = crcStep (crcSteps (d + 1) 1 ^^^ 1) := by
    rw [bfold, bfold_add, h1, bfold_zeros _ _ d (fun p hp => two_off (by omega) (by omega)), beq_ne (show i + 1 + d ≠ i by omega), steps_add d 1 1]
    simp [crcSteps]
  obtain ⟨q, rfl⟩ : ∃ q, n = i + 1 + d + 1 + q := ⟨n - (i + 1 + d + 1), by omega⟩
  rw [bfold_add, h2, bfold_zeros _ _ q (fun p hp => two_off (by omega) (by omega))]
  have hlt := crcSteps_lt (d + 1) (show 1 < 65536 by decide)
  refine steps_ne q (crcStep_lt (xor16 hlt (by decide))) (step_ne (xor16 hlt (by decide)) ?_)
  intro h
  exact back_ne (d + 1) (by omega) (by omega) ((xor_zero_iff _ _).1 h)

theorem rsum_any2 (v : Value) (l : List UInt8) (w : World) (hv : Bs w v l) (hl : l.length ≤ 1000) :
    Calls Tryz.prog 106 #[v] w fun r w' => r = .returned (.int .u16 (crcExt 65535 l)) ∧ Below w.heap.size w w' := by
  rw [← divSum_eq]
  exact rsum_any v l w hv hl
theorem rappend_any2 (v : Value) (l : List UInt8) (w : World) (hv : Bs w v l) (hl : l.length ≤ 1000) :
    Calls Tryz.prog 97 #[v] w fun r w' => ∃ v', r = .returned v' ∧ w'.ownsRow w.heap.size 5 1 v' (l.length + 2) (u8s (l ++ crcTail l)) ∧ Below w.heap.size w w' := by
  rw [crcTail_eq]
  exact rappend_any v l w hv hl
theorem rcheck_any2 (v : Value) (l : List UInt8) (w : World) (hv : Bs w v l) (hl : l.length ≤ 1000) :
    Calls Tryz.prog 82 #[v] w fun r w' => r = .returned (.bool (crcChk l)) ∧ Below w.heap.size w w' := by
  rw [← rchk_eq]
  exact rcheck_any v l w hv hl


end Go.Proofs.YtpmidoneoonlcaaGreat
