/-
  Texts 21 of the claim.
-/
import Derived.Test.YtpkheiaanjhffaaGreatS20
import Derived.Test.YtpkheiaanjhffaaGreatS01
import Derived.Test.YtpkheiaanjhffaaGreatS02
import Derived.Deep.RegionHeld3
import Derived.WalkKit
namespace Go.Proofs.YtpkheiaanjhffaaGreat
open Go.RowKit
def splitB (chk : List UInt8 → Bool) (l : List UInt8) : Option (Int × List UInt8) :=
  if 4 ≤ l.length ∧ l.length ≤ 256 ∧ chk l = true ∧ 1 ≤ ((l.getD 0 0).toNat : Int) ∧ ((l.getD 0 0).toNat : Int) ≤ 247 then some (((l.getD 0 0).toNat : Int), (l.take (l.length - 2)).drop 1) else none
def SplitPost (w : World) (o : Option (Int × List UInt8)) (r : Ending) (w' : World) : Prop :=
  ∃ (u : Int) (a : Option Addr) (n c : Nat) (e : Int), r = .returned (.tuple #[.int .i64 u, .slice a n c, .int .i64 e]) ∧ Below w.heap.size w w' ∧
    ((e = 0 ∧ ∃ p, o = some (u, p) ∧ ∀ W, Agree w.heap.size w' W → Bs W (.slice a n c) p) ∨ (e ≠ 0 ∧ o = none))
theorem SplitPost.err {w : World} {o : Option (Int × List UInt8)} {w' : World} (ho : o = none) (u : Int) (a : Option Addr) (n c : Nat) (e : Int) (he : e ≠ 0) (hb : Below w.heap.size w w') :
    SplitPost w o (.returned (.tuple #[.int .i64 u, .slice a n c, .int .i64 e])) w' := ⟨u, a, n, c, e, rfl, hb, .inr ⟨he, ho⟩⟩
end Go.Proofs.YtpkheiaanjhffaaGreat

namespace Go.Proofs.YtpkheiaanjhffaaGreat
open Go.RowKit
def crcStep (c : Nat) : Nat := if c % 2 = 1 then (c / 2) ^^^ 40961 else c / 2
def crcSteps : Nat → Nat → Nat
  | 0, c => c
  | k + 1, c => crcStep (crcSteps k c)
def crcUpd (c b : Nat) : Nat := crcSteps 8 (c ^^^ b)
def crcExt (c : Nat) (l : List UInt8) : Nat := l.foldl (fun c x => crcUpd c x.toNat) c
theorem xor16 {a b : Nat} (ha : a < 65536) (hb : b < 65536) : a ^^^ b < 65536 := Nat.xor_lt_two_pow (n := 16) ha hb
theorem crcStep_lt {c : Nat} (h : c < 65536) : crcStep c < 65536 := by
  unfold crcStep
  split
  · exact xor16 (by omega) (by omega)
  · omega
theorem crcSteps_lt (k : Nat) {c : Nat} (h : c < 65536) : crcSteps k c < 65536 := by
  induction k with
  | zero => exact h
  | succ k ih => exact crcStep_lt ih
theorem crcUpd_lt {c b : Nat} (h : c < 65536) (hb : b < 256) : crcUpd c b < 65536 := crcSteps_lt 8 (xor16 h (by omega))
theorem byte_lt (x : UInt8) : x.toNat < 256 := x.toNat_lt
theorem crcExt_lt (l : List UInt8) : ∀ {c : Nat}, c < 65536 → crcExt c l < 65536 := by
  induction l with
  | nil => intro c h; exact h
  | cons x l ih => intro c h; exact ih (crcUpd_lt h (byte_lt x))
theorem crcExt_append (c : Nat) (l k : List UInt8) : crcExt c (l ++ k) = crcExt (crcExt c l) k := by simp [crcExt]
theorem crcExt_take_succ (c : Nat) (l : List UInt8) (k : Nat) (h : k < l.length) : crcExt c (l.take (k + 1)) = crcUpd (crcExt c (l.take k)) (l.getD k 0).toNat := by
  rw [List.take_succ_eq_append_getElem h, crcExt_append]
  simp [crcExt, List.getD, h]
end Go.Proofs.YtpkheiaanjhffaaGreat

namespace Go.Proofs.YtpkheiaanjhffaaGreat
open Go.RowKit
theorem xor_half (a b : Nat) : (a ^^^ b) / 2 = a / 2 ^^^ b / 2 := by
  apply Nat.eq_of_testBit_eq
  intro i
  simp only [Nat.testBit_xor, ← Nat.testBit_succ]
theorem step_form (c : Nat) : crcStep c = c / 2 ^^^ (bif c.testBit 0 then 40961 else 0) := by
  unfold crcStep
  rw [Nat.testBit_zero]
  by_cases h : c % 2 = 1 <;> simp [h]
theorem step_xor (a b : Nat) : crcStep (a ^^^ b) = crcStep a ^^^ crcStep b := by
  rw [step_form, step_form, step_form, xor_half, Nat.testBit_xor]
  apply Nat.eq_of_testBit_eq
  intro i
  cases a.testBit 0 <;> cases b.testBit 0 <;> simp [Nat.testBit_xor] <;>
    (cases (a / 2).testBit i <;> cases (b / 2).testBit i <;> cases Nat.testBit 40961 i <;> rfl)
theorem steps_xor (k a b : Nat) : crcSteps k (a ^^^ b) = crcSteps k a ^^^ crcSteps k b := by
  induction k with
  | zero => rfl
  | succ k ih => rw [crcSteps, ih, step_xor]; rfl
theorem steps_zero (k : Nat) : crcSteps k 0 = 0 := by
  induction k with
  | zero => rfl
  | succ k ih => rw [crcSteps, ih]; rfl
theorem step_even (y : Nat) : crcStep (2 * y) = y := by
  unfold crcStep
  rw [if_neg (by omega)]
  omega
theorem step_ne {c : Nat} (h : c < 65536) (h0 : c ≠ 0) : crcStep c ≠ 0 := by
  unfold crcStep
  split
  · intro he
    have : c / 2 = 40961 := by
      have := congrArg (· ^^^ 40961) he
      simpa [Nat.xor_assoc] using this
    omega
  · omega
theorem steps_ne (k : Nat) {c : Nat} (h : c < 65536) (h0 : c ≠ 0) : crcSteps k c ≠ 0 := by
  induction k with
  | zero => exact h0
  | succ k ih => exact step_ne (crcSteps_lt k h) ih
theorem steps_add (j k c : Nat) : crcSteps (j + k) c = crcSteps j (crcSteps k c) := by
  induction j with
  | zero => simp [crcSteps]
  | succ j ih => rw [Nat.succ_add]; simp only [crcSteps, ih]
def bfold (c : Nat) (f : Nat → Bool) : Nat → Nat
  | 0 => c
  | n + 1 => crcStep (bfold c f n ^^^ (f n).toNat)
theorem bfold_lt {c : Nat} (h : c < 65536) (f : Nat → Bool) (n : Nat) : bfold c f n < 65536 := by
  induction n with
  | zero => exact h
  | succ n ih => exact crcStep_lt (xor16 ih (by cases f n <;> decide))
theorem bfold_congr {c : Nat} {f g : Nat → Bool} (n : Nat) (h : ∀ p, p < n → f p = g p) : bfold c f n = bfold c g n := by
  induction n with
  | zero => rfl
  | succ n ih => rw [bfold, bfold, ih (fun p hp => h p (by omega)), h n (by omega)]
theorem bfold_add (c : Nat) (f : Nat → Bool) (n m : Nat) : bfold c f (n + m) = bfold (bfold c f n) (fun p => f (n + p)) m := by
  induction m with
  | zero => rfl
  | succ m ih => rw [← Nat.add_assoc, bfold, bfold, ih]
theorem split_bit (y : Nat) : y = (y.testBit 0).toNat ^^^ 2 * (y / 2) := by
  apply Nat.eq_of_testBit_eq
  intro i
  rw [Nat.testBit_xor]
  cases i with
  | zero => simp [Nat.testBit_zero]; by_cases h : y % 2 = 1 <;> simp [h]
  | succ i =>
    rw [Nat.testBit_succ, Nat.testBit_succ, Nat.testBit_succ]
    have h1 : (y.testBit 0).toNat / 2 = 0 := by cases y.testBit 0 <;> rfl
    have h2 : 2 * (y / 2) / 2 = y / 2 := by omega
    rw [h1, h2]
    simp
theorem steps_bits (c x k : Nat) : crcSteps k (c ^^^ x) = bfold c x.testBit k ^^^ (x / 2 ^ k) := by
  induction k with
  | zero => simp [crcSteps, bfold]
  | succ k ih =>
    have h1 : (x / 2 ^ k).testBit 0 = x.testBit k := by rw [Nat.testBit_zero, Nat.testBit_eq_decide_div_mod_eq]
    have h2 : x / 2 ^ k / 2 = x / 2 ^ (k + 1) := by rw [Nat.div_div_eq_div_mul, Nat.pow_succ]
    have h3 := split_bit (x / 2 ^ k)
    rw [h1, h2] at h3
    rw [crcSteps, ih, bfold, h3, ← Nat.xor_assoc, step_xor, step_even]
theorem upd_bits (c x : Nat) (hx : x < 256) : crcUpd c x = bfold c x.testBit 8 := by
  rw [crcUpd, steps_bits, Nat.div_eq_of_lt (by omega)]
  simp
def bitAt (l : List UInt8) (p : Nat) : Bool := (l.getD (p / 8) 0).toNat.testBit (p % 8)
theorem ext_bits (c : Nat) (l : List UInt8) : crcExt c l = bfold c (bitAt l) (8 * l.length) := by
  suffices h : ∀ k, k ≤ l.length → crcExt c (l.take k) = bfold c (bitAt l) (8 * k) by
    have := h l.length (Nat.le_refl _)
    rwa [List.take_length] at this
  intro k
  induction k with
  | zero => intro _; rfl
  | succ k ih =>
    intro hk
    rw [crcExt_take_succ c l k (by omega), ih (by omega), Nat.mul_add, bfold_add, upd_bits _ _ (byte_lt _)]
    apply bfold_congr
    intro p hp
    unfold bitAt
    rw [show (8 * k + p) / 8 = k by omega, show (8 * k + p) % 8 = p by omega]
theorem bitsOf_get (l : List UInt8) : ∀ p, (bitsOf l).getD p false = bitAt l p := by
  induction l with
  | nil => intro p; simp [bitsOf, bitAt]
  | cons x l ih =>
    intro p
    have hc : bitsOf (x :: l) = byteBits x ++ bitsOf l := by simp [bitsOf]
    rw [hc]
    by_cases h : p < 8
    · have : (byteBits x ++ bitsOf l).getD p false = x.toNat.testBit p := by
        simp only [List.getD]
        rw [List.getElem?_append_left (by rw [byteBits_length]; exact h)]
        simp [byteBits, h]
      rw [this]
      unfold bitAt
      rw [show p / 8 = 0 by omega, show p % 8 = p by omega]
      rfl
    · have : (byteBits x ++ bitsOf l).getD p false = (bitsOf l).getD (p - 8) false := by
        simp only [List.getD]
        rw [List.getElem?_append_right (by rw [byteBits_length]; omega), byteBits_length]
      rw [this, ih]
      unfold bitAt
      rw [show p / 8 = (p - 8) / 8 + 1 by omega, show (p - 8) % 8 = p % 8 by omega]
      rfl
theorem bflip_get (m : List Bool) (i p : Nat) (h : i < m.length) : (bflip m i).getD p false = (m.getD p false ^^ decide (p = i)) := by
  unfold bflip
  by_cases hp : p = i
  · subst hp
    simp [List.getD, h]
  · simp [List.getD, hp, List.getElem?_set_ne (Ne.symm hp)]
theorem bflips_get (m : List Bool) (k p : Nat) (h : k ≤ m.length) : (bflips m k).getD p false = (m.getD p false ^^ decide (p < k)) := by
  induction k with
  | zero => simp [bflips]
  | succ k ih =>
    rw [bflips, bflip_get _ _ _ (by rw [bflips_length]; omega), ih (by omega)]
    by_cases h1 : p = k
    · subst h1; simp
    · have e : decide (p < k + 1) = decide (p < k) := by rw [decide_eq_decide]; omega
      rw [e]
      simp [h1]
theorem divStep_get (m : List Bool) (i p : Nat) (h : i + 16 < m.length) :
    (divStep m i).getD p false = (m.getD p false ^^ (m.getD i false && (decide (p = i + 1) || decide (p = i + 14) || decide (p = i + 16)))) := by
  unfold divStep
  by_cases hx : m.getD i false = true
  · rw [if_pos hx, bflip_get _ _ _ (by rw [bflip_length, bflip_length]; omega), bflip_get _ _ _ (by rw [bflip_length]; omega), bflip_get _ _ _ (by omega), hx]
    by_cases h1 : p = i + 1
    · subst h1; simp
    · by_cases h2 : p = i + 14
      · subst h2; simp
      · by_cases h3 : p = i + 16 <;> simp [h1, h2, h3]
  · have hx2 : m.getD i false = false := by simpa using hx
    rw [if_neg hx, hx2]
    simp
theorem poly_bits (k : Nat) : Nat.testBit 40961 k = (decide (k = 0) || decide (k = 13) || decide (k = 15)) := by
  by_cases h : k < 16
  · have : ∀ k : Fin 16, Nat.testBit 40961 k.1 = (decide (k.1 = 0) || decide (k.1 = 13) || decide (k.1 = 15)) := by decide
    exact this ⟨k, h⟩
  · rw [Nat.testBit_lt_two_pow (Nat.lt_of_lt_of_le (show 40961 < 2 ^ 16 by decide) (Nat.pow_le_pow_right (by decide) (by omega)))]
    simp
    omega
theorem high_bit {c : Nat} (h : c < 65536) (k : Nat) (hk : 16 ≤ k) : c.testBit k = false :=
  Nat.testBit_lt_two_pow (Nat.lt_of_lt_of_le h (show 2 ^ 16 ≤ 2 ^ k from Nat.pow_le_pow_right (by decide) hk))
theorem step_bit (u k : Nat) : (crcStep u).testBit k = (u.testBit (k + 1) ^^ (u.testBit 0 && (decide (k = 0) || decide (k = 13) || decide (k = 15)))) := by
  rw [step_form, Nat.testBit_xor, ← poly_bits, Nat.testBit_succ]
  cases u.testBit 0 <;> simp
theorem divs_inv (l : List UInt8) (j : Nat) (hj : j ≤ 8 * l.length) : ∀ k,
    (divs (bflips (bitsOf l ++ List.replicate 16 false) 16) j).getD (j + k) false = ((bfold 65535 (bitAt l) j).testBit k ^^ bitAt l (j + k)) := by
  have hlen : (bitsOf l ++ List.replicate 16 false).length = 8 * l.length + 16 := by simp [bitsOf_length]
  have hmsg : ∀ p, (bitsOf l ++ List.replicate 16 false).getD p false = bitAt l p := by
    intro p
    rw [← bitsOf_get]
    by_cases h : p < (bitsOf l).length
    · simp [List.getD, List.getElem?_append_left h]
    · simp only [List.getD]
      rw [List.getElem?_append_right (by omega), List.getElem?_eq_none (l := bitsOf l) (by omega)]
      by_cases h2 : p - (bitsOf l).length < 16
      · rw [List.getElem?_replicate, if_pos h2]; rfl
      · rw [List.getElem?_replicate, if_neg h2]
  induction j with
  | zero =>
    intro k
    rw [divs, bflips_get _ _ _ (by rw [hlen]; omega), hmsg, bfold, Nat.zero_add]
    have : Nat.testBit 65535 k = decide (k < 16) := by
      have := Nat.testBit_two_pow_sub_one 16 k
      simpa using this
    rw [this, Bool.xor_comm]
  | succ j ih =>
    intro k
    have ih' := ih (by omega)
    have hml : (divs (bflips (bitsOf l ++ List.replicate 16 false) 16) j).length = 8 * l.length + 16 := by rw [divs_length, bflips_length, hlen]
    have h0 := ih' 0
    have h1 := ih' (k + 1)
    have hlt := bfold_lt (show 65535 < 65536 by decide) (bitAt l) j
    rw [divs, divStep_get _ _ _ (by rw [hml]; omega), bfold, step_bit]
    rw [show j + 1 + k = j + (k + 1) by omega, h1]
    simp only [Nat.add_zero] at h0
    rw [h0]
    generalize bfold 65535 (bitAt l) j = c at *
    generalize bitAt l j = t
    generalize bitAt l (j + (k + 1)) = s
    have e1 : (c ^^^ t.toNat).testBit (k + 1) = c.testBit (k + 1) := by
      rw [Nat.testBit_xor]
      cases t <;> simp [Nat.testBit_succ]
    have e2 : (c ^^^ t.toNat).testBit 0 = (c.testBit 0 ^^ t) := by
      rw [Nat.testBit_xor]
      cases t <;> simp
    rw [e1, e2]
    have e3 : (decide (j + (k + 1) = j + 1) || decide (j + (k + 1) = j + 14) || decide (j + (k + 1) = j + 16)) = (decide (k = 0) || decide (k = 13) || decide (k = 15)) := by
      rw [Bool.eq_iff_iff]; simp
    rw [e3]
    cases c.testBit (k + 1) <;> cases s <;> cases (c.testBit 0 ^^ t) <;> cases (decide (k = 0) || decide (k = 13) || decide (k = 15)) <;> rfl
theorem numOf_bit (b : Nat → Bool) (n k : Nat) : (numOf b n).testBit k = (decide (k < n) && b k) := by
  induction n with
  | zero => simp [numOf]
  | succ n ih =>
    rw [numOf]
    by_cases hb : b n = true
    · rw [if_pos hb, Nat.testBit_or, ih, Nat.testBit_two_pow]
      by_cases h1 : k = n
      · subst h1; simp [hb]
      · have h1' : ¬ n = k := fun h => h1 h.symm
        by_cases h2 : k < n <;> simp [h1', h2] <;> omega
    · rw [if_neg hb, ih]
      by_cases h1 : k = n
      · subst h1; simp [hb]
      · by_cases h2 : k < n <;> simp [h2] <;> omega
theorem divSum_eq (l : List UInt8) : divSum l = crcExt 65535 l := by
  rw [ext_bits]
  apply Nat.eq_of_testBit_eq
  intro k
  have hlt := bfold_lt (show 65535 < 65536 by decide) (bitAt l) (8 * l.length)
  unfold divSum divM
  rw [numOf_bit]
  by_cases hk : k < 16
  · rw [divs_inv l _ (Nat.le_refl _) k]
    have : bitAt l (8 * l.length + k) = false := by
      unfold bitAt
      simp only [List.getD]
      rw [List.getElem?_eq_none (by omega)]
      simp
    rw [this]
    simp [hk]
  · rw [high_bit hlt k (by omega)]
    simp [hk]
end Go.Proofs.YtpkheiaanjhffaaGreat
