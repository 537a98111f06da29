/-
  Plain Lean: the checksum on natural numbers.
-/
import Derived.WalkKit
namespace Go.Proofs.YtpmidoneoonlcaaGreat
open Go.RowKit

/-- One bit of the division. -/
def crcStep (c : Nat) : Nat := if c % 2 = 1 then (c / 2) ^^^ 40961 else c / 2
def crcSteps : Nat → Nat → Nat
  | 0, c => c
  | k + 1, c => crcStep (crcSteps k c)
def crcUpd (c b : Nat) : Nat := crcSteps 8 (c ^^^ b)
def crcExt (c : Nat) (l : List UInt8) : Nat := l.foldl (fun c x => crcUpd c x.toNat) c

theorem xor16 {a b : Nat} (ha : a < 65536) (hb : b < 65536) : a ^^^ b < 65536 := Nat.xor_lt_two_pow (n := 16) ha hb

theorem crcStep_lt {c : Nat} (h : c < 65536) : crcStep c < 65536 := by
  unfold crcStep
  split
  · exact xor16 (by omega) (by omega)
  · omega
theorem crcSteps_lt (k : Nat) {c : Nat} (h : c < 65536) : crcSteps k c < 65536 := by
  induction k with
  | zero => exact h
  | succ k ih => exact crcStep_lt ih
theorem crcUpd_lt {c b : Nat} (h : c < 65536) (hb : b < 256) : crcUpd c b < 65536 := crcSteps_lt 8 (xor16 h (by omega))
theorem byte_lt (x : UInt8) : x.toNat < 256 := x.toNat_lt
theorem crcExt_lt (l : List UInt8) : ∀ {c : Nat}, c < 65536 → crcExt c l < 65536 := by
  induction l with
  | nil => intro c h; exact h
  | cons x l ih => intro c h; exact ih (crcUpd_lt h (byte_lt x))
theorem crcExt_append (c : Nat) (l k : List UInt8) : crcExt c (l ++ k) = crcExt (crcExt c l) k := by simp [crcExt]
theorem crcExt_take_succ (c : Nat) (l : List UInt8) (k : Nat) (h : k < l.length) : crcExt c (l.take (k + 1)) = crcUpd (crcExt c (l.take k)) (l.getD k 0).toNat := by
  rw [List.take_succ_eq_append_getElem h, crcExt_append]
  simp [crcExt, List.getD, h]
end Go.Proofs.YtpmidoneoonlcaaGreat
