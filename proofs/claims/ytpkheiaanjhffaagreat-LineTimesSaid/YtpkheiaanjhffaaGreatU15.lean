/-
  Texts 15 of the claim.
-/
import Derived.Test.YtpkheiaanjhffaaGreatU14
import Derived.Test.YtpkheiaanjhffaaGreatU01
import Derived.Test.YtpkheiaanjhffaaGreatU02
import Derived.Test.YtpkheiaanjhffaaGreatU03
import Derived.Test.YtpkheiaanjhffaaGreatU07
namespace Go.Proofs.YtpkheiaanjhffaaGreat
open Go.RowKit
def Rq.pdu (q : Rq) : List UInt8 :=
  if q.fn = 17 then [17] else if q.fn = 43 then [43, 14, byteI q.code, byteI q.obj] else [byteI q.fn, byteI (q.addr / 256), byteI (q.addr % 256), byteI (q.qty / 256), byteI (q.qty % 256)]
theorem Rq.pdu_len (q : Rq) : 1 ≤ q.pdu.length ∧ q.pdu.length ≤ 5 := by
  unfold Rq.pdu
  split
  · simp
  · split <;> simp
theorem Bs.newLit (w : World) (l : List UInt8) (A : Array Value) (T : TypeId) (h : A = (u8s l).toArray) (hl : l.length ≤ 1000) : Bs (w.alloc (.cells A T)) (.slice (some ⟨w.heap.size, 0, none⟩) l.length l.length) l := by
  refine Bs.mk (Nat.le_refl _) (by unfold maxLen; omega) (fun i hi => ?_)
  rw [hpCell (hpNew w _), h]
  simp only [Nat.zero_add, List.getElem?_toArray]
  exact u8s_get l i hi
def NewBs (w : World) (l : List UInt8) (r : Ending) (w' : World) : Prop :=
  ∃ (a : Option Addr) (c : Nat), r = .returned (.tuple #[.slice a l.length c, .int .i64 0]) ∧ (∀ W, Agree w.heap.size w' W → Bs W (.slice a l.length c) l) ∧ Below w.heap.size w w'
theorem NewBs.lit {w wx : World} {l : List UInt8} {A : Array Value} {T : TypeId} (hb : Below w.heap.size w wx) (h : A = (u8s l).toArray) (hl : l.length ≤ 1000) {n : Nat} (hn : n = l.length) :
    NewBs w l (.returned (.tuple #[.slice (some ⟨wx.heap.size, 0, none⟩) n n, .int .i64 0])) (wx.alloc (.cells A T)) := by
  subst hn
  exact ⟨_, _, rfl, fun W hW => (Bs.newLit wx l A T h hl).agree (fun ad had => by cases had; exact hb.size) hW, bta hb (Nat.le_refl _) _⟩
def rqLen (f : Int) : Nat := if 1 ≤ f ∧ f ≤ 4 then 5 else if f = 17 then 1 else if f = 43 then 4 else 0
def rqOf (b : List UInt8) : Rq :=
  if 1 ≤ bAt b 0 ∧ bAt b 0 ≤ 4 then ⟨bAt b 0, bAt b 1 * 256 + bAt b 2, bAt b 3 * 256 + bAt b 4, 0, 0⟩
  else if bAt b 0 = 43 then ⟨43, 0, 0, bAt b 2, bAt b 3⟩ else ⟨bAt b 0, 0, 0, 0, 0⟩
def rqDec (b : List UInt8) : Option Rq :=
  if b.length = 0 ∨ rqLen (bAt b 0) = 0 ∨ b.length ≠ rqLen (bAt b 0) ∨ (bAt b 0 = 43 ∧ bAt b 1 ≠ 14) ∨ (rqOf b).ok = false then none else some (rqOf b)
theorem rqDec_ok {b : List UInt8} {q : Rq} (h : rqDec b = some q) : q.ok = true := by
  unfold rqDec at h
  split at h
  · cases h
  · rename_i e
    injection h with h
    subst h
    cases hk : (rqOf b).ok with
    | true => rfl
    | false => exact absurd (.inr (.inr (.inr (.inr hk)))) e
theorem rqDec_pdu {q : Rq} (h : q.ok = true) : rqDec q.pdu = some q := by
  obtain ⟨f, a, n, c, o⟩ := q
  have h0 := h
  unfold Rq.ok at h
  dsimp only at h
  by_cases h1 : 1 ≤ f ∧ f ≤ 4
  · rw [if_pos h1] at h
    simp only [Bool.and_eq_true, decide_eq_true_eq, beq_iff_eq] at h
    obtain ⟨⟨⟨⟨⟨g1, g2⟩, g3⟩, g4⟩, rfl⟩, rfl⟩ := h
    have hl : limI f ≤ 2000 := (limI_bd f).2
    have hp : Rq.pdu ⟨f, a, n, 0, 0⟩ = [byteI f, byteI (a / 256), byteI (a % 256), byteI (n / 256), byteI (n % 256)] := by
      unfold Rq.pdu
      rw [if_neg (by dsimp only; omega), if_neg (by dsimp only; omega)]
    rw [hp]
    have b0 : bAt [byteI f, byteI (a / 256), byteI (a % 256), byteI (n / 256), byteI (n % 256)] 0 = f := byteI_val (by omega) (by omega)
    have b1 : bAt [byteI f, byteI (a / 256), byteI (a % 256), byteI (n / 256), byteI (n % 256)] 1 = a / 256 := byteI_val (by omega) (by omega)
    have b2 : bAt [byteI f, byteI (a / 256), byteI (a % 256), byteI (n / 256), byteI (n % 256)] 2 = a % 256 := byteI_val (by omega) (by omega)
    have b3 : bAt [byteI f, byteI (a / 256), byteI (a % 256), byteI (n / 256), byteI (n % 256)] 3 = n / 256 := byteI_val (by omega) (by omega)
    have b4 : bAt [byteI f, byteI (a / 256), byteI (a % 256), byteI (n / 256), byteI (n % 256)] 4 = n % 256 := byteI_val (by omega) (by omega)
    have ho : rqOf [byteI f, byteI (a / 256), byteI (a % 256), byteI (n / 256), byteI (n % 256)] = ⟨f, a, n, 0, 0⟩ := by
      unfold rqOf
      rw [b0, b1, b2, b3, b4, if_pos h1, show a / 256 * 256 + a % 256 = a by omega, show n / 256 * 256 + n % 256 = n by omega]
    unfold rqDec
    rw [b0, ho, show rqLen f = 5 from if_pos h1, if_neg]
    rintro (e | e | e | e | e)
    · exact absurd e (by simp)
    · exact absurd e (by decide)
    · exact e rfl
    · omega
    · rw [h0] at e; cases e
  · rw [if_neg h1] at h
    by_cases h2 : f = 17
    · subst h2
      rw [if_pos rfl] at h
      simp only [Bool.and_eq_true, beq_iff_eq] at h
      obtain ⟨⟨⟨rfl, rfl⟩, rfl⟩, rfl⟩ := h
      rfl
    · rw [if_neg h2] at h
      by_cases h3 : f = 43
      · subst h3
        rw [if_pos rfl] at h
        simp only [Bool.and_eq_true, decide_eq_true_eq, beq_iff_eq] at h
        obtain ⟨⟨⟨⟨⟨rfl, rfl⟩, g1⟩, g2⟩, g3⟩, g4⟩ := h
        have hp : Rq.pdu ⟨43, 0, 0, c, o⟩ = [43, 14, byteI c, byteI o] := rfl
        rw [hp]
        have b2 : bAt [43, 14, byteI c, byteI o] 2 = c := byteI_val (by omega) (by omega)
        have b3 : bAt [43, 14, byteI c, byteI o] 3 = o := byteI_val (by omega) (by omega)
        have ho : rqOf [43, 14, byteI c, byteI o] = ⟨43, 0, 0, c, o⟩ := by
          show (⟨43, 0, 0, bAt [43, 14, byteI c, byteI o] 2, bAt [43, 14, byteI c, byteI o] 3⟩ : Rq) = _
          rw [b2, b3]
        unfold rqDec
        rw [ho, if_neg]
        rintro (e | e | e | e | e)
        · exact absurd e (by simp)
        · exact absurd (show (4 : Nat) = 0 from e) (by decide)
        · exact e rfl
        · exact e.2 rfl
        · rw [h0] at e; cases e
      · rw [if_neg h3] at h
        cases h
theorem or_u8_fin : ∀ (j : Fin 8) (m : Fin 128) (b : Fin 2), m.val < 2 ^ j.val → bits .or .u8 ((m.val : Nat) : Int) (((b.val * 2 ^ j.val : Nat) : Nat) : Int) = ((m.val + b.val * 2 ^ j.val : Nat) : Int) := by decide +kernel
theorem or_byte {m b j : Nat} (hj : j < 8) (hm : m < 2 ^ j) (hb : b < 2) : bits .or .u8 (m : Int) ((b : Int) % 256 * 2 ^ j % 256) = ((m + b * 2 ^ j : Nat) : Int) := by
  have h2 : 2 ^ j ≤ 2 ^ 7 := Nat.pow_le_pow_right (by decide) (by omega)
  have h := or_u8_fin ⟨j, hj⟩ ⟨m, by omega⟩ ⟨b, hb⟩ hm
  have e1 : ((b : Int) % 256 * 2 ^ j % 256) = ((b * 2 ^ j : Nat) : Int) := by
    have : b * 2 ^ j < 256 := by
      rcases (show b = 0 ∨ b = 1 by omega) with rfl | rfl
      · omega
      · omega
    rw [Int.emod_eq_of_lt (a := (b : Int)) (by omega) (by omega)]
    rw [show ((2 : Int) ^ j) = ((2 ^ j : Nat) : Int) by simp, ← Int.natCast_mul]
    exact Int.emod_eq_of_lt (by omega) (by omega)
  rw [e1]
  exact h
theorem and_one_i64 (n : Int) (h0 : 0 ≤ n) (h1 : n < 65536) : bits .and .i64 n 1 = n % 2 := by
  show IntKind.wrap .i64 ((((BitVec.ofInt 64 n) &&& (BitVec.ofInt 64 1)).toNat : Nat) : Int) = _
  have e1 : (BitVec.ofInt 64 n).toNat = n.toNat := by rw [BitVec.toNat_ofInt]; omega
  have e2 : (BitVec.ofInt 64 1).toNat = 1 := by decide
  rw [BitVec.toNat_and, e1, e2, Nat.and_one_is_mod, IntWalk.i64_in _ (by omega)]
  omega
theorem xor_fin : ∀ n : Fin 256, bits .xor .u8 ((n.val : Nat) : Int) 255 = (((n.val ^^^ 255 : Nat)) : Int) := by decide +kernel
theorem xor_byte (x : UInt8) : Value.int .u8 (bits .xor .u8 ((x.toNat : Nat) : Int) 255) = byteV (x ^^^ 255) := by
  rw [xor_fin ⟨x.toNat, x.toNat_lt⟩]
  unfold byteV
  rw [UInt8.toNat_xor]
  rfl
theorem or_word (a b : Int) (a0 : 0 ≤ a) (a1 : a < 256) (b0 : 0 ≤ b) (b1 : b < 256) : bits .or .i64 (a * 256) b = a * 256 + b := by
  obtain ⟨m, rfl⟩ : ∃ m : Nat, a = (m : Int) := ⟨a.toNat, by omega⟩
  obtain ⟨k, rfl⟩ : ∃ k : Nat, b = (k : Int) := ⟨b.toNat, by omega⟩
  show IntKind.wrap .i64 ((((BitVec.ofInt 64 ((m : Int) * 256)) ||| (BitVec.ofInt 64 (k : Int))).toNat : Nat) : Int) = _
  have e1 : (BitVec.ofInt 64 ((m : Int) * 256)).toNat = m * 2 ^ 8 := by rw [BitVec.toNat_ofInt]; omega
  have e2 : (BitVec.ofInt 64 (k : Int)).toNat = k := by rw [BitVec.toNat_ofInt]; omega
  have e3 : m * 2 ^ 8 ||| k = m * 2 ^ 8 + k := by
    have := Nat.shiftLeft_add_eq_or_of_lt (b := k) (i := 8) (by omega) m
    rw [Nat.shiftLeft_eq] at this
    exact this.symm
  rw [BitVec.toNat_or, e1, e2, e3, IntWalk.i64_in _ (by omega)]
  omega
theorem or_bits {t a v n : Int} {N k : Nat} (h : k / 8 < N) (hn : n = wordV t (a + (k : Nat)) v) :
    Value.int .u8 (bits .or .u8 ((((bitsL t a v N k)[k / 8]?.getD 0).toNat : Nat) : Int) (bits .and .i64 n 1 % 256 * 2 ^ (k % 8) % 256)) = byteV (UInt8.ofNat (bval t a v (k / 8) (k % 8) + bitV t a v k * 2 ^ (k % 8))) := by
  have hb := wordV_bd t (a + (k : Nat)) v
  have hw := bval_lt t a v (k / 8) (k % 8)
  have h2 : 2 ^ (k % 8) ≤ 2 ^ 7 := Nat.pow_le_pow_right (by decide) (by omega)
  have hv := bitV_bd t a v k
  rw [bitsL_cur h, and_one_i64 n (by omega) (by omega)]
  have e3 : (UInt8.ofNat (bval t a v (k / 8) (k % 8))).toNat = bval t a v (k / 8) (k % 8) := by rw [UInt8.toNat_ofNat']; exact Nat.mod_eq_of_lt (by omega)
  have e4 : n % 2 = ((bitV t a v k : Nat) : Int) := by unfold bitV; rw [← hn]; omega
  have e5 := or_byte (j := k % 8) (by omega) hw hv
  show Value.int .u8 (bits .or .u8 (((UInt8.ofNat (bval t a v (k / 8) (k % 8))).toNat : Nat) : Int) (n % 2 % 256 * 2 ^ (k % 8) % 256)) = _
  rw [e3, e4, e5]
  unfold byteV
  rw [UInt8.toNat_ofNat']
  congr 1
  have : bval t a v (k / 8) (k % 8) + bitV t a v k * 2 ^ (k % 8) < 256 := by
    rcases (show bitV t a v k = 0 ∨ bitV t a v k = 1 by omega) with e | e <;> rw [e] <;> omega
  omega
end Go.Proofs.YtpkheiaanjhffaaGreat
