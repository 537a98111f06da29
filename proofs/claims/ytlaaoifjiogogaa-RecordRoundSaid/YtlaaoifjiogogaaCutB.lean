/-
  Cuts of slices of bytes, for every program: the value that 's[k:]', 's[:k]', 's[i:k]' leave, in one spelling, and what it reads as.
-/
import Derived.Test.YtlaaoifjiogogaaObj
namespace Go.Proofs.Ytlaaoifjiogogaa
open Go.RowKit

/-- Where 's[k:]' begins: at the slice's capacity Go keeps the old place. -/
def cutA (a : Option Addr) (c k : Nat) : Option Addr := if c = k then a else a.map (·.add (k * 1))

theorem cutA_zero (a : Option Addr) (c : Nat) : cutA a c 0 = a := by
  unfold cutA
  split
  · rfl
  · cases a with
    | none => rfl
    | some ad => cases ad; simp [Addr.add]

theorem cutA_block {a : Option Addr} {c k : Nat} {x y : Addr} (h : a = some x) (hy : cutA a c k = some y) : y.block = x.block := by
  subst h
  unfold cutA at hy
  split at hy
  · cases hy; rfl
  · cases hy
    unfold Addr.add
    split <;> rfl

theorem cutA_some {a : Option Addr} {c k : Nat} {y : Addr} (hy : cutA a c k = some y) : ∃ x, a = some x ∧ y.block = x.block := by
  cases a with
  | none => unfold cutA at hy; split at hy <;> cases hy
  | some x => exact ⟨x, rfl, cutA_block rfl hy⟩

theorem Bs.cut {w : World} {a : Option Addr} {n c : Nat} {l : List UInt8} (h : Bs w (.slice a n c) l) {i k : Nat} (hik : i ≤ k) (hk : k ≤ n) : Bs w (.slice (cutA a c i) (k - i) (c - i)) ((l.take k).drop i) := by
  obtain ⟨a', c', hv, h1, h2, h3, h4⟩ := h
  cases hv
  have hlen : ((l.take k).drop i).length = k - i := by simp; omega
  refine ⟨cutA a c i, c - i, by rw [hlen], by omega, by omega, fun ha => ?_, fun hne => ?_⟩
  · have : a = none := by
      unfold cutA at ha
      split at ha
      · exact ha
      · cases a with
        | none => rfl
        | some _ => cases ha
    have := h3 this
    omega
  · have hl : l ≠ [] := by rintro rfl; simp at hne
    obtain ⟨b, o, ha, hc⟩ := h4 hl
    subst ha
    have hpos : 0 < k - i := by
      rw [← hlen]
      cases hx : (l.take k).drop i with
      | nil => exact absurd hx hne
      | cons _ _ => simp
    refine ⟨b, o + i, ?_, fun j hj => ?_⟩
    · unfold cutA
      rw [if_neg (by omega)]
      simp [Addr.add]
    · rw [hlen] at hj
      have hjl : i + j < l.length := by omega
      have := hc (i + j) hjl
      rw [show o + i + j = o + (i + j) by omega, this]
      simp only [List.getD, List.getElem?_drop, List.getElem?_take]
      rw [if_pos (by omega)]

theorem Bs.dropS {w : World} {a : Option Addr} {n c : Nat} {l : List UInt8} (h : Bs w (.slice a n c) l) {i : Nat} (hi : i ≤ n) : Bs w (.slice (cutA a c i) (n - i) (c - i)) (l.drop i) := by
  have hn : l.length = n := by obtain ⟨_, _, hv, _⟩ := h; cases hv; rfl
  have := h.cut hi (Nat.le_refl n)
  rwa [List.take_of_length_le (by omega)] at this
theorem Bs.takeS {w : World} {a : Option Addr} {n c : Nat} {l : List UInt8} (h : Bs w (.slice a n c) l) {k : Nat} (hk : k ≤ n) : Bs w (.slice a k c) (l.take k) := by
  have := h.cut (Nat.zero_le k) hk
  rwa [cutA_zero, List.drop_zero, Nat.sub_zero, Nat.sub_zero] at this
theorem Bs.capOf {w : World} {a : Option Addr} {n c : Nat} {l : List UInt8} (h : Bs w (.slice a n c) l) : l.length = n ∧ n ≤ c ∧ c ≤ maxLen := by
  obtain ⟨a', c', hv, h1, h2, _⟩ := h
  cases hv
  exact ⟨rfl, h1, h2⟩

/-- Byte number i of a slice, at its place. -/
theorem Bs.byte {w : World} {a : Option Addr} {n c : Nat} {l : List UInt8} (h : Bs w (.slice a n c) l) {i : Nat} (hi : i < n) : ∃ b o, a = some ⟨b, o, none⟩ ∧ w.cell? ⟨b, o + i, none⟩ = some (.int .u8 ((l.getD i 0).toNat : Int)) := by
  obtain ⟨a', c', hv, h1, h2, h3, h4⟩ := h
  cases hv
  obtain ⟨b, o, ha, hc⟩ := h4 (by rintro rfl; simp at hi)
  exact ⟨b, o, ha, hc i hi⟩

/-- The runs. -/
theorem run_cut {P : Program} {t e : TypeId} {i5 : TypeInfo} (ht : P.underlying t = some (.slice e)) (hi : P.info? e = some i5) (hs : i5.size = 1) (a : Option Addr) (n c i k : Nat) (hik : i ≤ k) (hkc : k ≤ c) (w : World) :
    (Instr.slice t (.slice a n c) (some (.int .i64 i)) (some (.int .i64 k)) none).run P w = .ok (.slice (cutA a c i) (k - i) (c - i)) w := by
  have h1 : ((0 : Int) ≤ (i : Int) ∧ (i : Int) ≤ (k : Int)) := by omega
  have h2 : ((0 : Int) ≤ (k : Int) ∧ (k : Int) ≤ (c : Int)) := by omega
  simp [Instr.slice, Instr.sliceBounds, Instr.sliceBound, run_underlying ht, asIntOf, sizeOf, typeInfo, hi, hs, cutA, hik, hkc]
theorem run_drop {P : Program} {t e : TypeId} {i5 : TypeInfo} (ht : P.underlying t = some (.slice e)) (hi : P.info? e = some i5) (hs : i5.size = 1) (a : Option Addr) (n c i : Nat) (hin : i ≤ n) (w : World) :
    (Instr.slice t (.slice a n c) (some (.int .i64 i)) none none).run P w = .ok (.slice (cutA a c i) (n - i) (c - i)) w := by
  simp [Instr.slice, Instr.sliceBounds, Instr.sliceBound, run_underlying ht, asIntOf, sizeOf, typeInfo, hi, hs, cutA, hin]

end Go.Proofs.Ytlaaoifjiogogaa
