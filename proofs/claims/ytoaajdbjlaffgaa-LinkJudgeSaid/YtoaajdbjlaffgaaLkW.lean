/-
  The contract of modscanlaw19.Awake.
-/
import Derived.Test.YtoaajdbjlaffgaaLkM
import Derived.Deep.RegionHeld3
namespace Go.Proofs.Ytoaajdbjlaffgaa
open Go.RowKit

def awF : List UInt8 := aduF (UInt8.ofNat (5 : Int).toNat) (Rq.pdu ⟨17, 0, 0, 0, 0⟩)
theorem awF_len : awF.length = 4 := rfl

/-- Where the check stands at the head of its round k. -/
def AwR (w : World) (g : Nat) (k : Nat) (l : List Int) (s : Lk) (W : World) : Prop :=
  AwB w g l awF s W ∧ l = List.replicate k 3 ∧ s.cnt = k ∧ s.re = 1 ∧ s.ti = 1000 ∧ s.dr ≤ 10000000 ∧ 0 ≤ s.now ∧ s.now ≤ 100000000 * (k : Int) ∧ (k < 2 → s.ph = 1) ∧ (k = 2 → ∃ s0 : Lk, s = s0.silent 3)

/-- The block of the action is as it was. -/
def PaS (pa : Nat) (A : Obj) (W : World) : Prop := W.heap[pa]? = some A

def AwFin (k : Nat) (l : List Int) (s : Lk) : Prop := l = List.replicate k 3 ∧ s.cnt = k ∧ s.re = 1 ∧ s.ti = 1000 ∧ s.dr ≤ 10000000 ∧ 0 ≤ s.now ∧ s.now ≤ 100000000 * (k : Int) ∧ (k < 2 → s.ph = 1) ∧ (k = 2 → ∃ s0 : Lk, s = s0.silent 3)

theorem replicate_snoc3 (k : Nat) : List.replicate k (3 : Int) ++ [3] = List.replicate (k + 1) 3 := by rw [List.replicate_succ']

theorem aw_last {w W : World} {g k : Nat} {l : List Int} {s s2 : Lk} {pa : Nat} {A : Obj} {rx : Value} {sa : Option Addr} {sc : Nat} (h : AwB w g l awF s2 W) (hk : k < 2) (hl : l = List.replicate (k + 1) 3) (he : s2 = (s.sent (s.now + 100) rx).drains sa sc)
    (hR : s.cnt = k ∧ s.re = 1 ∧ s.ti = 1000 ∧ s.dr ≤ 10000000 ∧ 0 ≤ s.now ∧ s.now ≤ 100000000 * (k : Int)) (hp : W.heap[pa]? = some A) (hpg : pa ≠ g) :
    Calls Try.prog 26 #[.pointer (some ⟨g, 0, none⟩)] W (Step0 w g awF pa A (AwFin (k + 1))) := by
  obtain ⟨r1, r2, r3, r4, r5, r6⟩ := hR
  obtain ⟨t1, t2, _, _, t5, t6⟩ := time_bd (b := s.b) (p := s.p) (by have := h.set; rw [he] at this; exact this)
  have d1 := h.dr1
  rw [he] at d1
  have d1' : 0 ≤ s.dr := d1
  have htil : 0 ≤ s2.til ∧ s2.til ≤ s.now + 20000000 := by
    rw [he]
    show 0 ≤ (if s.now + 100 + t35T s.b + s.ti + charT s.b < s.now + 100 + s.dr then s.now + 100 + s.dr else s.now + 100 + t35T s.b + s.ti + charT s.b) ∧ (if s.now + 100 + t35T s.b + s.ti + charT s.b < s.now + 100 + s.dr then s.now + 100 + s.dr else s.now + 100 + t35T s.b + s.ti + charT s.b) ≤ _
    split <;> omega
  have hcnt : s2.cnt = (k : Int) + 1 := by rw [he]; show s.cnt + 1 = _; omega
  have hre : s2.re = 1 := by rw [he]; exact r2
  have hti : s2.ti = 1000 := by rw [he]; exact r3
  have hdr : s2.dr ≤ 10000000 := by rw [he]; exact r4
  have hph : s2.ph = 4 := by rw [he]; rfl
  rcases (show k = 0 ∨ k = 1 by omega) with rfl | rfl
  · refine (step_more h hph (by omega) hp hpg).mono ?_
    rintro r w' ⟨rfl, l', s', hB, ⟨rfl, rfl⟩, hq⟩
    exact ⟨rfl, _, _, hB, ⟨hl, by show s2.cnt = _; omega, hre, hti, hdr, htil.1, by show s2.til ≤ _; omega, fun _ => rfl, fun h => by cases h⟩, hq⟩
  · refine (step_done h ⟨by rw [hl]; decide, fun v hv => .inl (by rw [hl] at hv; exact List.eq_of_mem_replicate hv)⟩ hph (by omega) hp hpg).mono ?_
    rintro r w' ⟨rfl, l', s', hB, ⟨rfl, rfl⟩, hq⟩
    have hsum : sumV l' = 3 := by rw [hl]; rfl
    refine ⟨rfl, _, _, hB, ⟨hl, by show s2.cnt = _; omega, hre, hti, hdr, htil.1, by show s2.til ≤ _; omega, fun h => absurd h (by decide), fun _ => ⟨{ s2 with now := s2.til }, by rw [hsum]⟩⟩, hq⟩

end Go.Proofs.Ytoaajdbjlaffgaa
