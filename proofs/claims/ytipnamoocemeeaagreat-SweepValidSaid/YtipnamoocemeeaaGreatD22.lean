/-
  Texts 22 of the claim.
-/
import Derived.Test.YtipnamoocemeeaaGreatD21
import Derived.Test.YtipnamoocemeeaaGreatD16
namespace Go.Proofs.YtipnamoocemeeaaGreat
open Go.RowKit
structure Fd where
  set : Int
  unit : Int
  d : Dv
structure Sp where
  at_ : Nat
  pb : Pb
  fd : List Fd
  cnt : Int
def Pb0 : Pb := ⟨.test, Dv.zero, 0⟩
def Cf.n (c : Cf) : Int := c.la - c.fi + 1
def Cf.units (c : Cf) : Nat := c.sets.length * (c.la - c.fi + 1).toNat
def Cf.pSet (c : Cf) (k : Nat) : Int := (k : Int) / c.n
def Cf.pUnit (c : Cf) (k : Nat) : Int := c.fi + (k : Int) % c.n
def Sp.done (c : Cf) (x : Sp) : Bool := decide (c.units ≤ x.at_)
def Sp.next (c : Cf) (x : Sp) (p : Pb) : Sp :=
  if p.ph.isDone = true then ⟨x.at_ + 1, Pb0, x.fd ++ (if p.d.st = 1 then [] else [⟨c.pSet x.at_, c.pUnit x.at_, p.d⟩]), x.cnt + 1⟩ else ⟨x.at_, p, x.fd, x.cnt + 1⟩
def Sp.feed (c : Cf) (x : Sp) (O : Oc) : Sp := if x.done c = true then x else x.next c (x.pb.feed c.win O)
def Sp.ini : Sp := ⟨0, Pb0, [], 0⟩
structure Cf.ok (c : Cf) : Prop where
  s1 : 1 ≤ c.sets.length
  s6 : c.sets.length ≤ 6
  f1 : 1 ≤ c.fi
  fl : c.fi ≤ c.la
  l2 : c.la ≤ 247
  win : WinOk c.win
  sets : ∀ x ∈ c.sets, okS x = true
theorem setsB_mem : ∀ (l : List (Int × Int)) (p : Option (Int × Int)), setsB p l = true → ∀ x ∈ l, okS x = true
  | [], _, _, x, hx => by cases hx
  | a :: l, p, h, x, hx => by
    simp only [setsB, Bool.and_eq_true] at h
    rcases List.mem_cons.1 hx with e | e
    · subst e; exact h.1.1
    · exact setsB_mem l _ h.2 x e
theorem ordB4_at {win : Nat → Int × Int} : ∀ n, ordB4 win n = true → ∀ k, k < n → inB (win k).1 0 (if 0 < (win k).2 then 65536 - (win k).2 else 0) = true
  | 0, _, k, h2 => absurd h2 (Nat.not_lt_zero _)
  | n + 1, h, k, h2 => by
    have h : (ordB4 win n && inB (win n).1 0 (if 0 < (win n).2 then 65536 - (win n).2 else 0)) = true := h
    rw [Bool.and_eq_true] at h
    by_cases e : k = n
    · subst e; exact h.2
    · exact ordB4_at n h.1 k (by omega)
theorem Cf.ok_of {c : Cf} (h : chkE c = 0) : c.ok := by
  unfold chkE at h
  split at h
  · rename_i hs
    unfold setB at hs
    simp only [Bool.and_eq_true, decide_eq_true_eq] at hs
    split at h
    · rename_i hr
      unfold rangeB at hr
      simp only [Bool.and_eq_true, decide_eq_true_eq] at hr
      have h1 := inB_iff.1 hr.1
      unfold winE at h
      split at h
      · rename_i hc
        split at h
        · rename_i ho
          refine ⟨hs.2.1, hs.2.2, h1.1, h1.2, hr.2.1, fun k hk => ?_, setsB_mem _ _ hs.1⟩
          have a1 := inB_iff.1 (cntB_at 4 hc k hk)
          have a2 := inB_iff.1 (ordB4_at 4 ho k hk)
          refine ⟨a1.1, a1.2, a2.1, ?_⟩
          have a3 := a2.2
          split at a3 <;> omega
        · omega
      · omega
    · omega
  · omega
theorem Cf.ok.n1 {c : Cf} (h : c.ok) : 1 ≤ c.n ∧ c.n ≤ 247 := by unfold Cf.n; have := h.f1; have := h.fl; have := h.l2; omega
theorem Cf.ok.units_bd {c : Cf} (h : c.ok) : 1 ≤ c.units ∧ c.units ≤ 1482 ∧ (c.units : Int) = (c.sets.length : Int) * c.n := by
  have h1 := h.n1
  have h2 := h.s1
  have h3 := h.s6
  have e : (c.la - c.fi + 1).toNat = c.n.toNat := rfl
  unfold Cf.units
  rw [e]
  obtain ⟨m, hm⟩ : ∃ m : Nat, c.n = (m : Int) := ⟨c.n.toNat, by omega⟩
  rw [hm] at h1 ⊢
  rw [Int.toNat_natCast]
  refine ⟨?_, ?_, by rw [Int.natCast_mul]⟩
  · exact Nat.mul_pos (by omega) (by omega)
  · calc c.sets.length * m ≤ 6 * 247 := Nat.mul_le_mul h3 (by omega)
      _ = 1482 := rfl
theorem Cf.ok.pSet_bd {c : Cf} (h : c.ok) {k : Nat} (hk : k < c.units) : 0 ≤ c.pSet k ∧ c.pSet k < c.sets.length := by
  have h1 := h.n1
  have h2 := h.units_bd
  unfold Cf.pSet
  refine ⟨Int.ediv_nonneg (Int.natCast_nonneg _) (by omega), Int.ediv_lt_of_lt_mul (by omega) ?_⟩
  rw [← h2.2.2]
  omega
theorem Cf.ok.pUnit_bd {c : Cf} (h : c.ok) (k : Nat) : 1 ≤ c.pUnit k ∧ c.pUnit k ≤ 247 := by
  have h1 := h.n1
  have a1 := Int.emod_nonneg (k : Int) (show c.n ≠ 0 by omega)
  have a2 := Int.emod_lt_of_pos (k : Int) (show 0 < c.n by omega)
  have h3 := h.f1
  have h4 := h.l2
  have hnn : c.n = c.la - c.fi + 1 := rfl
  unfold Cf.pUnit
  have : c.fi + (k : Int) % c.n ≤ c.la := by omega
  omega
end Go.Proofs.YtipnamoocemeeaaGreat
