/-
  Texts 20 of the claim.
-/
import Derived.Deep.RegionHeldLaw
import Derived.Test.YtipnamoocemeeaaGreatD18
namespace Go
section
variable {P : Program} {ops : Array Oper} {Q : Exit → Act → World → Prop} {md : Region.Mode} {S S' : World → Prop}
theorem wpAnyH_takeD {i d : Nat} {oi : Oper} {v : Value} {fuel : Nat} {listed : Array Bool} {a : Act} {w : World} (hi : ops[i]? = some oi)
    (hs : Region.noSelect ops = true) (hf : Region.free md ops listed i = true) (hr : (Region.ready md ops listed).contains i = true)
    (hQ : ∀ c a w, Q (.panic c) (a.put oi.dst v) w → Q (.panic c) a w) (hd : oi.dst = some d) (hy : YieldsIf P ops S oi v a) (hS : S w)
    (h : wpAnyH P md ops Q S fuel (listed.setIfInBounds i true) { a with tmps := a.tmps.setIfInBounds d v } w) : wpAnyH P md ops Q S (fuel + 1) listed a w :=
  wpAnyH_take hi hs hf hr hQ hy hS (by rw [hd]; exact h)
theorem tkD (i d : Nat) {oi : Oper} {v : Value} {fuel : Nat} {listed : Array Bool} {a : Act} {w : World} (hi : ops[i]? = some oi)
    (hb : (Region.noSelect ops && Region.free md ops listed i && (Region.ready md ops listed).contains i) = true)
    (hQ : ∀ c a w, Q (.panic c) (a.put oi.dst v) w → Q (.panic c) a w) (hd : oi.dst = some d) (hw : Region.wanted oi (yielded ops a.tmps) = true) (hS : S w)
    (hy : ∀ w, S w → (execOp a.eval oi).run P w = .ok (.value v) w)
    (h : wpAnyH P md ops Q S fuel (listed.setIfInBounds i true) { a with tmps := a.tmps.setIfInBounds d v } w) : wpAnyH P md ops Q S (fuel + 1) listed a w := by
  simp only [Bool.and_eq_true] at hb
  exact wpAnyH_takeD hi hb.1.1 hb.1.2 hb.2 hQ hd (.inl ⟨hw, hy⟩) hS h
end
end Go

namespace Go.Proofs.YtipnamoocemeeaaGreat
open Go.RowKit
def lg (n : Int) : Int := if n ≤ 1 then 0 else if n ≤ 2 then 1 else if n ≤ 4 then 2 else if n ≤ 8 then 3 else 4
def winB (n : Int) : Int := n * (3 + lg n)
set_option maxRecDepth 100000 in
set_option maxHeartbeats 3200000 in
theorem window_k (w : World) : ∀ n : Int, 1 ≤ n → n ≤ 12 → Calls Tryz.prog 71 #[.int .i64 n] w fun r w' => r = .returned (.int .i64 (winB n)) ∧ w = w' := by
  intro n h1 h2
  have h : n = 1 ∨ n = 2 ∨ n = 3 ∨ n = 4 ∨ n = 5 ∨ n = 6 ∨ n = 7 ∨ n = 8 ∨ n = 9 ∨ n = 10 ∨ n = 11 ∨ n = 12 := by omega
  clear h1 h2
  rcases h with rfl | rfl | rfl | rfl | rfl | rfl | rfl | rfl | rfl | rfl | rfl | rfl
  all_goals
    go_enter Tryz.func71, Tryz.ntmps71
    go_wp2
    go_ret
    exact ⟨ret_int (by decide +kernel), rfl⟩
def srchB (t : Int) : Int := if t ≤ 2 then 12 else 8
set_option maxRecDepth 100000 in
set_option maxHeartbeats 1600000 in
theorem bsearch_k (w : World) : ∀ t : Int, 1 ≤ t → t ≤ 4 → Calls Tryz.prog 70 #[.int .i64 t] w fun r w' => r = .returned (.int .i64 (srchB t)) ∧ w = w' := by
  intro n h1 h2
  have h : n = 1 ∨ n = 2 ∨ n = 3 ∨ n = 4 := by omega
  clear h1 h2
  rcases h with rfl | rfl | rfl | rfl
  all_goals
    go_enter Tryz.func70, Tryz.ntmps70
    go_wp2
    go_ret
    exact ⟨rfl, rfl⟩
end Go.Proofs.YtipnamoocemeeaaGreat
namespace Go.Proofs.YtipnamoocemeeaaGreat
open Go.RowKit
end Go.Proofs.YtipnamoocemeeaaGreat
namespace Go.Proofs.YtipnamoocemeeaaGreat
open Go.RowKit
end Go.Proofs.YtipnamoocemeeaaGreat
namespace Go.Proofs.YtipnamoocemeeaaGreat
open Go.RowKit
def tabB (win : Nat → Int × Int) (k : Nat) : Int := if 0 < (win k).2 then srchB ((k : Int) + 1) + winB (win k).2 else 0
def unitS (win : Nat → Int × Int) : Nat → Int
  | 0 => 34
  | k + 1 => unitS win k + tabB win k
theorem lg_bd (n : Int) : 0 ≤ lg n ∧ lg n ≤ 4 := by unfold lg; repeat' split <;> omega
theorem winB_bd {n : Int} (h1 : 0 ≤ n) (h2 : n ≤ 12) : 0 ≤ winB n ∧ winB n ≤ 84 := by
  unfold winB
  have := lg_bd n
  constructor
  · exact Int.mul_nonneg h1 (by omega)
  · have h : n * (3 + lg n) ≤ 12 * 7 := Int.mul_le_mul h2 (by omega) (by omega) (by decide)
    omega
theorem tabB_bd {win : Nat → Int × Int} (hw : ∀ k, k < 4 → okW12 (win k)) {k : Nat} (hk : k < 4) : 0 ≤ tabB win k ∧ tabB win k ≤ 96 := by
  have h := hw k hk
  have h2 := winB_bd h.1 h.2.1
  unfold tabB srchB
  split
  · split <;> omega
  · omega
theorem unitS_bd {win : Nat → Int × Int} (hw : ∀ k, k < 4 → okW12 (win k)) : ∀ k, k ≤ 4 → 34 ≤ unitS win k ∧ unitS win k ≤ 34 + 96 * k
  | 0, _ => by show 34 ≤ 34 ∧ (34 : Int) ≤ 34 + 96 * 0; omega
  | k + 1, hk => by
    have h1 := unitS_bd hw k (by omega)
    have h2 := tabB_bd hw (k := k) (by omega)
    show 34 ≤ unitS win k + tabB win k ∧ unitS win k + tabB win k ≤ 34 + 96 * ((k + 1 : Nat) : Int)
    omega
end Go.Proofs.YtipnamoocemeeaaGreat
