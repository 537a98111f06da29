/-
  Texts 24 of the claim.
-/
import Derived.Test.YtipnamoocemeeaaGreatC18
import Derived.Test.YtipnamoocemeeaaGreatC03
import Derived.Test.YtipnamoocemeeaaGreatC19
import Derived.Test.YtipnamoocemeeaaGreatC22
import Derived.BigQuiet
import Derived.Test.YtipnamoocemeeaaGreatC23
import Derived.Deep.RegionHeldLaw
/-
  Several texts of this claim in one file.
-/
/-
ProbeSlave, the plain law: a probe that is fed with the true answers of a slave ends with the truth, and asks valid requests.
-/
namespace Go.Proofs.YtipnamoocemeeaaGreat
open Go.RowKit
end Go.Proofs.YtipnamoocemeeaaGreat

/-
ProbeSlave, the plain law: the search, the map, and the probe's step.
-/
namespace Go.Proofs.YtipnamoocemeeaaGreat
open Go.RowKit
end Go.Proofs.YtipnamoocemeeaaGreat

/-
What the form's reading of an argument gives for a slave.
-/
namespace Go.Proofs.YtipnamoocemeeaaGreat
open Go.RowKit
theorem cellsRg : Tryz.prog.cellsOf 24 = 2 := by kernel_rfl
def RgR (_ : World) (cs : List Value) (x : Int × Int) : Prop := cs = [.int .i64 x.1, .int .i64 x.2] ∧ wfI x.1 ∧ wfI x.2
def Rgs (w : World) (v : Value) (l : List (Int × Int)) : Prop := Sls 2 RgR w v l
theorem Rgs.keep {w w' : World} {v : Value} {l : List (Int × Int)} (h : Rgs w v l) (hb : Below w.heap.size w w') : Rgs w' v l := Sls.keep (fun _ _ _ _ h _ => h) h hb
theorem int_rd {w : World} {v : Value} (h : Rd Tryz.prog w 3 [v]) : ∃ n : Int, v = .int .i64 n ∧ wfI n := by
  obtain ⟨n, e, hw⟩ := Rd.int Tryz.underlying3 h
  simp only [List.cons.injEq, and_true] at e
  have hb := bounds_i64 hw
  exact ⟨n, e, by unfold wfI; omega⟩
theorem rg_rd {w : World} {cs : List Value} (h : Rd Tryz.prog w 24 cs) : ∃ x, RgR w cs x := by
  obtain ⟨hl, hf⟩ := h.struct Tryz.underlying24
  rw [cellsRg] at hl
  obtain ⟨c0, c1, rfl⟩ := lst2 hl
  have f0 := hf _ (List.mem_cons_self ..)
  have f1 := hf _ (List.mem_cons_of_mem _ (List.mem_cons_self ..))
  simp only [cellsInt, List.drop_zero, List.drop_succ_cons, List.take_succ_cons, List.take_zero] at f0 f1
  obtain ⟨a, rfl, w0⟩ := int_rd f0
  obtain ⟨b, rfl, w1⟩ := int_rd f1
  exact ⟨(a, b), rfl, w0, w1⟩
def mk4 {α : Type} (a b c d : α) : Nat → α
  | 0 => a
  | 1 => b
  | 2 => c
  | _ => d
end Go.Proofs.YtipnamoocemeeaaGreat

/-
The reference's ranges: Valid, In, Range, Covers.
-/
namespace Go.Proofs.YtipnamoocemeeaaGreat
open Go.RowKit
/-- A range in the row, by its cells. -/
theorem Rgs.at {w : World} {v : Value} {l : List (Int × Int)} (h : Rgs w v l) {k : Nat} {x : Int × Int} (hx : l[k]? = some x) :
    ∃ b o c, v = .slice (some ⟨b, o, none⟩) l.length c ∧ wfI x.1 ∧ wfI x.2 ∧ ∀ W, Below w.heap.size w W → W.cell? ⟨b, o + k * 2, none⟩ = some (.int .i64 x.1) ∧ W.cell? ⟨b, o + k * 2 + 1, none⟩ = some (.int .i64 x.2) := by
  obtain ⟨a, c, rfl, h1, h2, h3, h4⟩ := h
  obtain ⟨b, o, rfl, hel⟩ := h4 (by rintro rfl; simp at hx)
  obtain ⟨r, hr, ⟨rfl, w1, w2⟩, hc⟩ := hel k x hx
  exact ⟨b, o, c, rfl, w1, w2, fun W hW => ⟨cell_keep hW (hc 0 _ rfl), cell_keep hW (hc 1 _ rfl)⟩⟩

end Go.Proofs.YtipnamoocemeeaaGreat

/-
Whether a setting is valid (modscanref05.Valid), at any setting.
-/
namespace Go.Proofs.YtipnamoocemeeaaGreat
open Go.RowKit

def SetPost (w : World) (b p : Int) (r : Ending) (w' : World) : Prop := ∃ V : Bool, r = .returned (.bool V) ∧ Hid (V = true ↔ Okset b p) ∧ Below w.heap.size w w'
theorem SetPost.mk {w w' : World} {b p : Int} (V : Bool) (h : V = true ↔ Okset b p) (hb : Below w.heap.size w w') : SetPost w b p (.returned (.bool V)) w' := ⟨V, rfl, h, hb⟩

set_option maxRecDepth 100000 in
set_option maxHeartbeats 3200000 in
theorem rvalid_set (b p : Int) (w : World) : Calls Tryz.prog 85 #[.agg #[.int .i64 b, .int .i64 p]] w (SetPost w b p) := by
  go_enter Tryz.func85, Tryz.ntmps85
  go_wp2_with fail
  refine (rall_any _).mono ?_
  rintro r w1 ⟨v, rfl, hown, hb1⟩
  obtain ⟨g, c, rfl, hnc, hcm, hel⟩ := own_setting hown (by decide)
  have HE := hid hel
  have q0 := hpCell (hpKeep (hpNew w _) hb1) 0
  have q1 := hpCell (hpKeep (hpNew w _) hb1) 1
  unfold maxLen at hcm
  have hbw := bt (bal' w _) hb1 (Nat.le_refl _)
  clear hel hown hb1
  go_wp2
  go_loopw [4] (fun i wr => ∃ k : Nat, k ≤ 24 ∧ i = .int .i64 k ∧ Hid (∀ j, j < k → allS[j]? ≠ some (b, p)) ∧ ∃ n, wr = w1.drewN n) (fun i _ => 24 - (intOf i).toNat)
  case atStart => exact ⟨0, by omega, rfl, fun j hj => absurd hj (by omega), 0, rfl⟩
  case round =>
    obtain ⟨k, hk, rfl, hno, nd, rfl⟩ := hrel
    by_cases hlt : k < 24
    · have hkl : (k : Int) < 24 := by omega
      obtain ⟨x, hgx⟩ : ∃ x, allS[k]? = some x := ⟨_, List.getElem?_eq_getElem (show k < allS.length by rw [allS_len]; exact hlt)⟩
      obtain ⟨e0, e1⟩ := HE.out k x hgx
      have HG := hid hgx
      clear hgx
      obtain ⟨x1, x2⟩ := x
      by_cases hx : x1 = b ∧ x2 = p
      · obtain ⟨d1, d2⟩ : (x1 == b) = true ∧ (x2 == p) = true := ⟨by rw [beq_iff_eq]; exact hx.1, by rw [beq_iff_eq]; exact hx.2⟩
        have HXX := hid hx
        clear hx
        go_wp2
        go_quiet (fail)
        go_wp2
        go_ret
        exact SetPost.mk true ⟨fun _ => by have := allS_ok (List.mem_of_getElem? HG.out); rw [← HXX.out.1, ← HXX.out.2]; exact this, fun _ => rfl⟩ (below_drewN (below_drewN hbw _) _)
      · have HN : Hid (∀ j, j < k + 1 → allS[j]? ≠ some (b, p)) := by
          intro j hj e
          by_cases hjk : j = k
          · subst hjk
            rw [HG.out] at e
            cases e
            exact hx ⟨rfl, rfl⟩
          · exact hno.out j (by omega) e
        rcases (show (x1 == b) = false ∨ ((x1 == b) = true ∧ (x2 == p) = false) by
          by_cases h1 : x1 = b
          · exact .inr ⟨by rw [beq_iff_eq]; exact h1, by rw [beq_eq_false_iff_ne]; exact fun h2 => hx ⟨h1, h2⟩⟩
          · exact .inl (by rw [beq_eq_false_iff_ne]; exact h1)) with d1 | ⟨d1, d2⟩
        all_goals
          clear hx
          go_wp2
          go_quiet (fail)
          go_wp2
          go_roundw
          case rel => exact ⟨k + 1, by omega, by go_num, HN, nd + nq, rfl⟩
          case measure => simp [intOf]; omega
    · obtain rfl : k = 24 := by omega
      go_wp2
      go_ret
      refine SetPost.mk false ⟨fun e => (by cases e), fun h => ?_⟩ (below_drewN hbw _)
      obtain ⟨j, hj⟩ := List.getElem?_of_mem (allS_mem h)
      exact absurd hj (hno.out j (by have := (List.getElem?_eq_some_iff.1 hj).1; rw [allS_len] at this; exact this))

end Go.Proofs.YtipnamoocemeeaaGreat

/-
  Steps by hand through a region that draws its order, where what is held changes on the way. Plain.
-/
namespace Go

section
variable {P : Program} {ops : Array Oper} {Q : Exit → Act → World → Prop} {md : Region.Mode} {S S' : World → Prop}
/-- 'wpAnyH_take' with the slot named. -/
theorem wpAnyH_takeD {i d : Nat} {oi : Oper} {v : Value} {fuel : Nat} {listed : Array Bool} {a : Act} {w : World} (hi : ops[i]? = some oi)
    (hs : Region.noSelect ops = true) (hf : Region.free md ops listed i = true) (hr : (Region.ready md ops listed).contains i = true)
    (hQ : ∀ c a w, Q (.panic c) (a.put oi.dst v) w → Q (.panic c) a w) (hd : oi.dst = some d) (hy : YieldsIf P ops S oi v a) (hS : S w)
    (h : wpAnyH P md ops Q S fuel (listed.setIfInBounds i true) { a with tmps := a.tmps.setIfInBounds d v } w) : wpAnyH P md ops Q S (fuel + 1) listed a w :=
  wpAnyH_take hi hs hf hr hQ hy hS (by rw [hd]; exact h)

/-- The same with its Bools in one, for an operation that is wanted. -/
theorem tkD (i d : Nat) {oi : Oper} {v : Value} {fuel : Nat} {listed : Array Bool} {a : Act} {w : World} (hi : ops[i]? = some oi)
    (hb : (Region.noSelect ops && Region.free md ops listed i && (Region.ready md ops listed).contains i) = true)
    (hQ : ∀ c a w, Q (.panic c) (a.put oi.dst v) w → Q (.panic c) a w) (hd : oi.dst = some d) (hw : Region.wanted oi (yielded ops a.tmps) = true) (hS : S w)
    (hy : ∀ w, S w → (execOp a.eval oi).run P w = .ok (.value v) w)
    (h : wpAnyH P md ops Q S fuel (listed.setIfInBounds i true) { a with tmps := a.tmps.setIfInBounds d v } w) : wpAnyH P md ops Q S (fuel + 1) listed a w := by
  simp only [Bool.and_eq_true] at hb
  exact wpAnyH_takeD hi hb.1.1 hb.1.2 hb.2 hQ hd (.inl ⟨hw, hy⟩) hS h

end
end Go

/-
  Several texts of this claim in one file.
-/
/-
The budget of a unit: the contracts of the program's config.Check and budget functions at the law's configuration.
-/
namespace Go.Proofs.YtipnamoocemeeaaGreat
open Go.RowKit
end Go.Proofs.YtipnamoocemeeaaGreat

/-
The contract of setting.List at one setting.
-/
namespace Go.Proofs.YtipnamoocemeeaaGreat
open Go.RowKit
end Go.Proofs.YtipnamoocemeeaaGreat

/-
The contract of config.Check at the law's configuration.
-/
namespace Go.Proofs.YtipnamoocemeeaaGreat
open Go.RowKit
end Go.Proofs.YtipnamoocemeeaaGreat

/-
The contract of budget.Unit at the law's configuration.
-/
namespace Go.Proofs.YtipnamoocemeeaaGreat
open Go.RowKit
end Go.Proofs.YtipnamoocemeeaaGreat
