/-
  Texts 53 of the claim.
-/
import Derived.Test.YtipnamoocemeeaaGreatC40
import Derived.Test.YtipnamoocemeeaaGreatC38
import Derived.Test.YtipnamoocemeeaaGreatC39
import Derived.Test.YtipnamoocemeeaaGreatC34
import Derived.Deep.CutBlock
import Derived.Deep.CutRange
import Derived.Test.YtipnamoocemeeaaGreatC43
import Derived.Test.YtipnamoocemeeaaGreatC46
import Derived.Test.YtipnamoocemeeaaGreatC22
import Derived.Test.YtipnamoocemeeaaGreatC24
import Derived.Deep.RegionHeldLaw
/-
  The program's sweep: the methods at nil; Report of a sweep that has not ended.
-/
namespace Go.Proofs.YtipnamoocemeeaaGreat
open Go.RowKit
set_option maxHeartbeats 3200000 in
theorem swnext_none (w : World) : Calls Tryz.prog 12 #[.pointer none] w fun r w' => r = .returned (.tuple #[.int .i64 0, .int .i64 0, .agg #[.int .i64 0, .int .i64 0, .int .i64 0, .int .i64 0, .int .i64 0], .bool false]) ∧ Below w.heap.size w w' := by
  obtain ⟨W0, hW0⟩ : ∃ W, w.alloc (.cells #[.int .i64 0, .int .i64 0, .int .i64 0, .int .i64 0, .int .i64 0] 39) = W := ⟨_, rfl⟩
  have hb0 : Below w.heap.size w W0 := by rw [← hW0]; exact bal' w _
  have p0 : W0.heap[w.heap.size]? = some (.cells #[.int .i64 0, .int .i64 0, .int .i64 0, .int .i64 0, .int .i64 0] 39) := by rw [← hW0]; exact hpNew w _
  have HW0 := hid hW0
  clear hW0
  go_enter Tryz.func12, Tryz.ntmps12
  go_upto_region 1 with (fail)
  rw [HW0.out]
  go_wp2_with (refine wpList_storeW rfl 39 (.tmp 4) (.tmp 15) rfl w.heap.size 0 _ 39 #[.int .i64 0, .int .i64 0, .int .i64 0, .int .i64 0, .int .i64 0] rfl rfl p0 (by simp) info5 rfl ?_; intro w3 g3 hk3 hz3)
  have g3' : w3.heap[w.heap.size]? = some (.cells #[.int .i64 0, .int .i64 0, .int .i64 0, .int .i64 0, .int .i64 0] 39) := g3
  have q0 := hpCell g3' 0
  have q1 := hpCell g3' 1
  have q2 := hpCell g3' 2
  have q3 := hpCell g3' 3
  have q4 := hpCell g3' 4
  refine bodyPost_ret (v := .tuple #[.int .i64 0, .int .i64 0, .agg #[.int .i64 0, .int .i64 0, .int .i64 0, .int .i64 0, .int .i64 0], .bool false]) (by simp [results, Tryz.results12, go_sem, q0, q1, q2, q3, q4]) rfl ?_
  exact ⟨rfl, hb0.trans (hk3.below hb0.size (fun j hj e => by omega))⟩
theorem swfeed_none (OC : Array Value) (w : World) : Calls Tryz.prog 18 #[.pointer none, .agg OC] w (IntPost w 13) := by
  obtain ⟨W0, hW0⟩ : ∃ W, w.alloc (.cells OC 55) = W := ⟨_, rfl⟩
  have hb0 : Below w.heap.size w W0 := by rw [← hW0]; exact bal' w _
  have HW0 := hid hW0
  clear hW0
  go_enter Tryz.func18, Tryz.ntmps18
  go_upto_region 1 with (fail)
  rw [HW0.out]
  go_wp2
  go_ret
  exact ⟨rfl, hb0⟩
theorem swplace_none (w : World) : Calls Tryz.prog 14 #[.pointer none] w (IntPost w 0) := by
  go_enter Tryz.func14, Tryz.ntmps14
  go_wp2
  go_ret
  exact ⟨rfl, Below.refl _ _⟩
theorem swqueries_none (w : World) : Calls Tryz.prog 15 #[.pointer none] w (IntPost w 0) := by
  go_enter Tryz.func15, Tryz.ntmps15
  go_wp2
  go_ret
  exact ⟨rfl, Below.refl _ _⟩
theorem swdevs_none (w : World) : Calls Tryz.prog 17 #[.pointer none] w fun r w' => r = .returned (.slice none 0 0) ∧ Below w.heap.size w w' := by
  go_enter Tryz.func17, Tryz.ntmps17
  go_wp2
  go_ret
  exact ⟨rfl, Below.refl _ _⟩
/-- An answer without a report. -/
def NoRep (w : World) (E : Int) (r : Ending) (w' : World) : Prop := r = .returned (.tuple #[.agg #[.slice none 0 0, .int .i64 0, .int .i64 0, .int .i64 0, .int .i64 0, .int .i64 0, .int .i64 0, .int .i64 0, .int .i64 0, .int .i64 0, .int .i64 0, .slice none 0 0], .int .i64 E]) ∧ Below w.heap.size w w'
set_option maxHeartbeats 3200000 in
theorem swreport_none (dv : Value) (w : World) : Calls Tryz.prog 29 #[.pointer none, dv] w (NoRep w 13) := by
  obtain ⟨W0, hW0⟩ : ∃ W, w.alloc (.cells #[.slice none 0 0, .int .i64 0, .int .i64 0, .int .i64 0, .int .i64 0, .int .i64 0, .int .i64 0, .int .i64 0, .int .i64 0, .int .i64 0, .int .i64 0, .slice none 0 0] 71) = W := ⟨_, rfl⟩
  have hb0 : Below w.heap.size w W0 := by rw [← hW0]; exact bal' w _
  have p0 : W0.heap[w.heap.size]? = some (.cells #[.slice none 0 0, .int .i64 0, .int .i64 0, .int .i64 0, .int .i64 0, .int .i64 0, .int .i64 0, .int .i64 0, .int .i64 0, .int .i64 0, .int .i64 0, .slice none 0 0] 71) := by rw [← hW0]; exact hpNew w _
  have HW0 := hid hW0
  clear hW0
  go_enter Tryz.func29, Tryz.ntmps29
  go_upto_region 1 with (fail)
  rw [HW0.out]
  go_wp2_with (refine wpList_storeW rfl 71 (.tmp 4) (.tmp 11) rfl w.heap.size 0 _ 71 #[.slice none 0 0, .int .i64 0, .int .i64 0, .int .i64 0, .int .i64 0, .int .i64 0, .int .i64 0, .int .i64 0, .int .i64 0, .int .i64 0, .int .i64 0, .slice none 0 0] rfl rfl p0 (by simp) infoRp rfl ?_; intro w3 g3 hk3 hz3)
  have g3' : w3.heap[w.heap.size]? = some (.cells #[.slice none 0 0, .int .i64 0, .int .i64 0, .int .i64 0, .int .i64 0, .int .i64 0, .int .i64 0, .int .i64 0, .int .i64 0, .int .i64 0, .int .i64 0, .slice none 0 0] 71) := g3
  refine bodyPost_ret (results_ct_row rfl _ _ w.heap.size 71 #[.slice none 0 0, .int .i64 0, .int .i64 0, .int .i64 0, .int .i64 0, .int .i64 0, .int .i64 0, .int .i64 0, .int .i64 0, .int .i64 0, .int .i64 0, .slice none 0 0] (0, 0) _ rfl g3' Tryz.underlying71 rfl infoRp) rfl ?_
  exact ⟨rfl, hb0.trans (hk3.below hb0.size (fun j hj e => by omega))⟩
set_option maxHeartbeats 3200000 in
theorem swreport_pend {P : Nat → Prop} {w : World} {g : Nat} {c : Cf} {x : Sp} (h : SwAt P w g c x) (hlt : x.at_ < c.units) (dv : Value) (V : Bool) (hV : ∀ X, Below w.heap.size w X → Calls Tryz.prog 65 #[dv] X (BoolPost X V)) (E : Int) (hE : E = if V = true then 14 else 5) :
    Calls Tryz.prog 29 #[.pointer (some ⟨g, 0, none⟩), dv] w (NoRep w E) := by
  obtain ⟨W0, hW0⟩ : ∃ W, w.alloc (.cells #[.slice none 0 0, .int .i64 0, .int .i64 0, .int .i64 0, .int .i64 0, .int .i64 0, .int .i64 0, .int .i64 0, .int .i64 0, .int .i64 0, .int .i64 0, .slice none 0 0] 71) = W := ⟨_, rfl⟩
  have hb0 : Below w.heap.size w W0 := by rw [← hW0]; exact bal' w _
  have p0 : W0.heap[w.heap.size]? = some (.cells #[.slice none 0 0, .int .i64 0, .int .i64 0, .int .i64 0, .int .i64 0, .int .i64 0, .int .i64 0, .int .i64 0, .int .i64 0, .int .i64 0, .int .i64 0, .slice none 0 0] 71) := by rw [← hW0]; exact hpNew w _
  obtain ⟨M, Q, sv, pv, fa, fc, cs, hs⟩ := h
  obtain ⟨gp, rfl, -, -⟩ := hs.pr hlt
  have c17 : ∀ X, Below w.heap.size w X → X.cell? ⟨g, 17, none⟩ = some (.pointer (some ⟨gp, 0, none⟩)) := fun X hX => hpCell (hpKeep hs.at_ hX) 17
  have HPV := hid (fun X hX => hV X (bt hb0 hX (Nat.le_refl _)))
  have HW0 := hid hW0
  have r0 : Below W0.heap.size W0 W0 := Below.refl _ _
  clear hW0 hs hV hlt
  subst hE
  cases V with
  | false =>
    go_enter Tryz.func29, Tryz.ntmps29
    go_upto_region 1 with (fail)
    rw [HW0.out]
    go_wp2_with (first
      | (go_at_call 65; (with_reducible refine (HPV.out _ r0).mono ?_); rintro r w1 ⟨rfl, hb1⟩; have p1 := hpKeep p0 hb1)
      | (refine wpList_storeW rfl 71 (.tmp 4) (.tmp 16) rfl w.heap.size 0 _ 71 #[.slice none 0 0, .int .i64 0, .int .i64 0, .int .i64 0, .int .i64 0, .int .i64 0, .int .i64 0, .int .i64 0, .int .i64 0, .int .i64 0, .int .i64 0, .slice none 0 0] rfl rfl p1 (by simp) infoRp rfl ?_; intro w3 g3 hk3 hz3))
    have g3' : w3.heap[w.heap.size]? = some (.cells #[.slice none 0 0, .int .i64 0, .int .i64 0, .int .i64 0, .int .i64 0, .int .i64 0, .int .i64 0, .int .i64 0, .int .i64 0, .int .i64 0, .int .i64 0, .slice none 0 0] 71) := g3
    refine bodyPost_ret (results_ct_row rfl _ _ w.heap.size 71 #[.slice none 0 0, .int .i64 0, .int .i64 0, .int .i64 0, .int .i64 0, .int .i64 0, .int .i64 0, .int .i64 0, .int .i64 0, .int .i64 0, .int .i64 0, .slice none 0 0] (0, 0) _ rfl g3' Tryz.underlying71 rfl infoRp) rfl ?_
    have hb := bt hb0 hb1 (Nat.le_refl _)
    exact ⟨rfl, hb.trans (hk3.below hb.size (fun j hj e => by omega))⟩
  | true =>
    go_enter Tryz.func29, Tryz.ntmps29
    go_upto_region 1 with (fail)
    rw [HW0.out]
    go_wp2_with (first
      | (go_at_call 65; (with_reducible refine (HPV.out _ r0).mono ?_); rintro r w1 ⟨rfl, hb1⟩; have p1 := hpKeep p0 hb1; have hbw1 := bt hb0 hb1 (Nat.le_refl _))
      | (refine wpList_storeW rfl 71 (.tmp 4) (.tmp 23) rfl w.heap.size 0 _ 71 #[.slice none 0 0, .int .i64 0, .int .i64 0, .int .i64 0, .int .i64 0, .int .i64 0, .int .i64 0, .int .i64 0, .int .i64 0, .int .i64 0, .int .i64 0, .slice none 0 0] rfl rfl p1 (by simp) infoRp rfl ?_; intro w3 g3 hk3 hz3))
    have g3' : w3.heap[w.heap.size]? = some (.cells #[.slice none 0 0, .int .i64 0, .int .i64 0, .int .i64 0, .int .i64 0, .int .i64 0, .int .i64 0, .int .i64 0, .int .i64 0, .int .i64 0, .int .i64 0, .slice none 0 0] 71) := g3
    refine bodyPost_ret (results_ct_row rfl _ _ w.heap.size 71 #[.slice none 0 0, .int .i64 0, .int .i64 0, .int .i64 0, .int .i64 0, .int .i64 0, .int .i64 0, .int .i64 0, .int .i64 0, .int .i64 0, .int .i64 0, .slice none 0 0] (0, 0) _ rfl g3' Tryz.underlying71 rfl infoRp) rfl ?_
    exact ⟨rfl, hbw1.trans (hk3.below hbw1.size (fun j hj e => by omega))⟩

end Go.Proofs.YtipnamoocemeeaaGreat

/-
  The reference's sweep: New and Next.
-/
namespace Go.Proofs.YtipnamoocemeeaaGreat
open Go.RowKit
end Go.Proofs.YtipnamoocemeeaaGreat

/-
  The reference's sweep: Feed.
-/
namespace Go.Proofs.YtipnamoocemeeaaGreat
open Go.RowKit
end Go.Proofs.YtipnamoocemeeaaGreat

/-
  The walk of the law SweepSteps.
-/
namespace Go.Proofs.YtipnamoocemeeaaGreat
open Go.RowKit
end Go.Proofs.YtipnamoocemeeaaGreat
