/-
  Texts 48 of the claim.
-/
import Derived.Test.YtipnamoocemeeaaGreatD47
import Derived.Test.YtipnamoocemeeaaGreatD42
import Derived.Test.YtipnamoocemeeaaGreatD20
import Derived.Test.YtipnamoocemeeaaGreatD18
import Derived.Deep.CutRange
import Derived.Deep.RegionHeldLaw
namespace Go.Proofs.YtipnamoocemeeaaGreat
open Go.RowKit
def cfS : Cf := ⟨[(9600, 1)], 1, 2, 1, 1000, 0, fun k => if k = 2 then (100, 8) else (0, 0), 1, 10000⟩
theorem cfS_ok : chkE cfS = 0 := by decide
theorem cfS_CfC (sv : Value) : CfC cfS sv = #[sv, .int .i64 1, .int .i64 2, .int .i64 1, .int .i64 1000, .int .i64 0, .int .i64 0, .int .i64 0, .int .i64 0, .int .i64 0, .int .i64 100, .int .i64 8, .int .i64 0, .int .i64 0, .int .i64 1, .int .i64 10000] := rfl
set_option maxRecDepth 100000 in
set_option maxHeartbeats 1600000 in
theorem sample_any (w : World) : Calls Tryz.prog 40 #[] w fun r w' => ∃ sv, r = .returned (.agg (CfC cfS sv)) ∧ Rgs w' sv cfS.sets ∧ Below w.heap.size w w' := by
  obtain ⟨W0, hW0⟩ : ∃ W, w.alloc (.cells #[.slice none 0 0, .int .i64 0, .int .i64 0, .int .i64 0, .int .i64 0, .int .i64 0, .int .i64 0, .int .i64 0, .int .i64 0, .int .i64 0, .int .i64 0, .int .i64 0, .int .i64 0, .int .i64 0, .int .i64 0, .int .i64 0] 27) = W := ⟨_, rfl⟩
  have hb0 : Below w.heap.size w W0 := by rw [← hW0]; exact bal' w _
  have hz0 : W0.heap.size = w.heap.size + 1 := by rw [← hW0]; simp
  have p0 : W0.heap[w.heap.size]? = some (.cells #[.slice none 0 0, .int .i64 0, .int .i64 0, .int .i64 0, .int .i64 0, .int .i64 0, .int .i64 0, .int .i64 0, .int .i64 0, .int .i64 0, .int .i64 0, .int .i64 0, .int .i64 0, .int .i64 0, .int .i64 0, .int .i64 0] 27) := by rw [← hW0]; exact hpNew w _
  obtain ⟨W1, hW1⟩ : ∃ W, W0.alloc (.cells #[.int .i64 9600, .int .i64 1] 82) = W := ⟨_, rfl⟩
  have hb1 : Below W0.heap.size W0 W1 := by rw [← hW1]; exact bal' W0 _
  have p1 : W1.heap[W0.heap.size]? = some (.cells #[.int .i64 9600, .int .i64 1] 82) := by rw [← hW1]; exact hpNew W0 _
  have HW0 := hid hW0
  have HW1 := hid hW1
  have HB0 := hid hb0
  have HB1 := hid hb1
  have HZ0 := hid hz0
  have hz1 : W1.heap.size = w.heap.size + 2 := by rw [← hW1]; simp [hz0]
  have HZ1 := hid hz1
  clear hW0 hW1 hb0 hb1 hz0 hz1
  go_enter Tryz.func40, Tryz.ntmps40
  go_upto_region 1 with (fail)
  rw [HW0.out]
  go_upto_region 3 with (fail)
  rw [HW1.out]
  obtain ⟨W2, hW2⟩ : ∃ W, W1.alloc (.cells #[.slice (some ⟨W0.heap.size, 0, none⟩) 1 1, .int .i64 1, .int .i64 2, .int .i64 1, .int .i64 1000, .int .i64 0, .int .i64 0, .int .i64 0, .int .i64 0, .int .i64 0, .int .i64 100, .int .i64 8, .int .i64 0, .int .i64 0, .int .i64 1, .int .i64 10000] 27) = W := ⟨_, rfl⟩
  have hb2 : Below W1.heap.size W1 W2 := by rw [← hW2]; exact bal' W1 _
  have p2 : W2.heap[W1.heap.size]? = some (.cells #[.slice (some ⟨W0.heap.size, 0, none⟩) 1 1, .int .i64 1, .int .i64 2, .int .i64 1, .int .i64 1000, .int .i64 0, .int .i64 0, .int .i64 0, .int .i64 0, .int .i64 0, .int .i64 100, .int .i64 8, .int .i64 0, .int .i64 0, .int .i64 1, .int .i64 10000] 27) := by rw [← hW2]; exact hpNew W1 _
  rw [hW2]
  have hz1 : W1.heap.size = W0.heap.size + 1 := by have := HZ1.out; have := HZ0.out; omega
  rw [hz1] at p2
  obtain ⟨RC, hRC⟩ : ∃ C, (#[.slice (some ⟨W0.heap.size, 0, none⟩) 1 1, .int .i64 1, .int .i64 2, .int .i64 1, .int .i64 1000, .int .i64 0, .int .i64 0, .int .i64 0, .int .i64 0, .int .i64 0, .int .i64 100, .int .i64 8, .int .i64 0, .int .i64 0, .int .i64 1, .int .i64 10000] : Array Value) = C := ⟨_, rfl⟩
  have hRs : RC.size = 16 := by rw [← hRC]; rfl
  have hRi : (Tryz.prog.info? 27).map (·.size) = some RC.size := by rw [hRs]; kernel_rfl
  have hRo : RC.toList.all (·.oneCell') = true := by rw [← hRC]; rfl
  rw [hRC] at p2
  have hB2 : Below W0.heap.size W0 W2 := bt HB1.out hb2 (Nat.le_refl _)
  have hp0 := hpKeep p0 hB2
  have HP1 := hid (hpKeep p1 hb2)
  have HRC := hid hRC
  have HB2 := hid hB2
  have HRS := hid hRs
  clear hW2 hz1 hRC hB2 hb2 p1 p0 hRs
  go_wp2_with (first
    | (refine wpList_load_row rfl 27 (.tmp 1) rfl (W0.heap.size + 1) rfl 27 RC (0, 0) _ p2 Tryz.underlying27 rfl hRi ?_)
    | (refine wpList_storeW rfl 27 (.tmp 0) (.tmp 8) rfl w.heap.size 0 _ 27 RC rfl rfl hp0 (by simp [HRS.out]) hRi hRo ?_; intro w9 g9 hk9 hz9))
  have g9' : w9.heap[w.heap.size]? = some (.cells RC 27) := by rw [g9, List.drop_eq_nil_of_le (by simp [HRS.out])]; simp
  refine bodyPost_ret (results_cell_row rfl _ _ w.heap.size 27 RC (0, 0) _ rfl g9' Tryz.underlying27 rfl hRi) rfl ?_
  have hB := HB2.out
  have hz := HZ0.out
  refine ⟨.slice (some ⟨W0.heap.size, 0, none⟩) 1 1, by rw [cfS_CfC, HRC.out], ?_, (HB0.out.trans (hB.mono (by omega))).trans (hk9.below (by have := hB.size; omega) (fun j hj e => by omega))⟩
  have p9 : w9.heap[W0.heap.size]? = some (.cells #[.int .i64 9600, .int .i64 1] 82) := hpKeeps HP1.out hk9 (fun e => by omega)
  refine Sls.of_own (base := 0) (E := 82) (n := 1) (cs := setV cfS.sets) ⟨rfl, .inr ⟨W0.heap.size, 1, #[.int .i64 9600, .int .i64 1], rfl, Nat.zero_le _, p9, Nat.le_refl _, by decide, rfl, rfl⟩⟩ (setV_csl cfS.sets (fun x hx => ?_)) rfl
  rw [List.mem_singleton.1 hx]
  exact ⟨by unfold wfI; decide, by unfold wfI; decide⟩
def oN (v : Int) : Oc := ⟨v, ⟨0, 0, [], 0, 0, false, 0, []⟩⟩
theorem oN_fit (v : Int) : (oN v).fit := ⟨by show 0 ≤ 40; decide, fun y hy => (by cases hy), by show 0 ≤ 300; decide, by show (0 : Int) ≤ _; decide⟩
theorem oN_in (P : Nat → Prop) (w : World) (v : Int) : InAt P w (oN v) none 0 none 0 := fun W _ => ⟨Bs.nil _, Obs.nil _, by show (0 : Int) ≤ _; decide, by show _ ≤ (0 : Int); decide⟩
def swX1 : Sp := ⟨1, Pb0, [], 1⟩
def swX2 : Sp := ⟨2, Pb0, [⟨0, 2, { Dv.zero with st := 3 }⟩], 2⟩
theorem swX1_eq : Sp.feed cfS Sp.ini (oN 3) = swX1 := rfl
theorem swX2_eq : Sp.feed cfS swX1 (oN 4) = swX2 := rfl
theorem cfS_win : WinOk cfS.win := (Cf.ok_of cfS_ok).win
theorem swX1_gd : SpGd cfS swX1 1 := by rw [← swX1_eq]; exact (SpGd.ini cfS).feed cfS_win (oN_fit 3)
theorem swX2_gd : SpGd cfS swX2 2 := by rw [← swX2_eq]; exact swX1_gd.feed cfS_win (oN_fit 4)
set_option maxRecDepth 100000 in
set_option maxHeartbeats 6400000 in
theorem awake33_any (w : World) : Calls Tryz.prog 8 #[] w (BoolPost w true) := by
  have HSA : Hid (∀ X, Calls Tryz.prog 40 #[] X fun r w' => ∃ sv, r = .returned (.agg (CfC cfS sv)) ∧ Rgs w' sv cfS.sets ∧ Below X.heap.size X w') := fun X => sample_any X
  have HNW : Hid (∀ sv X, Rgs X sv cfS.sets → Calls Tryz.prog 9 #[.agg (CfC cfS sv)] X fun r w' => ∃ g : Nat, r = .returned (.tuple #[.pointer (some ⟨g, 0, none⟩), .int .i64 0]) ∧ SwAt (Grw (fun _ => False) X w') w' g cfS Sp.ini ∧ Below X.heap.size X w') := fun sv X hs => (swnew_any cfS sv X hs (by decide) 0 cfS_ok).mono fun r w' h => by
    obtain ⟨h1 | ⟨-, g, h1, h2⟩, h3⟩ := h
    · exact absurd rfl h1.1
    · exact ⟨g, h1, h2, h3⟩
  have HF1 : Hid (∀ P X g, SwAt P X g cfS Sp.ini → Calls Tryz.prog 18 #[.pointer (some ⟨g, 0, none⟩), .agg #[.int .i64 3, .int .i64 0, .int .i64 0, .slice none 0 0, .int .i64 0, .int .i64 0, .bool false, .int .i64 0, .slice none 0 0]] X (SfPost P X g cfS swX1 0)) := fun P X g h => by
    have := swfeed_any cfS_ok h (SpGd.ini cfS) (by decide) (oN 3) none 0 none 0 (oN_in P X 3) (oN_fit 3) 0 rfl
    exact this
  have HF2 : Hid (∀ P X g, SwAt P X g cfS swX1 → Calls Tryz.prog 18 #[.pointer (some ⟨g, 0, none⟩), .agg #[.int .i64 4, .int .i64 0, .int .i64 0, .slice none 0 0, .int .i64 0, .int .i64 0, .bool false, .int .i64 0, .slice none 0 0]] X (SfPost P X g cfS swX2 0)) := fun P X g h => by
    have := swfeed_any cfS_ok h swX1_gd (by decide) (oN 4) none 0 none 0 (oN_in P X 4) (oN_fit 4) 0 rfl
    exact this
  have HPL : Hid (∀ P X g, SwAt P X g cfS swX1 → Calls Tryz.prog 14 #[.pointer (some ⟨g, 0, none⟩)] X (IntPost X 1)) := fun P X g h => splace_any h
  have HQU : Hid (∀ P X g, SwAt P X g cfS swX2 → Calls Tryz.prog 15 #[.pointer (some ⟨g, 0, none⟩)] X (IntPost X 2)) := fun P X g h => squeries_any h
  have HRE : Hid (∀ P X g, SwAt P X g cfS swX2 → Calls Tryz.prog 29 #[.pointer (some ⟨g, 0, none⟩), .slice none 0 0] X (RepPost X cfS swX2.fd)) := fun P X g h => swreport_nil h (by decide) (by decide) swX2_gd.fs (by decide)
  go_enter Tryz.func8, Tryz.ntmps8
  go_upto_region 2 with (first
    | (go_at_call 40; (with_reducible refine (HSA.out _).mono ?_); rintro r w1 ⟨sv, rfl, hs1, hb1⟩)
    | (go_at_call 9; (with_reducible refine (HNW.out _ _ hs1).mono ?_); rintro r w2 ⟨g, rfl, hs2, hb2⟩))
  go_upto_region 4 with (first
    | (go_at_call 18; (with_reducible refine (HF1.out _ _ _ hs2).mono ?_); rintro r w3 ⟨rfl, hs3, hk3⟩)
    | (go_at_call 14; (with_reducible refine (HPL.out _ _ _ hs3).mono ?_); rintro r w4 ⟨rfl, hb4⟩; have hs4 := hs3.keep (F := fun _ => False) (Keeps.of_below hb4) (fun _ _ e => e.elim))
    | (go_at_call 18; (with_reducible refine (HF2.out _ _ _ hs4).mono ?_); rintro r w5 ⟨rfl, hs5, hk5⟩))
  have hB5 : Below w.heap.size w w5 := by
    have z1 := hb1.size
    have z2 := hb2.size
    have k3 : Below w.heap.size w w3 := (bt hb1 hb2 (Nat.le_refl _)).trans (hk3.below (by omega) (fun j hj e => by
      rcases e with e | e
      · exact e
      · omega))
    have z3 := k3.size
    have k4 := bt k3 hb4 (Nat.le_refl _)
    have z4 := hk3.size
    exact k4.trans (hk5.below k4.size (fun j hj e => by
      rcases e with (e | e) | e
      · exact e
      · omega
      · omega))
  have HB5 := hid hB5
  have HS5 := hid hs5
  clear hs1 hb1 hs2 hb2 hs3 hk3 hs4 hb4 hs5 hk5 hB5
  go_upto_region 5 with (first
    | (go_at_call 29; (with_reducible refine (HRE.out _ _ _ HS5.out).mono ?_); rintro r w6 ⟨sv6, dv6, rfl, hrd6, hb6⟩; obtain ⟨da, dc, rfl⟩ := (hrd6 w6 (Agree.refl _ _)).2.fds.slc; obtain ⟨s1, s2, rfl⟩ := (hrd6 w6 (Agree.refl _ _)).1.slc; obtain ⟨RC, hRC⟩ : ∃ C, RpC cfS (.slice s1 cfS.sets.length s2) (.slice da swX2.fd.length dc) = C := ⟨_, rfl⟩; have hRi : (Tryz.prog.info? 71).map (·.size) = some RC.size := (by rw [← hRC]; exact infoRp); have hRo : RC.toList.all (·.oneCell') = true := (by rw [← hRC]; rfl); have hRs : RC.size = 12 := (by rw [← hRC]; rfl); rw [hRC]; have HRC := hid hRC; have HRS := hid hRs; clear hRC hRs)
    | (refine wpList_storeW rfl 71 (.tmp 3) (.tmp 36) rfl w6.heap.size 0 _ 71 RC rfl rfl (hpNew w6 (.cells #[.slice none 0 0, .int .i64 0, .int .i64 0, .int .i64 0, .int .i64 0, .int .i64 0, .int .i64 0, .int .i64 0, .int .i64 0, .int .i64 0, .int .i64 0, .slice none 0 0] 71)) (by simp [HRS.out]) hRi hRo ?_; intro w7 g7 hk7 hz7))
  have g7' : w7.heap[w6.heap.size]? = some (.cells RC 71) := by rw [g7, List.drop_eq_nil_of_le (by simp [HRS.out])]; simp
  have hb67 : Below w6.heap.size w6 w7 := (bal' w6 (.cells #[.slice none 0 0, .int .i64 0, .int .i64 0, .int .i64 0, .int .i64 0, .int .i64 0, .int .i64 0, .int .i64 0, .int .i64 0, .int .i64 0, .int .i64 0, .slice none 0 0] 71)).trans (hk7.below (by simp) (fun j hj e => by omega))
  have hB7 : Below w.heap.size w w7 := bt (bt HB5.out hb6 (Nat.le_refl _)) hb67 (Nat.le_refl _)
  have hs7 := (HS5.out.keep (F := fun _ => False) (Keeps.of_below hb6) (fun _ _ e => e.elim)).keep (F := fun _ => False) (Keeps.of_below hb67) (fun _ _ e => e.elim)
  have c11 : w7.cell? ⟨w6.heap.size, 11, none⟩ = some (.slice da 1 dc) := by rw [hpCell g7', ← HRC.out]; rfl
  obtain ⟨b, ov, dv, mv, rfl, -, hcl, -⟩ := FdsO.at (hrd6 w7 (Agree.of_below hb67)).2 (i := 0) (f := ⟨0, 2, { Dv.zero with st := 3 }⟩) rfl
  have d1 : w7.cell? ⟨b, 1, none⟩ = some (.int .i64 2) := hcl 1 _ rfl
  have d2 : w7.cell? ⟨b, 2, none⟩ = some (.int .i64 3) := hcl 2 _ rfl
  have HS7 := hid hs7
  have HB7 := hid hB7
  clear hs7 hB7 hb67 hb6 g7 g7' hk7 hz7 hcl hrd6 hRi hRo
  generalize w6.heap.size = q6 at *
  go_wp2_with (go_at_call 15; (with_reducible refine (HQU.out _ _ _ HS7.out).mono ?_); rintro r w8 ⟨rfl, hb8⟩)
  go_ret
  exact ⟨rfl, bt HB7.out hb8 (Nat.le_refl _)⟩
end Go.Proofs.YtipnamoocemeeaaGreat

namespace Go.Proofs.YtipnamoocemeeaaGreat
open Go.RowKit
end Go.Proofs.YtipnamoocemeeaaGreat
namespace Go.Proofs.YtipnamoocemeeaaGreat
open Go.RowKit
end Go.Proofs.YtipnamoocemeeaaGreat
namespace Go.Proofs.YtipnamoocemeeaaGreat
open Go.RowKit
end Go.Proofs.YtipnamoocemeeaaGreat
namespace Go.Proofs.YtipnamoocemeeaaGreat
open Go.RowKit
end Go.Proofs.YtipnamoocemeeaaGreat
