/-
  Texts 45 of the claim.
-/
import Derived.Test.YtipnamoocemeeaaGreatA44
import Derived.Test.YtipnamoocemeeaaGreatA38
/-
  The reference's sweep: New and Next.
-/
namespace Go.Proofs.YtipnamoocemeeaaGreat
open Go.RowKit
theorem RqAt.lt {P : Nat → Prop} {W0 W : World} {g : Nat} {win : Nat → Int × Int} {p : Pb} (h : RqAt P W0 W g win p) : g < W.heap.size := by
  obtain ⟨-, -, Q, st, iV, sV, mV, ov, sv, mv, hQ, hi, -⟩ := h
  exact hpLt hi
/-- The blocks of a sweep that began at this world. -/
def RsN (w W : World) (j : Nat) : Prop := w.heap.size ≤ j ∧ j < W.heap.size
theorem RsAt.ini {W0 w X w4 : World} {c : Cf} {sv : Value} {gp : Nat} (hB : Below W0.heap.size W0 w) (hX : Below w.heap.size w X) (h4 : Below X.heap.size X w4) (hs : Rgs W0 sv c.sets) (hgp : X.heap.size ≤ gp) (hp : RqAt (RsQ W0 (RsN X w4)) W0 w4 gp c.win Pb0) :
    RsAt (RsQ W0 (RsN w (w4.alloc (.cells (SwC c sv (.pointer (some ⟨gp, 0, none⟩)) (.slice none 0 0) 0 0) 46)))) W0 (w4.alloc (.cells (SwC c sv (.pointer (some ⟨gp, 0, none⟩)) (.slice none 0 0) 0 0) 46)) w4.heap.size c Sp.ini := by
  obtain ⟨O, hO⟩ : ∃ O, Obj.cells (SwC c sv (.pointer (some ⟨gp, 0, none⟩)) (.slice none 0 0) 0 0) 46 = O := ⟨_, rfl⟩
  have hz : (w4.alloc O).heap.size = w4.heap.size + 1 := by simp
  have z1 := hB.size
  have z2 := hX.size
  have z3 := h4.size
  have hgl := hp.lt
  have hb4 : Below W0.heap.size W0 (w4.alloc O) := bt (bt (bt hB hX (Nat.le_refl _)) h4 (Nat.le_refl _)) (bal' w4 O) (Nat.le_refl _)
  have hI : RsI (w4.alloc O) w4.heap.size c sv (.pointer (some ⟨gp, 0, none⟩)) (.slice none 0 0) 0 0 := by rw [← hO]; exact hpNew _ _
  rw [hO]
  refine ⟨fun j => j = w4.heap.size ∨ RsN X w4 j, RsN X w4, sv, gp, none, 0, [], ⟨.inl rfl, fun j hj => ?_, fun j hj => .inl hj, fun j hj => ?_, fun j hj => ⟨.inr hj, ?_⟩, fun j hj => (by cases hj), hI, fun W' hW => hs.keep (hb4.trans (hW.below hb4.size (fun j hj e => ?_))), World.ownsRow_nil _ _ _ _, rfl⟩, ⟨hgp, hgl⟩, hp.keep (F := fun _ => False) (Keeps.of_below (bal' w4 O)) (fun _ _ e => e.elim)⟩
  · rcases hj with rfl | ⟨e1, e2⟩
    · exact ⟨.inr ⟨by omega, by omega⟩, by omega⟩
    · exact ⟨.inr ⟨by omega, by omega⟩, by omega⟩
  · rcases hj with e | e
    · omega
    · exact e.2
  · have := hj.2
    omega
  · rcases e with (e | e) | e
    · omega
    · have := e.1
      omega
    · exact e (.inl hj)

set_option maxRecDepth 100000 in
set_option maxHeartbeats 6400000 in
theorem rsnew_s (c : Cf) (sv : Value) (W0 w : World) (hB : Below W0.heap.size W0 w) (hs : Rgs W0 sv c.sets) (hwo : WinOk c.win) :
    Calls Tryz.prog 11 #[.agg (CfC c sv)] w fun r w' => ∃ g, r = .returned (.pointer (some ⟨g, 0, none⟩)) ∧ RsAt (RsQ W0 (RsN w w')) W0 w' g c Sp.ini ∧ Below w.heap.size w w' := by
  obtain ⟨C, hC⟩ : ∃ C, CfC c sv = C := ⟨_, rfl⟩
  rw [hC]
  obtain ⟨W1, hW1⟩ : ∃ W, w.alloc (.cells C 27) = W := ⟨_, rfl⟩
  have hb1 : Below w.heap.size w W1 := by rw [← hW1]; exact bal' w _
  have p1 : W1.heap[w.heap.size]? = some (.cells C 27) := by rw [← hW1]; exact hpNew w _
  rw [← hC] at p1
  have kD : Below W1.heap.size W1 W1.drew := (Below.refl _ _).drew
  have HR1 : Hid (∀ X, Below W1.heap.size W1 X → ∀ j v, (#[sv, .int .i64 c.fi, .int .i64 c.la, .int .i64 c.re, .int .i64 c.ti, .int .i64 c.de, .int .i64 (c.win 0).1, .int .i64 (c.win 0).2, .int .i64 (c.win 1).1, .int .i64 (c.win 1).2, .int .i64 (c.win 2).1, .int .i64 (c.win 2).2, .int .i64 (c.win 3).1, .int .i64 (c.win 3).2, .int .i64 c.ev, .int .i64 c.st] : Array Value).toList[j]? = some v → X.cell? ((⟨w.heap.size, 0, none⟩ : Addr).add j) = some v) := fun X hX => hpRowAt2 (hpKeep p1 hX)
  have HR2 : Hid (∀ X, Below W1.heap.size W1 X → ∀ j v, (#[.int .i64 (c.win 0).1, .int .i64 (c.win 0).2, .int .i64 (c.win 1).1, .int .i64 (c.win 1).2, .int .i64 (c.win 2).1, .int .i64 (c.win 2).2, .int .i64 (c.win 3).1, .int .i64 (c.win 3).2] : Array Value).toList[j]? = some v → X.cell? ((⟨w.heap.size, 6, none⟩ : Addr).add j) = some v) := fun X hX j v hj => by
    have e : (⟨w.heap.size, 6, none⟩ : Addr).add j = ⟨w.heap.size, 6 + j, none⟩ := by unfold Addr.add; split <;> simp_all
    rw [e, hpCell (hpKeep p1 hX)]
    exact CfC_win j v hj
  have HND : Hid (∀ X, Below W1.heap.size W1 X → Calls Tryz.prog 47 #[.agg #[.int .i64 (c.win 0).1, .int .i64 (c.win 0).2, .int .i64 (c.win 1).1, .int .i64 (c.win 1).2, .int .i64 (c.win 2).1, .int .i64 (c.win 2).2, .int .i64 (c.win 3).1, .int .i64 (c.win 3).2]] X fun r w' => ∃ g : Nat, r = .returned (.pointer (some ⟨g, 0, none⟩)) ∧ X.heap.size ≤ g ∧ RqAt (fun j => j < W0.heap.size ∨ (X.heap.size ≤ j ∧ j < w'.heap.size)) W0 w' g c.win ⟨.test, Dv.zero, 0⟩ ∧ Below X.heap.size X w') := fun X hX => rpnew_ok c.win hwo W0 X (bt (bt hB hb1 (Nat.le_refl _)) hX (Nat.le_refl _))
  have HW1 := hid hW1
  have HB := hid hB
  have HB1 := hid hb1
  have HS := hid hs
  clear hW1 hb1 p1 hC hB hs hwo
  go_enter Tryz.func11, Tryz.ntmps11
  go_upto_region 1 with (fail)
  rw [HW1.out]
  refine wp_region_held_drew (S := fun V => Below W1.heap.size W1 V) (by kernel_rfl) kD (fun hH => ?_)
  clear hH
  refine tkD 0 3 (v := .agg #[sv, .int .i64 c.fi, .int .i64 c.la, .int .i64 c.re, .int .i64 c.ti, .int .i64 c.de, .int .i64 (c.win 0).1, .int .i64 (c.win 0).2, .int .i64 (c.win 1).1, .int .i64 (c.win 1).2, .int .i64 (c.win 2).1, .int .i64 (c.win 2).2, .int .i64 (c.win 3).1, .int .i64 (c.win 3).2, .int .i64 c.ev, .int .i64 c.st]) rfl (by kernel_rfl) (fun _ _ _ h => h) rfl (by rfl) (by assumption) (fun X hX => run_load_rowS 27 (.tmp 1) rfl ⟨w.heap.size, 0, none⟩ rfl #[sv, .int .i64 c.fi, .int .i64 c.la, .int .i64 c.re, .int .i64 c.ti, .int .i64 c.de, .int .i64 (c.win 0).1, .int .i64 (c.win 0).2, .int .i64 (c.win 1).1, .int .i64 (c.win 1).2, .int .i64 (c.win 2).1, .int .i64 (c.win 2).2, .int .i64 (c.win 3).1, .int .i64 (c.win 3).2, .int .i64 c.ev, .int .i64 c.st] _ (HR1.out X hX) Tryz.underlying27 rfl infoCf) ?_; simp only [List.setIfInBounds_toArray, List.set_cons_zero, List.set_cons_succ]
  refine tkD 1 4 (v := ?_) rfl (by kernel_rfl) (fun _ _ _ h => h) rfl (by rfl) (by assumption) ?_ ?_; rotate_left; (intro w hSw; (try dsimp only at hSw); go_simp; try (with_reducible rfl)); simp only [List.setIfInBounds_toArray, List.set_cons_zero, List.set_cons_succ]
  refine tkD 2 5 (v := .agg #[.int .i64 (c.win 0).1, .int .i64 (c.win 0).2, .int .i64 (c.win 1).1, .int .i64 (c.win 1).2, .int .i64 (c.win 2).1, .int .i64 (c.win 2).2, .int .i64 (c.win 3).1, .int .i64 (c.win 3).2]) rfl (by kernel_rfl) (fun _ _ _ h => h) rfl (by rfl) (by assumption) (fun X hX => run_load_rowS 25 (.tmp 4) rfl ⟨w.heap.size, 6, none⟩ rfl #[.int .i64 (c.win 0).1, .int .i64 (c.win 0).2, .int .i64 (c.win 1).1, .int .i64 (c.win 1).2, .int .i64 (c.win 2).1, .int .i64 (c.win 2).2, .int .i64 (c.win 3).1, .int .i64 (c.win 3).2] _ (HR2.out X hX) Tryz.underlying25 rfl infoW) ?_; simp only [List.setIfInBounds_toArray, List.set_cons_zero, List.set_cons_succ]
  refine wpAnyH_ready (rs := [3]) (by kernel_rfl) (by simp) ?_; refine AllReadyH.cons rfl (fun K hK => ?_) AllReadyH.nil
  go_simp
  refine (HND.out _ kD).mono ?_
  rintro r w4 ⟨gp, rfl, hgp, hp4, hb4⟩
  have hB4 := bt kD hb4 (Nat.le_refl _)
  have HP4 := hid hp4
  have HB4 := hid hb4
  refine hK.out _ _ hB4 (fun hS1 => ?_)
  clear hK K hp4
  refine tkD 4 7 (v := ?_) rfl (by kernel_rfl) (fun _ _ _ h => h) rfl (by rfl) (by assumption) ?_ ?_; rotate_left; (intro w hSw; (try dsimp only at hSw); go_simp; try (with_reducible rfl)); simp only [List.setIfInBounds_toArray, List.set_cons_zero, List.set_cons_succ]
  refine wpAnyH_ready (rs := [5]) (by kernel_rfl) (by simp) ?_; refine AllReadyH.cons rfl (fun K hK => ?_) AllReadyH.nil
  go_simp
  refine hK.out _ _ (bta hB4 (Nat.le_refl _) _) (fun hS2 => ?_)
  clear hK K hS1
  refine tkD 6 2 (v := ?_) rfl (by kernel_rfl) (fun _ _ _ h => h) rfl (by rfl) (by assumption) ?_ ?_; rotate_left; (intro w hSw; (try dsimp only at hSw); go_simp; try (with_reducible rfl)); simp only [List.setIfInBounds_toArray, List.set_cons_zero, List.set_cons_succ]
  refine wpAnyH_done (by kernel_rfl) ?_ _
  go_wp2
  go_ret
  refine ⟨w4.heap.size, rfl, ?_, bt HB1.out (bta hB4 (Nat.le_refl _) _) (Nat.le_refl _)⟩
  exact RsAt.ini HB.out (HB1.out.trans ((Below.refl W1.heap.size W1).drew.mono HB1.out.size)) HB4.out HS.out hgp HP4.out

set_option maxRecDepth 100000 in
set_option maxHeartbeats 6400000 in
theorem rsnext_s {P : Nat → Prop} {W0 w : World} {g : Nat} {c : Cf} {x : Sp} (hc : chkE c = 0) (h : RsAt P W0 w g c x) (hok1 : x.pb.ph.ok c.win) (hok2 : x.pb.ph.isDone = false) (ha : x.at_ ≤ 1000000) :
    Calls Tryz.prog 13 #[.pointer (some ⟨g, 0, none⟩)] w (NxPost w c x) := by
  obtain ⟨M, Q, sv, gp, fa, fc, cs, hs, hqg, hpb⟩ := h
  have hgl : g < w.heap.size := hpLt hs.at_
  obtain ⟨W1, hW1⟩ : ∃ W, w.alloc (.cells #[.int .i64 0, .int .i64 0, .int .i64 0, .int .i64 0, .int .i64 0] 39) = W := ⟨_, rfl⟩
  have hb0 : Below w.heap.size w W1 := by rw [← hW1]; exact bal' w _
  have p0 : W1.heap[w.heap.size]? = some (.cells #[.int .i64 0, .int .i64 0, .int .i64 0, .int .i64 0, .int .i64 0] 39) := by rw [← hW1]; exact hpNew w _
  have hz0 : W1.heap.size = w.heap.size + 1 := by rw [← hW1]; simp
  have hg0 := hpKeep hs.at_ hb0
  have c17 : ∀ X, Below W1.heap.size W1 X → X.cell? ⟨g, 17, none⟩ = some (.pointer (some ⟨gp, 0, none⟩)) := fun X k => hpCell (hpKeep hg0 k) 17
  have c16 : ∀ X, Below W1.heap.size W1 X → X.cell? ⟨g, 16, none⟩ = some (.int .i64 x.at_) := fun X k => hpCell (hpKeep hg0 k) 16
  have hpb0 := hpb.keep (F := fun _ => False) (Keeps.of_below hb0) (fun _ _ e => e.elim)
  have HNX : Hid (∀ X, Below W1.heap.size W1 X → Calls Tryz.prog 51 #[.pointer (some ⟨gp, 0, none⟩)] X (AskPost X x.pb.ph.ask true)) := fun X hX => rpnext_any (hpb0.keep (F := fun _ => False) (Keeps.of_below hX) (fun _ _ e => e.elim)) hok1 _ true rfl (by rw [hok2]; rfl)
  have HPL : Hid (∀ X, Below W1.heap.size W1 X → Calls Tryz.prog 50 #[.agg (CfC c sv), .int .i64 (x.at_ : Int)] X (PlcPost X c x.at_)) := fun X hX => rplace_ok c hc sv x.at_ ha X (hs.st X (Keeps.of_below (bt hb0 hX (Nat.le_refl _))))
  have HRW : Hid (∀ X, Below W1.heap.size W1 X → ∀ j v, (CfC c sv).toList[j]? = some v → X.cell? ((⟨g, 0, none⟩ : Addr).add j) = some v) := fun X hX j v hj => by
    have e : (⟨g, 0, none⟩ : Addr).add j = ⟨g, j, none⟩ := by unfold Addr.add; split <;> simp_all
    rw [e, hpCell (hpKeep hg0 hX)]
    exact SwC_cf j v hj
  obtain ⟨C, hC⟩ : ∃ C, CfC c sv = C := ⟨_, rfl⟩
  have hi : (Tryz.prog.info? 27).map (·.size) = some C.size := by rw [← hC]; exact infoCf
  rw [hC] at HPL HRW
  have kD : Below W1.heap.size W1 W1.drew := (Below.refl _ _).drew
  have HW1 := hid hW1
  have HB0 := hid hb0
  have HZ0 := hid hz0
  clear hs hpb hpb0 hok1 hok2 hC hc hqg hW1 hb0 hz0
  go_enter Tryz.func13, Tryz.ntmps13
  go_upto_region 1 with (fail)
  rw [HW1.out]
  by_cases hlt : x.at_ < c.units
  · have HP : Hid (∀ X, Below w.heap.size w X → NxPost w c x (.returned (.tuple #[.int .i64 (c.pSet x.at_), .int .i64 (c.pUnit x.at_), .agg (#[.int .i64 x.pb.ph.ask.fn, .int .i64 x.pb.ph.ask.addr, .int .i64 x.pb.ph.ask.qty, .int .i64 x.pb.ph.ask.code, .int .i64 x.pb.ph.ask.obj]), .bool true])) X) := fun X hX => ⟨by rw [if_pos hlt], hX⟩
    have HPL2 : Hid (∀ X, Below W1.heap.size W1 X → Calls Tryz.prog 50 #[.agg C, .int .i64 (x.at_ : Int)] X fun r w' => r = .returned (.tuple #[.int .i64 (c.pSet x.at_), .int .i64 (c.pUnit x.at_), .bool true]) ∧ Below X.heap.size X w') := fun X hX => (HPL.out X hX).mono fun _ _ h => by
      obtain ⟨h1, h2⟩ := h
      rw [if_pos hlt] at h1
      exact ⟨h1, h2⟩
    obtain ⟨ps, hps⟩ : ∃ p, c.pSet x.at_ = p := ⟨_, rfl⟩
    obtain ⟨pu, hpu⟩ : ∃ p, c.pUnit x.at_ = p := ⟨_, rfl⟩
    obtain ⟨q, hq⟩ : ∃ p, x.pb.ph.ask = p := ⟨_, rfl⟩
    rw [hps, hpu] at HPL2
    rw [hps, hpu, hq] at HP
    rw [hq] at HNX
    clear hlt hps hpu hq HPL
    refine wp_region_held_drew (S := fun V => Below W1.heap.size W1 V) (by kernel_rfl) kD (fun hH => ?_)
    clear hH
    refine tkD 0 12 (v := ?_) rfl (by kernel_rfl) (fun _ _ _ h => h) rfl (by rfl) (by assumption) ?_ ?_; rotate_left; (intro w hSw; (try dsimp only at hSw); go_simp; try (with_reducible rfl)); simp only [List.setIfInBounds_toArray, List.set_cons_zero, List.set_cons_succ]
    refine tkD 1 13 (v := ?_) rfl (by kernel_rfl) (fun _ _ _ h => h) rfl (by rfl) (by assumption) ?_ ?_; rotate_left; (intro w hSw; (try dsimp only at hSw); go_simp; try (with_reducible rfl)); simp only [List.setIfInBounds_toArray, List.set_cons_zero, List.set_cons_succ]
    refine tkD 2 14 (v := ?_) rfl (by kernel_rfl) (fun _ _ _ h => h) rfl (by rfl) (by assumption) ?_ ?_; rotate_left; (intro w hSw; (try dsimp only at hSw); go_simp; try (with_reducible rfl)); simp only [List.setIfInBounds_toArray, List.set_cons_zero, List.set_cons_succ]
    refine tkD 3 15 (v := .agg C) rfl (by kernel_rfl) (fun _ _ _ h => h) rfl (by rfl) (by assumption) (fun X hX => run_load_rowS 27 (.tmp 14) rfl ⟨g, 0, none⟩ rfl C _ (HRW.out X hX) Tryz.underlying27 rfl hi) ?_; simp only [List.setIfInBounds_toArray, List.set_cons_zero, List.set_cons_succ]
    refine tkD 4 16 (v := ?_) rfl (by kernel_rfl) (fun _ _ _ h => h) rfl (by rfl) (by assumption) ?_ ?_; rotate_left; (intro w hSw; (try dsimp only at hSw); go_simp; try (with_reducible rfl)); simp only [List.setIfInBounds_toArray, List.set_cons_zero, List.set_cons_succ]
    refine tkD 5 17 (v := ?_) rfl (by kernel_rfl) (fun _ _ _ h => h) rfl (by rfl) (by assumption) ?_ ?_; rotate_left; (intro w hSw; (try dsimp only at hSw); go_simp; try (with_reducible rfl)); simp only [List.setIfInBounds_toArray, List.set_cons_zero, List.set_cons_succ]
    refine tkD 6 18 (v := ?_) rfl (by kernel_rfl) (fun _ _ _ h => h) rfl (by rfl) (by assumption) ?_ ?_; rotate_left; (intro w hSw; (try dsimp only at hSw); go_simp; try (with_reducible rfl)); simp only [List.setIfInBounds_toArray, List.set_cons_zero, List.set_cons_succ]
    refine tkD 7 19 (v := ?_) rfl (by kernel_rfl) (fun _ _ _ h => h) rfl (by rfl) (by assumption) ?_ ?_; rotate_left; (intro w hSw; (try dsimp only at hSw); go_simp; try (with_reducible rfl)); simp only [List.setIfInBounds_toArray, List.set_cons_zero, List.set_cons_succ]
    refine wpAnyH_ready (rs := [8]) (by kernel_rfl) (by simp) ?_; refine AllReadyH.cons rfl (fun K hK => ?_) AllReadyH.nil
    go_simp
    refine (HPL2.out _ kD).mono ?_
    rintro r w1 ⟨rfl, hb1⟩
    have hB1 := bt kD hb1 (Nat.le_refl _)
    refine hK.out _ _ hB1 (fun hS1 => ?_)
    clear hK K
    refine tkD 9 11 (v := ?_) rfl (by kernel_rfl) (fun _ _ _ h => h) rfl (by rfl) (by assumption) ?_ ?_; rotate_left; (intro w hSw; (try dsimp only at hSw); go_simp; try (with_reducible rfl)); simp only [List.setIfInBounds_toArray, List.set_cons_zero, List.set_cons_succ]
    refine tkD 10 21 (v := ?_) rfl (by kernel_rfl) (fun _ _ _ h => h) rfl (by rfl) (by assumption) ?_ ?_; rotate_left; (intro w hSw; (try dsimp only at hSw); go_simp; try (with_reducible rfl)); simp only [List.setIfInBounds_toArray, List.set_cons_zero, List.set_cons_succ]
    refine tkD 11 22 (v := ?_) rfl (by kernel_rfl) (fun _ _ _ h => h) rfl (by rfl) (by assumption) ?_ ?_; rotate_left; (intro w hSw; (try dsimp only at hSw); go_simp; try (with_reducible rfl)); simp only [List.setIfInBounds_toArray, List.set_cons_zero, List.set_cons_succ]
    refine tkD 12 23 (v := ?_) rfl (by kernel_rfl) (fun _ _ _ h => h) rfl (by rfl) (by assumption) ?_ ?_; rotate_left; (intro w hSw; (try dsimp only at hSw); go_simp; try (with_reducible rfl)); simp only [List.setIfInBounds_toArray, List.set_cons_zero, List.set_cons_succ]
    refine tkD 13 6 (v := ?_) rfl (by kernel_rfl) (fun _ _ _ h => h) rfl (by rfl) (by assumption) ?_ ?_; rotate_left; (intro w hSw; (try dsimp only at hSw); go_simp; try (with_reducible rfl)); simp only [List.setIfInBounds_toArray, List.set_cons_zero, List.set_cons_succ]
    refine tkD 14 7 (v := ?_) rfl (by kernel_rfl) (fun _ _ _ h => h) rfl (by rfl) (by assumption) ?_ ?_; rotate_left; (intro w hSw; (try dsimp only at hSw); go_simp; try (with_reducible rfl)); simp only [List.setIfInBounds_toArray, List.set_cons_zero, List.set_cons_succ]
    refine tkD 15 8 (v := ?_) rfl (by kernel_rfl) (fun _ _ _ h => h) rfl (by rfl) (by assumption) ?_ ?_; rotate_left; (intro w hSw; (try dsimp only at hSw); go_simp; try (with_reducible rfl)); simp only [List.setIfInBounds_toArray, List.set_cons_zero, List.set_cons_succ]
    refine wpAnyH_done (by kernel_rfl) ?_ _
    have p1 := hpKeep p0 hB1
    have c17' := c17 w1 hB1
    clear hS1 c16 c17
    go_upto_region 5 with (go_at_call 51; (with_reducible refine (HNX.out _ hB1).mono ?_); rintro r w2 ⟨rfl, hb2⟩)
    have p2 := hpKeep p1 hb2
    obtain ⟨W3, hW3⟩ : ∃ W, w2.alloc (.cells #[.int .i64 q.fn, .int .i64 q.addr, .int .i64 q.qty, .int .i64 q.code, .int .i64 q.obj] 39) = W := ⟨_, rfl⟩
    have hb3 : Below w2.heap.size w2 W3 := by rw [← hW3]; exact bal' w2 _
    have q3 : W3.heap[w2.heap.size]? = some (.cells #[.int .i64 q.fn, .int .i64 q.addr, .int .i64 q.qty, .int .i64 q.code, .int .i64 q.obj] 39) := by rw [← hW3]; exact hpNew w2 _
    have p3 := hpKeep p2 hb3
    rw [hW3]
    have hB2 := bt hB1 hb2 (Nat.le_refl _)
    have hBX : Below w.heap.size w W3 := bt (bt HB0.out hB2 (Nat.le_refl _)) hb3 (by have := hB2.size; have := HB0.out.size; omega)
    have hne : ¬ w2.heap.size = w.heap.size := by have := hB2.size; have := HZ0.out; omega
    have q3d := hpKeep q3 (Below.refl _ _).drew
    have p3d := hpKeep p3 (Below.refl _ _).drew
    have HBX := hid (bt hBX (Below.refl W3.heap.size W3).drew (Nat.le_refl _))
    clear hW3 q3 p3 p2 hb2 hb3 c17' p1 hB2 hBX
    generalize w2.heap.size = qb at *
    refine wp_region_held_drew (S := fun V => V.heap[qb]? = some (.cells #[.int .i64 q.fn, .int .i64 q.addr, .int .i64 q.qty, .int .i64 q.code, .int .i64 q.obj] 39)) (by kernel_rfl) q3d (fun hH => ?_)
    clear hH
    refine tkD 0 35 (v := ?_) rfl (by kernel_rfl) (fun _ _ _ h => h) rfl (by rfl) (by assumption) ?_ ?_; rotate_left; (intro w hSw; (try dsimp only at hSw); go_simp; try (with_reducible rfl)); simp only [List.setIfInBounds_toArray, List.set_cons_zero, List.set_cons_succ]
    refine tkD 1 36 (v := ?_) rfl (by kernel_rfl) (fun _ _ _ h => h) rfl (by rfl) (by assumption) ?_ ?_; rotate_left; (intro w hSw; (try dsimp only at hSw); go_simp; try (with_reducible rfl)); simp only [List.setIfInBounds_toArray, List.set_cons_zero, List.set_cons_succ]
    refine tkD 2 37 (v := .agg #[.int .i64 q.fn, .int .i64 q.addr, .int .i64 q.qty, .int .i64 q.code, .int .i64 q.obj]) rfl (by kernel_rfl) (fun _ _ _ h => h) rfl (by rfl) (by assumption) (fun X hX => run_load_rowS 39 (.tmp 9) rfl ⟨qb, 0, none⟩ rfl #[.int .i64 q.fn, .int .i64 q.addr, .int .i64 q.qty, .int .i64 q.code, .int .i64 q.obj] _ (hpRowAt2 hX) Tryz.underlying39 rfl info5) ?_; simp only [List.setIfInBounds_toArray, List.set_cons_zero, List.set_cons_succ]
    refine tkD 3 2 (v := ?_) rfl (by kernel_rfl) (fun _ _ _ h => h) rfl (by rfl) (by assumption) ?_ ?_; rotate_left; (intro w hSw; (try dsimp only at hSw); go_simp; try (with_reducible rfl)); simp only [List.setIfInBounds_toArray, List.set_cons_zero, List.set_cons_succ]
    refine tkD 4 3 (v := ?_) rfl (by kernel_rfl) (fun _ _ _ h => h) rfl (by rfl) (by assumption) ?_ ?_; rotate_left; (intro w hSw; (try dsimp only at hSw); go_simp; try (with_reducible rfl)); simp only [List.setIfInBounds_toArray, List.set_cons_zero, List.set_cons_succ]
    refine wpAnyH_ready (rs := [5]) (by kernel_rfl) (by simp) ?_; refine AllReadyH.cons rfl (fun K hK => ?_) AllReadyH.nil
    refine step_storeS rfl 39 (.tmp 4) (.tmp 37) rfl w.heap.size 0 _ 39 #[.int .i64 q.fn, .int .i64 q.addr, .int .i64 q.qty, .int .i64 q.code, .int .i64 q.obj] rfl rfl p3d (by simp) info5 rfl ?_
    intro w4 g4 hk4 hz4
    have g4' : w4.heap[w.heap.size]? = some (.cells #[.int .i64 q.fn, .int .i64 q.addr, .int .i64 q.qty, .int .i64 q.code, .int .i64 q.obj] 39) := g4
    refine hK.out _ _ (hpKeeps q3d hk4 hne) (fun hS4 => ?_)
    clear hK K
    dsimp only [Act.put]
    refine tkD 6 5 (v := ?_) rfl (by kernel_rfl) (fun _ _ _ h => h) rfl (by rfl) (by assumption) ?_ ?_; rotate_left; (intro w hSw; (try dsimp only at hSw); go_simp; try (with_reducible rfl))
    refine wpAnyH_done (by kernel_rfl) ?_ _
    have q0 := hpCell g4' 0
    have q1 := hpCell g4' 1
    have q2 := hpCell g4' 2
    have q3 := hpCell g4' 3
    have q4 := hpCell g4' 4
    clear g4 hz4 g4'
    go_wp2
    refine bodyPost_ret (v := .tuple #[.int .i64 ps, .int .i64 pu, .agg #[.int .i64 q.fn, .int .i64 q.addr, .int .i64 q.qty, .int .i64 q.code, .int .i64 q.obj], .bool true]) (by simp [results, Tryz.results13, go_sem, q0, q1, q2, q3, q4]) rfl ?_
    exact HP.out _ (HBX.out.trans (hk4.below HBX.out.size (fun j hj e => by omega)))
  · have HP : Hid (∀ X, Below w.heap.size w X → NxPost w c x (.returned (.tuple #[.int .i64 0, .int .i64 0, .agg (#[.int .i64 0, .int .i64 0, .int .i64 0, .int .i64 0, .int .i64 0]), .bool false])) X) := fun X hX => ⟨by rw [if_neg hlt], hX⟩
    have HPL2 : Hid (∀ X, Below W1.heap.size W1 X → Calls Tryz.prog 50 #[.agg C, .int .i64 (x.at_ : Int)] X fun r w' => r = .returned (.tuple #[.int .i64 0, .int .i64 0, .bool false]) ∧ Below X.heap.size X w') := fun X hX => (HPL.out X hX).mono fun _ _ h => by
      obtain ⟨h1, h2⟩ := h
      rw [if_neg hlt] at h1
      exact ⟨h1, h2⟩
    clear hlt HPL
    refine wp_region_held_drew (S := fun V => Below W1.heap.size W1 V) (by kernel_rfl) kD (fun hH => ?_)
    clear hH
    refine tkD 0 12 (v := ?_) rfl (by kernel_rfl) (fun _ _ _ h => h) rfl (by rfl) (by assumption) ?_ ?_; rotate_left; (intro w hSw; (try dsimp only at hSw); go_simp; try (with_reducible rfl)); simp only [List.setIfInBounds_toArray, List.set_cons_zero, List.set_cons_succ]
    refine tkD 1 13 (v := ?_) rfl (by kernel_rfl) (fun _ _ _ h => h) rfl (by rfl) (by assumption) ?_ ?_; rotate_left; (intro w hSw; (try dsimp only at hSw); go_simp; try (with_reducible rfl)); simp only [List.setIfInBounds_toArray, List.set_cons_zero, List.set_cons_succ]
    refine tkD 2 14 (v := ?_) rfl (by kernel_rfl) (fun _ _ _ h => h) rfl (by rfl) (by assumption) ?_ ?_; rotate_left; (intro w hSw; (try dsimp only at hSw); go_simp; try (with_reducible rfl)); simp only [List.setIfInBounds_toArray, List.set_cons_zero, List.set_cons_succ]
    refine tkD 3 15 (v := .agg C) rfl (by kernel_rfl) (fun _ _ _ h => h) rfl (by rfl) (by assumption) (fun X hX => run_load_rowS 27 (.tmp 14) rfl ⟨g, 0, none⟩ rfl C _ (HRW.out X hX) Tryz.underlying27 rfl hi) ?_; simp only [List.setIfInBounds_toArray, List.set_cons_zero, List.set_cons_succ]
    refine tkD 4 16 (v := ?_) rfl (by kernel_rfl) (fun _ _ _ h => h) rfl (by rfl) (by assumption) ?_ ?_; rotate_left; (intro w hSw; (try dsimp only at hSw); go_simp; try (with_reducible rfl)); simp only [List.setIfInBounds_toArray, List.set_cons_zero, List.set_cons_succ]
    refine tkD 5 17 (v := ?_) rfl (by kernel_rfl) (fun _ _ _ h => h) rfl (by rfl) (by assumption) ?_ ?_; rotate_left; (intro w hSw; (try dsimp only at hSw); go_simp; try (with_reducible rfl)); simp only [List.setIfInBounds_toArray, List.set_cons_zero, List.set_cons_succ]
    refine tkD 6 18 (v := ?_) rfl (by kernel_rfl) (fun _ _ _ h => h) rfl (by rfl) (by assumption) ?_ ?_; rotate_left; (intro w hSw; (try dsimp only at hSw); go_simp; try (with_reducible rfl)); simp only [List.setIfInBounds_toArray, List.set_cons_zero, List.set_cons_succ]
    refine tkD 7 19 (v := ?_) rfl (by kernel_rfl) (fun _ _ _ h => h) rfl (by rfl) (by assumption) ?_ ?_; rotate_left; (intro w hSw; (try dsimp only at hSw); go_simp; try (with_reducible rfl)); simp only [List.setIfInBounds_toArray, List.set_cons_zero, List.set_cons_succ]
    refine wpAnyH_ready (rs := [8]) (by kernel_rfl) (by simp) ?_; refine AllReadyH.cons rfl (fun K hK => ?_) AllReadyH.nil
    go_simp
    refine (HPL2.out _ kD).mono ?_
    rintro r w1 ⟨rfl, hb1⟩
    have hB1 := bt kD hb1 (Nat.le_refl _)
    refine hK.out _ _ hB1 (fun hS1 => ?_)
    clear hK K
    refine tkD 9 11 (v := ?_) rfl (by kernel_rfl) (fun _ _ _ h => h) rfl (by rfl) (by assumption) ?_ ?_; rotate_left; (intro w hSw; (try dsimp only at hSw); go_simp; try (with_reducible rfl)); simp only [List.setIfInBounds_toArray, List.set_cons_zero, List.set_cons_succ]
    refine tkD 10 21 (v := ?_) rfl (by kernel_rfl) (fun _ _ _ h => h) rfl (by rfl) (by assumption) ?_ ?_; rotate_left; (intro w hSw; (try dsimp only at hSw); go_simp; try (with_reducible rfl)); simp only [List.setIfInBounds_toArray, List.set_cons_zero, List.set_cons_succ]
    refine tkD 11 22 (v := ?_) rfl (by kernel_rfl) (fun _ _ _ h => h) rfl (by rfl) (by assumption) ?_ ?_; rotate_left; (intro w hSw; (try dsimp only at hSw); go_simp; try (with_reducible rfl)); simp only [List.setIfInBounds_toArray, List.set_cons_zero, List.set_cons_succ]
    refine tkD 12 23 (v := ?_) rfl (by kernel_rfl) (fun _ _ _ h => h) rfl (by rfl) (by assumption) ?_ ?_; rotate_left; (intro w hSw; (try dsimp only at hSw); go_simp; try (with_reducible rfl)); simp only [List.setIfInBounds_toArray, List.set_cons_zero, List.set_cons_succ]
    refine tkD 13 6 (v := ?_) rfl (by kernel_rfl) (fun _ _ _ h => h) rfl (by rfl) (by assumption) ?_ ?_; rotate_left; (intro w hSw; (try dsimp only at hSw); go_simp; try (with_reducible rfl)); simp only [List.setIfInBounds_toArray, List.set_cons_zero, List.set_cons_succ]
    refine tkD 14 7 (v := ?_) rfl (by kernel_rfl) (fun _ _ _ h => h) rfl (by rfl) (by assumption) ?_ ?_; rotate_left; (intro w hSw; (try dsimp only at hSw); go_simp; try (with_reducible rfl)); simp only [List.setIfInBounds_toArray, List.set_cons_zero, List.set_cons_succ]
    refine tkD 15 8 (v := ?_) rfl (by kernel_rfl) (fun _ _ _ h => h) rfl (by rfl) (by assumption) ?_ ?_; rotate_left; (intro w hSw; (try dsimp only at hSw); go_simp; try (with_reducible rfl)); simp only [List.setIfInBounds_toArray, List.set_cons_zero, List.set_cons_succ]
    refine wpAnyH_done (by kernel_rfl) ?_ _
    have p1 := hpKeep p0 hB1
    clear hS1 c16 c17
    go_wp2_with (refine wpList_storeW rfl 39 (.tmp 4) (.tmp 26) rfl w.heap.size 0 _ 39 #[.int .i64 0, .int .i64 0, .int .i64 0, .int .i64 0, .int .i64 0] rfl rfl p1 (by simp) info5 rfl ?_; intro w3 g3 hk3 hz3)
    have g3' : w3.heap[w.heap.size]? = some (.cells #[.int .i64 0, .int .i64 0, .int .i64 0, .int .i64 0, .int .i64 0] 39) := g3
    have q0 := hpCell g3' 0
    have q1 := hpCell g3' 1
    have q2 := hpCell g3' 2
    have q3 := hpCell g3' 3
    have q4 := hpCell g3' 4
    refine bodyPost_ret (v := .tuple #[.int .i64 0, .int .i64 0, .agg #[.int .i64 0, .int .i64 0, .int .i64 0, .int .i64 0, .int .i64 0], .bool false]) (by simp [results, Tryz.results13, go_sem, q0, q1, q2, q3, q4]) rfl ?_
    have hB3 := bt HB0.out hB1 (Nat.le_refl _)
    exact HP.out _ (hB3.trans (hk3.below hB3.size (fun j hj e => by omega)))

end Go.Proofs.YtipnamoocemeeaaGreat
