/-
  Texts 32 of the claim.
-/
import Derived.Test.YtipnamoocemeeaaGreatD31
import Derived.Deep.CutBlock
import Derived.Deep.CutRange
namespace Go.Proofs.YtipnamoocemeeaaGreat
open Go.RowKit
set_option maxRecDepth 100000 in
theorem dvFold (f : Fd) (ov sv : Value) (mv : Nat → Value) (C : Array Value) (hC : DvF f ov sv mv = C) : Array.foldl (fun (cs : Array Value) (x : Value × Nat) => cs.setIfInBounds x.snd x.fst) #[.int .i64 0, .int .i64 0, .int .i64 0, .int .i64 0, .int .i64 0, .slice none 0 0, .int .i64 0, .slice none 0 0, .int .i64 0, .int .i64 0, .slice none 0 0, .int .i64 0, .int .i64 0, .slice none 0 0, .int .i64 0, .int .i64 0, .slice none 0 0, .int .i64 0, .int .i64 0, .slice none 0 0, .string ⟨#[]⟩] C.zipIdx 0 C.size = C := by
  subst hC
  kernel_rfl
theorem SwC_row {c : Cf} {sv pv fv : Value} {a n : Int} {W : World} {g : Nat} (h : SwI W g c sv pv fv a n) (j : Nat) (v : Value) (hj : (CfC c sv).toList[j]? = some v) : W.cell? ((⟨g, 0, none⟩ : Addr).add j) = some v := by
  have e : (⟨g, 0, none⟩ : Addr).add j = ⟨g, j, none⟩ := by unfold Addr.add; split <;> simp_all
  rw [e, hpCell h]
  exact SwC_cf j v hj
theorem SwC_wrow {c : Cf} {sv pv fv : Value} {a n : Int} {W : World} {g : Nat} (h : SwI W g c sv pv fv a n) (j : Nat) (v : Value) (hj : (#[.int .i64 (c.win 0).1, .int .i64 (c.win 0).2, .int .i64 (c.win 1).1, .int .i64 (c.win 1).2, .int .i64 (c.win 2).1, .int .i64 (c.win 2).2, .int .i64 (c.win 3).1, .int .i64 (c.win 3).2] : Array Value).toList[j]? = some v) : W.cell? ((⟨g, 6, none⟩ : Addr).add j) = some v := by
  have e : (⟨g, 6, none⟩ : Addr).add j = ⟨g, 6 + j, none⟩ := by unfold Addr.add; split <;> simp_all
  have h1 := CfC_win (c := c) (sv := sv) j v hj
  rw [e, hpCell h]
  refine SwC_cf (6 + j) v ?_
  simpa using h1
def CoR (P M Q : Nat → Prop) (w : World) (g : Nat) (c : Cf) (x : Sp) (fdN : List Fd) (sv pv : Value) (wc : World) : Prop :=
  ∃ M1 fa1 fc1 cs1, SwS (Grw P w wc) M1 Q wc g c { x with fd := fdN } sv pv fa1 fc1 cs1 ∧ Keeps M w wc ∧ (∀ j, j < w.heap.size → M1 j → M j)
set_option maxRecDepth 100000 in
set_option maxHeartbeats 12800000 in
theorem swcollect_any {P M Q : Nat → Prop} {w : World} {g : Nat} {c : Cf} {x : Sp} {sv pv : Value} {fa : Option Addr} {fc : Nat} {cs : List Value} (hc : chkE c = 0) (h : SwS P M Q w g c x sv pv fa fc cs) (hlt : x.at_ < c.units) (hm : x.fd.length ≤ 1000000)
    (d : Dv) (ov dv : Value) (mv : Nat → Value) (hd : RdSt (SwF M P) w d ov dv mv) :
    Calls Tryz.prog 56 #[.pointer (some ⟨g, 0, none⟩), .agg (DvC d ov dv mv)] w fun r w' => r = .returned (.tuple #[]) ∧ SwAt (Grw P w w') w' g c ⟨x.at_ + 1, Pb0, x.fd ++ (if d.st = 1 then [] else [⟨c.pSet x.at_, c.pUnit x.at_, d⟩]), x.cnt⟩ ∧ Keeps M w w' := by
  have hub := (Cf.ok_of hc).units_bd
  have hwin := (Cf.ok_of hc).win
  have hgl : g < w.heap.size := hpLt h.at_
  obtain ⟨ps, hps⟩ : ∃ p, c.pSet x.at_ = p := ⟨_, rfl⟩
  obtain ⟨pu, hpu⟩ : ∃ p, c.pUnit x.at_ = p := ⟨_, rfl⟩
  obtain ⟨DC, hDC⟩ : ∃ C, DvC d ov dv mv = C := ⟨_, rfl⟩
  obtain ⟨DF, hDF⟩ : ∃ C, DvF ⟨ps, pu, d⟩ ov dv mv = C := ⟨_, rfl⟩
  have hfs : DF.size = 21 := by rw [← hDF]; rfl
  have hfi : (Tryz.prog.info? 91).map (·.size) = some DF.size := by rw [hfs]; exact info21
  have hfold : Array.foldl (fun (cs : Array Value) (x : Value × Nat) => cs.setIfInBounds x.snd x.fst) #[.int .i64 0, .int .i64 0, .int .i64 0, .int .i64 0, .int .i64 0, .slice none 0 0, .int .i64 0, .slice none 0 0, .int .i64 0, .int .i64 0, .slice none 0 0, .int .i64 0, .int .i64 0, .slice none 0 0, .int .i64 0, .int .i64 0, .slice none 0 0, .int .i64 0, .int .i64 0, .slice none 0 0, .string ⟨#[]⟩] DF.zipIdx 0 21 = DF := by have h := dvFold ⟨ps, pu, d⟩ ov dv mv DF hDF; rw [hfs] at h; exact h
  have hfone : ∀ u ∈ DF.toList, u.oneCell' = true := by
    have h1 := DvF_one (f := ⟨ps, pu, d⟩) (hd w (Keeps.refl _ _))
    rw [hDF] at h1
    exact List.all_eq_true.1 h1
  have hw : ∃ W0, w.alloc (.cells DC 91) = W0 := ⟨_, rfl⟩
  obtain ⟨W0, hW0⟩ := hw
  have hb0 : Below w.heap.size w W0 := by rw [← hW0]; exact bal' w _
  have hz0 : W0.heap.size = w.heap.size + 1 := by rw [← hW0]; simp
  have p0 : W0.heap[w.heap.size]? = some (.cells DC 91) := by rw [← hW0]; exact hpNew w _
  have c2 : W0.cell? ⟨w.heap.size, 2, none⟩ = some (.int .i64 d.st) := by rw [hpCell p0, ← hDC]; rfl
  have HW0 := hid hW0
  have HB0 := hid hb0
  have HZ0 := hid hz0
  have P0 := hid p0
  have HFD := hid hfold
  have HFO := hid hfone
  have HDF := hid hDF
  have HDC := hid hDC
  have HS := hid h
  have HD := hid hd
  have HU := hid hub
  have HWI := hid hwin
  have HPS := hid (And.intro hps hpu)
  rw [hDC]
  obtain ⟨n, hn⟩ : ∃ n, x.fd.length = n := ⟨_, rfl⟩
  have HN := hid hn
  rw [hn] at hm
  have hdbP : ¬ P w.heap.size := fun e => by have := h.pl _ e; omega
  have hag : ¬ g = w.heap.size := by omega
  obtain ⟨fdN, hfd⟩ : ∃ l, x.fd ++ (if d.st = 1 then [] else [(⟨c.pSet x.at_, c.pUnit x.at_, d⟩ : Fd)]) = l := ⟨_, rfl⟩
  have HFDN := hid hfd
  rw [hfd]
  have HLT := hid hlt
  have HC := hid hc
  obtain ⟨i5, hi, hz0', hz1, hz2⟩ := info_parts infoDv
  clear hW0 hb0 hz0 p0 hfold hfone hDF hDC h hd hub hwin hps hpu hn hfd hlt hc
  go_enter Tryz.func56, Tryz.ntmps56
  go_upto_region 1 with (fail)
  rw [HW0.out]
  go_upto_if 6 with (fail)
  go_cut [] from 4 to 31 (fun wc => Hid (CoR P M Q w g c x fdN sv pv wc))
  case first =>
    by_cases h1 : d.st = 1
    · have g1 : (d.st != 1) = false := by rw [bne_eq_false_iff_eq]; exact h1
      have HE : Hid (x.fd = fdN) := by show _ = _; rw [← HFDN.out, if_pos h1, List.append_nil]
      clear h1
      go_wp2
      go_meet
      case rel =>
        have h := HS.out
        have hb := HB0.out
        obtain ⟨a1, a2, a3⟩ := h.to (W' := W0) (Q' := Q) (at' := x.at_) (pb' := x.pb) (cnt' := x.cnt) (pv' := pv) ((Keeps.of_below (F := fun _ => False) hb).mono (fun _ _ e => e.elim)) (hpKeep h.at_ hb) (fun j hj => .inl hj) (fun hl => by
          obtain ⟨gp, e1, e2, e3⟩ := h.pr hl
          exact ⟨gp, e1, e2, e3.keep (F := fun _ => False) (Keeps.of_below hb) (fun _ _ e => e.elim)⟩) h.no
        refine ⟨_, fa, fc, cs, ?_, a2, a3⟩
        rw [← HE.out]
        exact a1
    · have g1 : (d.st != 1) = true := by rw [bne_iff_ne]; exact h1
      have HE : Hid (fdN = x.fd ++ [⟨ps, pu, d⟩]) := by show _ = _; rw [← HFDN.out, if_neg h1, HPS.out.1, HPS.out.2]
      clear h1
      obtain ⟨C, hC⟩ : ∃ C, CfC c sv = C := ⟨_, rfl⟩
      have hci : (Tryz.prog.info? 27).map (·.size) = some C.size := by rw [← hC]; exact infoCf
      have hI0 : SwI W0 g c sv pv (.slice fa x.fd.length fc) x.at_ x.cnt := hpKeep HS.out.at_ HB0.out
      have HRW : Hid (∀ X, SwI X g c sv pv (.slice fa x.fd.length fc) x.at_ x.cnt → ∀ j v, C.toList[j]? = some v → X.cell? ((⟨g, 0, none⟩ : Addr).add j) = some v) := fun X hX j v hj => by rw [← hC] at hj; exact SwC_row hX j v hj
      have c16 : ∀ X, SwI X g c sv pv (.slice fa x.fd.length fc) x.at_ x.cnt → X.cell? ⟨g, 16, none⟩ = some (.int .i64 x.at_) := fun X hX => hpCell hX 16
      have HPL : Hid (∀ X, Below w.heap.size w X → Calls Tryz.prog 48 #[.agg C, .int .i64 (x.at_ : Int)] X fun r w' => r = .returned (.tuple #[.int .i64 ps, .int .i64 pu, .bool true]) ∧ Below X.heap.size X w') := fun X hX => by
        rw [← hC]
        refine (pplace_ok c HC.out sv x.at_ (by have := HLT.out; have := HU.out.2.1; omega) X (HS.out.st X (Keeps.of_below hX))).mono fun _ _ h => ?_
        obtain ⟨h1, h2⟩ := h
        rw [if_pos HLT.out, HPS.out.1, HPS.out.2] at h1
        exact ⟨h1, h2⟩
      have hSd : SwI W0.drew g c sv pv (.slice fa x.fd.length fc) x.at_ x.cnt := hpKeep hI0 (Below.refl _ _).drew
      have kD : Below w.heap.size w W0.drew := bt HB0.out (Below.refl W0.heap.size W0).drew (Nat.le_refl _)
      have HCC := hid hC
      clear hC hI0
      go_upto_region 2 with (fail)
      refine wp_region_held_drew (S := fun V => SwI V g c sv pv (.slice fa x.fd.length fc) x.at_ x.cnt) (by kernel_rfl) hSd (fun hH => ?_)
      clear hH
      refine tkD 0 8 (v := ?_) rfl (by kernel_rfl) (fun _ _ _ h => h) rfl (by rfl) (by assumption) ?_ ?_; rotate_left; (intro w hSw; (try dsimp only at hSw); go_simp; try (with_reducible rfl)); simp only [List.setIfInBounds_toArray, List.set_cons_zero, List.set_cons_succ]
      refine tkD 1 9 (v := ?_) rfl (by kernel_rfl) (fun _ _ _ h => h) rfl (by rfl) (by assumption) ?_ ?_; rotate_left; (intro w hSw; (try dsimp only at hSw); go_simp; try (with_reducible rfl)); simp only [List.setIfInBounds_toArray, List.set_cons_zero, List.set_cons_succ]
      refine tkD 2 10 (v := ?_) rfl (by kernel_rfl) (fun _ _ _ h => h) rfl (by rfl) (by assumption) ?_ ?_; rotate_left; (intro w hSw; (try dsimp only at hSw); go_simp; try (with_reducible rfl)); simp only [List.setIfInBounds_toArray, List.set_cons_zero, List.set_cons_succ]
      refine tkD 3 11 (v := .agg C) rfl (by kernel_rfl) (fun _ _ _ h => h) rfl (by rfl) (by assumption) (fun X hX => run_load_rowS 27 (.tmp 10) rfl ⟨g, 0, none⟩ rfl C _ (HRW.out X hX) Tryz.underlying27 rfl hci) ?_; simp only [List.setIfInBounds_toArray, List.set_cons_zero, List.set_cons_succ]
      refine tkD 4 12 (v := ?_) rfl (by kernel_rfl) (fun _ _ _ h => h) rfl (by rfl) (by assumption) ?_ ?_; rotate_left; (intro w hSw; (try dsimp only at hSw); go_simp; try (with_reducible rfl)); simp only [List.setIfInBounds_toArray, List.set_cons_zero, List.set_cons_succ]
      refine tkD 5 13 (v := ?_) rfl (by kernel_rfl) (fun _ _ _ h => h) rfl (by rfl) (by assumption) ?_ ?_; rotate_left; (intro w hSw; (try dsimp only at hSw); go_simp; try (with_reducible rfl)); simp only [List.setIfInBounds_toArray, List.set_cons_zero, List.set_cons_succ]
      refine tkD 6 14 (v := ?_) rfl (by kernel_rfl) (fun _ _ _ h => h) rfl (by rfl) (by assumption) ?_ ?_; rotate_left; (intro w hSw; (try dsimp only at hSw); go_simp; try (with_reducible rfl)); simp only [List.setIfInBounds_toArray, List.set_cons_zero, List.set_cons_succ]
      refine tkD 7 15 (v := ?_) rfl (by kernel_rfl) (fun _ _ _ h => h) rfl (by rfl) (by assumption) ?_ ?_; rotate_left; (intro w hSw; (try dsimp only at hSw); go_simp; try (with_reducible rfl)); simp only [List.setIfInBounds_toArray, List.set_cons_zero, List.set_cons_succ]
      refine wpAnyH_ready (rs := [8]) (by kernel_rfl) (by simp) ?_; refine AllReadyH.cons rfl (fun K hK => ?_) AllReadyH.nil
      go_simp
      refine (HPL.out _ kD).mono ?_
      rintro r w1 ⟨rfl, hb1⟩
      have hB1 : Below W0.heap.size W0 w1 := bt (Below.refl W0.heap.size W0).drew hb1 (Nat.le_refl _)
      have hS1 : SwI w1 g c sv pv (.slice fa x.fd.length fc) x.at_ x.cnt := hpKeep hSd hb1
      refine hK.out _ _ hS1 (fun hSx => ?_)
      clear hK K
      refine tkD 9 7 (v := ?_) rfl (by kernel_rfl) (fun _ _ _ h => h) rfl (by rfl) (by assumption) ?_ ?_; rotate_left; (intro w hSw; (try dsimp only at hSw); go_simp; try (with_reducible rfl)); simp only [List.setIfInBounds_toArray, List.set_cons_zero, List.set_cons_succ]
      refine tkD 10 17 (v := ?_) rfl (by kernel_rfl) (fun _ _ _ h => h) rfl (by rfl) (by assumption) ?_ ?_; rotate_left; (intro w hSw; (try dsimp only at hSw); go_simp; try (with_reducible rfl)); simp only [List.setIfInBounds_toArray, List.set_cons_zero, List.set_cons_succ]
      refine tkD 11 18 (v := ?_) rfl (by kernel_rfl) (fun _ _ _ h => h) rfl (by rfl) (by assumption) ?_ ?_; rotate_left; (intro w hSw; (try dsimp only at hSw); go_simp; try (with_reducible rfl)); simp only [List.setIfInBounds_toArray, List.set_cons_zero, List.set_cons_succ]
      refine tkD 12 19 (v := ?_) rfl (by kernel_rfl) (fun _ _ _ h => h) rfl (by rfl) (by assumption) ?_ ?_; rotate_left; (intro w hSw; (try dsimp only at hSw); go_simp; try (with_reducible rfl)); simp only [List.setIfInBounds_toArray, List.set_cons_zero, List.set_cons_succ]
      refine tkD 13 20 (v := ?_) rfl (by kernel_rfl) (fun _ _ _ h => h) rfl (by rfl) (by assumption) ?_ ?_; rotate_left; (intro w hSw; (try dsimp only at hSw); go_simp; try (with_reducible rfl)); simp only [List.setIfInBounds_toArray, List.set_cons_zero, List.set_cons_succ]
      have p1 := hpKeep P0.out hB1
      have e0 : w1.cell? ⟨w.heap.size, 0, none⟩ = some (.int .i64 0) := by rw [hpCell p1, ← HDC.out]; rfl
      have f0 : w1.frozen? ⟨w.heap.size, 0, none⟩ = false := hpFree p1 0
      refine wpAnyH_ready (rs := [14]) (by kernel_rfl) (by simp) ?_; refine AllReadyH.cons rfl (fun K hK => ?_) AllReadyH.nil
      go_simp
      obtain ⟨X1, hX1⟩ : ∃ X, w1.setCell ⟨w.heap.size, 0, none⟩ (.int .i64 ps) = X := ⟨_, rfl⟩
      have q1 := hpSet p1 0 (.int .i64 ps)
      rw [hX1] at q1
      have hS2 : SwI X1 g c sv pv (.slice fa x.fd.length fc) x.at_ x.cnt := by rw [← hX1]; exact (hpOther hag).trans hS1
      have hk1 : Keeps (· = w.heap.size) w1 X1 := by rw [← hX1]; exact (Keeps.refl _ _).set _ _ rfl
      have hx1 : X1.heap.size = w1.heap.size := by rw [← hX1]; simp
      rw [hX1]
      refine hK.out _ _ hS2 (fun hSy => ?_)
      clear hK K
      refine tkD 15 21 (v := ?_) rfl (by kernel_rfl) (fun _ _ _ h => h) rfl (by rfl) (by assumption) ?_ ?_; rotate_left; (intro w hSw; (try dsimp only at hSw); go_simp; try (with_reducible rfl)); simp only [List.setIfInBounds_toArray, List.set_cons_zero, List.set_cons_succ]
      have e1 : X1.cell? ⟨w.heap.size, 1, none⟩ = some (.int .i64 0) := by rw [hpCell q1, ← HDC.out]; rfl
      have f1 : X1.frozen? ⟨w.heap.size, 1, none⟩ = false := hpFree q1 1
      refine wpAnyH_ready (rs := [16]) (by kernel_rfl) (by simp) ?_; refine AllReadyH.cons rfl (fun K hK => ?_) AllReadyH.nil
      go_simp
      obtain ⟨X2, hX2⟩ : ∃ X, X1.setCell ⟨w.heap.size, 1, none⟩ (.int .i64 pu) = X := ⟨_, rfl⟩
      have q2 := hpSet q1 1 (.int .i64 pu)
      rw [hX2] at q2
      have hS3 : SwI X2 g c sv pv (.slice fa x.fd.length fc) x.at_ x.cnt := by rw [← hX2]; exact (hpOther hag).trans hS2
      have hk2 : Keeps (· = w.heap.size) w1 X2 := by rw [← hX2]; exact hk1.set _ _ rfl
      have hx2 : X2.heap.size = w1.heap.size := by rw [← hX2, ← hx1]; simp
      rw [hX2]
      refine hK.out _ _ hS3 (fun hSz => ?_)
      clear hK K hX1 hX2 e1 f1 e0 f0 hSx hSy q1 hk1 hx1 hS2
      have q3 : X2.heap[w.heap.size]? = some (.cells DF 91 (0, 0)) := by
        rw [q2, ← HDC.out, ← HDF.out]; rfl
      refine wpAnyH_done (by kernel_rfl) ?_ _
      go_upto_region 3 with (fail)
      have hSd3 : X2.drew.heap[w.heap.size]? = some (.cells DF 91 (0, 0)) := hpKeep q3 (Below.refl _ _).drew
      have hI3 : SwI X2.drew g c sv pv (.slice fa x.fd.length fc) x.at_ x.cnt := hpKeep hS3 (Below.refl _ _).drew
      have d18 : X2.drew.cell? ⟨g, 18, none⟩ = some (.slice fa x.fd.length fc) := hpCell hI3 18
      have HRD : Hid (∀ X : World, X.heap[w.heap.size]? = some (.cells DF 91 (0, 0)) → ∀ j v, DF.toList[j]? = some v → X.cell? ((⟨w.heap.size, 0, none⟩ : Addr).add j) = some v) := fun X hX j v hj => hpRowAt2 hX j v hj
      have HH3 := hid hS3
      have HQ3 := hid q3
      clear c16 c2 p1 q2 hS1 hSd kD hSz hS3 q3
      refine wp_region_held_drew (S := fun V => V.heap[w.heap.size]? = some (.cells DF 91 (0, 0))) (by kernel_rfl) hSd3 (fun hH => ?_)
      clear hH
      refine tkD 0 22 (v := ?_) rfl (by kernel_rfl) (fun _ _ _ h => h) rfl (by rfl) (by assumption) ?_ ?_; rotate_left; (intro w hSw; (try dsimp only at hSw); go_simp; try (with_reducible rfl)); simp only [List.setIfInBounds_toArray, List.set_cons_zero, List.set_cons_succ]
      refine tkD 1 23 (v := ?_) rfl (by kernel_rfl) (fun _ _ _ h => h) rfl (by rfl) (by assumption) ?_ ?_; rotate_left; (intro w hSw; (try dsimp only at hSw); go_simp; try (with_reducible rfl)); simp only [List.setIfInBounds_toArray, List.set_cons_zero, List.set_cons_succ]
      refine tkD 2 24 (v := ?_) rfl (by kernel_rfl) (fun _ _ _ h => h) rfl (by rfl) (by assumption) ?_ ?_; rotate_left; (intro w hSw; (try dsimp only at hSw); go_simp; try (with_reducible rfl)); simp only [List.setIfInBounds_toArray, List.set_cons_zero, List.set_cons_succ]
      refine tkD 3 25 (v := ?_) rfl (by kernel_rfl) (fun _ _ _ h => h) rfl (by rfl) (by assumption) ?_ ?_; rotate_left; (intro w hSw; (try dsimp only at hSw); go_simp; try (with_reducible rfl)); simp only [List.setIfInBounds_toArray, List.set_cons_zero, List.set_cons_succ]
      refine tkD 5 27 (v := .agg DF) rfl (by kernel_rfl) (fun _ _ _ h => h) rfl (by rfl) (by assumption) (fun X hX => run_load_rowS 91 (.tmp 3) rfl ⟨w.heap.size, 0, none⟩ rfl DF _ (HRD.out X hX) Tryz.underlying91 rfl hfi) ?_; simp only [List.setIfInBounds_toArray, List.set_cons_zero, List.set_cons_succ]
      have kx2 : Below w.heap.size w X2 := (bt HB0.out hB1 (Nat.le_refl _)).trans (hk2.below (by have := hB1.size; have := HZ0.out; omega) (fun j hj e => by omega))
      refine wpAnyH_ready (rs := [4, 6]) (by kernel_rfl) (by simp) ?_
      refine AllReadyH.cons rfl (fun K hK => ?_) (AllReadyH.cons rfl (fun K hK => ?_) AllReadyH.nil)
      · go_simp
        refine hK.out _ _ hSd3 (fun hSe => ?_)
        clear hK K
        refine wpAnyH_ready (rs := [6]) (by kernel_rfl) (by simp) ?_; refine AllReadyH.cons rfl (fun K hK => ?_) AllReadyH.nil
        go_simp
        rw [HFD.out]
        obtain ⟨X3, hX3⟩ : ∃ X, (X2.alloc (.cells DF 91)).drew = X := ⟨_, rfl⟩
        have kx3 : Below X2.heap.size X2 X3 := by rw [← hX3]; exact (bal' X2 _).drew
        have n3 : X3.heap[w1.heap.size]? = some (.cells DF 91 (0, 0)) := by rw [← hX3, ← hx2]; exact hpNew X2 _
        rw [hX3]
        have hSd4 := hpKeep HQ3.out kx3
        have kw3 : Below w.heap.size w X3 := kx2.trans (kx3.mono (by have := kx2.size; omega))
        have hown3 := own_keeps HS.out.own (Keeps.of_below (F := fun _ => False) kw3) (fun _ _ e => e)
        refine hK.out _ _ hSd4 (fun hSf => ?_)
        clear hK K
        refine wpAnyH_ready (rs := [7]) (by kernel_rfl) (by simp) ?_; refine AllReadyH.cons rfl (fun K hK => ?_) AllReadyH.nil; refine step_appN rfl (.tmp 26) (.tmp 28) 44 rfl 0 91 i5 _ 21 272 Tryz.underlying44 hi hz0' hz1 hz2 rfl (by decide) (.slice fa x.fd.length fc) x.fd.length cs rfl hown3 ⟨w1.heap.size, 0, none⟩ 1 1 DF.toList rfl (by rw [Array.length_toList, hfs]) (fun j u hj => hpRowAt2 n3 j u hj) HFO.out (by rw [HN.out]; unfold maxLen; omega) (by rw [HN.out]; omega) (by omega) ?_; intro v6 w6 hown6 hgr6 hnew6; obtain ⟨a6, c6, rfl⟩ := own_slice hown6; have k36 := Keeps.of_grown (F := fun j => (Value.slice fa x.fd.length fc).ownBlock = some j) hgr6 (fun _ h => h); have hS6 := hpKeeps hSd4 k36 (fun e => by have e1 := HS.out.pl _ (HS.out.mp _ (HS.out.rw_ _ e).1); omega); have hg6 : SwI w6 g c sv pv (.slice fa x.fd.length fc) x.at_ x.cnt := hpKeeps (hpKeep HH3.out kx3) k36 (fun e => (HS.out.rw_ g e).2.1 rfl); go_simp; refine hK.out _ _ hS6 (fun hSg => ?_); clear hK K; refine tkD 8 30 (v := ?_) rfl (by kernel_rfl) (fun _ _ _ h => h) rfl (by rfl) (by assumption) ?_ ?_; rotate_left; (intro w hSw; (try dsimp only at hSw); go_simp; try (with_reducible rfl)); simp only [List.setIfInBounds_toArray, List.set_cons_zero, List.set_cons_succ]; refine tkD 9 31 (v := ?_) rfl (by kernel_rfl) (fun _ _ _ h => h) rfl (by rfl) (by assumption) ?_ ?_; rotate_left; (intro w hSw; (try dsimp only at hSw); go_simp; try (with_reducible rfl)); simp only [List.setIfInBounds_toArray, List.set_cons_zero, List.set_cons_succ]; have e6 : w6.cell? ⟨g, 18, none⟩ = some (.slice fa x.fd.length fc) := hpCell hg6 18; have f6 : w6.frozen? ⟨g, 18, none⟩ = false := hpFree hg6 18; refine wpAnyH_ready (rs := [10]) (by kernel_rfl) (by simp) ?_; refine AllReadyH.cons rfl (fun K hK => ?_) AllReadyH.nil; go_simp; refine hK.out _ _ ((hpOther (Ne.symm hag)).trans hS6) (fun hSh => ?_); clear hK K; refine wpAnyH_done (by kernel_rfl) ?_ _
        go_wp2
        go_meet
        case rel =>
          obtain ⟨M', b1, b2, b3⟩ := SwS.app HS.out (f := ⟨ps, pu, d⟩) HD.out kw3 hgr6 hnew6 (by rw [HDF.out]; exact hown6)
          have e : Grw P w w6 = Grw P w (w6.setCell ⟨g, 18, none⟩ (.slice a6 (x.fd.length + 1) c6)) := by funext j; simp [Grw]
          rw [e] at b1
          refine ⟨M', a6, c6, cs ++ (DvF ⟨ps, pu, d⟩ ov dv mv).toList, ?_, b2, b3⟩
          rw [HE.out]
          exact b1
      · go_simp
        rw [HFD.out]
        obtain ⟨X3, hX3⟩ : ∃ X, (X2.alloc (.cells DF 91)).drew = X := ⟨_, rfl⟩
        have kx3 : Below X2.heap.size X2 X3 := by rw [← hX3]; exact (bal' X2 _).drew
        have n3 : X3.heap[w1.heap.size]? = some (.cells DF 91 (0, 0)) := by rw [← hX3, ← hx2]; exact hpNew X2 _
        rw [hX3]
        have hSd4 := hpKeep HQ3.out kx3
        have kw3 : Below w.heap.size w X3 := kx2.trans (kx3.mono (by have := kx2.size; omega))
        have hown3 := own_keeps HS.out.own (Keeps.of_below (F := fun _ => False) kw3) (fun _ _ e => e)
        refine hK.out _ _ hSd4 (fun hSf => ?_)
        clear hK K
        have d18x : X3.cell? ⟨g, 18, none⟩ = some (.slice fa x.fd.length fc) := hpCell (hpKeep HH3.out kx3) 18
        refine wpAnyH_ready (rs := [4]) (by kernel_rfl) (by simp) ?_; refine AllReadyH.cons rfl (fun K hK => ?_) AllReadyH.nil
        go_simp
        refine hK.out _ _ hSd4 (fun hSe => ?_)
        clear hK K
        refine wpAnyH_ready (rs := [7]) (by kernel_rfl) (by simp) ?_; refine AllReadyH.cons rfl (fun K hK => ?_) AllReadyH.nil; refine step_appN rfl (.tmp 26) (.tmp 28) 44 rfl 0 91 i5 _ 21 272 Tryz.underlying44 hi hz0' hz1 hz2 rfl (by decide) (.slice fa x.fd.length fc) x.fd.length cs rfl hown3 ⟨w1.heap.size, 0, none⟩ 1 1 DF.toList rfl (by rw [Array.length_toList, hfs]) (fun j u hj => hpRowAt2 n3 j u hj) HFO.out (by rw [HN.out]; unfold maxLen; omega) (by rw [HN.out]; omega) (by omega) ?_; intro v6 w6 hown6 hgr6 hnew6; obtain ⟨a6, c6, rfl⟩ := own_slice hown6; have k36 := Keeps.of_grown (F := fun j => (Value.slice fa x.fd.length fc).ownBlock = some j) hgr6 (fun _ h => h); have hS6 := hpKeeps hSd4 k36 (fun e => by have e1 := HS.out.pl _ (HS.out.mp _ (HS.out.rw_ _ e).1); omega); have hg6 : SwI w6 g c sv pv (.slice fa x.fd.length fc) x.at_ x.cnt := hpKeeps (hpKeep HH3.out kx3) k36 (fun e => (HS.out.rw_ g e).2.1 rfl); go_simp; refine hK.out _ _ hS6 (fun hSg => ?_); clear hK K; refine tkD 8 30 (v := ?_) rfl (by kernel_rfl) (fun _ _ _ h => h) rfl (by rfl) (by assumption) ?_ ?_; rotate_left; (intro w hSw; (try dsimp only at hSw); go_simp; try (with_reducible rfl)); simp only [List.setIfInBounds_toArray, List.set_cons_zero, List.set_cons_succ]; refine tkD 9 31 (v := ?_) rfl (by kernel_rfl) (fun _ _ _ h => h) rfl (by rfl) (by assumption) ?_ ?_; rotate_left; (intro w hSw; (try dsimp only at hSw); go_simp; try (with_reducible rfl)); simp only [List.setIfInBounds_toArray, List.set_cons_zero, List.set_cons_succ]; have e6 : w6.cell? ⟨g, 18, none⟩ = some (.slice fa x.fd.length fc) := hpCell hg6 18; have f6 : w6.frozen? ⟨g, 18, none⟩ = false := hpFree hg6 18; refine wpAnyH_ready (rs := [10]) (by kernel_rfl) (by simp) ?_; refine AllReadyH.cons rfl (fun K hK => ?_) AllReadyH.nil; go_simp; refine hK.out _ _ ((hpOther (Ne.symm hag)).trans hS6) (fun hSh => ?_); clear hK K; refine wpAnyH_done (by kernel_rfl) ?_ _
        go_wp2
        go_meet
        case rel =>
          obtain ⟨M', b1, b2, b3⟩ := SwS.app HS.out (f := ⟨ps, pu, d⟩) HD.out kw3 hgr6 hnew6 (by rw [HDF.out]; exact hown6)
          have e : Grw P w w6 = Grw P w (w6.setCell ⟨g, 18, none⟩ (.slice a6 (x.fd.length + 1) c6)) := by funext j; simp [Grw]
          rw [e] at b1
          refine ⟨M', a6, c6, cs ++ (DvF ⟨ps, pu, d⟩ ov dv mv).toList, ?_, b2, b3⟩
          rw [HE.out]
          exact b1
  case rest =>
    obtain ⟨M1, fa1, fc1, cs1, hs1, hk1, hm1⟩ := hcut.out
    have gI : SwI wc g c sv pv (.slice fa1 fdN.length fc1) x.at_ x.cnt := hs1.at_
    have s16 : wc.cell? ⟨g, 16, none⟩ = some (.int .i64 x.at_) := hpCell gI 16
    have z16 : wc.frozen? ⟨g, 16, none⟩ = false := hpFree gI 16
    have s17 : wc.cell? ⟨g, 17, none⟩ = some pv := hpCell gI 17
    have z17 : wc.frozen? ⟨g, 17, none⟩ = false := hpFree gI 17
    have hat : (x.at_ : Int) + 1 ≤ 1000000 := by have := HLT.out; have := HU.out.2.1; omega
    have HS1 := hid hs1
    have HK1 := hid hk1
    have HM1 := hid hm1
    have HGI := hid gI
    clear hs1 hk1 hm1 gI hcut
    obtain ⟨C, hC⟩ : ∃ C, CfC c sv = C := ⟨_, rfl⟩
    have hci : (Tryz.prog.info? 27).map (·.size) = some C.size := by rw [← hC]; exact infoCf
    have HCC := hid hC
    clear hC
    go_upto_region 6 with (fail)
    obtain ⟨X4, hX4⟩ : ∃ X, (wc.setCell ⟨g, 16, none⟩ (.int .i64 ((x.at_ : Int) + 1))).setCell ⟨g, 17, none⟩ (.pointer none) = X := ⟨_, rfl⟩
    have h4 : SwI X4 g c sv (.pointer none) (.slice fa1 fdN.length fc1) ((x.at_ : Int) + 1) x.cnt := by
      rw [← hX4]
      have a := hpSetP (C := SwC c sv pv (.slice fa1 fdN.length fc1) ((x.at_ : Int) + 1) x.cnt) (i := 16) (u := .int .i64 ((x.at_ : Int) + 1)) HGI.out rfl
      exact hpSetP (C := SwC c sv (.pointer none) (.slice fa1 fdN.length fc1) ((x.at_ : Int) + 1) x.cnt) (i := 17) (u := .pointer none) a rfl
    have k4 : Keeps (· = g) wc X4 := by
      rw [← hX4]
      have a : Keeps (· = g) wc (wc.setCell ⟨g, 16, none⟩ (.int .i64 ((x.at_ : Int) + 1))) := (Keeps.refl _ _).set _ _ rfl
      exact a.set _ _ rfl
    rw [hX4]
    have H4 := hid h4
    have K4 := hid k4
    have kD : Below X4.heap.size X4 X4.drew := (Below.refl _ _).drew
    have c16 : ∀ X, Below X4.heap.size X4 X → X.cell? ⟨g, 16, none⟩ = some (.int .i64 ((x.at_ : Int) + 1)) := fun X k => hpCell (hpKeep H4.out k) 16
    have HRW : Hid (∀ X, Below X4.heap.size X4 X → ∀ j v, C.toList[j]? = some v → X.cell? ((⟨g, 0, none⟩ : Addr).add j) = some v) := fun X hX j v hj => by rw [← HCC.out] at hj; exact SwC_row (hpKeep H4.out hX) j v hj
    obtain ⟨u, hu⟩ : ∃ u, c.units = u := ⟨_, rfl⟩
    have HUN : Hid (∀ X, Below X4.heap.size X4 X → Calls Tryz.prog 35 #[.agg C] X (IntPost X (u : Int))) := fun X hX => by
      rw [← HCC.out, ← hu]
      exact punits_ok c HC.out sv X (HS1.out.st X ((K4.out.mono (fun j _ e => by subst e; exact .inl HS1.out.mg)).trans (Keeps.of_below (F := SwF M1 (Grw P w wc)) hX) (fun _ _ e => e)))
    have HUU := hid hu
    clear hX4 h4 k4 hu s16 z16 s17 z17
    refine wp_region_held_drew (S := fun V => Below X4.heap.size X4 V) (by kernel_rfl) kD (fun hH => ?_)
    clear hH
    refine tkD 0 42 (v := ?_) rfl (by kernel_rfl) (fun _ _ _ h => h) rfl (by rfl) (by assumption) ?_ ?_; rotate_left; (intro w hSw; (try dsimp only at hSw); go_simp; try (with_reducible rfl)); simp only [List.setIfInBounds_toArray, List.set_cons_zero, List.set_cons_succ]
    refine tkD 1 43 (v := ?_) rfl (by kernel_rfl) (fun _ _ _ h => h) rfl (by rfl) (by assumption) ?_ ?_; rotate_left; (intro w hSw; (try dsimp only at hSw); go_simp; try (with_reducible rfl)); simp only [List.setIfInBounds_toArray, List.set_cons_zero, List.set_cons_succ]
    refine tkD 2 44 (v := ?_) rfl (by kernel_rfl) (fun _ _ _ h => h) rfl (by rfl) (by assumption) ?_ ?_; rotate_left; (intro w hSw; (try dsimp only at hSw); go_simp; try (with_reducible rfl)); simp only [List.setIfInBounds_toArray, List.set_cons_zero, List.set_cons_succ]
    refine tkD 3 45 (v := ?_) rfl (by kernel_rfl) (fun _ _ _ h => h) rfl (by rfl) (by assumption) ?_ ?_; rotate_left; (intro w hSw; (try dsimp only at hSw); go_simp; try (with_reducible rfl)); simp only [List.setIfInBounds_toArray, List.set_cons_zero, List.set_cons_succ]
    refine tkD 4 46 (v := ?_) rfl (by kernel_rfl) (fun _ _ _ h => h) rfl (by rfl) (by assumption) ?_ ?_; rotate_left; (intro w hSw; (try dsimp only at hSw); go_simp; try (with_reducible rfl)); simp only [List.setIfInBounds_toArray, List.set_cons_zero, List.set_cons_succ]
    refine tkD 5 47 (v := ?_) rfl (by kernel_rfl) (fun _ _ _ h => h) rfl (by rfl) (by assumption) ?_ ?_; rotate_left; (intro w hSw; (try dsimp only at hSw); go_simp; try (with_reducible rfl)); simp only [List.setIfInBounds_toArray, List.set_cons_zero, List.set_cons_succ]
    refine tkD 6 48 (v := ?_) rfl (by kernel_rfl) (fun _ _ _ h => h) rfl (by rfl) (by assumption) ?_ ?_; rotate_left; (intro w hSw; (try dsimp only at hSw); go_simp; try (with_reducible rfl)); simp only [List.setIfInBounds_toArray, List.set_cons_zero, List.set_cons_succ]
    refine tkD 7 49 (v := .agg C) rfl (by kernel_rfl) (fun _ _ _ h => h) rfl (by rfl) (by assumption) (fun X hX => run_load_rowS 27 (.tmp 48) rfl ⟨g, 0, none⟩ rfl C _ (HRW.out X hX) Tryz.underlying27 rfl hci) ?_; simp only [List.setIfInBounds_toArray, List.set_cons_zero, List.set_cons_succ]
    refine wpAnyH_ready (rs := [8]) (by kernel_rfl) (by simp) ?_; refine AllReadyH.cons rfl (fun K hK => ?_) AllReadyH.nil
    go_simp
    refine (HUN.out _ kD).mono ?_
    rintro r w5 ⟨rfl, hb5⟩
    have hB5 := bt kD hb5 (Nat.le_refl _)
    refine hK.out _ _ hB5 (fun hS5 => ?_)
    clear hK K
    refine tkD 9 51 (v := ?_) rfl (by kernel_rfl) (fun _ _ _ h => h) rfl (by rfl) (by assumption) ?_ ?_; rotate_left; (intro w hSw; (try dsimp only at hSw); go_simp; try (with_reducible rfl)); simp only [List.setIfInBounds_toArray, List.set_cons_zero, List.set_cons_succ]
    refine wpAnyH_done (by kernel_rfl) ?_ _
    have HB5 := hid hB5
    clear c16 hb5 hS5 kD hB5
    by_cases h2 : x.at_ + 1 < u
    · have g1 : decide ((x.at_ : Int) + 1 < (u : Int)) = true := by rw [decide_eq_true_eq]; omega
      have H2 := hid h2
      have HWR : Hid (∀ j v, (#[.int .i64 (c.win 0).1, .int .i64 (c.win 0).2, .int .i64 (c.win 1).1, .int .i64 (c.win 1).2, .int .i64 (c.win 2).1, .int .i64 (c.win 2).2, .int .i64 (c.win 3).1, .int .i64 (c.win 3).2] : Array Value).toList[j]? = some v → w5.cell? ((⟨g, 6, none⟩ : Addr).add j) = some v) := fun j v hj => SwC_wrow (hpKeep H4.out HB5.out) j v hj
      have HND : Hid (∀ X, Calls Tryz.prog 43 #[.agg #[.int .i64 (c.win 0).1, .int .i64 (c.win 0).2, .int .i64 (c.win 1).1, .int .i64 (c.win 1).2, .int .i64 (c.win 2).1, .int .i64 (c.win 2).2, .int .i64 (c.win 3).1, .int .i64 (c.win 3).2]] X fun r w' => ∃ g : Nat, r = .returned (.pointer (some ⟨g, 0, none⟩)) ∧ X.heap.size ≤ g ∧ PbAt (Grw (fun _ => False) X w') w' g c.win ⟨.test, Dv.zero, 0⟩ ∧ Below X.heap.size X w') := fun X => pnew_ok c.win HWI.out X
      clear h2
      rw [g1]
      clear g1 hat
      go_wp2_with (first
        | (refine wpList_load_at rfl 25 (.tmp 56) rfl ⟨g, 6, none⟩ rfl #[.int .i64 (c.win 0).1, .int .i64 (c.win 0).2, .int .i64 (c.win 1).1, .int .i64 (c.win 1).2, .int .i64 (c.win 2).1, .int .i64 (c.win 2).2, .int .i64 (c.win 3).1, .int .i64 (c.win 3).2] _ HWR.out Tryz.underlying25 rfl infoW ?_)
        | (go_at_call 43; (with_reducible refine (HND.out _).mono ?_); rintro r w6 ⟨gp, rfl, hgp, hp6, hb6⟩; have e17 : w6.cell? ⟨g, 17, none⟩ = some (.pointer none) := hpCell (hpKeep (hpKeep H4.out HB5.out) hb6) 17; have f17 : w6.frozen? ⟨g, 17, none⟩ = false := hpFree (hpKeep (hpKeep H4.out HB5.out) hb6) 17; have HP6 := hid hp6; have HB6 := hid hb6; have HGP := hid hgp; clear hp6 hb6 hgp))
      refine bodyPost_end (results_none rfl _ _ _) rfl ?_
      obtain ⟨X7, hX7⟩ : ∃ X, w6.setCell ⟨g, 17, none⟩ (.pointer (some ⟨gp, 0, none⟩)) = X := ⟨_, rfl⟩
      have hB := HB5.out
      have hB6 := HB6.out
      have k1 : Keeps (fun j => j = g ∨ Q j) wc w5 := (K4.out.mono (fun j _ e => .inl e)).trans (Keeps.of_below hB) (fun _ _ e => e)
      have hs7 : Keeps (· = g) w6 X7 := by rw [← hX7]; exact (Keeps.refl _ _).set _ _ rfl
      have hz7 : X7.heap.size = w6.heap.size := by rw [← hX7]; simp
      have hk : Keeps (fun j => j = g ∨ Q j) wc X7 := (k1.trans (Keeps.of_below hB6) (fun _ _ e => e)).trans (hs7.mono (fun j _ e => .inl e)) (fun _ _ e => e)
      have hgl5 : g < w5.heap.size := hpLt (hpKeep H4.out hB)
      have h7 : SwI X7 g c sv (.pointer (some ⟨gp, 0, none⟩)) (.slice fa1 fdN.length fc1) ((x.at_ : Int) + 1) x.cnt := by
        rw [← hX7]
        exact hpSetP (C := SwC c sv (.pointer (some ⟨gp, 0, none⟩)) (.slice fa1 fdN.length fc1) ((x.at_ : Int) + 1) x.cnt) (i := 17) (u := .pointer (some ⟨gp, 0, none⟩)) (hpKeep (hpKeep H4.out hB) hB6) rfl
      have hp7 : PbAt (Grw (fun _ => False) w5 w6) X7 gp c.win Pb0 := HP6.out.keep (F := (· = g)) hs7 (fun j _ e hq => by
        rcases hq with e2 | e2
        · exact e2
        · omega)
      have hq : Grw (fun _ => False) w5 w6 gp := by obtain ⟨_, _, _, _, _, _, h, _⟩ := HP6.out; exact h
      obtain ⟨b1, b2, b3⟩ := HS1.out.to (Q' := Grw (fun _ => False) w5 w6) (at' := x.at_ + 1) (pb' := Pb0) (cnt' := x.cnt) (pv' := .pointer (some ⟨gp, 0, none⟩)) hk h7 (fun j e => by
        rcases e with e | e
        · exact e.elim
        · have := k1.size
          exact .inr ⟨by omega, by omega⟩) (fun _ => ⟨gp, rfl, hq, hp7⟩) (fun hl => by have := H2.out; have := HUU.out; omega)
      rw [Grw_grw HK1.out.size hk.size] at b1
      rw [hX7]
      exact ⟨rfl, ⟨_, _, _, _, _, _, _, b1⟩, HK1.out.trans b2 HM1.out⟩
    · have g1 : decide ((x.at_ : Int) + 1 < (u : Int)) = false := by rw [decide_eq_false_iff_not]; omega
      have H2 := hid h2
      clear h2
      rw [g1]
      clear g1 hat
      go_wp2
      refine bodyPost_end (results_none rfl _ _ _) rfl ?_
      have hB := HB5.out
      have hk : Keeps (fun j => j = g ∨ Q j) wc w5 := (K4.out.mono (fun j _ e => .inl e)).trans (Keeps.of_below hB) (fun _ _ e => e)
      obtain ⟨b1, b2, b3⟩ := HS1.out.to (Q' := fun _ => False) (at' := x.at_ + 1) (pb' := Pb0) (cnt' := x.cnt) (pv' := .pointer none) hk (hpKeep H4.out hB) (fun j e => e.elim) (fun hl => by have := H2.out; have := HUU.out; omega) (fun _ => rfl)
      rw [Grw_grw HK1.out.size hk.size] at b1
      exact ⟨rfl, ⟨_, _, _, _, _, _, _, b1⟩, HK1.out.trans b2 HM1.out⟩
end Go.Proofs.YtipnamoocemeeaaGreat
