/-
  Texts B3 of the claim.
-/
import Derived.Test.YtpkheiaanjhffaaGreatU48
import Derived.Test.YtpkheiaanjhffaaGreatUB02
import Derived.Test.YtpkheiaanjhffaaGreatUB01
import Derived.Deep.CutRange
namespace Go.Proofs.YtpkheiaanjhffaaGreat
open Go.RowKit
set_option maxHeartbeats 800000 in
theorem rticksW (n : Int) (h1 : 0 ≤ n) (h2 : n ≤ 5000000) (w : World) :
    Calls Tryz.prog 51 #[.int .i64 n] w fun r w' => r = .returned (.bool true) ∧ w = w' := by
  go_enter Tryz.func51, Tryz.ntmps51
  go_wp2
  go_ret
  have d : decide (n ≤ 5000000) = true := decide_eq_true h2
  first | exact ⟨rfl, rfl⟩ | exact ⟨ret_bool d, rfl⟩
set_option maxRecDepth 100000 in
set_option maxHeartbeats 1600000 in
theorem rdrainW (b p x y : Int) (h : Hid (Okset b p)) (hx1 : 0 ≤ x) (hx2 : x ≤ 5000000) (hy1 : 0 ≤ y) (hy2 : y ≤ 5000000) (w : World) :
    Calls Tryz.prog 22 #[.agg #[.int .i64 b, .int .i64 p], .int .i64 x, .int .i64 y] w fun r w' => r = .returned (.int .i64 (drainT b x y)) ∧ Below w.heap.size w w' := by
  obtain ⟨t1, t2, _, _, t5, t6⟩ := time_bd h.out
  obtain ⟨C, hC⟩ : ∃ C, charT b = C := ⟨_, rfl⟩
  obtain ⟨T, hT⟩ : ∃ T, t35T b = T := ⟨_, rfl⟩
  have HCH : Hid (∀ W, Calls Tryz.prog 21 #[.agg #[.int .i64 b, .int .i64 p]] W fun r w' => r = .returned (.int .i64 C) ∧ Below W.heap.size W w') := fun W => by rw [← hC]; exact rchar_ok b p h W
  have HT3 : Hid (∀ W, Calls Tryz.prog 20 #[.agg #[.int .i64 b, .int .i64 p]] W fun r w' => r = .returned (.int .i64 T) ∧ Below W.heap.size W w') := fun W => by rw [← hT]; exact rt35_ok b p h W
  have HD : Hid (drainT b x y = 2 * T + x + y + 257 * C) := by show _ = _; rw [← hC, ← hT]; rfl
  rw [hC] at t1 t2
  rw [hT] at t5 t6
  have s1 : IntKind.i64.wrap (2 * T) = 2 * T := IntWalk.i64_in _ (by omega)
  have s2 : IntKind.i64.wrap (2 * T + x) = 2 * T + x := IntWalk.i64_in _ (by omega)
  have s3 : IntKind.i64.wrap (2 * T + x + y) = 2 * T + x + y := IntWalk.i64_in _ (by omega)
  have s4 : IntKind.i64.wrap (257 * C) = 257 * C := IntWalk.i64_in _ (by omega)
  have s5 : IntKind.i64.wrap (2 * T + x + y + 257 * C) = 2 * T + x + y + 257 * C := IntWalk.i64_in _ (by omega)
  clear hC hT
  go_enter Tryz.func22, Tryz.ntmps22
  go_wp2_with (first | (go_at_call 49; (with_reducible refine (rvalid_ok b p h _).mono ?_); rintro r w1 ⟨rfl, hb1⟩; have g0 := hpKeep (hpNew w _) hb1) | (go_at_call 51; (with_reducible refine (rticksW x hx1 hx2 _).mono ?_); rintro r w2 ⟨rfl, rfl⟩) | (go_at_call 51; (with_reducible refine (rticksW y hy1 hy2 _).mono ?_); rintro r w2 ⟨rfl, rfl⟩))
  have c0 : ∀ W, Below w1.heap.size w1 W → W.cell? ⟨w.heap.size, 0, none⟩ = some (.int .i64 b) := fun W hW => hpCell (hpKeep g0 hW) 0
  have c1 : ∀ W, Below w1.heap.size w1 W → W.cell? ⟨w.heap.size, 1, none⟩ = some (.int .i64 p) := fun W hW => hpCell (hpKeep g0 hW) 1
  have kD : Below w1.heap.size w1 w1.drew := (Below.refl _ _).drew
  have hbw1 := bt (bal' w _) hb1 (Nat.le_refl _)
  clear g0 hb1
  go_region_held3 (fun W => Below w1.heap.size w1 W) ((first | exact kD | exact bt (by assumption) hb5 (Nat.le_refl _) | exact bt (by assumption) hb4 (Nat.le_refl _))) (first | (go_at_call 21; (with_reducible refine (HCH.out _).mono ?_); rintro r w4 ⟨rfl, hb4⟩) | (go_at_call 20; (with_reducible refine (HT3.out _).mono ?_); rintro r w5 ⟨rfl, hb5⟩))
  all_goals
    go_wp2
    go_ret
    refine ⟨by rw [HD.out]; rfl, ?_⟩
    first | exact bt hbw1 (bt (bt kD hb5 (Nat.le_refl _)) hb4 (Nat.le_refl _)) (Nat.le_refl _) | exact bt hbw1 (bt (bt kD hb4 (Nat.le_refl _)) hb5 (Nat.le_refl _)) (Nat.le_refl _)
set_option maxRecDepth 100000 in
set_option maxHeartbeats 12800000 in
theorem Walk.lineTimes {w : World} (la : Option Addr) (ln lc : Nat) (hrl : Rd Tryz.prog w 22 [.slice la ln lc]) (cs : Array Value) (hra : Rd Tryz.prog w 24 cs.toList) (k : Int) (hk : (Lit.int .i64 k).wf = true) (x1 : Int) (hx1 : (Lit.int .i64 x1).wf = true) (x2 : Int) (hx2 : (Lit.int .i64 x2).wf = true) (x3 : Int) (hx3 : (Lit.int .i64 x3).wf = true) (tk : Int) (htk : (Lit.int .i64 tk).wf = true) :
    Calls Tryz.prog 4 #[.slice la ln lc, .agg cs, .int .i64 k, .int .i64 x1, .int .i64 x2, .int .i64 x3, .int .i64 tk] w fun r w' => r = .returned (.bool true) ∧ Below w.heap.size w w' := by
  obtain ⟨a, rfl, hwa⟩ := at_rd hra
  obtain ⟨l, hL⟩ := slvs_rd hrl
  have hl : l.length = ln := by
    obtain ⟨a', c', e⟩ := hL.slc
    simp only [Value.slice.injEq] at e
    exact e.2.1.symm
  obtain ⟨C, hC⟩ : ∃ C, a.C = C := ⟨_, rfl⟩
  have hi6 : (Tryz.prog.info? 24).map (·.size) = some C.size := by rw [← hC]; exact infoAT
  rw [hC]
  obtain ⟨VS, -, HMS0⟩ := mslaves_any l 4
  obtain ⟨VB, hVB, HMB0⟩ := rbus_any l
  obtain ⟨VA, hVA⟩ := bool_is (p := a.ok)
  have HMS : Hid (∀ X, Below w.heap.size w X → Calls Tryz.prog 7 #[.slice la ln lc, .int .i64 4] X (BoolPost X VS)) := fun X hX => (HMS0 X _ (hL.keep hX)).mono fun r w' h => ⟨h.1, by rw [← h.2]; exact Below.refl _ _⟩
  have HMB : Hid (∀ X, Below w.heap.size w X → Calls Tryz.prog 8 #[.slice la ln lc] X (BoolPost X VB)) := fun X hX => HMB0 X _ (hL.keep hX)
  have HMA : Hid (∀ X, Calls Tryz.prog 9 #[.agg C] X (BoolPost X VA)) := fun X => by rw [← hC]; exact ratt_w a VA hVA X
  have HMK : Hid (∀ X, Calls Tryz.prog 12 #[.int .i64 x1, .int .i64 x2, .int .i64 x3] X fun r w' => r = .returned (.agg #[.int .i64 (mkRq x1 x2 x3).fn, .int .i64 (mkRq x1 x2 x3).addr, .int .i64 (mkRq x1 x2 x3).qty, .int .i64 (mkRq x1 x2 x3).code, .int .i64 (mkRq x1 x2 x3).obj]) ∧ Below X.heap.size X w') := fun X => make_any x1 x2 x3 hx1 hx2 hx3 X
  obtain ⟨W1, hW1⟩ : ∃ W, w.alloc (.cells C 24) = W := ⟨_, rfl⟩
  have hb1 : Below w.heap.size w W1 := by rw [← hW1]; exact bal' w _
  have pA : W1.heap[w.heap.size]? = some (.cells C 24) := by rw [← hW1]; exact hpNew w _
  have HROW : Hid (∀ X, Below W1.heap.size W1 X → ∀ j v, C.toList[j]? = some v → X.cell? ((⟨w.heap.size, 0, none⟩ : Addr).add j) = some v) := fun X hX j v hj => rowAtW (hpKeep pA hX) j v hj
  have HW1 := hid hW1
  have HB1 := hid hb1
  have HPA := hid pA
  have HL := hid hL
  have HLN := hid hl
  have HVB := hid hVB
  have HVA := hid hVA
  have HCC := hid hC
  have HWK : Hid ((Lit.int .i64 k).wf = true ∧ (Lit.int .i64 tk).wf = true) := ⟨hk, htk⟩
  clear hrl hra hL hl hC HMS0 HMB0 hVB hVA hW1 hb1 pA hk hx1 hx2 hx3 htk
  go_enter Tryz.func4, Tryz.ntmps4
  go_upto_region 1 with (fail)
  rw [HW1.out]
  cases VS with
  | false =>
    go_wp2_with (first | (go_at_call 7; (with_reducible refine (HMS.out _ HB1.out).mono ?_); rintro r w4 ⟨rfl, hb4⟩) | (go_at_call 10; (with_reducible refine (awake16_any _).mono ?_); rintro r wz ⟨rfl, hbz⟩))
    go_ret
    exact ⟨rfl, bt (bt HB1.out hb4 (Nat.le_refl _)) hbz (Nat.le_refl _)⟩
  | true =>
  cases VB with
  | false =>
    go_wp2_with (first | (go_at_call 7; (with_reducible refine (HMS.out _ HB1.out).mono ?_); rintro r w4 ⟨rfl, hb4⟩) | (go_at_call 8; (with_reducible refine (HMB.out _ (bt HB1.out hb4 (Nat.le_refl _))).mono ?_); rintro r w5 ⟨rfl, hb5⟩) | (go_at_call 10; (with_reducible refine (awake16_any _).mono ?_); rintro r wz ⟨rfl, hbz⟩))
    go_ret
    exact ⟨rfl, bt (bt (bt HB1.out hb4 (Nat.le_refl _)) hb5 (Nat.le_refl _)) hbz (Nat.le_refl _)⟩
  | true =>
  have HBP : Hid (BusP l) := HVB.out.1 rfl
  by_cases hz : ln = 0
  · subst hz
    go_wp2_with (first | (go_at_call 7; (with_reducible refine (HMS.out _ HB1.out).mono ?_); rintro r w4 ⟨rfl, hb4⟩) | (go_at_call 8; (with_reducible refine (HMB.out _ (bt HB1.out hb4 (Nat.le_refl _))).mono ?_); rintro r w5 ⟨rfl, hb5⟩) | (go_at_call 10; (with_reducible refine (awake16_any _).mono ?_); rintro r wz ⟨rfl, hbz⟩))
    go_ret
    exact ⟨rfl, bt (bt (bt HB1.out hb4 (Nat.le_refl _)) hb5 (Nat.le_refl _)) hbz (Nat.le_refl _)⟩
  have gz : ((ln : Int) == 0) = false := b0 (by omega)
  have gz2 : (ln == 0) = false := beq_eq_false_iff_ne.2 hz
  cases VA with
  | false =>
    go_wp2_with (first | (go_at_call 7; (with_reducible refine (HMS.out _ HB1.out).mono ?_); rintro r w4 ⟨rfl, hb4⟩) | (go_at_call 8; (with_reducible refine (HMB.out _ (bt HB1.out hb4 (Nat.le_refl _))).mono ?_); rintro r w5 ⟨rfl, hb5⟩) | (refine wpList_load_atH (by rfl) 24 (.tmp 8) rfl ⟨w.heap.size, 0, none⟩ rfl C _ (HROW.out _ (bt hb4 hb5 (Nat.le_refl _))) Tryz.underlying24 rfl hi6 ?_) | (go_at_call 9; (with_reducible refine (HMA.out _).mono ?_); rintro r w6 ⟨rfl, hb6⟩) | (go_at_call 10; (with_reducible refine (awake16_any _).mono ?_); rintro r wz ⟨rfl, hbz⟩))
    go_ret
    exact ⟨rfl, bt (bt (bt (bt HB1.out hb4 (Nat.le_refl _)) hb5 (Nat.le_refl _)) hb6 (Nat.le_refl _)) hbz (Nat.le_refl _)⟩
  | true =>
  have HAO : Hid a.ok := HVA.out.1 rfl
  obtain ⟨n, hn⟩ : ∃ n : Nat, (k % (ln : Int)).toNat = n := ⟨_, rfl⟩
  have hk1 := Int.emod_lt_of_pos k (show (0 : Int) < (ln : Int) by omega)
  have hk0 := Int.emod_nonneg k (show (ln : Int) ≠ 0 by omega)
  have hkn : k % (ln : Int) = (n : Int) := by omega
  have hnl : n < ln := by omega
  obtain ⟨x, hx⟩ := gs (l := l) HLN.out hnl
  have HPX := hid (pickS HBP.out hx)
  have hln16 : ln ≤ 16 := by have := HBP.out.1; have := HLN.out; omega
  have HM1 : Hid (∀ X, Calls Tryz.prog 11 #[.int .i64 k, .int .i64 (ln : Int)] X fun r w' => r = .returned (.int .i64 (n : Int)) ∧ X = w') := fun X => by rw [← hkn]; exact mod_any k (ln : Int) (by omega) (by omega) HWK.out.1 X
  obtain ⟨tick, htick⟩ : ∃ t, tk % 1000000 = t := ⟨_, rfl⟩
  have HTI : Hid (0 ≤ tick ∧ tick < 1000000) := by
    have := Int.emod_lt_of_pos tk (show (0 : Int) < 1000000 by decide)
    have := Int.emod_nonneg tk (show (1000000 : Int) ≠ 0 by decide)
    show _ ∧ _
    omega
  have HM2 : Hid (∀ X, Calls Tryz.prog 11 #[.int .i64 tk, .int .i64 1000000] X fun r w' => r = .returned (.int .i64 tick) ∧ X = w') := fun X => by rw [← htick]; exact mod_any tk 1000000 (by decide) (by decide) HWK.out.2 X
  have hn0 : (0 : Int) ≤ (n : Int) := by omega
  have hnl2 : (n : Int) < (ln : Int) := by omega
  clear hn hk1 hk0 hkn htick HWK
  go_upto_region 3 with (first | (go_at_call 7; (with_reducible refine (HMS.out _ HB1.out).mono ?_); rintro r w4 ⟨rfl, hb4⟩) | (go_at_call 8; (with_reducible refine (HMB.out _ (bt HB1.out hb4 (Nat.le_refl _))).mono ?_); rintro r w5 ⟨rfl, hb5⟩) | (refine wpList_load_atH (by rfl) 24 (.tmp 8) rfl ⟨w.heap.size, 0, none⟩ rfl C _ (HROW.out _ (bt hb4 hb5 (Nat.le_refl _))) Tryz.underlying24 rfl hi6 ?_) | (go_at_call 9; (with_reducible refine (HMA.out _).mono ?_); rintro r w6 ⟨rfl, hb6⟩))
  have HB6 : Hid (Below W1.heap.size W1 w6) := bt (bt hb4 hb5 (Nat.le_refl _)) hb6 (Nat.le_refl _)
  clear hb4 hb5 hb6 HMS HMB HMA HVB HVA
  obtain ⟨b, o, rv, ov, sv, rfl, hR, hc⟩ := (HL.out.keep (bt HB1.out HB6.out (Nat.le_refl _))).at HPX.out.at_
  obtain ⟨D, hD⟩ : ∃ D, SlC x rv ov sv = D := ⟨_, rfl⟩
  have hi19 : (Tryz.prog.info? 38).map (·.size) = some D.size := by rw [← hD]; exact infoSL
  have hds : D.size = 19 := by rw [← hD]; rfl
  have h1d : D.toList.all (·.oneCell') = true := by rw [← hD]; exact hR.one
  have hrow : ∀ j v, D.toList[j]? = some v → w6.cell? ((⟨b, o + n * 19, none⟩ : Addr).add j) = some v := fun j v hj => by
    rw [Addr.add_lit]
    exact hc j v (by rw [hD]; simpa using hj)
  have HD3 : Hid (D[0]? = some (.int .i64 x.bd) ∧ D[1]? = some (.int .i64 x.pa) ∧ D[2]? = some (.int .i64 x.un)) := by
    show _ ∧ _ ∧ _
    rw [← hD]
    exact ⟨rfl, rfl, rfl⟩
  clear hR hc hD
  go_upto_region 5 with (first
    | (go_at_call 11; (with_reducible refine (HM1.out _).mono ?_); rintro r wx ⟨rfl, rfl⟩)
    | (refine wpList_load_at rfl 38 (.tmp 48) rfl ⟨b, o + n * 19, none⟩ rfl D _ hrow Tryz.underlying38 rfl hi19 ?_)
    | (refine wpList_storeW rfl 38 (.tmp 15) (.tmp 49) rfl w6.heap.size 0 _ 38 D rfl rfl (hpNew w6 _) (by simp [hds]) hi19 h1d ?_; intro w7 g7 hk7 hz7)
    | (go_at_call 11; (with_reducible refine (HM2.out _).mono ?_); rintro r wx ⟨rfl, rfl⟩))
  obtain ⟨p7, hb7⟩ := var_new (by rw [hds]; rfl) g7 hk7
  obtain ⟨xb, hxb⟩ : ∃ n, w6.heap.size = n := ⟨_, rfl⟩
  rw [hxb] at p7 ⊢
  have HB7 : Hid (Below W1.heap.size W1 w7) := bt HB6.out hb7 (Nat.le_refl _)
  have HPX7 := hid p7
  obtain ⟨bd, hbd⟩ : ∃ y, x.bd = y := ⟨_, rfl⟩
  obtain ⟨pa, hpa⟩ : ∃ y, x.pa = y := ⟨_, rfl⟩
  obtain ⟨un, hun⟩ : ∃ y, x.un = y := ⟨_, rfl⟩
  rw [hbd, hpa, hun] at HD3
  have y0 : ∀ X, Below w7.heap.size w7 X → X.cell? ⟨xb, 0, none⟩ = some (.int .i64 bd) := fun X hX => by rw [hpCell (hpKeep HPX7.out hX)]; exact HD3.out.1
  have y1 : ∀ X, Below w7.heap.size w7 X → X.cell? ⟨xb, 1, none⟩ = some (.int .i64 pa) := fun X hX => by rw [hpCell (hpKeep HPX7.out hX)]; exact HD3.out.2.1
  have y2 : ∀ X, Below w7.heap.size w7 X → X.cell? ⟨xb, 2, none⟩ = some (.int .i64 un) := fun X hX => by rw [hpCell (hpKeep HPX7.out hX)]; exact HD3.out.2.2
  have HST : Hid (Okset bd pa) := by show Okset _ _; rw [← hbd, ← hpa]; exact HPX.out.set
  have HUN : Hid (1 ≤ un ∧ un ≤ 247) := by show _ ∧ _; rw [← hun]; exact HPX.out.un
  have f1 : wfI bd := by have := HST.out.bd; unfold wfI; omega
  have f2 : wfI pa := by have := HST.out.lo; have := HST.out.hi; unfold wfI; omega
  obtain ⟨Q, hQ⟩ : ∃ Q, mkRq x1 x2 x3 = Q := ⟨_, rfl⟩
  have hqk : Q.ok = true := by rw [← hQ]; exact mkRq_ok x1 x2 x3
  rw [hQ] at HMK
  obtain ⟨F, hF⟩ : ∃ F, rqFrame un Q = F := ⟨_, rfl⟩
  obtain ⟨fl, hfl⟩ : ∃ n, F.length = n := ⟨_, rfl⟩
  have hflb : 4 ≤ fl ∧ fl ≤ 256 := by rw [← hfl, ← hF]; exact rqFrame_len un Q
  have HFR : Hid (∀ X, Calls Tryz.prog 14 #[.int .i64 un, .agg #[.int .i64 Q.fn, .int .i64 Q.addr, .int .i64 Q.qty, .int .i64 Q.code, .int .i64 Q.obj]] X fun r w' => ∃ a c, r = .returned (.slice a fl c) ∧ Bs w' (.slice a fl c) F ∧ Below X.heap.size X w') := fun X => (lframe_any un HUN.out.1 HUN.out.2 Q hqk X).mono fun r w' h => by
    obtain ⟨a, c, h1, h2, h3⟩ := h
    rw [hF, hfl] at h1 h2
    exact ⟨a, c, h1, Bs.own (by rw [← hfl] at h2 ⊢; exact h2), h3⟩
  obtain ⟨R, hR⟩ : ∃ R, rcvF l a bd pa F = R := ⟨_, rfl⟩
  obtain ⟨rn, hrn⟩ : ∃ n, R.length = n := ⟨_, rfl⟩
  obtain ⟨E, hE⟩ : ∃ E, newsF l a bd pa F tick = E := ⟨_, rfl⟩
  have hel : E.length = rn := by rw [← hE]; unfold newsF; rw [chsN_len, hR, hrn]
  have hrb : rn ≤ 256 := by rw [← hrn, ← hR]; exact rcvF_len HBP.out a bd pa F
  have hrs : ¬ (a.fault = 1 ∨ a.fault = 2) → 5 ≤ rn := fun h => by
    rw [← hrn, ← hR, ← hF, ← hbd, ← hpa, ← hun]
    exact rcvF_some HBP.out HPX.out.at_ hqk h
  have hrz : (a.fault = 1 ∨ a.fault = 2) → rn = 0 := fun h => by
    rw [← hrn, ← hR]
    unfold rcvF
    rw [if_pos h]
    rfl
  obtain ⟨en, hen⟩ : ∃ e, tick + frameT bd fl = e := ⟨_, rfl⟩
  have HON : Hid (∀ X fa fc, Below w.heap.size w X → Bs X (.slice fa fl fc) F → Calls Tryz.prog 13 #[.slice (some ⟨b, o, none⟩) ln lc, .agg C, .agg #[.int .i64 bd, .int .i64 pa], .slice fa fl fc, .int .i64 tick] X fun r w' => ∃ a c, r = .returned (.tuple #[.int .i64 en, .slice a rn c, .bool true]) ∧ w'.ownsRow X.heap.size 48 3 (.slice a rn c) rn (evL E) ∧ Below X.heap.size X w') := fun X fa fc hX hb => by
    have e := one_any (some ⟨b, o, none⟩) lc ln l HLN.out HBP.out a HAO.out hwa bd pa HST f1 f2 fa fl fc F (by omega) hflb.2 tick HTI.out.1 (by have := HTI.out.2; omega) X (HL.out.keep hX) hb
    rw [HCC.out, hen, hE] at e
    unfold RcvdPost at e
    rw [hel] at e
    exact e
  have HEN := hid hen
  have HEE := hid hE
  have HEL := hid hel
  have HRB := hid hrb
  have HRS := hid hrs
  have HRZ := hid hrz
  have HRR := hid (And.intro hR hrn)
  have HFL := hid (And.intro hfl hflb)
  have HRF : Hid (∀ X, Calls Tryz.prog 19 #[.agg #[.int .i64 bd, .int .i64 pa], .int .i64 (fl : Int)] X fun r w' => r = .returned (.int .i64 (frameT bd fl)) ∧ Below X.heap.size X w') := fun X => rframe_ok bd pa HST fl hflb.2 X
  obtain ⟨FT, hFT⟩ : ∃ y, frameT bd fl = y := ⟨_, rfl⟩
  rw [hFT] at HRF HEN
  have v1 : IntKind.i64.wrap (tick + FT) = en := by
    have h1 := frame_bd HST.out hflb.2
    rw [hFT] at h1
    have h2 := HTI.out
    have h3 := HEN.out
    exact (IntWalk.i64_in _ (by omega)).trans h3
  have HFT := hid hFT
  clear hds hi19 h1d hrow g7 hk7 hz7 hb7 p7 hxb hbd hpa hun hQ hqk hF hfl hflb hR hrn hE hel hrb hrs hrz hen hFT HM1 HM2 HD3 HPX7
  have kD : Below w7.heap.size w7 w7.drew := (Below.refl _ _).drew
  refine wp_region_held_drew (S := fun V => Below w7.heap.size w7 V) (by kernel_rfl) kD (fun hH => ?_)
  clear hH
  refine tkE 0 52 rfl rfl ?_; simp only [setS]
  refine tkE 1 53 rfl rfl ?_; simp only [setS]
  refine tkE 2 54 rfl rfl ?_; simp only [setS]
  refine tkE 3 55 rfl rfl ?_; simp only [setS]
  refine tkE 4 56 rfl rfl ?_; simp only [setS]
  refine rdyH 5 rfl (fun K hK => ?_); go_simp
  refine (HMK.out _).mono ?_
  rintro r w8 ⟨rfl, hb8⟩
  have hB8 : Below w7.heap.size w7 w8 := bt kD hb8 (Nat.le_refl _)
  refine hK.out _ _ hB8 (fun hSx => ?_); clear hK K hSx
  refine rdyH 6 rfl (fun K hK => ?_); go_simp
  refine (HFR.out _).mono ?_
  rintro r w9 ⟨fa, fc, rfl, hbs9, hb9⟩
  have hB9 : Below w7.heap.size w7 w9 := bt hB8 hb9 (Nat.le_refl _)
  refine hK.out _ _ hB9 (fun hSx => ?_); clear hK K hSx
  refine tkD 7 16 (v := ?_) rfl (by kernel_rfl) (fun _ _ _ h => h) rfl (by rfl) (by assumption) ?_ ?_; rotate_left; (intro w hSw; (try dsimp only at hSw); (try go_simp); try rfl)
  refine wpAnyH_done (by kernel_rfl) ?_ _
  have y0' := y0 _ hB9
  have y1' := y1 _ hB9
  have HB9 : Hid (Below W1.heap.size W1 w9) := bt HB7.out hB9 (Nat.le_refl _)
  have HON9 := hid (HON.out w9 fa fc (bt HB1.out HB9.out (Nat.le_refl _)) hbs9)
  clear hb8 hB8 hb9 kD hbs9 HON HFR HMK
  go_upto_region 7 with (first
    | (refine wpList_load_at rfl 24 (.tmp 8) rfl ⟨w.heap.size, 0, none⟩ rfl C _ (HROW.out _ HB9.out) Tryz.underlying24 rfl hi6 ?_)
    | (go_at_call 13; (with_reducible refine HON9.out.mono ?_); rintro r wa ⟨oa, oc, rfl, hoa, hba⟩))
  have hBa : Below w7.heap.size w7 wa := bt hB9 hba (Nat.le_refl _)
  have HBA : Hid (Below W1.heap.size W1 wa) := bt HB9.out hba (Nat.le_refl _)
  have HOA : Hid (wa.ownsRow 0 48 3 (.slice oa rn oc) rn (evL E)) := own_lower hoa (Nat.zero_le _)
  have y0'' := y0 _ hBa
  have y1'' := y1 _ hBa
  clear hoa hba hB9 y0' y1' HON9
  go_upto_region 9 with (go_at_call 19; (with_reducible refine (HRF.out _).mono ?_); rintro r wb ⟨rfl, hbb⟩)
  have HBB : Hid (Below W1.heap.size W1 wb) := bt HBA.out hbb (Nat.le_refl _)
  have HXW : Hid (Below w7.heap.size w7 wb) := bt hBa hbb (Nat.le_refl _)
  have HOB := hid (own_keeps (F := fun _ => False) HOA.out (Keeps.of_below hbb) (fun _ _ e => e))
  obtain ⟨lat, hlat⟩ : ∃ y, a.lat = y := ⟨_, rfl⟩
  obtain ⟨fault, hfault⟩ : ∃ y, a.fault = y := ⟨_, rfl⟩
  obtain ⟨pos, hpos⟩ : ∃ y, a.pos = y := ⟨_, rfl⟩
  obtain ⟨ticks, hticks⟩ : ∃ y, a.ticks = y := ⟨_, rfl⟩
  have HCE : Hid (C[0]? = some (.int .i64 lat) ∧ C[1]? = some (.int .i64 fault) ∧ C[2]? = some (.int .i64 pos) ∧ C[4]? = some (.int .i64 ticks)) := by
    show _ ∧ _ ∧ _ ∧ _
    rw [← HCC.out, ← hlat, ← hfault, ← hpos, ← hticks]
    exact ⟨rfl, rfl, rfl, rfl⟩
  have a0 : ∀ X, Below W1.heap.size W1 X → X.cell? ⟨w.heap.size, 0, none⟩ = some (.int .i64 lat) := fun X hX => by rw [hpCell (hpKeep HPA.out hX)]; exact HCE.out.1
  have a1 : ∀ X, Below W1.heap.size W1 X → X.cell? ⟨w.heap.size, 1, none⟩ = some (.int .i64 fault) := fun X hX => by rw [hpCell (hpKeep HPA.out hX)]; exact HCE.out.2.1
  have a2 : ∀ X, Below W1.heap.size W1 X → X.cell? ⟨w.heap.size, 2, none⟩ = some (.int .i64 pos) := fun X hX => by rw [hpCell (hpKeep HPA.out hX)]; exact HCE.out.2.2.1
  have a4 : ∀ X, Below W1.heap.size W1 X → X.cell? ⟨w.heap.size, 4, none⟩ = some (.int .i64 ticks) := fun X hX => by rw [hpCell (hpKeep HPA.out hX)]; exact HCE.out.2.2.2
  rw [hfault] at HRS HRZ
  have HAE := hid (And.intro hlat (And.intro hfault (And.intro hpos hticks)))
  clear hlat hfault hpos hticks hbb y0'' y1'' hBa HOA v1 HRF
  by_cases h12 : fault = 1 ∨ fault = 2
  · obtain rfl : rn = 0 := HRZ.out h12
    clear HRS HRZ
    rcases h12 with rfl | rfl
    · go_wp2_with (go_at_call 10; (with_reducible refine (awake16_any _).mono ?_); rintro r wz ⟨rfl, hbz⟩; have a1' := a1 _ (bt HBB.out hbz (Nat.le_refl _)))
      go_ret
      exact ⟨rfl, bt (bt HB1.out HBB.out (Nat.le_refl _)) hbz (Nat.le_refl _)⟩
    · go_wp2_with (go_at_call 10; (with_reducible refine (awake16_any _).mono ?_); rintro r wz ⟨rfl, hbz⟩; have a1' := a1 _ (bt HBB.out hbz (Nat.le_refl _)))
      go_ret
      exact ⟨rfl, bt (bt HB1.out HBB.out (Nat.le_refl _)) hbz (Nat.le_refl _)⟩
  have hr5 := HRS.out h12
  have gr : ((rn : Int) == 0) = false := b0 (by omega)
  have gr2 : (rn == 0) = false := beq_eq_false_iff_ne.2 (by omega)
  have HR5 := hid hr5
  clear HRS HRZ hr5 h12
  obtain ⟨CH, hCH⟩ : ∃ y, charT bd = y := ⟨_, rfl⟩
  obtain ⟨T3, hT3⟩ : ∃ y, t35T bd = y := ⟨_, rfl⟩
  obtain ⟨j1, j2, j3, j4, j5, j6⟩ := time_bd HST.out
  rw [hCH] at j1 j2
  rw [hT3] at j5 j6
  obtain ⟨e1, e2, e3, e4⟩ := HAE.out
  obtain ⟨q1, q2, -, -, q5, q6⟩ := At.ok_bd HAO.out
  rw [e1] at q1 q2
  rw [e4] at q5 q6
  have hps : fault = 6 → 1 ≤ pos := fun h => by
    have h1 := HAO.out
    obtain ⟨-, -, -, -, -, -, h2⟩ := h1
    rw [e2, e3] at h2
    omega
  obtain ⟨late, hlate⟩ : ∃ y, (if fault = 4 then ticks else 0) = y := ⟨_, rfl⟩
  obtain ⟨PZ, hPZ⟩ : ∃ PZ : Nat → Int, (fun i : Nat => if fault = 6 ∧ pos < (i : Int) then ticks else 0) = PZ := ⟨_, rfl⟩
  have HPZ : Hid (∀ i, PZ i = if fault = 6 ∧ pos < (i : Int) then ticks else 0) := fun i => by rw [← hPZ]
  have HLB : Hid (∀ i, 0 ≤ late + PZ i ∧ late + PZ i ≤ 5000000 ∧ 0 ≤ late ∧ late ≤ 5000000 ∧ 0 ≤ PZ i ∧ PZ i ≤ 5000000) := fun i => by
    rw [HPZ.out, ← hlate]
    by_cases h4 : fault = 4
    · rw [if_pos h4, if_neg (by omega)]
      omega
    · rw [if_neg h4]
      split <;> omega
  have HE : Hid (∀ (i : Nat) y, E[i]? = some y → i < rn ∧ y.at_ = en + T3 + lat + late + PZ (i + 1) + ((i : Int) + 1) * CH) := fun i y hy => by
    rw [← HEE.out] at hy
    unfold newsF at hy
    obtain ⟨h1, rfl⟩ := chsN_at hy
    rw [HRR.out.1, HRR.out.2] at h1
    refine ⟨h1, ?_⟩
    unfold chAt begT
    dsimp only
    rw [e1, e2, e3, e4, HFL.out.1, hCH, hT3, HPZ.out, ← HEN.out, HFT.out, hlate]
    by_cases hq : fault = 6 ∧ pos ≤ (i : Int)
    · rw [if_pos hq, if_pos ⟨hq.1, by omega⟩]
      omega
    · rw [if_neg hq, if_neg (fun h => hq ⟨h.1, by omega⟩)]
      omega
  have HEB : Hid (0 ≤ en ∧ en ≤ 4000000) := by
    have h1 := frame_bd HST.out HFL.out.2.2
    have h2 := HTI.out
    have h3 := HEN.out
    have h4 := HFT.out
    show _ ∧ _
    omega
  have HCT : Hid (∀ X, Calls Tryz.prog 21 #[.agg #[.int .i64 bd, .int .i64 pa]] X fun r w' => r = .returned (.int .i64 CH) ∧ Below X.heap.size X w') := fun X => by rw [← hCH]; exact rchar_ok bd pa HST X
  have HTT : Hid (∀ X, Calls Tryz.prog 20 #[.agg #[.int .i64 bd, .int .i64 pa]] X fun r w' => r = .returned (.int .i64 T3) ∧ Below X.heap.size X w') := fun X => by rw [← hT3]; exact rt35_ok bd pa HST X
  have HDR : Hid (∀ X D2, 0 ≤ D2 → D2 ≤ 5000000 → Calls Tryz.prog 22 #[.agg #[.int .i64 bd, .int .i64 pa], .int .i64 lat, .int .i64 D2] X fun r w' => r = .returned (.int .i64 (2 * T3 + lat + D2 + 257 * CH)) ∧ Below X.heap.size X w') := fun X D2 h1 h2 => by
    have e := rdrainW bd pa lat D2 HST q1 q2 h1 h2 X
    unfold drainT at e
    rw [hCH, hT3] at e
    exact e
  have HJ : Hid (96 ≤ CH ∧ CH ≤ 9167 ∧ 1750 ≤ T3 ∧ T3 ≤ 32084 ∧ 0 ≤ lat ∧ lat ≤ 5000000) := ⟨j1, j2, j5, j6, q1, q2⟩
  have HLA := hid hlate
  have HPS := hid hps
  clear j1 j2 j3 j4 j5 j6 q1 q2 q5 q6 e1 e2 e3 e4 hps hPZ hCH hT3 hlate
  have a1' := a1 _ HBB.out
  have a4' := a4 _ HBB.out
  go_upto_region 12 with (fail)
  go_upto_if 99 with (fail)
  go_cut [20] from 99 to 101 (fun s20 wd => s20 = .int .i64 late ∧ wb = wd)
  case first =>
    by_cases h4 : fault = 4
    · have g4 : (fault == 4) = true := b1 h4
      have HTE : Hid (ticks = late) := by show _ = _; rw [← HLA.out, if_pos h4]
      clear h4
      go_wp2
      go_meet
      case rel => exact ⟨by rw [HTE.out], rfl⟩
    · have g4 : (fault == 4) = false := b0 h4
      have HTE : Hid (0 = late) := by show _ = _; rw [← HLA.out, if_neg h4]
      clear h4
      go_wp2
      go_meet
      case rel => exact ⟨by rw [← HTE.out], rfl⟩
  case rest =>
  obtain ⟨rfl, hwc⟩ := hcut
  subst hwc
  clear a1' a4'
  go_upto_region 15 with (fail)
  go_loopw [21, 22] (fun pv iv wr => ∃ i : Nat, i ≤ rn ∧ iv = .int .i64 (i : Int) ∧ pv = .int .i64 (PZ i) ∧ Below wb.heap.size wb wr) (fun _ iv _ => rn - (intOf iv).toNat)
  case atStart =>
    refine ⟨0, Nat.zero_le _, rfl, ?_, Below.refl _ _⟩
    have h0 := HPZ.out 0
    rw [if_neg (fun h => by have := HPS.out h.1; have := h.2; omega)] at h0
    rw [h0]
  case round =>
    obtain ⟨i, hi, rfl, rfl, hbw⟩ := hrel
    have hi0 : (0 : Int) ≤ (i : Int) := Int.natCast_nonneg _
    have hxw : Below w7.heap.size w7 wr := bt HXW.out hbw (Nat.le_refl _)
    have haw : Below W1.heap.size W1 wr := bt HBB.out hbw (Nat.le_refl _)
    obtain ⟨ob, cap, hv1, -, -, -⟩ := own_shapeR HOB.out (by have := HR5.out; omega)
    simp only [Value.slice.injEq, true_and] at hv1
    obtain ⟨rfl, rfl⟩ := hv1
    by_cases hlt : i < rn
    · obtain ⟨ev, hev⟩ := gs (l := E) HEL.out hlt
      obtain ⟨-, hat⟩ := HE.out i ev hev
      have hc0 : wb.cell? ⟨ob, i * 3, none⟩ = some (.int .i64 ev.at_) := by rw [HOB.out.cellAt (i * 3) (by omega)]; have := evL_get hev 0 (by decide); rw [Nat.add_zero] at this; rw [this]; rfl
      have hc2 : wb.cell? ⟨ob, i * 3 + 2, none⟩ = some (.int .i64 0) := by rw [HOB.out.cellAt (i * 3 + 2) (by omega), evL_get hev 2 (by decide)]; rfl
      obtain ⟨T, hT⟩ : ∃ y, ev.at_ = y := ⟨_, rfl⟩
      rw [hT] at hat hc0
      have o0 : ∀ X, Below wr.heap.size wr X → X.cell? ⟨ob, i * 3, none⟩ = some (.int .i64 T) := fun X hX => cell_keep (bt hbw hX (Nat.le_refl _)) hc0
      have o2 : ∀ X, Below wr.heap.size wr X → X.cell? ⟨ob, i * 3 + 2, none⟩ = some (.int .i64 0) := fun X hX => cell_keep (bt hbw hX (Nat.le_refl _)) hc2
      have b0' : ∀ X, Below wr.heap.size wr X → X.cell? ⟨w.heap.size, 0, none⟩ = some (.int .i64 lat) := fun X hX => a0 X (bt haw hX (Nat.le_refl _))
      have z0 : ∀ X, Below wr.heap.size wr X → X.cell? ⟨xb, 0, none⟩ = some (.int .i64 bd) := fun X hX => y0 X (bt hxw hX (Nat.le_refl _))
      have z1 : ∀ X, Below wr.heap.size wr X → X.cell? ⟨xb, 1, none⟩ = some (.int .i64 pa) := fun X hX => y1 X (bt hxw hX (Nat.le_refl _))
      have a1' := a1 _ haw
      have a2' := a2 _ haw
      have a4' := a4 _ haw
      have hil : (i : Int) < (rn : Int) := by omega
      obtain ⟨g1, g2⟩ := HEB.out
      obtain ⟨j1, j2, j3, j4, j5, j6⟩ := HJ.out
      obtain ⟨l1, l2, l3, l4, l5, l6⟩ := HLB.out (i + 1)
      have hrb := HRB.out
      obtain ⟨P1, hP1⟩ : ∃ y, PZ (i + 1) = y := ⟨_, rfl⟩
      rw [hP1] at hat l1 l2 l5 l6
      obtain ⟨A1, hA1⟩ : ∃ y, en + T3 = y := ⟨_, rfl⟩
      have s1 : IntKind.i64.wrap (en + T3) = A1 := (IntWalk.i64_in _ (by omega)).trans hA1
      obtain ⟨A2, hA2⟩ : ∃ y, A1 + lat = y := ⟨_, rfl⟩
      have s2 : IntKind.i64.wrap (A1 + lat) = A2 := (IntWalk.i64_in _ (by omega)).trans hA2
      obtain ⟨A3, hA3⟩ : ∃ y, A2 + late = y := ⟨_, rfl⟩
      have s3 : IntKind.i64.wrap (A2 + late) = A3 := (IntWalk.i64_in _ (by omega)).trans hA3
      obtain ⟨A4, hA4⟩ : ∃ y, A3 + P1 = y := ⟨_, rfl⟩
      have s4 : IntKind.i64.wrap (A3 + P1) = A4 := (IntWalk.i64_in _ (by omega)).trans hA4
      obtain ⟨i1, hi1⟩ : ∃ y, i + 1 = y := ⟨_, rfl⟩
      have s5 : IntKind.i64.wrap ((i : Int) + 1) = (i1 : Int) := (IntWalk.i64_in _ (by omega)).trans (by omega)
      obtain ⟨m, hm⟩ : ∃ y, ((i : Int) + 1) * CH = y := ⟨_, rfl⟩
      have hm0 : 0 ≤ m := by rw [← hm]; exact Int.mul_nonneg (by omega) (by omega)
      have hm1 : m ≤ 256 * 9167 := by rw [← hm]; exact Int.mul_le_mul (by omega) j2 (by omega) (by omega)
      have s6 : IntKind.i64.wrap ((i1 : Int) * CH) = m := by rw [← hm, ← hi1]; exact IntWalk.i64_in _ (by rw [show (((i + 1 : Nat) : Int)) = (i : Int) + 1 from rfl, hm]; omega)
      rw [hm] at hat
      have s7 : IntKind.i64.wrap (A4 + m) = T := (IntWalk.i64_in _ (by omega)).trans (by omega)
      have HPI : Hid (PZ i1 = P1 ∧ i1 = i + 1) := by rw [← hi1]; exact ⟨hP1, rfl⟩
      have HLT := hid hlt
      clear hev hat hc0 hc2 hT g1 g2 j1 j2 j3 j4 j5 j6 l1 l2 l3 l4 l5 l6 hA1 hA2 hA3 hA4 hi1 hm hm0 hm1 hrb hP1 hlt hxw haw
      go_upto_region 17 with (fail)
      obtain ⟨B, hB⟩ : ∃ B : Bool, (B = true ↔ fault = 6 ∧ (i : Int) = pos) := bool_is
      have HBL := hid hB
      clear hB
      go_cut [116] from 108 to 116 (fun s116 wd => s116 = .bool B ∧ wr = wd)
      case first =>
        by_cases h6 : fault = 6
        · have g6 : (fault == 6) = true := b1 h6
          by_cases hp : (i : Int) = pos
          · have gp : ((i : Int) == pos) = true := b1 hp
            have HTE : Hid (B = true) := HBL.out.2 ⟨h6, hp⟩
            clear h6 hp
            go_wp2
            go_meet
            case rel => exact ⟨by rw [HTE.out], rfl⟩
          · have gp : ((i : Int) == pos) = false := b0 hp
            have HTE : Hid (B = false) := by cases B with
              | false => rfl
              | true => exact absurd (HBL.out.1 rfl).2 hp
            clear h6 hp
            go_wp2
            go_meet
            case rel => exact ⟨by rw [HTE.out], rfl⟩
        · have g6 : (fault == 6) = false := b0 h6
          have HTE : Hid (B = false) := by cases B with
            | false => rfl
            | true => exact absurd (HBL.out.1 rfl).1 h6
          clear h6
          go_wp2
          go_meet
          case rel => exact ⟨by rw [HTE.out], rfl⟩
      case rest =>
      obtain ⟨rfl, hwc⟩ := hcut
      subst hwc
      have HTP : Hid ((if B = true then ticks else PZ i) = P1) := by
        have h1 := HPI.out.1
        have h2 := HPZ.out i
        have h3 := HPZ.out i1
        have h5 := HPI.out.2
        show _ = _
        rw [← h1, h3, h2]
        cases B with
        | true =>
          have h4 := HBL.out.1 rfl
          rw [if_pos rfl, if_pos ⟨h4.1, by omega⟩]
        | false =>
          have h4 : ¬ (fault = 6 ∧ (i : Int) = pos) := fun h => by have := HBL.out.2 h; cases this
          rw [if_neg (by decide)]
          by_cases h6 : fault = 6 ∧ pos < (i : Int)
          · rw [if_pos h6, if_pos ⟨h6.1, by omega⟩]
          · rw [if_neg h6, if_neg (fun h => by
              by_cases e : (i : Int) = pos
              · exact h4 ⟨h.1, e⟩
              · exact h6 ⟨h.1, by have := h.2; omega⟩)]
      go_upto_if 116 with (fail)
      go_cut [21] from 116 to 118 (fun s21 wd => s21 = .int .i64 P1 ∧ wr = wd)
      case first =>
        cases B with
        | true =>
          have HTE : Hid (ticks = P1) := HTP.out
          clear HTP
          go_wp2
          go_meet
          case rel => exact ⟨by rw [HTE.out], rfl⟩
        | false =>
          have HTE : Hid (PZ i = P1) := HTP.out
          clear HTP
          go_wp2
          go_meet
          case rel => exact ⟨by rw [HTE.out], rfl⟩
      case rest =>
      obtain ⟨rfl, hwc⟩ := hcut
      subst hwc
      clear a1' a2' a4' HTP HBL
      go_upto_region 19 with (fail)
      have kD : Below wr.heap.size wr wr.drew := (Below.refl _ _).drew
      have nT : (T != T) = false := bne_self_eq_false T
      refine wp_region_held_drew (S := fun V => Below wr.heap.size wr V) (by kernel_rfl) kD (fun hH => ?_)
      clear hH
      refine tkE 0 119 rfl rfl ?_; simp only [setS]
      refine tkE 1 120 rfl rfl ?_; simp only [setS]
      refine tkE 2 121 rfl rfl ?_; simp only [setS]
      refine tkE 3 122 rfl rfl ?_; simp only [setS]
      refine tkE 4 123 rfl rfl ?_; simp only [setS]
      refine tkE 5 124 rfl rfl ?_; simp only [setS]
      refine tkE 6 125 rfl rfl ?_; simp only [setS]
      refine tkE 7 126 rfl rfl ?_; simp only [setS]
      refine tkE 10 129 rfl rfl ?_; simp only [setS]
      refine tkE 11 130 rfl rfl ?_; simp only [setS]
      refine tkE 13 132 rfl rfl ?_; simp only [setS]
      refine tkE 15 134 rfl rfl ?_; simp only [setS]
      refine tkE 17 136 rfl rfl ?_; simp only [setS]
      refine tkE 18 137 rfl rfl ?_; simp only [setS]
      refine tkE 19 138 rfl rfl ?_; simp only [setS]
      refine tkE 20 139 rfl rfl ?_; simp only [setS]
      refine rdyH 8 rfl (fun K hK => ?_); go_simp
      refine (HTT.out _).mono ?_
      rintro r u1 ⟨rfl, hbu1⟩
      have hU1 : Below wr.heap.size wr u1 := bt kD hbu1 (Nat.le_refl _)
      refine hK.out _ _ hU1 (fun hSx => ?_); clear hK K hSx
      refine tkE 9 128 rfl rfl ?_; simp only [setS]
      refine tkE 12 131 rfl rfl ?_; simp only [setS]
      refine tkE 14 133 rfl rfl ?_; simp only [setS]
      refine tkE 16 135 rfl rfl ?_; simp only [setS]
      refine rdyH 21 rfl (fun K hK => ?_); go_simp
      refine (HCT.out _).mono ?_
      rintro r u2 ⟨rfl, hbu2⟩
      have hU2 : Below wr.heap.size wr u2 := bt hU1 hbu2 (Nat.le_refl _)
      refine hK.out _ _ hU2 (fun hSx => ?_); clear hK K hSx
      refine tkE 22 141 rfl rfl ?_; simp only [setS]
      refine tkE 23 142 rfl rfl ?_; simp only [setS]
      refine tkE 24 143 rfl rfl ?_; simp only [setS]
      refine tkE 25 144 rfl rfl ?_; simp only [setS]
      refine tkE 26 145 rfl rfl ?_; simp only [setS]
      refine tkE 27 146 rfl rfl ?_; simp only [setS]
      refine tkE 28 147 rfl rfl ?_; simp only [setS]
      refine tkE 29 148 rfl rfl ?_; simp only [setS]
      refine tkE 30 149 rfl rfl ?_; simp only [setS]
      refine tkE 31 150 rfl rfl ?_; simp only [setS]
      refine tkE 32 151 rfl rfl ?_; simp only [setS]
      refine wpAnyH_done (by kernel_rfl) ?_ _
      have HU2 := hid hU2
      clear o0 o2 b0' z0 z1 kD hbu1 hU1 hbu2 hU2 s1 s2 s3 s4 s6 s7
      go_wp2
      go_roundw
      case rel => exact ⟨i1, by have := HPI.out.2; have := HLT.out; omega, rfl, by rw [HPI.out.1], bt hbw HU2.out (Nat.le_refl _)⟩
      case measure => have := HPI.out.2; have := HLT.out; simp [intOf]; omega
    · obtain rfl : i = rn := by omega
      have hr5 := HR5.out
      obtain ⟨r1, hr1⟩ : ∃ y, i - 1 = y := ⟨_, rfl⟩
      have sr : IntKind.i64.wrap ((i : Int) - 1) = (r1 : Int) := (IntWalk.i64_in _ (by have := HRB.out; omega)).trans (by omega)
      obtain ⟨ev, hev⟩ := gs (l := E) HEL.out (show r1 < i by omega)
      obtain ⟨-, hat⟩ := HE.out r1 ev hev
      have hc0 : wr.cell? ⟨ob, r1 * 3, none⟩ = some (.int .i64 ev.at_) := cell_keep hbw (by rw [HOB.out.cellAt (r1 * 3) (by omega)]; have := evL_get hev 0 (by decide); rw [Nat.add_zero] at this; rw [this]; rfl)
      obtain ⟨T, hT⟩ : ∃ y, ev.at_ = y := ⟨_, rfl⟩
      rw [hT] at hat hc0
      have hr0 : (0 : Int) ≤ (r1 : Int) := by omega
      have hrl : (r1 : Int) < (i : Int) := by omega
      have b0' : ∀ X, Below wr.heap.size wr X → X.cell? ⟨w.heap.size, 0, none⟩ = some (.int .i64 lat) := fun X hX => a0 X (bt haw hX (Nat.le_refl _))
      have z0 : ∀ X, Below wr.heap.size wr X → X.cell? ⟨xb, 0, none⟩ = some (.int .i64 bd) := fun X hX => y0 X (bt hxw hX (Nat.le_refl _))
      have z1 : ∀ X, Below wr.heap.size wr X → X.cell? ⟨xb, 1, none⟩ = some (.int .i64 pa) := fun X hX => y1 X (bt hxw hX (Nat.le_refl _))
      obtain ⟨g1, g2⟩ := HEB.out
      obtain ⟨j1, j2, j3, j4, j5, j6⟩ := HJ.out
      obtain ⟨l1, l2, l3, l4, l5, l6⟩ := HLB.out i
      rw [show r1 + 1 = i by omega] at hat
      obtain ⟨P1, hP1⟩ : ∃ y, PZ i = y := ⟨_, rfl⟩
      rw [hP1] at hat l1 l2 l5 l6 ⊢
      obtain ⟨D2, hD2⟩ : ∃ y, late + P1 = y := ⟨_, rfl⟩
      have s1 : IntKind.i64.wrap (late + P1) = D2 := (IntWalk.i64_in _ (by omega)).trans hD2
      obtain ⟨DR, hDR⟩ : ∃ y, 2 * T3 + lat + D2 + 257 * CH = y := ⟨_, rfl⟩
      have HDD := hid (fun X => HDR.out X D2 (by omega) (by omega))
      rw [hDR] at HDD
      obtain ⟨B1, hB1⟩ : ∃ y, en + DR = y := ⟨_, rfl⟩
      have s2 : IntKind.i64.wrap (en + DR) = B1 := (IntWalk.i64_in _ (by omega)).trans hB1
      obtain ⟨B2, hB2⟩ : ∃ y, B1 - T3 = y := ⟨_, rfl⟩
      have s3 : IntKind.i64.wrap (B1 - T3) = B2 := (IntWalk.i64_in _ (by omega)).trans hB2
      obtain ⟨B3, hB3⟩ : ∃ y, B2 - CH = y := ⟨_, rfl⟩
      have s4 : IntKind.i64.wrap (B2 - CH) = B3 := (IntWalk.i64_in _ (by omega)).trans hB3
      have hm1 : ((r1 : Int) + 1) * CH ≤ 256 * CH := Int.mul_le_mul_of_nonneg_right (by have := HRB.out; omega) (by omega)
      have g9 : decide (T ≤ B3) = true := decide_eq_true (by omega)
      clear hev hat hT g1 g2 j1 j2 j3 j4 j5 j6 l1 l2 l3 l4 l5 l6 hP1 hD2 hDR hB1 hB2 hB3 hm1 hr1 hr5 hxw haw a0 a1 a2 a4 y0 y1 y2
      go_upto_region 22 with (fail)
      have kD : Below wr.heap.size wr wr.drew := (Below.refl _ _).drew
      refine wp_region_held_drew (S := fun V => Below wr.heap.size wr V) (by kernel_rfl) kD (fun hH => ?_)
      clear hH
      refine rdyH 0 rfl (fun K hK => ?_); go_simp
      refine (awake16_any _).mono ?_
      rintro r u1 ⟨rfl, hbu1⟩
      have hU1 : Below wr.heap.size wr u1 := bt kD hbu1 (Nat.le_refl _)
      refine hK.out _ _ hU1 (fun hSx => ?_); clear hK K hSx
      refine tkE 1 160 rfl rfl ?_; simp only [setS]
      refine tkE 2 161 rfl rfl ?_; simp only [setS]
      refine tkE 3 162 rfl rfl ?_; simp only [setS]
      refine tkE 4 163 rfl rfl ?_; simp only [setS]
      refine tkE 5 164 rfl rfl ?_; simp only [setS]
      refine tkE 6 165 rfl rfl ?_; simp only [setS]
      refine tkE 7 166 rfl rfl ?_; simp only [setS]
      refine tkE 8 167 rfl rfl ?_; simp only [setS]
      refine tkE 9 168 rfl rfl ?_; simp only [setS]
      refine tkE 10 169 rfl rfl ?_; simp only [setS]
      refine tkE 13 172 rfl rfl ?_; simp only [setS]
      refine tkE 14 173 rfl rfl ?_; simp only [setS]
      refine tkE 17 176 rfl rfl ?_; simp only [setS]
      refine tkE 18 177 rfl rfl ?_; simp only [setS]
      refine rdyH 11 rfl (fun K hK => ?_); go_simp
      refine (HDD.out _).mono ?_
      rintro r u2 ⟨rfl, hbu2⟩
      have hU2 : Below wr.heap.size wr u2 := bt hU1 hbu2 (Nat.le_refl _)
      refine hK.out _ _ hU2 (fun hSx => ?_); clear hK K hSx
      refine tkE 12 171 rfl rfl ?_; simp only [setS]
      refine rdyH 15 rfl (fun K hK => ?_); go_simp
      refine (HTT.out _).mono ?_
      rintro r u3 ⟨rfl, hbu3⟩
      have hU3 : Below wr.heap.size wr u3 := bt hU2 hbu3 (Nat.le_refl _)
      refine hK.out _ _ hU3 (fun hSx => ?_); clear hK K hSx
      refine tkE 16 175 rfl rfl ?_; simp only [setS]
      refine rdyH 19 rfl (fun K hK => ?_); go_simp
      refine (HCT.out _).mono ?_
      rintro r u4 ⟨rfl, hbu4⟩
      have hU4 : Below wr.heap.size wr u4 := bt hU3 hbu4 (Nat.le_refl _)
      refine hK.out _ _ hU4 (fun hSx => ?_); clear hK K hSx
      refine tkE 20 179 rfl rfl ?_; simp only [setS]
      refine tkE 21 180 rfl rfl ?_; simp only [setS]
      refine tkE 22 181 rfl rfl ?_; simp only [setS]
      refine tkD 23 14 (v := ?_) rfl (by kernel_rfl) (fun _ _ _ h => h) rfl (by rfl) (by assumption) ?_ ?_; rotate_left; (intro w hSw; (try dsimp only at hSw); (try go_simp); try rfl)
      refine wpAnyH_done (by kernel_rfl) ?_ _
      go_wp2
      go_ret
      exact ⟨rfl, bt (bt (bt HB1.out HBB.out (Nat.le_refl _)) hbw (Nat.le_refl _)) hU4 (Nat.le_refl _)⟩
end Go.Proofs.YtpkheiaanjhffaaGreat
