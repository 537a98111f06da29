/-
  Texts A6 of the claim.
-/
import Derived.Test.YtpkheiaanjhffaaGreatU48
import Derived.Test.YtpkheiaanjhffaaGreatUA05
import Derived.Test.YtpkheiaanjhffaaGreatU26
import Derived.Test.YtpkheiaanjhffaaGreatU19
import Derived.Test.YtpkheiaanjhffaaGreatUA01
namespace Go.Proofs.YtpkheiaanjhffaaGreat
open Go.RowKit
set_option maxRecDepth 100000 in
set_option maxHeartbeats 25600000 in
theorem Walk.lineFaults {w : World} (la : Option Addr) (ln lc : Nat) (hrl : Rd Tryz.prog w 22 [.slice la ln lc]) (cs : Array Value) (hra : Rd Tryz.prog w 24 cs.toList) (k : Int) (hk : (Lit.int .i64 k).wf = true) (x1 : Int) (hx1 : (Lit.int .i64 x1).wf = true) (x2 : Int) (hx2 : (Lit.int .i64 x2).wf = true) (x3 : Int) (hx3 : (Lit.int .i64 x3).wf = true) (tk : Int) (htk : (Lit.int .i64 tk).wf = true) :
    Calls Tryz.prog 3 #[.slice la ln lc, .agg cs, .int .i64 k, .int .i64 x1, .int .i64 x2, .int .i64 x3, .int .i64 tk] w fun r w' => r = .returned (.bool true) ∧ Below w.heap.size w w' := by
  obtain ⟨a, rfl, hwa⟩ := at_rd hra
  obtain ⟨l, hL⟩ := slvs_rd hrl
  have hl : l.length = ln := by
    obtain ⟨a', c', e⟩ := hL.slc
    simp only [Value.slice.injEq] at e
    exact e.2.1.symm
  obtain ⟨C, hC⟩ : ∃ C, a.C = C := ⟨_, rfl⟩
  have hi6 : (Tryz.prog.info? 24).map (·.size) = some C.size := by rw [← hC]; exact infoAT
  rw [hC]
  obtain ⟨VS, -, HMS0⟩ := mslaves_any l 4
  obtain ⟨VB, hVB, HMB0⟩ := rbus_any l
  obtain ⟨VA, hVA⟩ := bool_is (p := a.ok)
  have HMS : Hid (∀ X, Below w.heap.size w X → Calls Tryz.prog 7 #[.slice la ln lc, .int .i64 4] X (BoolPost X VS)) := fun X hX => (HMS0 X _ (hL.keep hX)).mono fun r w' h => ⟨h.1, by rw [← h.2]; exact Below.refl _ _⟩
  have HMB : Hid (∀ X, Below w.heap.size w X → Calls Tryz.prog 8 #[.slice la ln lc] X (BoolPost X VB)) := fun X hX => HMB0 X _ (hL.keep hX)
  have HMA : Hid (∀ X, Calls Tryz.prog 9 #[.agg C] X (BoolPost X VA)) := fun X => by rw [← hC]; exact ratt_w a VA hVA X
  have HMK : Hid (∀ X, Calls Tryz.prog 12 #[.int .i64 x1, .int .i64 x2, .int .i64 x3] X fun r w' => r = .returned (.agg #[.int .i64 (mkRq x1 x2 x3).fn, .int .i64 (mkRq x1 x2 x3).addr, .int .i64 (mkRq x1 x2 x3).qty, .int .i64 (mkRq x1 x2 x3).code, .int .i64 (mkRq x1 x2 x3).obj]) ∧ Below X.heap.size X w') := fun X => make_any x1 x2 x3 hx1 hx2 hx3 X
  obtain ⟨W1, hW1⟩ : ∃ W, w.alloc (.cells C 24) = W := ⟨_, rfl⟩
  have hb1 : Below w.heap.size w W1 := by rw [← hW1]; exact bal' w _
  have pA : W1.heap[w.heap.size]? = some (.cells C 24) := by rw [← hW1]; exact hpNew w _
  have HROW : Hid (∀ X, Below W1.heap.size W1 X → ∀ j v, C.toList[j]? = some v → X.cell? ((⟨w.heap.size, 0, none⟩ : Addr).add j) = some v) := fun X hX j v hj => rowAtW (hpKeep pA hX) j v hj
  have HW1 := hid hW1
  have HB1 := hid hb1
  have HPA := hid pA
  have HL := hid hL
  have HLN := hid hl
  have HVB := hid hVB
  have HVA := hid hVA
  have HCC := hid hC
  have HWK : Hid ((Lit.int .i64 k).wf = true ∧ (Lit.int .i64 tk).wf = true) := ⟨hk, htk⟩
  clear hrl hra hL hl hC HMS0 HMB0 hVB hVA hW1 hb1 pA hk hx1 hx2 hx3 htk
  go_enter Tryz.func3, Tryz.ntmps3
  go_upto_region 1 with (fail)
  rw [HW1.out]
  cases VS with
  | false =>
    go_wp2_with (first | (go_at_call 7; (with_reducible refine (HMS.out _ HB1.out).mono ?_); rintro r w4 ⟨rfl, hb4⟩) | (go_at_call 10; (with_reducible refine (awake16_any _).mono ?_); rintro r wz ⟨rfl, hbz⟩))
    go_ret
    exact ⟨rfl, bt (bt HB1.out hb4 (Nat.le_refl _)) hbz (Nat.le_refl _)⟩
  | true =>
  cases VB with
  | false =>
    go_wp2_with (first | (go_at_call 7; (with_reducible refine (HMS.out _ HB1.out).mono ?_); rintro r w4 ⟨rfl, hb4⟩) | (go_at_call 8; (with_reducible refine (HMB.out _ (bt HB1.out hb4 (Nat.le_refl _))).mono ?_); rintro r w5 ⟨rfl, hb5⟩) | (go_at_call 10; (with_reducible refine (awake16_any _).mono ?_); rintro r wz ⟨rfl, hbz⟩))
    go_ret
    exact ⟨rfl, bt (bt (bt HB1.out hb4 (Nat.le_refl _)) hb5 (Nat.le_refl _)) hbz (Nat.le_refl _)⟩
  | true =>
  have HBP : Hid (BusP l) := HVB.out.1 rfl
  by_cases hz : ln = 0
  · subst hz
    go_wp2_with (first | (go_at_call 7; (with_reducible refine (HMS.out _ HB1.out).mono ?_); rintro r w4 ⟨rfl, hb4⟩) | (go_at_call 8; (with_reducible refine (HMB.out _ (bt HB1.out hb4 (Nat.le_refl _))).mono ?_); rintro r w5 ⟨rfl, hb5⟩) | (go_at_call 10; (with_reducible refine (awake16_any _).mono ?_); rintro r wz ⟨rfl, hbz⟩))
    go_ret
    exact ⟨rfl, bt (bt (bt HB1.out hb4 (Nat.le_refl _)) hb5 (Nat.le_refl _)) hbz (Nat.le_refl _)⟩
  have gz : ((ln : Int) == 0) = false := b0 (by omega)
  have gz2 : (ln == 0) = false := beq_eq_false_iff_ne.2 hz
  cases VA with
  | false =>
    go_wp2_with (first | (go_at_call 7; (with_reducible refine (HMS.out _ HB1.out).mono ?_); rintro r w4 ⟨rfl, hb4⟩) | (go_at_call 8; (with_reducible refine (HMB.out _ (bt HB1.out hb4 (Nat.le_refl _))).mono ?_); rintro r w5 ⟨rfl, hb5⟩) | (refine wpList_load_atH (by rfl) 24 (.tmp 8) rfl ⟨w.heap.size, 0, none⟩ rfl C _ (HROW.out _ (bt hb4 hb5 (Nat.le_refl _))) Tryz.underlying24 rfl hi6 ?_) | (go_at_call 9; (with_reducible refine (HMA.out _).mono ?_); rintro r w6 ⟨rfl, hb6⟩) | (go_at_call 10; (with_reducible refine (awake16_any _).mono ?_); rintro r wz ⟨rfl, hbz⟩))
    go_ret
    exact ⟨rfl, bt (bt (bt (bt HB1.out hb4 (Nat.le_refl _)) hb5 (Nat.le_refl _)) hb6 (Nat.le_refl _)) hbz (Nat.le_refl _)⟩
  | true =>
  have HAO : Hid a.ok := HVA.out.1 rfl
  obtain ⟨n, hn⟩ : ∃ n : Nat, (k % (ln : Int)).toNat = n := ⟨_, rfl⟩
  have hk1 := Int.emod_lt_of_pos k (show (0 : Int) < (ln : Int) by omega)
  have hk0 := Int.emod_nonneg k (show (ln : Int) ≠ 0 by omega)
  have hkn : k % (ln : Int) = (n : Int) := by omega
  have hnl : n < ln := by omega
  obtain ⟨x, hx⟩ := gs (l := l) HLN.out hnl
  have HPX := hid (pickS HBP.out hx)
  have hln16 : ln ≤ 16 := by have := HBP.out.1; have := HLN.out; omega
  have HM1 : Hid (∀ X, Calls Tryz.prog 11 #[.int .i64 k, .int .i64 (ln : Int)] X fun r w' => r = .returned (.int .i64 (n : Int)) ∧ X = w') := fun X => by rw [← hkn]; exact mod_any k (ln : Int) (by omega) (by omega) HWK.out.1 X
  obtain ⟨tick, htick⟩ : ∃ t, tk % 1000000 = t := ⟨_, rfl⟩
  have HTI : Hid (0 ≤ tick ∧ tick < 1000000) := by
    have := Int.emod_lt_of_pos tk (show (0 : Int) < 1000000 by decide)
    have := Int.emod_nonneg tk (show (1000000 : Int) ≠ 0 by decide)
    show _ ∧ _
    omega
  have HM2 : Hid (∀ X, Calls Tryz.prog 11 #[.int .i64 tk, .int .i64 1000000] X fun r w' => r = .returned (.int .i64 tick) ∧ X = w') := fun X => by rw [← htick]; exact mod_any tk 1000000 (by decide) (by decide) HWK.out.2 X
  have hn0 : (0 : Int) ≤ (n : Int) := by omega
  have hnl2 : (n : Int) < (ln : Int) := by omega
  clear hn hk1 hk0 hkn htick HWK
  go_upto_region 3 with (first | (go_at_call 7; (with_reducible refine (HMS.out _ HB1.out).mono ?_); rintro r w4 ⟨rfl, hb4⟩) | (go_at_call 8; (with_reducible refine (HMB.out _ (bt HB1.out hb4 (Nat.le_refl _))).mono ?_); rintro r w5 ⟨rfl, hb5⟩) | (refine wpList_load_atH (by rfl) 24 (.tmp 8) rfl ⟨w.heap.size, 0, none⟩ rfl C _ (HROW.out _ (bt hb4 hb5 (Nat.le_refl _))) Tryz.underlying24 rfl hi6 ?_) | (go_at_call 9; (with_reducible refine (HMA.out _).mono ?_); rintro r w6 ⟨rfl, hb6⟩))
  have HB6 : Hid (Below W1.heap.size W1 w6) := bt (bt hb4 hb5 (Nat.le_refl _)) hb6 (Nat.le_refl _)
  clear hb4 hb5 hb6 HMS HMB HMA HVB HVA
  obtain ⟨b, o, rv, ov, sv, rfl, hR, hc⟩ := (HL.out.keep (bt HB1.out HB6.out (Nat.le_refl _))).at HPX.out.at_
  obtain ⟨D, hD⟩ : ∃ D, SlC x rv ov sv = D := ⟨_, rfl⟩
  have hi19 : (Tryz.prog.info? 38).map (·.size) = some D.size := by rw [← hD]; exact infoSL
  have hds : D.size = 19 := by rw [← hD]; rfl
  have h1d : D.toList.all (·.oneCell') = true := by rw [← hD]; exact hR.one
  have hrow : ∀ j v, D.toList[j]? = some v → w6.cell? ((⟨b, o + n * 19, none⟩ : Addr).add j) = some v := fun j v hj => by
    rw [Addr.add_lit]
    exact hc j v (by rw [hD]; simpa using hj)
  have HD3 : Hid (D[0]? = some (.int .i64 x.bd) ∧ D[1]? = some (.int .i64 x.pa) ∧ D[2]? = some (.int .i64 x.un)) := by
    show _ ∧ _ ∧ _
    rw [← hD]
    exact ⟨rfl, rfl, rfl⟩
  have HSR := hid hR
  have HDD := hid hD
  clear hR hc hD
  go_upto_region 5 with (first
    | (go_at_call 11; (with_reducible refine (HM1.out _).mono ?_); rintro r wx ⟨rfl, rfl⟩)
    | (refine wpList_load_at rfl 38 (.tmp 51) rfl ⟨b, o + n * 19, none⟩ rfl D _ hrow Tryz.underlying38 rfl hi19 ?_)
    | (refine wpList_storeW rfl 38 (.tmp 15) (.tmp 52) rfl w6.heap.size 0 _ 38 D rfl rfl (hpNew w6 _) (by simp [hds]) hi19 h1d ?_; intro w7 g7 hk7 hz7)
    | (go_at_call 11; (with_reducible refine (HM2.out _).mono ?_); rintro r wx ⟨rfl, rfl⟩))
  obtain ⟨p7, hb7⟩ := var_new (by rw [hds]; rfl) g7 hk7
  obtain ⟨xb, hxb⟩ : ∃ n, w6.heap.size = n := ⟨_, rfl⟩
  rw [hxb] at p7 ⊢
  have HB7 : Hid (Below W1.heap.size W1 w7) := bt HB6.out hb7 (Nat.le_refl _)
  have HPX7 := hid p7
  obtain ⟨bd, hbd⟩ : ∃ y, x.bd = y := ⟨_, rfl⟩
  obtain ⟨pa, hpa⟩ : ∃ y, x.pa = y := ⟨_, rfl⟩
  obtain ⟨un, hun⟩ : ∃ y, x.un = y := ⟨_, rfl⟩
  rw [hbd, hpa, hun] at HD3
  have HST : Hid (Okset bd pa) := by show Okset _ _; rw [← hbd, ← hpa]; exact HPX.out.set
  have HUN : Hid (1 ≤ un ∧ un ≤ 247) := by show _ ∧ _; rw [← hun]; exact HPX.out.un
  have f1 : wfI bd := by have := HST.out.bd; unfold wfI; omega
  have f2 : wfI pa := by have := HST.out.lo; have := HST.out.hi; unfold wfI; omega
  obtain ⟨Q, hQ⟩ : ∃ Q, mkRq x1 x2 x3 = Q := ⟨_, rfl⟩
  have hqk : Q.ok = true := by rw [← hQ]; exact mkRq_ok x1 x2 x3
  rw [hQ] at HMK
  obtain ⟨F, hF⟩ : ∃ F, rqFrame un Q = F := ⟨_, rfl⟩
  obtain ⟨fl, hfl⟩ : ∃ n, F.length = n := ⟨_, rfl⟩
  have hflb : 4 ≤ fl ∧ fl ≤ 256 := by rw [← hfl, ← hF]; exact rqFrame_len un Q
  have HFR : Hid (∀ X, Calls Tryz.prog 14 #[.int .i64 un, .agg #[.int .i64 Q.fn, .int .i64 Q.addr, .int .i64 Q.qty, .int .i64 Q.code, .int .i64 Q.obj]] X fun r w' => ∃ a c, r = .returned (.slice a fl c) ∧ Bs w' (.slice a fl c) F ∧ Below X.heap.size X w') := fun X => (lframe_any un HUN.out.1 HUN.out.2 Q hqk X).mono fun r w' h => by
    obtain ⟨a, c, h1, h2, h3⟩ := h
    rw [hF, hfl] at h1 h2
    exact ⟨a, c, h1, Bs.own (by rw [← hfl] at h2 ⊢; exact h2), h3⟩
  obtain ⟨R, hR⟩ : ∃ R, rcvF l a bd pa F = R := ⟨_, rfl⟩
  obtain ⟨rn, hrn⟩ : ∃ n, R.length = n := ⟨_, rfl⟩
  obtain ⟨E, hE⟩ : ∃ E, newsF l a bd pa F tick = E := ⟨_, rfl⟩
  have hel : E.length = rn := by rw [← hE]; unfold newsF; rw [chsN_len, hR, hrn]
  have hrb : rn ≤ 256 := by rw [← hrn, ← hR]; exact rcvF_len HBP.out a bd pa F
  have hrs : ¬ (a.fault = 1 ∨ a.fault = 2) → 5 ≤ rn := fun h => by
    rw [← hrn, ← hR, ← hF, ← hbd, ← hpa, ← hun]
    exact rcvF_some HBP.out HPX.out.at_ hqk h
  have hrz : (a.fault = 1 ∨ a.fault = 2) → rn = 0 := fun h => by
    rw [← hrn, ← hR]
    unfold rcvF
    rw [if_pos h]
    rfl
  obtain ⟨ml, hml⟩ : ∃ n, (memb l bd pa un ln).length = n := ⟨_, rfl⟩
  obtain ⟨rp, hrp⟩ : ∃ rp, x.ans Q a.value = rp := ⟨_, rfl⟩
  have hxv : x.val := HBP.out.2 x (List.mem_of_getElem? HPX.out.at_)
  obtain ⟨v1, v2⟩ : 0 ≤ a.value ∧ a.value ≤ 65535 := by obtain ⟨_, _, q3, q4, _, _⟩ := At.ok_bd HAO.out; exact ⟨q3, q4⟩
  have hrk : rp.ok = true := by rw [← hrp]; exact Sl.ans_ok hxv hqk a.value
  obtain ⟨fault, hfault⟩ : ∃ y, a.fault = y := ⟨_, rfl⟩
  obtain ⟨value, hvalue⟩ : ∃ y, a.value = y := ⟨_, rfl⟩
  have hspl : ¬ (fault = 1 ∨ fault = 2) → if 1 < ml ∨ fault = 3 then crcChk R = false else splitB crcChk R = some (un, (if fault = 5 then mkR Q.fn 6 [] else rp).pdu) := fun h => by
    have e := rcvF_split HBP.out HPX.out.at_ hqk HAO.out (by rw [hfault]; exact h)
    rw [hbd, hpa, hun, hF, hR, HLN.out, hml, hrp, hfault] at e
    exact e
  obtain ⟨en, hen⟩ : ∃ e, tick + frameT bd fl = e := ⟨_, rfl⟩
  have HON : Hid (∀ X fa fc, Below w.heap.size w X → Bs X (.slice fa fl fc) F → Calls Tryz.prog 13 #[.slice (some ⟨b, o, none⟩) ln lc, .agg C, .agg #[.int .i64 bd, .int .i64 pa], .slice fa fl fc, .int .i64 tick] X fun r w' => ∃ a c, r = .returned (.tuple #[.int .i64 en, .slice a rn c, .bool true]) ∧ w'.ownsRow X.heap.size 48 3 (.slice a rn c) rn (evL E) ∧ Below X.heap.size X w') := fun X fa fc hX hb => by
    have e := one_any (some ⟨b, o, none⟩) lc ln l HLN.out HBP.out a HAO.out hwa bd pa HST f1 f2 fa fl fc F (by omega) hflb.2 tick HTI.out.1 (by have := HTI.out.2; omega) X (HL.out.keep hX) hb
    rw [HCC.out, hen, hE] at e
    unfold RcvdPost at e
    rw [hel] at e
    exact e
  have HE : Hid (∀ (i : Nat) y, E[i]? = some y → y.val = ((R.getD i 0).toNat : Int)) := fun i y hy => by
    rw [← hE] at hy
    unfold newsF at hy
    obtain ⟨_, rfl⟩ := chsN_at hy
    rw [hR]
    rfl
  have HMM : Hid (∀ X, Below w.heap.size w X → Calls Tryz.prog 16 #[.slice (some ⟨b, o, none⟩) ln lc, .agg #[.int .i64 bd, .int .i64 pa], .int .i64 un] X fun r w' => ∃ a c, r = .returned (.slice a ml c) ∧ Below X.heap.size X w') := fun X hX => (rmemb_any _ lc l ln X HLN.out (by have := HBP.out.1; have := HLN.out; omega) (HL.out.keep hX) bd pa un f1 f2).mono fun r w' h => by
    obtain ⟨a, c, h1, -, h3⟩ := h
    rw [hml] at h1
    exact ⟨a, c, h1, h3⟩
  have HSA : Hid (∀ X, Below w6.heap.size w6 X → Calls Tryz.prog 18 #[.agg D, .agg #[.int .i64 Q.fn, .int .i64 Q.addr, .int .i64 Q.qty, .int .i64 Q.code, .int .i64 Q.obj], .int .i64 value] X (RepPost X rp)) := fun X hX => by
    rw [← hrp, ← HDD.out, ← hvalue]
    exact ranswer_ex x rv ov sv Q a.value v1 v2 X (HSR.out.keep hX) hxv hqk
  obtain ⟨PD, hPD⟩ : ∃ PD, rp.pdu = PD := ⟨_, rfl⟩
  obtain ⟨pn, hpn⟩ : ∃ n, PD.length = n := ⟨_, rfl⟩
  have HENC : Hid (∀ X da dc oa oc, RpIs X rp da dc oa oc → Calls Tryz.prog 17 #[.agg #[.int .i64 rp.fn, .int .i64 rp.exc, .slice da rp.data.length dc, .int .i64 rp.code, .int .i64 rp.level, .bool rp.more, .int .i64 rp.next, .slice oa rp.objs.length oc]] X fun r w' => ∃ a c, r = .returned (.tuple #[.slice a pn c, .int .i64 0]) ∧ Bs w' (.slice a pn c) PD ∧ Below X.heap.size X w') := fun X da dc oa oc hr => by
    have e := renc_any rp.fn rp.exc rp.code rp.level rp.more rp.next rp.data rp.objs da oa dc oc X hr.d hr.o hrk
    refine e.mono fun r w' h => ?_
    obtain ⟨a, c, h1, h2, h3, -⟩ := h
    have e2 : Rp.pdu ⟨rp.fn, rp.exc, rp.data, rp.code, rp.level, rp.more, rp.next, rp.objs⟩ = PD := hPD
    rw [e2] at h1 h2
    rw [hpn] at h1 h2
    exact ⟨a, c, h1, h2, h3⟩
  have hqf := known_bd (ok_known hqk)
  have HBZ : Hid ((mkR Q.fn 6 []).pdu = [byteI (Q.fn + 128), byteI 6]) := by
    show (if (6 : Int) = 0 then _ else _ : List UInt8) = _
    rw [if_neg (by decide)]
    rfl
  have HQF := hid hqf
  have HEL := hid hel
  have HRB := hid hrb
  have HRN := hid hrn
  rw [hfault] at hrs hrz
  have HRS := hid hrs
  have HRZ := hid hrz
  have HSPL := hid hspl
  have HPD := hid hPD
  have HCE : Hid (C[1]? = some (.int .i64 fault) ∧ C[5]? = some (.int .i64 value)) := by
    show _ ∧ _
    rw [← HCC.out, ← hfault, ← hvalue]
    exact ⟨rfl, rfl⟩
  have HHF := hid hfault
  have ss : Hid (∀ (W : World) (v : Value) (l : List UInt8), Bs W v l → (convert 36 9 v).run Tryz.prog W = .ok (.string ⟨l.toArray⟩) W) := fun W v l h => run_str Tryz.underlying36 Tryz.underlying5 h _ Tryz.underlying9
  clear hds h1d hrow g7 hk7 hz7 hxb hbd hpa hun hQ hqk hF hfl hflb hR hrn hE hel hrb hrs hrz hspl hen hml hrp hxv v1 v2 hrk hPD hpn hqf hfault hvalue HM1 HM2 p7
  go_upto_region 6 with (go_at_call 12; (with_reducible refine (HMK.out _).mono ?_); rintro r w8 ⟨rfl, hb8⟩)
  obtain ⟨W9, hW9⟩ : ∃ W, w8.alloc (.cells #[.int .i64 Q.fn, .int .i64 Q.addr, .int .i64 Q.qty, .int .i64 Q.code, .int .i64 Q.obj] 41) = W := ⟨_, rfl⟩
  have hb9 : Below w8.heap.size w8 W9 := by rw [← hW9]; exact bal' w8 _
  obtain ⟨qb, hqb⟩ : ∃ n, w8.heap.size = n := ⟨_, rfl⟩
  have pQ : W9.heap[qb]? = some (.cells #[.int .i64 Q.fn, .int .i64 Q.addr, .int .i64 Q.qty, .int .i64 Q.code, .int .i64 Q.obj] 41) := by rw [← hW9, ← hqb]; exact hpNew w8 _
  rw [hW9, hqb]
  have HB9 : Hid (Below W1.heap.size W1 W9) := bt (bt HB7.out hb8 (Nat.le_refl _)) hb9 (Nat.le_refl _)
  have H69 : Hid (Below w6.heap.size w6 W9) := bt (bt hb7 hb8 (Nat.le_refl _)) hb9 (Nat.le_refl _)
  have pX := hpKeep (hpKeep HPX7.out hb8) hb9
  have HPX9 := hid pX
  have HPQ := hid pQ
  have hDrow : Hid (∀ X, Below W9.heap.size W9 X → ∀ j v, D.toList[j]? = some v → X.cell? ((⟨xb, 0, none⟩ : Addr).add j) = some v) := fun X hX j v hj => rowAtW (hpKeep HPX9.out hX) j v hj
  have z0 : ∀ X, Below W9.heap.size W9 X → X.cell? ⟨xb, 0, none⟩ = some (.int .i64 bd) := fun X hX => by rw [hpCell (hpKeep HPX9.out hX)]; exact HD3.out.1
  have z1 : ∀ X, Below W9.heap.size W9 X → X.cell? ⟨xb, 1, none⟩ = some (.int .i64 pa) := fun X hX => by rw [hpCell (hpKeep HPX9.out hX)]; exact HD3.out.2.1
  have z2 : ∀ X, Below W9.heap.size W9 X → X.cell? ⟨xb, 2, none⟩ = some (.int .i64 un) := fun X hX => by rw [hpCell (hpKeep HPX9.out hX)]; exact HD3.out.2.2
  have q0 : ∀ X, Below W9.heap.size W9 X → X.cell? ⟨qb, 0, none⟩ = some (.int .i64 Q.fn) := fun X hX => hpCell (hpKeep HPQ.out hX) 0
  have q1 : ∀ X, Below W9.heap.size W9 X → X.cell? ⟨qb, 1, none⟩ = some (.int .i64 Q.addr) := fun X hX => hpCell (hpKeep HPQ.out hX) 1
  have q2 : ∀ X, Below W9.heap.size W9 X → X.cell? ⟨qb, 2, none⟩ = some (.int .i64 Q.qty) := fun X hX => hpCell (hpKeep HPQ.out hX) 2
  have q3 : ∀ X, Below W9.heap.size W9 X → X.cell? ⟨qb, 3, none⟩ = some (.int .i64 Q.code) := fun X hX => hpCell (hpKeep HPQ.out hX) 3
  have q4 : ∀ X, Below W9.heap.size W9 X → X.cell? ⟨qb, 4, none⟩ = some (.int .i64 Q.obj) := fun X hX => hpCell (hpKeep HPQ.out hX) 4
  have HROW9 : Hid (∀ X, Below W9.heap.size W9 X → ∀ j v, C.toList[j]? = some v → X.cell? ((⟨w.heap.size, 0, none⟩ : Addr).add j) = some v) := fun X hX j v hj => HROW.out X (bt HB9.out hX (Nat.le_refl _)) j v hj
  have a1 : ∀ X, Below W9.heap.size W9 X → X.cell? ⟨w.heap.size, 1, none⟩ = some (.int .i64 fault) := fun X hX => by rw [hpCell (hpKeep HPA.out (bt HB9.out hX (Nat.le_refl _)))]; exact HCE.out.1
  have a5 : ∀ X, Below W9.heap.size W9 X → X.cell? ⟨w.heap.size, 5, none⟩ = some (.int .i64 value) := fun X hX => by rw [hpCell (hpKeep HPA.out (bt HB9.out hX (Nat.le_refl _)))]; exact HCE.out.2
  have kD : Below W9.heap.size W9 W9.drew := (Below.refl _ _).drew
  clear hW9 hqb pQ hb9 hb8 pX hb7 HMK HD3
  refine wp_region_held_drew (S := fun V => Below W9.heap.size W9 V) (by kernel_rfl) kD (fun hH => ?_)
  clear hH
  refine tkE 0 60 rfl rfl ?_; simp only [setS]
  refine tkD 1 61 (v := .agg C) rfl (by kernel_rfl) (fun _ _ _ h => h) rfl (by rfl) (by assumption) (fun X hX => run_load_rowW 24 (.tmp 8) rfl ⟨w.heap.size, 0, none⟩ rfl C _ (HROW9.out X hX) Tryz.underlying24 rfl hi6) ?_; simp only [setS]
  refine tkE 2 62 rfl rfl ?_; simp only [setS]
  refine tkE 3 63 rfl rfl ?_; simp only [setS]
  refine tkE 4 64 rfl rfl ?_; simp only [setS]
  refine tkE 5 65 rfl rfl ?_; simp only [setS]
  refine tkE 6 66 rfl rfl ?_; simp only [setS]
  refine tkE 8 68 rfl rfl ?_; simp only [setS]
  refine rdyH 7 rfl (fun K hK => ?_); go_simp
  refine (HFR.out _).mono ?_
  rintro r u1 ⟨fa, fc, rfl, hbs9, hbu1⟩
  have hU1 : Below W9.heap.size W9 u1 := bt kD hbu1 (Nat.le_refl _)
  refine hK.out _ _ hU1 (fun hSx => ?_); clear hK K hSx
  refine rdyH 9 rfl (fun K hK => ?_); go_simp
  refine (HON.out _ fa fc (bt HB1.out (bt HB9.out hU1 (Nat.le_refl _)) (Nat.le_refl _)) hbs9).mono ?_
  rintro r wa ⟨oa, oc, rfl, hoa, hba⟩
  have hBa : Below W9.heap.size W9 wa := bt hU1 hba (Nat.le_refl _)
  refine hK.out _ _ hBa (fun hSx => ?_); clear hK K hSx
  refine tkE 10 59 rfl rfl ?_; simp only [setS]
  refine tkE 11 70 rfl rfl ?_; simp only [setS]
  refine tkE 12 71 rfl rfl ?_; simp only [setS]
  refine tkE 13 72 rfl rfl ?_; simp only [setS]
  refine tkD 14 17 (v := ?_) rfl (by kernel_rfl) (fun _ _ _ h => h) rfl (by rfl) (by assumption) ?_ ?_; rotate_left; (intro w hSw; (try dsimp only at hSw); (try go_simp); try rfl)
  refine tkD 15 18 (v := ?_) rfl (by kernel_rfl) (fun _ _ _ h => h) rfl (by rfl) (by assumption) ?_ ?_; rotate_left; (intro w hSw; (try dsimp only at hSw); (try go_simp); try rfl)
  refine tkD 16 19 (v := ?_) rfl (by kernel_rfl) (fun _ _ _ h => h) rfl (by rfl) (by assumption) ?_ ?_; rotate_left; (intro w hSw; (try dsimp only at hSw); (try go_simp); try rfl)
  refine wpAnyH_done (by kernel_rfl) ?_ _
  have HBA := hid hBa
  have HOA : Hid (wa.ownsRow 0 48 3 (.slice oa rn oc) rn (evL E)) := own_lower hoa (Nat.zero_le _)
  obtain ⟨i5, hi5, hy0, hy1, hy2⟩ := info_parts infoB
  clear kD hbu1 hU1 hbs9 hoa hba hBa HON HFR
  go_upto_region 11 with (fail)
  go_loopw [20, 21] (fun bv iv wr => ∃ i : Nat, i ≤ rn ∧ iv = .int .i64 (i : Int) ∧ Hid (wr.ownsRow wa.heap.size 5 1 bv i (u8s (R.take i))) ∧ Below wa.heap.size wa wr) (fun _ iv _ => rn - (intOf iv).toNat)
  case atStart => exact ⟨0, Nat.zero_le _, rfl, World.ownsRow_nil _ _ _ _, Below.refl _ _⟩
  case round =>
    obtain ⟨i, hi, rfl, hown, hbw⟩ := hrel
    have hi0 : (0 : Int) ≤ (i : Int) := Int.natCast_nonneg _
    obtain ⟨ba, bc, rfl⟩ := own_slice hown.out
    by_cases hlt : i < rn
    · obtain ⟨ev, hev⟩ := gs (l := E) HEL.out hlt
      have hval := HE.out i ev hev
      obtain ⟨ob, cap, hv1, -, -, -⟩ := own_shapeR HOA.out (by omega)
      simp only [Value.slice.injEq, true_and] at hv1
      obtain ⟨rfl, rfl⟩ := hv1
      obtain ⟨y, hy⟩ : ∃ y, R.getD i 0 = y := ⟨_, rfl⟩
      rw [hy] at hval
      have hyR : R[i]? = some y := by
        have h1 : i < R.length := by have := HRN.out; omega
        rw [← hy]
        simp [List.getD_eq_getElem?_getD, List.getElem?_eq_getElem h1]
      obtain ⟨V, hV⟩ : ∃ V : Int, (y.toNat : Int) = V := ⟨_, rfl⟩
      rw [hV] at hval
      have o1 : wr.cell? ⟨ob, i * 3 + 1, none⟩ = some (.int .u8 V) := cell_keep hbw (by rw [HOA.out.cellAt (i * 3 + 1) (by omega), evL_get hev 1 (by decide), ← hval]; rfl)
      have HT : Hid (u8s (R.take i) ++ [.int .u8 V] = u8s (R.take (i + 1))) := by
        show _ = _
        rw [take_succ_snoc hyR, u8s_append, ← hV]
        rfl
      have hil : (i : Int) < (rn : Int) := by omega
      have HLT := hid hlt
      have hrb := HRB.out
      have hws : wa.heap.size ≤ wr.heap.size := hbw.size
      clear hev hval hy hyR hV hlt
      go_wp2_with (at_builtin; refine wpList_appN rfl _ _ 36 rfl wa.heap.size 5 i5 _ 1 1 Tryz.underlying36 hi5 hy0 hy1 hy2 rfl (by decide) (.slice ba i bc) i (u8s (R.take i)) rfl (hown.out.alloc _) ⟨wr.heap.size, 0, none⟩ 1 1 [.int .u8 V] rfl rfl (newsNew wr [.int .u8 V] _) (by intro u hu; simp at hu; subst hu; rfl) (by unfold maxLen; omega) (by omega) (by simp; omega) ?c3)
      case c3 =>
        intro v6 w6 hown6 hgr6 hnew6
        rw [HT.out] at hown6
        have hb6 : Below wa.heap.size wa w6 := (hbw.alloc hws _).grown hgr6 (by simp; omega) (fun k hk => (hown.out.lt k hk).1)
        have HO6 := hid hown6
        have HB66 := hid hb6
        clear hown6 hgr6 hnew6 hb6
        go_wp2
        go_roundw
        case rel => exact ⟨i + 1, by have := HLT.out; omega, by go_num, HO6.out, HB66.out⟩
        case measure => have := HLT.out; simp [intOf]; omega
    · obtain rfl : i = rn := by omega
      have hbs : Bs wr (.slice ba i bc) R := by
        have h1 := hown.out
        rw [List.take_of_length_le (by rw [HRN.out]; exact Nat.le_refl _)] at h1
        exact Bs.own h1
      have hxw : Below W9.heap.size W9 wr := bt HBA.out hbw (Nat.le_refl _)
      have haw := hxw
      have hww : Below w.heap.size w wr := bt HB1.out (bt HB9.out hxw (Nat.le_refl _)) (Nat.le_refl _)
      have a1' := a1 _ haw
      have HLTN := hid hlt
      clear hlt hown
      by_cases h12 : fault = 1 ∨ fault = 2
      · obtain rfl : i = 0 := HRZ.out h12
        clear HRS HRZ HSPL HHF HCE
        rcases h12 with rfl | rfl
        · go_wp2_with (go_at_call 10; (with_reducible refine (awake16_any _).mono ?_); rintro r wz ⟨rfl, hbz⟩)
          go_ret
          exact ⟨rfl, bt hww hbz (Nat.le_refl _)⟩
        · go_wp2_with (go_at_call 10; (with_reducible refine (awake16_any _).mono ?_); rintro r wz ⟨rfl, hbz⟩)
          go_ret
          exact ⟨rfl, bt hww hbz (Nat.le_refl _)⟩
      have g1 : (fault == 1) = false := b0 (fun h => h12 (Or.inl h))
      have g2 : (fault == 2) = false := b0 (fun h => h12 (Or.inr h))
      have hspl := HSPL.out h12
      have hr5 := HRS.out h12
      clear HRS HRZ HSPL h12
      by_cases hD : 1 < ml ∨ fault = 3
      · rw [if_pos hD] at hspl
        have HSP := hid (split_crc (.slice ba i bc) R (by have := HRN.out; omega) (by have := HRN.out; have := HRB.out; omega) hspl wr hbs)
        clear hspl hr5
        by_cases hm : 1 < ml
        · have gm : decide ((1 : Int) < (ml : Int)) = true := decide_eq_true (by omega)
          have gn : decide (1 < ml) = true := decide_eq_true hm
          clear hD hm
          go_wp2_with (first | (go_at_call 15; (with_reducible refine HSP.out.mono ?_); rintro r w2 ⟨rfl, hb2⟩; have z0' := z0 _ (bt hxw hb2 (Nat.le_refl _)); have z1' := z1 _ (bt hxw hb2 (Nat.le_refl _)); have z2' := z2 _ (bt hxw hb2 (Nat.le_refl _))) | (go_at_call 16; (with_reducible refine (HMM.out _ (bt hww hb2 (Nat.le_refl _))).mono ?_); rintro r w3 ⟨ma, mc, rfl, hb3⟩; have a1'' := a1 _ (bt haw (bt hb2 hb3 (Nat.le_refl _)) (Nat.le_refl _))) | (go_at_call 10; (with_reducible refine (awake16_any _).mono ?_); rintro r wz ⟨rfl, hbz⟩))
          go_ret
          exact ⟨rfl, bt (bt (bt hww hb2 (Nat.le_refl _)) hb3 (Nat.le_refl _)) hbz (Nat.le_refl _)⟩
        · have gm : decide ((1 : Int) < (ml : Int)) = false := decide_eq_false (by omega)
          have gn : decide (1 < ml) = false := decide_eq_false hm
          have g3 : (fault == 3) = true := b1 (hD.resolve_left hm)
          clear hD hm
          go_wp2_with (first | (go_at_call 15; (with_reducible refine HSP.out.mono ?_); rintro r w2 ⟨rfl, hb2⟩; have z0' := z0 _ (bt hxw hb2 (Nat.le_refl _)); have z1' := z1 _ (bt hxw hb2 (Nat.le_refl _)); have z2' := z2 _ (bt hxw hb2 (Nat.le_refl _))) | (go_at_call 16; (with_reducible refine (HMM.out _ (bt hww hb2 (Nat.le_refl _))).mono ?_); rintro r w3 ⟨ma, mc, rfl, hb3⟩; have a1'' := a1 _ (bt haw (bt hb2 hb3 (Nat.le_refl _)) (Nat.le_refl _))) | (go_at_call 10; (with_reducible refine (awake16_any _).mono ?_); rintro r wz ⟨rfl, hbz⟩))
          go_ret
          exact ⟨rfl, bt (bt (bt hww hb2 (Nat.le_refl _)) hb3 (Nat.le_refl _)) hbz (Nat.le_refl _)⟩
      rw [if_neg hD] at hspl
      have gm : decide ((1 : Int) < (ml : Int)) = false := decide_eq_false (by omega)
      have gn : decide (1 < ml) = false := decide_eq_false (fun h => hD (Or.inl h))
      have g3 : (fault == 3) = false := b0 (fun h => hD (Or.inr h))
      obtain ⟨PB, hPB⟩ : ∃ P, (if fault = 5 then mkR Q.fn 6 [] else rp).pdu = P := ⟨_, rfl⟩
      rw [hPB] at hspl
      obtain ⟨bn, hbn⟩ : ∃ n, PB.length = n := ⟨_, rfl⟩
      have HSP := hid (psplit_yes hspl ba i bc wr hbs)
      rw [hbn] at HSP
      have HPB := hid hPB
      clear hspl hr5 hD hPB hbn
      go_upto_region 19 with (first
        | (go_at_call 15; (with_reducible refine HSP.out.mono ?_); rintro r w2 ⟨sa, sc, rfl, hbs2, hb2⟩; have z0' := z0 _ (bt hxw hb2 (Nat.le_refl _)); have z1' := z1 _ (bt hxw hb2 (Nat.le_refl _)); have z2' := z2 _ (bt hxw hb2 (Nat.le_refl _)))
        | (go_at_call 16; (with_reducible refine (HMM.out _ (bt hww hb2 (Nat.le_refl _))).mono ?_); rintro r w3 ⟨ma, mc, rfl, hb3⟩; have a1'' := a1 _ (bt haw (bt hb2 hb3 (Nat.le_refl _)) (Nat.le_refl _))))
      have hx3 : Below W9.heap.size W9 w3 := bt hxw (bt hb2 hb3 (Nat.le_refl _)) (Nat.le_refl _)
      have q0' := q0 _ hx3
      have q1' := q1 _ hx3
      have q2' := q2 _ hx3
      have q3' := q3 _ hx3
      have q4' := q4 _ hx3
      have a5' := a5 _ hx3
      have HBS3 := hid (hbs2.keep hb3)
      have HSA3 := hid (HSA.out w3 (bt H69.out hx3 (Nat.le_refl _)))
      have HROW3 := hid (hDrow.out w3 hx3)
      have HX3 := hid hx3
      have HW3 : Hid (Below w.heap.size w w3) := bt (bt hww hb2 (Nat.le_refl _)) hb3 (Nat.le_refl _)
      clear hbs2 hb2 hb3 z0' z1' z2' a1' a1'' hxw haw hww hbs HSP HMM hDrow HSA hx3
      go_upto_region 20 with (first
        | (refine wpList_load_at rfl 38 (.tmp 15) rfl ⟨xb, 0, none⟩ rfl D _ HROW3.out Tryz.underlying38 rfl hi19 ?_)
        | (go_at_call 18; (with_reducible refine HSA3.out.mono ?_); rintro r w4 ⟨da, dc, ra, rc, rfl, hag, hb4⟩)
        | (go_at_call 17; (with_reducible refine (HENC.out _ da dc ra rc (hag _ (Agree.refl _ _))).mono ?_); rintro r w5 ⟨ea, ec, rfl, hbs5, hb5⟩))
      have hx5 : Below W9.heap.size W9 w5 := bt HX3.out (bt hb4 hb5 (Nat.le_refl _)) (Nat.le_refl _)
      have hb35 : Below w3.heap.size w3 w5 := bt hb4 hb5 (Nat.le_refl _)
      have hbs3 := HBS3.out.keep hb35
      have a1' := a1 _ hx5
      have q0' := q0 _ hx5
      by_cases h5 : fault = 5
      · have g5 : (fault == 5) = true := b1 h5
        have hpb := HPB.out
        rw [if_pos h5, HBZ.out] at hpb
        obtain ⟨k1, k2⟩ := HQF.out
        have s1 : IntKind.i64.wrap (Q.fn + 128) = Q.fn + 128 := IntWalk.i64_in _ (by omega)
        have s2 : IntKind.u8.wrap (Q.fn + 128) = Q.fn + 128 := by show _ % 256 = _; omega
        have HB2 := hid (bs2 w5 w5.heap.size (Q.fn + 128) 6 (by omega) (by omega) (by decide) (by decide) rfl)
        rw [hpb] at HB2
        have HBP5 := hid (hbs3.keep (bal' w5 (.cells #[.int .u8 (Q.fn + 128), .int .u8 6] 5)))
        have HAL := hid (bal' w5 (.cells #[.int .u8 (Q.fn + 128), .int .u8 6] 5))
        clear h5 hpb k1 k2 hbs3 hbs5
        go_wp2_with (go_at_call 10; (with_reducible refine (awake16_any _).mono ?_); rintro r wz ⟨rfl, hbz⟩; have e1 := ss.out _ _ _ (HBP5.out.keep hbz); have e2 := ss.out _ _ _ (HB2.out.keep hbz))
        go_ret
        exact ⟨rfl, bt (bt (bt HW3.out hb35 (Nat.le_refl _)) HAL.out (Nat.le_refl _)) hbz (Nat.le_refl _)⟩
      · have g5 : (fault == 5) = false := b0 h5
        have hpb := HPB.out
        rw [if_neg h5, HPD.out] at hpb
        subst hpb
        have HB5 := hid hbs5
        have HB3 := hid hbs3
        clear h5 hbs5 hbs3
        go_wp2_with (go_at_call 10; (with_reducible refine (awake16_any _).mono ?_); rintro r wz ⟨rfl, hbz⟩; have e1 := ss.out _ _ _ (HB3.out.keep hbz); have e2 := ss.out _ _ _ (HB5.out.keep hbz))
        go_ret
        exact ⟨rfl, bt (bt HW3.out hb35 (Nat.le_refl _)) hbz (Nat.le_refl _)⟩
end Go.Proofs.YtpkheiaanjhffaaGreat
