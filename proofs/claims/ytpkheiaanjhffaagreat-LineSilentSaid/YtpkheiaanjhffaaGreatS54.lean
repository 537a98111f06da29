/-
  Texts 54 of the claim.
-/
import Derived.Test.YtpkheiaanjhffaaGreatS53
namespace Go.Proofs.YtpkheiaanjhffaaGreat
open Go.RowKit
theorem cellsAtW : Tryz.prog.cellsOf 24 = 6 := by kernel_rfl
theorem lst6W {α : Type} {l : List α} (h : l.length = 6) : ∃ a b c d e f, l = [a, b, c, d, e, f] := by
  match l, h with
  | [a, b, c, d, e, f], _ => exact ⟨a, b, c, d, e, f, rfl⟩
theorem at_rd {w : World} {cs : Array Value} (h : Rd Tryz.prog w 24 cs.toList) : ∃ a : At, cs = a.C ∧ wfAt a := by
  obtain ⟨hl, hf⟩ := h.struct Tryz.underlying24
  rw [cellsAtW] at hl
  obtain ⟨cl⟩ := cs
  obtain ⟨c0, c1, c2, c3, c4, c5, rfl⟩ := lst6W hl
  have f0 := hf _ (List.mem_cons_self ..)
  have f1 := hf _ (List.mem_cons_of_mem _ (List.mem_cons_self ..))
  have f2 := hf _ (List.mem_cons_of_mem _ (List.mem_cons_of_mem _ (List.mem_cons_self ..)))
  have f3 := hf _ (List.mem_cons_of_mem _ (List.mem_cons_of_mem _ (List.mem_cons_of_mem _ (List.mem_cons_self ..))))
  have f4 := hf _ (List.mem_cons_of_mem _ (List.mem_cons_of_mem _ (List.mem_cons_of_mem _ (List.mem_cons_of_mem _ (List.mem_cons_self ..)))))
  have f5 := hf _ (List.mem_cons_of_mem _ (List.mem_cons_of_mem _ (List.mem_cons_of_mem _ (List.mem_cons_of_mem _ (List.mem_cons_of_mem _ (List.mem_cons_self ..))))))
  simp only [cellsInt, List.drop_zero, List.drop_succ_cons, List.take_succ_cons, List.take_zero] at f0 f1 f2 f3 f4 f5
  obtain ⟨a0, rfl, w0⟩ := int_rd f0
  obtain ⟨a1, rfl, w1⟩ := int_rd f1
  obtain ⟨a2, rfl, w2⟩ := int_rd f2
  obtain ⟨a3, rfl, w3⟩ := int_rd f3
  obtain ⟨a4, rfl, w4⟩ := int_rd f4
  obtain ⟨a5, rfl, w5⟩ := int_rd f5
  exact ⟨⟨a0, a1, a2, a3, a4, a5⟩, rfl, w0, w1, w2, w3, w4, w5⟩
theorem ratt_w (a : At) (V : Bool) (hV : V = true ↔ a.ok) (w : World) : Calls Tryz.prog 9 #[.agg a.C] w (BoolPost w V) :=
  (ratt_any a w).mono fun r w' ⟨B, h1, h2, h3⟩ => by
    have e : B = V := by
      cases B <;> cases V
      · rfl
      · exact absurd (h2.out.2 (hV.1 rfl)) Bool.noConfusion
      · exact absurd (hV.2 (h2.out.1 rfl)) Bool.noConfusion
      · rfl
    subst e
    exact ⟨h1, h3⟩
theorem rcvF_none {l : List Sl} {bd pa u : Int} (h1 : 1 ≤ u) (h2 : u ≤ 247) {q : Rq} (hq : q.ok = true) (hm : memb l bd pa u l.length = []) (a : At) (tick : Int) : newsF l a bd pa (rqFrame u q) tick = [] := by
  have hd : busDec l bd pa (rqFrame u q) = none := by rw [busDec_frame l bd pa h1 h2 hq, if_pos hm]
  have hr : rcvF l a bd pa (rqFrame u q) = [] := by
    have e1 : (busBusy l bd pa (rqFrame u q)).getD [] = [] := by unfold busBusy; rw [hd]; rfl
    have e2 : loneB l bd pa (rqFrame u q) = false := by unfold loneB; rw [hd]
    have e3 : (busAns l bd pa (rqFrame u q) a.value).getD [] = [] := by unfold busAns; rw [hd]; rfl
    unfold rcvF
    split
    · rfl
    · split
      · exact e1
      · rw [if_neg (by rw [e2]; rintro ⟨_, h⟩; cases h)]
        exact e3
  unfold newsF
  rw [hr]
  rfl
set_option maxRecDepth 100000 in
set_option maxHeartbeats 12800000 in
theorem Walk.lineSilent {w : World} (la : Option Addr) (ln lc : Nat) (hrl : Rd Tryz.prog w 22 [.slice la ln lc]) (cs : Array Value) (hra : Rd Tryz.prog w 24 cs.toList) (k : Int) (hk : (Lit.int .i64 k).wf = true) (u : Int) (hu : (Lit.int .i64 u).wf = true) (x1 : Int) (hx1 : (Lit.int .i64 x1).wf = true) (x2 : Int) (hx2 : (Lit.int .i64 x2).wf = true) (x3 : Int) (hx3 : (Lit.int .i64 x3).wf = true) :
    Calls Tryz.prog 5 #[.slice la ln lc, .agg cs, .int .i64 k, .int .i64 u, .int .i64 x1, .int .i64 x2, .int .i64 x3] w fun r w' => r = .returned (.bool true) ∧ Below w.heap.size w w' := by
  obtain ⟨a, rfl, hwa⟩ := at_rd hra
  obtain ⟨l, hL⟩ := slvs_rd hrl
  have hl : l.length = ln := by
    obtain ⟨a', c', e⟩ := hL.slc
    simp only [Value.slice.injEq] at e
    exact e.2.1.symm
  obtain ⟨C, hC⟩ : ∃ C, a.C = C := ⟨_, rfl⟩
  have hi6 : (Tryz.prog.info? 24).map (·.size) = some C.size := by rw [← hC]; exact infoAT
  rw [hC]
  obtain ⟨VS, -, HMS0⟩ := mslaves_any l 4
  obtain ⟨VB, hVB, HMB0⟩ := rbus_any l
  obtain ⟨VA, hVA⟩ := bool_is (p := a.ok)
  obtain ⟨n, hn⟩ : ∃ n : Nat, (k % 24).toNat = n := ⟨_, rfl⟩
  have hk24 := Int.emod_lt_of_pos k (show (0 : Int) < 24 by decide)
  have hk0 := Int.emod_nonneg k (show (24 : Int) ≠ 0 by decide)
  have hkn : k % 24 = (n : Int) := by omega
  have hn24 : n < 24 := by omega
  obtain ⟨⟨bd, pa⟩, hsx⟩ := gs (l := allS) allS_len hn24
  have hset := allS_ok (List.mem_of_getElem? hsx)
  dsimp only at hset
  have hbd := hset.bd
  have f1 : wfI bd := by unfold wfI; omega
  have f2 : wfI pa := by have := hset.lo; have := hset.hi; unfold wfI; omega
  have hu24 := Int.emod_lt_of_pos u (show (0 : Int) < 247 by decide)
  have hu0 := Int.emod_nonneg u (show (247 : Int) ≠ 0 by decide)
  obtain ⟨um, hum⟩ : ∃ x, u % 247 = x := ⟨_, rfl⟩
  rw [hum] at hu24 hu0
  obtain ⟨U, hU⟩ : ∃ x, 1 + um = x := ⟨_, rfl⟩
  have sU : IntKind.i64.wrap (1 + um) = U := (IntWalk.i64_in _ (by omega)).trans hU
  have HU : Hid (1 ≤ U ∧ U ≤ 247) := by show _ ∧ _; omega
  have HM1 : Hid (∀ X, Calls Tryz.prog 11 #[.int .i64 k, .int .i64 24] X fun r w' => r = .returned (.int .i64 (n : Int)) ∧ X = w') := fun X => by rw [← hkn]; exact mod_any k 24 (by decide) (by decide) hk X
  have HM2 : Hid (∀ X, Calls Tryz.prog 11 #[.int .i64 u, .int .i64 247] X fun r w' => r = .returned (.int .i64 um) ∧ X = w') := fun X => by rw [← hum]; exact mod_any u 247 (by decide) (by decide) hu X
  have HMS : Hid (∀ X, Below w.heap.size w X → Calls Tryz.prog 7 #[.slice la ln lc, .int .i64 4] X (BoolPost X VS)) := fun X hX => (HMS0 X _ (hL.keep hX)).mono fun r w' h => ⟨h.1, by rw [← h.2]; exact Below.refl _ _⟩
  have HMB : Hid (∀ X, Below w.heap.size w X → Calls Tryz.prog 8 #[.slice la ln lc] X (BoolPost X VB)) := fun X hX => HMB0 X _ (hL.keep hX)
  have HMA : Hid (∀ X, Calls Tryz.prog 9 #[.agg C] X (BoolPost X VA)) := fun X => by rw [← hC]; exact ratt_w a VA hVA X
  have HMK : Hid (∀ X, Calls Tryz.prog 12 #[.int .i64 x1, .int .i64 x2, .int .i64 x3] X fun r w' => r = .returned (.agg #[.int .i64 (mkRq x1 x2 x3).fn, .int .i64 (mkRq x1 x2 x3).addr, .int .i64 (mkRq x1 x2 x3).qty, .int .i64 (mkRq x1 x2 x3).code, .int .i64 (mkRq x1 x2 x3).obj]) ∧ Below X.heap.size X w') := fun X => make_any x1 x2 x3 hx1 hx2 hx3 X
  obtain ⟨W1, hW1⟩ : ∃ W, w.alloc (.cells C 24) = W := ⟨_, rfl⟩
  have hb1 : Below w.heap.size w W1 := by rw [← hW1]; exact bal' w _
  have pA : W1.heap[w.heap.size]? = some (.cells C 24) := by rw [← hW1]; exact hpNew w _
  have HW1 := hid hW1
  have HB1 := hid hb1
  have HPA := hid pA
  have HL := hid hL
  have HLN := hid hl
  have HSX := hid hsx
  have HST := hid hset
  have HVB := hid hVB
  have HVA := hid hVA
  have HCC := hid hC
  have hn0 : (0 : Int) ≤ (n : Int) := by omega
  have hnl : (n : Int) < 24 := by omega
  clear hrl hra hL hl hC HMS0 HMB0 hVB hVA hn hk24 hk0 hkn hsx hset hbd hu24 hu0 hum hU hW1 hb1 pA hk hu hx1 hx2 hx3
  go_enter Tryz.func5, Tryz.ntmps5
  go_upto_region 1 with (fail)
  rw [HW1.out]
  go_upto_region 2 with (first
    | (go_at_call 23; (with_reducible refine (rall_any _).mono ?_); rintro r w2 ⟨v, rfl, hown, hb2⟩; obtain ⟨ga, ca, rfl, hnc, hcm2, hel⟩ := own_setting hown (by decide); obtain ⟨e0, e1⟩ := hel n _ HSX.out; dsimp only at e0 e1)
    | (go_at_call 11; (with_reducible refine (HM1.out _).mono ?_); rintro r wx ⟨rfl, rfl⟩))
  obtain ⟨W3, hW3⟩ : ∃ W, w2.alloc (.cells #[.int .i64 bd, .int .i64 pa] 30) = W := ⟨_, rfl⟩
  have hb3 : Below w2.heap.size w2 W3 := by rw [← hW3]; exact bal' w2 _
  obtain ⟨sb, hsb⟩ : ∃ n, w2.heap.size = n := ⟨_, rfl⟩
  have pS : W3.heap[sb]? = some (.cells #[.int .i64 bd, .int .i64 pa] 30) := by rw [← hW3, ← hsb]; exact hpNew w2 _
  rw [hW3, hsb]
  have HB3 : Hid (Below w.heap.size w W3) := bt (bt HB1.out hb2 (Nat.le_refl _)) hb3 (Nat.le_refl _)
  have HPA3 := hid (hpKeep (hpKeep HPA.out hb2) hb3)
  have HPS := hid pS
  have s0 : ∀ X, Below W3.heap.size W3 X → X.cell? ⟨sb, 0, none⟩ = some (.int .i64 bd) := fun X hX => hpCell (hpKeep HPS.out hX) 0
  have s1 : ∀ X, Below W3.heap.size W3 X → X.cell? ⟨sb, 1, none⟩ = some (.int .i64 pa) := fun X hX => hpCell (hpKeep HPS.out hX) 1
  have HROW : Hid (∀ X, Below W3.heap.size W3 X → ∀ j v, C.toList[j]? = some v → X.cell? ((⟨w.heap.size, 0, none⟩ : Addr).add j) = some v) := fun X hX j v hj => rowAtW (hpKeep HPA3.out hX) j v hj
  have k3 : Below W3.heap.size W3 W3 := Below.refl _ _
  clear hW3 hsb pS hb3 hb2 hown hel e0 e1 hnc hcm2 HM1 HPA
  go_upto_region 3 with (go_at_call 11; (with_reducible refine (HM2.out _).mono ?_); rintro r wx ⟨rfl, rfl⟩)
  clear HM2 sU
  cases VS with
  | false =>
    go_wp2_with (first
      | (go_at_call 7; (with_reducible refine (HMS.out _ HB3.out).mono ?_); rintro r w4 ⟨rfl, hb4⟩)
      | (go_at_call 10; (with_reducible refine (awake16_any _).mono ?_); rintro r wz ⟨rfl, hbz⟩))
    go_ret
    exact ⟨rfl, bt (bt HB3.out hb4 (Nat.le_refl _)) hbz (Nat.le_refl _)⟩
  | true =>
  cases VB with
  | false =>
    go_wp2_with (first
      | (go_at_call 7; (with_reducible refine (HMS.out _ HB3.out).mono ?_); rintro r w4 ⟨rfl, hb4⟩)
      | (go_at_call 8; (with_reducible refine (HMB.out _ (bt HB3.out hb4 (Nat.le_refl _))).mono ?_); rintro r w5 ⟨rfl, hb5⟩)
      | (go_at_call 10; (with_reducible refine (awake16_any _).mono ?_); rintro r wz ⟨rfl, hbz⟩))
    go_ret
    exact ⟨rfl, bt (bt (bt HB3.out hb4 (Nat.le_refl _)) hb5 (Nat.le_refl _)) hbz (Nat.le_refl _)⟩
  | true =>
  have HBP : Hid (BusP l) := HVB.out.1 rfl
  cases VA with
  | false =>
    go_wp2_with (first
      | (go_at_call 7; (with_reducible refine (HMS.out _ HB3.out).mono ?_); rintro r w4 ⟨rfl, hb4⟩)
      | (go_at_call 8; (with_reducible refine (HMB.out _ (bt HB3.out hb4 (Nat.le_refl _))).mono ?_); rintro r w5 ⟨rfl, hb5⟩)
      | (refine wpList_load_atH (by rfl) 24 (.tmp 8) rfl ⟨w.heap.size, 0, none⟩ rfl C _ (HROW.out _ (bt hb4 hb5 (Nat.le_refl _))) Tryz.underlying24 rfl hi6 ?_)
      | (go_at_call 9; (with_reducible refine (HMA.out _).mono ?_); rintro r w6 ⟨rfl, hb6⟩)
      | (go_at_call 10; (with_reducible refine (awake16_any _).mono ?_); rintro r wz ⟨rfl, hbz⟩))
    go_ret
    exact ⟨rfl, bt (bt (bt (bt HB3.out hb4 (Nat.le_refl _)) hb5 (Nat.le_refl _)) hb6 (Nat.le_refl _)) hbz (Nat.le_refl _)⟩
  | true =>
  have HAO : Hid a.ok := HVA.out.1 rfl
  obtain ⟨ml, hml⟩ : ∃ n, (memb l bd pa U ln).length = n := ⟨_, rfl⟩
  have HMM : Hid (∀ X, Below w.heap.size w X → Calls Tryz.prog 16 #[.slice la ln lc, .agg #[.int .i64 bd, .int .i64 pa], .int .i64 U] X fun r w' => ∃ a c, r = .returned (.slice a ml c) ∧ Below X.heap.size X w') := fun X hX => (rmemb_any la lc l ln X HLN.out (by have := HBP.out.1; have := HLN.out; omega) (HL.out.keep hX) bd pa U f1 f2).mono fun r w' h => by
    obtain ⟨a, c, h1, -, h3⟩ := h
    rw [hml] at h1
    exact ⟨a, c, h1, h3⟩
  have HML := hid hml
  clear hml
  by_cases hz : 0 < ml
  · have g1 : decide ((0 : Int) < (ml : Int)) = true := decide_eq_true (by omega)
    go_wp2_with (first
      | (go_at_call 7; (with_reducible refine (HMS.out _ HB3.out).mono ?_); rintro r w4 ⟨rfl, hb4⟩)
      | (go_at_call 8; (with_reducible refine (HMB.out _ (bt HB3.out hb4 (Nat.le_refl _))).mono ?_); rintro r w5 ⟨rfl, hb5⟩)
      | (refine wpList_load_atH (by rfl) 24 (.tmp 8) rfl ⟨w.heap.size, 0, none⟩ rfl C _ (HROW.out _ (bt hb4 hb5 (Nat.le_refl _))) Tryz.underlying24 rfl hi6 ?_)
      | (go_at_call 9; (with_reducible refine (HMA.out _).mono ?_); rintro r w6 ⟨rfl, hb6⟩; have hB6 := bt (bt hb4 hb5 (Nat.le_refl _)) hb6 (Nat.le_refl _); have s0' := s0 _ hB6; have s1' := s1 _ hB6)
      | (go_at_call 16; (with_reducible refine (HMM.out _ (bt HB3.out hB6 (Nat.le_refl _))).mono ?_); rintro r w7 ⟨ma, mc, rfl, hb7⟩)
      | (go_at_call 10; (with_reducible refine (awake16_any _).mono ?_); rintro r wz ⟨rfl, hbz⟩))
    go_ret
    exact ⟨rfl, bt (bt (bt HB3.out hB6 (Nat.le_refl _)) hb7 (Nat.le_refl _)) hbz (Nat.le_refl _)⟩
  · obtain rfl : ml = 0 := by omega
    go_upto_region 5 with (first
      | (go_at_call 7; (with_reducible refine (HMS.out _ HB3.out).mono ?_); rintro r w4 ⟨rfl, hb4⟩)
      | (go_at_call 8; (with_reducible refine (HMB.out _ (bt HB3.out hb4 (Nat.le_refl _))).mono ?_); rintro r w5 ⟨rfl, hb5⟩)
      | (refine wpList_load_atH (by rfl) 24 (.tmp 8) rfl ⟨w.heap.size, 0, none⟩ rfl C _ (HROW.out _ (bt hb4 hb5 (Nat.le_refl _))) Tryz.underlying24 rfl hi6 ?_)
      | (go_at_call 9; (with_reducible refine (HMA.out _).mono ?_); rintro r w6 ⟨rfl, hb6⟩; have hB6 := bt (bt hb4 hb5 (Nat.le_refl _)) hb6 (Nat.le_refl _); have s0' := s0 _ hB6; have s1' := s1 _ hB6)
      | (go_at_call 16; (with_reducible refine (HMM.out _ (bt HB3.out hB6 (Nat.le_refl _))).mono ?_); rintro r w7 ⟨ma, mc, rfl, hb7⟩))
    have HB7 : Hid (Below W3.heap.size W3 w7) := bt hB6 hb7 (Nat.le_refl _)
    have kD : Below W3.heap.size W3 w7.drew := bt HB7.out (Below.refl w7.heap.size w7).drew (Nat.le_refl _)
    obtain ⟨Q, hQ⟩ : ∃ Q, mkRq x1 x2 x3 = Q := ⟨_, rfl⟩
    have hqk : Q.ok = true := by rw [← hQ]; exact mkRq_ok x1 x2 x3
    rw [hQ] at HMK
    obtain ⟨F, hF⟩ : ∃ F, rqFrame U Q = F := ⟨_, rfl⟩
    obtain ⟨fl, hfl⟩ : ∃ n, F.length = n := ⟨_, rfl⟩
    have hflb : 4 ≤ fl ∧ fl ≤ 256 := by rw [← hfl, ← hF]; exact rqFrame_len U Q
    have HFR : Hid (∀ X, Calls Tryz.prog 14 #[.int .i64 U, .agg #[.int .i64 Q.fn, .int .i64 Q.addr, .int .i64 Q.qty, .int .i64 Q.code, .int .i64 Q.obj]] X fun r w' => ∃ a c, r = .returned (.slice a fl c) ∧ Bs w' (.slice a fl c) F ∧ Below X.heap.size X w') := fun X => (lframe_any U HU.out.1 HU.out.2 Q hqk X).mono fun r w' h => by
      obtain ⟨a, c, h1, h2, h3⟩ := h
      rw [hF, hfl] at h1 h2
      exact ⟨a, c, h1, Bs.own (by rw [← hfl] at h2 ⊢; exact h2), h3⟩
    have HON : Hid (∀ X fa fc, Below w.heap.size w X → Bs X (.slice fa fl fc) F → Calls Tryz.prog 13 #[.slice la ln lc, .agg C, .agg #[.int .i64 bd, .int .i64 pa], .slice fa fl fc, .int .i64 0] X fun r w' => ∃ e a c, r = .returned (.tuple #[.int .i64 e, .slice a 0 c, .bool true]) ∧ Below X.heap.size X w') := fun X fa fc hX hb => by
      have e := one_any la lc ln l HLN.out HBP a HAO.out hwa bd pa HST f1 f2 fa fl fc F (by omega) hflb.2 0 (by decide) (by decide) X (HL.out.keep hX) hb
      rw [← hF, rcvF_none HU.out.1 HU.out.2 hqk (List.eq_nil_of_length_eq_zero (by rw [HLN.out]; exact HML.out)), HCC.out] at e
      exact e.mono fun r w' h => by
        obtain ⟨a, c, h1, -, h3⟩ := h
        exact ⟨_, a, c, h1, h3⟩
    clear hb4 hb5 hb6 hb7 hB6 s0' s1' k3 hQ hF hfl hflb hz HMS HMB HMA HMM HPA3
    refine wp_region_held_drew (S := fun V => Below W3.heap.size W3 V) (by kernel_rfl) kD (fun hH => ?_)
    clear hH
    refine tkD 0 50 (v := ?_) rfl (by kernel_rfl) (fun _ _ _ h => h) rfl (by rfl) (by assumption) ?_ ?_; rotate_left; (intro w hSw; (try dsimp only at hSw); go_simp; try (with_reducible rfl)); simp only [List.setIfInBounds_toArray, List.set_cons_zero, List.set_cons_succ]
    refine tkD 1 51 (v := .agg C) rfl (by kernel_rfl) (fun _ _ _ h => h) rfl (by rfl) (by assumption) (fun X hX => run_load_rowW 24 (.tmp 8) rfl ⟨w.heap.size, 0, none⟩ rfl C _ (HROW.out X hX) Tryz.underlying24 rfl hi6) ?_; simp only [List.setIfInBounds_toArray, List.set_cons_zero, List.set_cons_succ]
    refine tkD 2 52 (v := ?_) rfl (by kernel_rfl) (fun _ _ _ h => h) rfl (by rfl) (by assumption) ?_ ?_; rotate_left; (intro w hSw; (try dsimp only at hSw); go_simp; try (with_reducible rfl)); simp only [List.setIfInBounds_toArray, List.set_cons_zero, List.set_cons_succ]
    refine tkD 3 53 (v := ?_) rfl (by kernel_rfl) (fun _ _ _ h => h) rfl (by rfl) (by assumption) ?_ ?_; rotate_left; (intro w hSw; (try dsimp only at hSw); go_simp; try (with_reducible rfl)); simp only [List.setIfInBounds_toArray, List.set_cons_zero, List.set_cons_succ]
    refine tkD 4 54 (v := ?_) rfl (by kernel_rfl) (fun _ _ _ h => h) rfl (by rfl) (by assumption) ?_ ?_; rotate_left; (intro w hSw; (try dsimp only at hSw); go_simp; try (with_reducible rfl)); simp only [List.setIfInBounds_toArray, List.set_cons_zero, List.set_cons_succ]
    refine tkD 5 55 (v := ?_) rfl (by kernel_rfl) (fun _ _ _ h => h) rfl (by rfl) (by assumption) ?_ ?_; rotate_left; (intro w hSw; (try dsimp only at hSw); go_simp; try (with_reducible rfl)); simp only [List.setIfInBounds_toArray, List.set_cons_zero, List.set_cons_succ]
    refine tkD 6 56 (v := ?_) rfl (by kernel_rfl) (fun _ _ _ h => h) rfl (by rfl) (by assumption) ?_ ?_; rotate_left; (intro w hSw; (try dsimp only at hSw); go_simp; try (with_reducible rfl)); simp only [List.setIfInBounds_toArray, List.set_cons_zero, List.set_cons_succ]
    refine wpAnyH_ready (rs := [7]) (by kernel_rfl) (by simp) ?_; refine AllReadyH.cons rfl (fun K hK => ?_) AllReadyH.nil; go_simp
    refine (HMK.out _).mono ?_
    rintro r w8 ⟨rfl, hb8⟩
    have hB8 : Below W3.heap.size W3 w8 := bt kD hb8 (Nat.le_refl _)
    refine hK.out _ _ hB8 (fun hSx => ?_); clear hK K hSx
    refine wpAnyH_ready (rs := [8]) (by kernel_rfl) (by simp) ?_; refine AllReadyH.cons rfl (fun K hK => ?_) AllReadyH.nil; go_simp
    refine (HFR.out _).mono ?_
    rintro r w9 ⟨fa, fc, rfl, hbs9, hb9⟩
    have hB9 : Below W3.heap.size W3 w9 := bt hB8 hb9 (Nat.le_refl _)
    refine hK.out _ _ hB9 (fun hSx => ?_); clear hK K hSx
    refine wpAnyH_ready (rs := [9]) (by kernel_rfl) (by simp) ?_; refine AllReadyH.cons rfl (fun K hK => ?_) AllReadyH.nil; go_simp
    refine (HON.out _ fa fc (bt HB3.out hB9 (Nat.le_refl _)) hbs9).mono ?_
    rintro r wa ⟨en, oa, oc, rfl, hba⟩
    have hBa : Below W3.heap.size W3 wa := bt hB9 hba (Nat.le_refl _)
    refine hK.out _ _ hBa (fun hSx => ?_); clear hK K hSx
    refine tkD 10 49 (v := ?_) rfl (by kernel_rfl) (fun _ _ _ h => h) rfl (by rfl) (by assumption) ?_ ?_; rotate_left; (intro w hSw; (try dsimp only at hSw); go_simp; try (with_reducible rfl)); simp only [List.setIfInBounds_toArray, List.set_cons_zero, List.set_cons_succ]
    refine tkD 11 60 (v := ?_) rfl (by kernel_rfl) (fun _ _ _ h => h) rfl (by rfl) (by assumption) ?_ ?_; rotate_left; (intro w hSw; (try dsimp only at hSw); go_simp; try (with_reducible rfl)); simp only [List.setIfInBounds_toArray, List.set_cons_zero, List.set_cons_succ]
    refine tkD 12 61 (v := ?_) rfl (by kernel_rfl) (fun _ _ _ h => h) rfl (by rfl) (by assumption) ?_ ?_; rotate_left; (intro w hSw; (try dsimp only at hSw); go_simp; try (with_reducible rfl)); simp only [List.setIfInBounds_toArray, List.set_cons_zero, List.set_cons_succ]
    refine tkD 13 62 (v := ?_) rfl (by kernel_rfl) (fun _ _ _ h => h) rfl (by rfl) (by assumption) ?_ ?_; rotate_left; (intro w hSw; (try dsimp only at hSw); go_simp; try (with_reducible rfl)); simp only [List.setIfInBounds_toArray, List.set_cons_zero, List.set_cons_succ]
    refine tkD 14 16 (v := ?_) rfl (by kernel_rfl) (fun _ _ _ h => h) rfl (by rfl) (by assumption) ?_ ?_; rotate_left; (intro w hSw; (try dsimp only at hSw); (try go_simp); try rfl)
    refine tkD 15 17 (v := ?_) rfl (by kernel_rfl) (fun _ _ _ h => h) rfl (by rfl) (by assumption) ?_ ?_; rotate_left; (intro w hSw; (try dsimp only at hSw); (try go_simp); try rfl)
    refine tkD 16 18 (v := ?_) rfl (by kernel_rfl) (fun _ _ _ h => h) rfl (by rfl) (by assumption) ?_ ?_; rotate_left; (intro w hSw; (try dsimp only at hSw); (try go_simp); try rfl)
    refine wpAnyH_done (by kernel_rfl) ?_ _
    have HBA := hid hBa
    clear s0 s1 kD hb8 hB8 hbs9 hb9 hB9 hba hBa
    go_wp2_with (go_at_call 10; (with_reducible refine (awake16_any _).mono ?_); rintro r wz ⟨rfl, hbz⟩)
    go_ret
    exact ⟨rfl, bt (bt HB3.out HBA.out (Nat.le_refl _)) hbz (Nat.le_refl _)⟩
end Go.Proofs.YtpkheiaanjhffaaGreat
