/-
  The walk of the law LinkEnds.
-/
import Derived.Test.YtoaajdbjlaffgaaMlc
import Derived.Test.YtoaajdbjlaffgaaMaw
import Derived.Test.YtoaajdbjlaffgaaRqm
import Derived.Test.YtoaajdbjlaffgaaMbase
namespace Go.Proofs.Ytoaajdbjlaffgaa
open Go.RowKit

theorem cellsEv : Try.prog.cellsOf 61 = 3 := by kernel_rfl
theorem cellsI : Try.prog.cellsOf 3 = 1 := by kernel_rfl
theorem cellsB : Try.prog.cellsOf 5 = 1 := by kernel_rfl
theorem listOf3 {α : Type} {l : List α} (h : l.length = 3) : ∃ a b c, l = [a, b, c] := by
  match l, h with
  | [a, b, c], _ => exact ⟨a, b, c, rfl⟩

/-- A row of events, element by element. -/
def EvAt (w : World) (a : Option Addr) (i : Nat) : Prop :=
  ∃ b o t v fl, a = some ⟨b, o, none⟩ ∧ w.cell? ⟨b, o + i * 3, none⟩ = some (.int .i64 t) ∧ w.cell? ⟨b, o + i * 3 + 1, none⟩ = some (.int .u8 v) ∧ w.cell? ⟨b, o + i * 3 + 2, none⟩ = some (.int .i64 fl) ∧ (Lit.int .i64 t).wf = true ∧ 0 ≤ v ∧ v ≤ 255
set_option maxRecDepth 100000 in
theorem evs_rd {w : World} {a : Option Addr} {len cap : Nat} (h : Rd Try.prog w 68 [.slice a len cap]) : len ≤ cap ∧ cap ≤ maxLen ∧ ∀ i, i < len → EvAt w a i := by
  rcases h.slice Try.underlying68 with h | ⟨ad, len', cap', h, hl, hm, hel⟩
  · cases h; exact ⟨Nat.le_refl _, Nat.zero_le _, fun i hi => by omega⟩
  · cases h
    refine ⟨hl, hm, fun i hi => ?_⟩
    obtain ⟨ds, hd, hcell, hr⟩ := hel i hi
    rw [cellsEv] at hd hcell
    obtain ⟨d0, d1, d2, rfl⟩ := listOf3 hd
    obtain ⟨_, hf⟩ := hr.struct Try.underlying61
    have f0 := hf _ (List.mem_cons_self ..)
    have f1 := hf _ (List.mem_cons_of_mem _ (List.mem_cons_self ..))
    have f2 := hf _ (List.mem_cons_of_mem _ (List.mem_cons_of_mem _ (List.mem_cons_self ..)))
    simp only [cellsI, cellsB, List.drop_zero, List.drop_succ_cons, List.take_succ_cons, List.take_zero] at f0 f1 f2
    obtain ⟨k, hk, wk⟩ := Rd.int Try.underlying3 f0
    obtain ⟨n, hn, wn⟩ := Rd.int Try.underlying5 f1
    obtain ⟨m, hm', wm⟩ := Rd.int Try.underlying3 f2
    simp only [List.cons.injEq, and_true] at hk hn hm'
    subst hk; subst hn; subst hm'
    have c0 := hcell 0 (by omega)
    have c1 := hcell 1 (by omega)
    have c2 := hcell 2 (by omega)
    have hs2 : ad = ⟨ad.block, ad.off, none⟩ := by
      obtain ⟨es, he, hcell0, _⟩ := hel 0 (by omega)
      rw [cellsEv] at he hcell0
      obtain ⟨e0, e1, e2, rfl⟩ := listOf3 he
      have h0 := hcell0 0 (by omega)
      exact spot_of (v := e0) (by simpa [Addr.add] using h0)
    have hv : 0 ≤ n ∧ n ≤ 255 := by
      have h1 : IntKind.u8.min ≤ n ∧ n ≤ IntKind.u8.max := by simpa [Lit.wf] using wn
      exact ⟨h1.1, h1.2⟩
    refine ⟨ad.block, ad.off, k, n, m, by rw [← hs2], ?_, ?_, ?_, wk, hv.1, hv.2⟩
    · rw [hs2, add_lit, add_lit] at c0; simpa using c0
    · rw [hs2, add_lit, add_lit] at c1; simpa [Nat.add_assoc] using c1
    · rw [hs2, add_lit, add_lit] at c2; simpa [Nat.add_assoc] using c2

/-- Where the law stands at the head of its round n. -/
def LeAt (w : World) (g ps : Nat) (b p R : Int) (F : List UInt8) (u f n : Nat) (wr : World) : Prop :=
  ∃ s, LkOk g u F s wr ∧ s.b = b ∧ s.p = p ∧ s.re = R ∧ s.cnt = f ∧ ((s.ph = 1 ∧ n ≤ 3 * f) ∨ (s.ph = 2 ∧ n + 2 ≤ 3 * f) ∨ (s.ph = 4 ∧ n + 1 ≤ 3 * f) ∨ (s.ph = 5 ∧ n ≤ 3 * f ∧ 1 ≤ f)) ∧ u ≤ 20 ∧ Below w.heap.size w wr ∧ w.heap.size ≤ ps ∧ ps < g ∧ wr.heap[ps]? = some (.cells #[.int .i64 b, .int .i64 p] 45)

theorem LeAt.start {w W1 w2 w3 w4 : World} {g ps : Nat} {b p R U : Int} {q : Rq} {fa : Option Addr} {fc : Nat} (hset : Okset b p) (j1 : 0 ≤ R) (j2 : R ≤ 5) (hb1 : Below w.heap.size w W1) (hb2 : Below W1.heap.size W1 w2) (hb3 : Below w2.heap.size w2 w3) (hps : w.heap.size ≤ ps) (hpg : W1.heap.size ≤ g) (hp1 : W1.heap[ps]? = some (.cells #[.int .i64 b, .int .i64 p] 45)) (hg2 : g < w2.heap.size)
    (hl : LkAt w4 g (Lk.begun (Lk.new b p R 3000 1000) (1 + U) q 0 fa (aduF (UInt8.ofNat (1 + U).toNat) q.pdu).length fc)) (hfr : Bs w4 (.slice fa (aduF (UInt8.ofNat (1 + U).toNat) q.pdu).length fc) (aduF (UInt8.ofNat (1 + U).toNat) q.pdu)) (hfa : ∀ ad, fa = some ad → w3.heap.size ≤ ad.block) (hk : Keeps (· = g) w3 w4) :
    LeAt w g ps b p R (aduF (UInt8.ofNat (1 + U).toNat) q.pdu) 0 0 0 w4 := by
  obtain ⟨pl1, pl2⟩ := Rq.pdu_len q
  have hal := aduF_length (UInt8.ofNat (1 + U).toNat) q.pdu
  obtain ⟨t1, t2, _, _, t5, t6⟩ := time_bd hset
  have hdr : drainT b 3000 1000 = 2 * t35T b + 3000 + 1000 + 257 * charT b := rfl
  have hb13 := bt hb1 (bt hb2 hb3 (Nat.le_refl _)) (Nat.le_refl _)
  have h23 := hb3.size
  have hp1' := hpLt hp1
  refine ⟨Lk.begun (Lk.new b p R 3000 1000) (1 + U) q 0 fa (aduF (UInt8.ofNat (1 + U).toNat) q.pdu).length fc, ?_, rfl, rfl, rfl, rfl, .inl ⟨rfl, by omega⟩, by omega, hb13.trans (hk.below hb13.size (fun k hk e => by have := hb1.size; have e' : k = g := e; omega)), hps, by omega, hpKeeps (hpKeep (hpKeep hp1 hb2) hb3) hk (fun e => by have e' : ps = g := e; omega)⟩
  exact
  { at_ := hl
    seen := ⟨[], ⟨World.ownsRow_nil _ _ _ _, rfl⟩, by simp, fun e => absurd e (by show ¬ (1 : Int) = 4; decide), by show (0 : Int) ≤ 0; decide, fun e => by rcases e with e | e <;> exact absurd e (by show ¬ (1 : Int) = _; decide)⟩
    fr := hfr
    fra := fun ad had => ⟨by have := hfa ad had; omega, hfr.blockLt (by intro h; rw [h] at hal; simp at hal) ad had, fun e => by cases e⟩
    flen := by omega
    set := hset
    ti1 := by show (0 : Int) ≤ 3000; decide
    ti2 := by show (3000 : Int) ≤ 5000; decide
    dr1 := by show 0 ≤ drainT b 3000 1000; omega
    dr2 := by show drainT b 3000 1000 ≤ _; omega
    re1 := j2
    cnt1 := by show (0 : Int) ≤ 0; decide
    cnt2 := by show (0 : Int) ≤ R + 1; omega
    ph1 := fun _ => j1
    ulim := by decide
    now1 := by show (0 : Int) ≤ 0; decide
    now2 := by show (0 : Int) ≤ _; unfold top; show (0 : Int) ≤ 10000000 * 0 + 100000 * ((0 : Nat) : Int); decide
    hear := fun e => by rcases e with e | e | e <;> exact absurd e (by show ¬ (1 : Int) = _; decide)
    rx := fun e => by rcases e with e | e <;> exact absurd e (by show ¬ (1 : Int) = _; decide)
    out := fun e => absurd e (by show ¬ (1 : Int) = 5; decide) }

/-- Where the law stands while it listens. -/
def LiAt (w : World) (g ps : Nat) (b p R : Int) (F : List UInt8) (u f n : Nat) (wr : World) : Prop :=
  ∃ s, LkOk g u F s wr ∧ s.b = b ∧ s.p = p ∧ s.re = R ∧ s.cnt = f ∧ s.hears ∧ n + 1 ≤ 3 * f ∧ (s.ph = 4 ∨ n + 2 ≤ 3 * f) ∧ u ≤ 20 ∧ Below w.heap.size w wr ∧ w.heap.size ≤ ps ∧ ps < g ∧ wr.heap[ps]? = some (.cells #[.int .i64 b, .int .i64 p] 45)

set_option maxRecDepth 100000 in
set_option maxHeartbeats 12800000 in
theorem Walk.linkEnds {w : World} (set : Int) (w0 : (Lit.int .i64 set).wf = true) (retries : Int) (w1 : (Lit.int .i64 retries).wf = true) (unit : Int) (w2 : (Lit.int .i64 unit).wf = true) (kind : Int) (w3 : (Lit.int .i64 kind).wf = true) (qa : Int) (w4 : (Lit.int .i64 qa).wf = true) (qb : Int) (w5 : (Lit.int .i64 qb).wf = true) (a : Option Addr) (len cap : Nat) (hr : Rd Try.prog w 68 [.slice a len cap]) :
    Calls Try.prog 5 #[.int .i64 set, .int .i64 retries, .int .i64 unit, .int .i64 kind, .int .i64 qa, .int .i64 qb, .slice a len cap] w fun r w' => r = .returned (.bool true) ∧ Below w.heap.size w w' := by
  obtain ⟨hlc, hcm, hev⟩ := evs_rd hr
  unfold maxLen at hcm
  have HEV := hid hev
  have i1 := Int.emod_nonneg set (show (24 : Int) ≠ 0 by decide)
  have i2 := Int.emod_lt_of_pos set (show 0 < (24 : Int) by decide)
  have j1 := Int.emod_nonneg retries (show (6 : Int) ≠ 0 by decide)
  have j2 := Int.emod_lt_of_pos retries (show 0 < (6 : Int) by decide)
  have k1 := Int.emod_nonneg unit (show (247 : Int) ≠ 0 by decide)
  have k2 := Int.emod_lt_of_pos unit (show 0 < (247 : Int) by decide)
  obtain ⟨I, hI⟩ : ∃ I : Nat, set % 24 = (I : Int) := ⟨(set % 24).toNat, by omega⟩
  obtain ⟨R, hR⟩ : ∃ R, retries % 6 = R := ⟨_, rfl⟩
  obtain ⟨U, hU⟩ : ∃ U, unit % 247 = U := ⟨_, rfl⟩
  have HM1 : Hid (∀ W, Calls Try.prog 10 #[.int .i64 set, .int .i64 24] W fun r w' => r = .returned (.int .i64 (I : Int)) ∧ W = w') := fun W => by rw [← hI]; exact mod_any set 24 (by decide) (by decide) w0 W
  have HM2 : Hid (∀ W, Calls Try.prog 10 #[.int .i64 retries, .int .i64 6] W fun r w' => r = .returned (.int .i64 R) ∧ W = w') := fun W => by rw [← hR]; exact mod_any retries 6 (by decide) (by decide) w1 W
  have HM3 : Hid (∀ W, Calls Try.prog 10 #[.int .i64 unit, .int .i64 247] W fun r w' => r = .returned (.int .i64 U) ∧ W = w') := fun W => by rw [← hU]; exact mod_any unit 247 (by decide) (by decide) w2 W
  have HMK := hid (fun W => make_any kind qa qb w3 w4 w5 W)
  rw [hI] at i1 i2
  rw [hR] at j1 j2
  rw [hU] at k1 k2
  have hI24 : I < 24 := by omega
  obtain ⟨⟨b, p⟩, hgx⟩ : ∃ x, allS[I]? = some x := ⟨_, List.getElem?_eq_getElem (show I < allS.length by rw [allS_len]; exact hI24)⟩
  have HSET := hid (allS_ok (List.mem_of_getElem? hgx))
  have HGX := hid hgx
  have HRQ := hid (mkRq_ok kind qa qb)
  generalize mkRq kind qa qb = Q at *
  obtain ⟨qf, qad, qq, qc, qo⟩ := Q
  clear hev hI hR hU w0 w1 w2 w3 w4 w5 hgx hr
  go_enter Try.func5, Try.ntmps5
  go_wp2_with fail
  refine (rall_any _).mono ?_
  rintro r wA ⟨v, rfl, hown, hbA⟩
  obtain ⟨ga, ca, rfl, hnc, hcm2, hel⟩ := own_setting hown (by decide)
  obtain ⟨x0, x1⟩ := hel I (b, p) HGX.out
  unfold maxLen at hcm2
  have hbA' := hid hbA
  clear hel hown hbA
  go_wp2_with (first | (go_at_call 10; (with_reducible refine (HM1.out _).mono ?_); rintro r w2 ⟨rfl, rfl⟩) | (go_at_call 10; (with_reducible refine (HM2.out _).mono ?_); rintro r w2 ⟨rfl, rfl⟩) | (go_at_call 10; (with_reducible refine (HM3.out _).mono ?_); rintro r w2 ⟨rfl, rfl⟩))
  obtain ⟨W1, hW1⟩ : ∃ W, W = wA.alloc (.cells #[.int .i64 b, .int .i64 p] 45) := ⟨_, rfl⟩
  rw [← hW1]
  have hb1 : Below w.heap.size w W1 := by rw [hW1]; exact bta hbA'.out (Nat.le_refl _) _
  have p1 : W1.heap[wA.heap.size]? = some (.cells #[.int .i64 b, .int .i64 p] 45) := by rw [hW1]; exact hpNew _ _
  have hwA : w.heap.size ≤ wA.heap.size := hbA'.out.size
  obtain ⟨ps, hps⟩ : ∃ ps, ps = wA.heap.size := ⟨_, rfl⟩
  rw [← hps] at p1 hwA ⊢
  have HNEW := hid (lknew_ok b p R 3000 1000 HSET j1 (by omega) (by decide) (by decide) (by decide) (by decide) W1)
  have HB1 := hid hb1
  have HP1 := hid p1
  have hlt1 := hpLt p1
  clear hW1 hps p1 hb1 x0 x1 hbA'
  refine HNEW.out.mono ?_
  rintro r w2 ⟨g, rfl, hg, hl2, hb2⟩
  have HL2 := hid hl2
  have HBEG := hid (fun W h => lkbegin_ok g (Lk.new b p R 3000 1000) (1 + U) qf qad qq qc qo 0 W (hl2.keep h) (.inl rfl) (by omega) (by omega) (by show (0 : Int) ≤ 0; decide) (by decide) HRQ.out)
  clear hl2
  go_wp2_with (go_at_call 11; (with_reducible refine (HMK.out _).mono ?_); rintro r w3 ⟨rfl, hb3⟩)
  refine (HBEG.out _ hb3).mono ?_
  rintro r w4 ⟨fa, fc, rfl, hl4, hfr4, hfa4, hk4⟩
  have hstart : LeAt w g ps b p R (aduF (UInt8.ofNat (1 + U).toNat) (Rq.pdu ⟨qf, qad, qq, qc, qo⟩)) 0 0 0 w4 := LeAt.start HSET.out j1 (by omega) HB1.out hb2 hb3 hwA hg HP1.out HL2.out.lt hl4 hfr4 hfa4 hk4
  have HST := hid hstart
  clear hl4 hfr4 hfa4 hk4 hstart HBEG HNEW
  generalize aduF (UInt8.ofNat (1 + U).toNat) (Rq.pdu ⟨qf, qad, qq, qc, qo⟩) = F at *
  go_wp2
  go_loopw [18, 19, 20] (fun s18 s19 s20 wr => ∃ u f n : Nat, s18 = .int .i64 u ∧ s19 = .int .i64 f ∧ s20 = .int .i64 n ∧ Hid (LeAt w g ps b p R F u f n wr) ∧ n ≤ 19) (fun _ _ s20 _ => 20 - (intOf s20).toNat)
  case atStart => exact ⟨0, 0, 0, rfl, rfl, rfl, HST.out, by omega⟩
  case round =>
    obtain ⟨u, f, n, rfl, rfl, rfl, hrel, hn19⟩ := hrel
    obtain ⟨s, hok, hb, hp, hre, hcnt, hst, hu, hbel, hps1, hps2, hpsc⟩ := hrel.out
    have hc2 := hok.cnt2
    have hf6 : f ≤ 6 := by omega
    have hn18 : n ≤ 18 := by omega
    have d0 : decide ((n : Int) < 4 * (R + 1) + 1) = true := decide_eq_true (by omega)
    have HOK := hid hok
    have HBEL := hid hbel
    have HPS := hid hpsc
    have hsz := hbel.size
    have hgr := hok.at_.lt
    have HEQ := hid (show s.b = b ∧ s.p = p ∧ s.re = R ∧ s.cnt = f from ⟨hb, hp, hre, hcnt⟩)
    have hfR : (f : Int) ≤ R + 1 := by omega
    clear hrel hok hbel hpsc hb hp hre hcnt HST
    replace hst : (s.ph = 1 ∧ n ≤ 3 * f) ∨ (s.hears ∧ n + 1 ≤ 3 * f ∧ (s.ph = 4 ∨ n + 2 ≤ 3 * f)) ∨ (s.ph = 5 ∧ n ≤ 3 * f ∧ 1 ≤ f) := by
      rcases hst with h | ⟨h, hn⟩ | ⟨h, hn⟩ | h
      · exact .inl h
      · exact .inr (.inl ⟨.inl h, by omega, .inr hn⟩)
      · exact .inr (.inl ⟨.inr (.inr h), hn, .inl h⟩)
      · exact .inr (.inr h)
    rcases hst with ⟨h1, hn⟩ | ⟨h1, hn, hn2⟩ | ⟨h1, hn, hf1⟩
    · have HAC := hid (action_send g s F wr HOK.out.at_ h1 HOK.out.fr (by have := HOK.out.flen; omega))
      have HSE : Hid (∀ W, Below wr.heap.size wr W → Calls Try.prog 22 #[.pointer (some ⟨g, 0, none⟩), .int .i64 (s.now + frameT b F.length)] W (ESent g u F s W)) := fun W hW => by have h := esent (HOK.out.below hW) h1; rw [HEQ.out.1] at h; exact h
      have HFR : Hid (∀ W, Calls Try.prog 21 #[.agg #[.int .i64 b, .int .i64 p], .int .i64 (F.length : Int)] W fun r w' => r = .returned (.int .i64 (frameT b F.length)) ∧ Below W.heap.size W w') := fun W => rframe_ok b p HSET F.length HOK.out.flen W
      have hfb := frameT_bd HSET.out HOK.out.flen
      have hnw1 := HOK.out.now1
      have hnw2 : s.now ≤ 80000000 := by have h1 := HOK.out.now2; have h2 : top s u ≤ 80000000 := top_max (by have := HEQ.out.2.2.2; omega) (by omega); omega
      have s1 : IntKind.i64.wrap (s.now + frameT b F.length) = s.now + frameT b F.length := IntWalk.i64_in _ (by omega)
      have hcR := HOK.out.ph1 h1
      have hfl := HOK.out.flen
      obtain ⟨N, hN⟩ : ∃ N, F.length = N := ⟨_, rfl⟩
      rw [hN] at HSE HFR s1 hfb hfl
      replace HAC : Hid (Calls Try.prog 20 #[.pointer (some ⟨g, 0, none⟩)] wr (fun r w' => ∃ a c, r = .returned (.agg #[.int .i64 1, .int .i64 s.now, .slice a N c]) ∧ Below wr.heap.size wr w')) := HAC.out.mono (by rintro r w' ⟨a, c, rfl, _, hb⟩; rw [hN]; exact ⟨a, c, rfl, hb⟩)
      generalize frameT b N = FT at *
      clear hN hfb
      go_wp2_with fail
      refine HAC.out.mono ?_
      rintro r w5 ⟨a5, c5, rfl, hb5⟩
      obtain ⟨W6, hW6⟩ : ∃ W, W = w5.alloc (.cells #[.int .i64 1, .int .i64 s.now, .slice a5 N c5] 54) := ⟨_, rfl⟩
      obtain ⟨A, hA⟩ : ∃ A, A = Obj.cells #[.int .i64 1, .int .i64 s.now, .slice a5 N c5] 54 (0, 0) := ⟨_, rfl⟩
      obtain ⟨B, hB⟩ : ∃ B, B = Obj.cells #[.int .i64 b, .int .i64 p] 45 (0, 0) := ⟨_, rfl⟩
      have hb6 : Below wr.heap.size wr W6 := by rw [hW6]; exact bta hb5 (Nat.le_refl _) _
      have kS : ChS w5.heap.size ps A B W6 := ⟨by rw [hW6, hA]; exact hpNew _ _, by rw [hB]; exact hpKeep HPS.out hb6⟩
      have kD : ChS w5.heap.size ps A B W6.drew := kS
      have q0 : W6.cell? ⟨w5.heap.size, 0, none⟩ = some (.int .i64 1) := by have h := kS.1; rw [hA] at h; exact hpCell h 0
      have z1 : ∀ W, ChS w5.heap.size ps A B W → W.cell? ⟨w5.heap.size, 1, none⟩ = some (.int .i64 s.now) := fun W h => by have h := h.1; rw [hA] at h; exact hpCell h 1
      have z2 : ∀ W, ChS w5.heap.size ps A B W → W.cell? ⟨w5.heap.size, 2, none⟩ = some (.slice a5 N c5) := fun W h => by have h := h.1; rw [hA] at h; exact hpCell h 2
      have z3 : ∀ W, ChS w5.heap.size ps A B W → W.cell? ⟨ps, 0, none⟩ = some (.int .i64 b) := fun W h => by have h := h.2; rw [hB] at h; exact hpCell h 0
      have z4 : ∀ W, ChS w5.heap.size ps A B W → W.cell? ⟨ps, 1, none⟩ = some (.int .i64 p) := fun W h => by have h := h.2; rw [hB] at h; exact hpCell h 1
      have hw5 := hb5.size
      have HW6 := hid hW6
      have hbD : Below wr.heap.size wr W6.drew := hb6.drew
      have HB := hid hB
      have HS6 : Hid (∀ w6, Below W6.drew.heap.size W6.drew w6 → ChS w5.heap.size ps A B w6) := fun w6 h => ⟨hpKeep kD.1 h, hpKeep kD.2 h⟩
      have HS7 : Hid (∀ w6 w7, ChS w5.heap.size ps A B w6 → Keeps (· = g) w6 w7 → ChS w5.heap.size ps A B w7) := fun w6 w7 h hk => h.keeps hk (fun e => by have e' : w5.heap.size = g := e; omega) (fun e => by have e' : ps = g := e; omega)
      clear hW6 hA hB kS HAC hb5
      go_upto_region 15 with (fail)
      rw [← HW6.out]
      go_region_held3 (fun W => ChS w5.heap.size ps A B W) ((with_reducible (first | exact kD | exact hS6 | exact hS7))) (first | (go_at_call 21; (with_reducible refine (HFR.out _).mono ?_); rintro r w6 ⟨rfl, hb6'⟩; have hS6 := HS6.out _ hb6'; have hB6 := bt hbD hb6' (Nat.le_refl _)) | (go_at_call 22; (with_reducible refine (HSE.out _ hB6).mono ?_); rintro r w7 ⟨s7, rfl, hok7, hlike7, hph7, hcnt7, hk7⟩; have hS7 := HS7.out _ _ hS6 hk7))
      all_goals
        have HL : Hid (LeAt w g ps b p R F u (f + 1) (n + 1) w7) := by
          have hw6 := bt HBEL.out hB6 (Nat.le_refl _)
          refine ⟨s7, hok7, by rw [hlike7.b]; exact HEQ.out.1, by rw [hlike7.p]; exact HEQ.out.2.1, by rw [hlike7.re]; exact HEQ.out.2.2.1, by rw [hcnt7, HEQ.out.2.2.2]; omega, .inr (.inl ⟨hph7, by omega⟩), hu, hw6.trans (hk7.below hw6.size (fun k hk e => by have e' : k = g := e; omega)), hps1, hps2, ?_⟩
          have h := hS7.2
          rw [HB.out] at h
          exact h
        clear z1 z2 z3 z4 q0 kD hS6 hS7 hB6 hbD hok7 hlike7 hph7 hcnt7 hk7
        go_wp2
        go_roundw
        case rel => exact ⟨u, f + 1, n + 1, rfl, by go_num, by go_num, HL.out, by omega⟩
        case measure => simp [intOf]; omega
    · have HAC := hid (action_listen g s wr HOK.out.at_ h1)
      have HLI : Hid (∀ W, Below wr.heap.size wr W → LiAt w g ps b p R F u f n W) := fun W hW => ⟨s, HOK.out.below hW, HEQ.out.1, HEQ.out.2.1, HEQ.out.2.2.1, HEQ.out.2.2.2, h1, hn, hn2, hu, bt HBEL.out hW (Nat.le_refl _), hps1, hps2, hpKeep HPS.out hW⟩
      clear h1 hn2
      go_wp2_with fail
      refine HAC.out.mono ?_
      rintro r w5 ⟨rfl, hb5⟩
      have hLS := hid (HLI.out (w5.alloc (.cells #[.int .i64 2, .int .i64 s.til, .slice none 0 0] 54)) (bta hb5 (Nat.le_refl _) _))
      clear HAC HLI hb5
      go_wp2
      go_loopw [18, 24] (fun s18 s24 wr2 => ∃ u2 c : Nat, s18 = .int .i64 u2 ∧ s24 = .int .i64 c ∧ c ≤ 4 ∧ Hid (LiAt w g ps b p R F u2 f n wr2)) (fun _ s24 _ => 4 - (intOf s24).toNat)
      case atStart => exact ⟨u, 0, rfl, rfl, by omega, hLS.out⟩
      case round =>
        clear hLS HOK HBEL HPS HEQ
        obtain ⟨u2, c, rfl, rfl, hc4, hli⟩ := hrel
        by_cases hgo : c < 4 ∧ u2 < len ∧ u2 < 20
        · obtain ⟨hc, hul, hu20⟩ := hgo
          obtain ⟨s2, hok, hb, hp, hre, hcnt, hh, hn1, hn3, _, hbel, _, _, hpsc⟩ := hli.out
          obtain ⟨b', o, t, v, fl, rfl, e0, e1, e2, wt, hv1, hv2⟩ := HEV.out u2 hul
          replace e0 := cell_keep (hbel.mono (Nat.le_refl _)) e0
          replace e1 := cell_keep (hbel.mono (Nat.le_refl _)) e1
          replace e2 := cell_keep (hbel.mono (Nat.le_refl _)) e2
          have q1 := Int.emod_nonneg t (show (2000 : Int) ≠ 0 by decide)
          have q2 := Int.emod_lt_of_pos t (show 0 < (2000 : Int) by decide)
          have htl := (hok.hear hh).2.2
          have htp : top s2 u2 ≤ 80000000 := top_max (by omega) (by omega)
          have HAC2 : Hid (∀ W, Below wr.heap.size wr W → Calls Try.prog 20 #[.pointer (some ⟨g, 0, none⟩)] W fun r w' => r = .returned (.agg #[.int .i64 2, .int .i64 s2.til, .slice none 0 0]) ∧ Below W.heap.size W w') := fun W hW => action_listen g s2 W (hok.at_.keep hW) hh
          have HMD := hid (fun W => mod_any t 2000 (by decide) (by decide) wt W)
          obtain ⟨M, hM⟩ : ∃ M, t % 2000 = M := ⟨_, rfl⟩
          rw [hM] at HMD q1 q2
          have HCH : Hid (∀ W, Below wr.heap.size wr W → Calls Try.prog 25 #[.pointer (some ⟨g, 0, none⟩), .agg #[.int .i64 (s2.til - M), .int .u8 v, .int .i64 fl]] W (EChar g u2 F s2 W)) := fun W hW => by
            have h := echar (hok.below hW) hh (by omega) (s2.til - M) (byteI v) fl
            rw [byteI_val hv1 hv2] at h
            exact h
          have s1 : IntKind.i64.wrap (s2.til - M) = s2.til - M := IntWalk.i64_in _ (by omega)
          have HH := hid (show s2.b = b ∧ s2.p = p ∧ s2.re = R ∧ s2.cnt = f from ⟨hb, hp, hre, hcnt⟩)
          have HB2 := hid hbel
          have HPS := hid hpsc
          have hc' : (c : Int) < 4 := by omega
          have hul' : (u2 : Int) < (len : Int) := by omega
          have hu20' : (u2 : Int) < 20 := by omega
          have hsw := hbel.size
          have hgw := hok.at_.lt
          clear hli hok hb hp hre hcnt hh hbel hpsc wt hM htl htp
          go_upto_region 23 with (fail)
          obtain ⟨W6, hW6⟩ : ∃ W, W = wr.alloc (.cells #[.int .i64 t, .int .u8 v, .int .i64 fl] 61) := ⟨_, rfl⟩
          rw [← hW6]
          have hb6 : Below wr.heap.size wr W6 := by rw [hW6]; exact bal' _ _
          have p6 : W6.heap[wr.heap.size]? = some (.cells #[.int .i64 t, .int .u8 v, .int .i64 fl] 61) := by rw [hW6]; exact hpNew _ _
          have y0 : W6.cell? ⟨wr.heap.size, 0, none⟩ = some (.int .i64 t) := hpCell p6 0
          have HAC3 := hid (HAC2.out W6.drew hb6.drew)
          have hfd : ∀ W, (Instr.field 54 (.agg #[.int .i64 2, .int .i64 s2.til, .slice none 0 0]) 1).run Try.prog W = .ok (.int .i64 s2.til) W := fun W => by first | rfl | kernel_rfl
          clear hW6 HAC2 e0 e1 e2
          go_region_with (first | (go_at_call 20; (with_reducible refine HAC3.out.mono ?_); rintro r w7 ⟨rfl, hb7⟩; have g7 := hpKeep (show W6.drew.heap[wr.heap.size]? = _ from p6) hb7; have x7 := hpCell g7 0; have f7 := hpFree g7 0) | (go_at_call 10; (with_reducible refine (HMD.out _).mono ?_); rintro r w8 ⟨rfl, rfl⟩))
          all_goals
            obtain ⟨W8, hW8⟩ : ∃ W, W = w7.setCell ⟨wr.heap.size, 0, none⟩ (.int .i64 (s2.til - M)) := ⟨_, rfl⟩
            rw [← hW8]
            have p8 : W8.heap[wr.heap.size]? = some (.cells #[.int .i64 (s2.til - M), .int .u8 v, .int .i64 fl] 61) := by rw [hW8]; exact hpSetE g7 rfl
            have hb8 : Below wr.heap.size wr W8 := by rw [hW8]; exact (bt hb6.drew hb7 (Nat.le_refl _)).setCell (p := ⟨wr.heap.size, 0, none⟩) (Nat.le_refl _) _
            have r0 : W8.cell? ⟨wr.heap.size, 0, none⟩ = some (.int .i64 (s2.til - M)) := hpCell p8 0
            have r1 : W8.cell? ⟨wr.heap.size, 1, none⟩ = some (.int .u8 v) := hpCell p8 1
            have r2 : W8.cell? ⟨wr.heap.size, 2, none⟩ = some (.int .i64 fl) := hpCell p8 2
            have HCH8 := hid (HCH.out W8 hb8)
            have HB8 := hid hb8
            clear hW8 p8 hb8 hb7 g7 x7 f7 y0 hb6 p6 hfd s1 HAC3 HMD
            go_wp2_with fail
            refine HCH8.out.mono ?_
            rintro r w9 ⟨er, s3, rfl, hok3, hlike, hcnt3, hh3, h4, hb9⟩
            have HLI : Hid (LiAt w g ps b p R F (u2 + 1) f n w9) := by
              have hwg : w.heap.size ≤ g := by omega
              refine ⟨s3, hok3, by rw [hlike.b]; exact HH.out.1, by rw [hlike.p]; exact HH.out.2.1, by rw [hlike.re]; exact HH.out.2.2.1, by rw [hcnt3]; exact HH.out.2.2.2, hh3, hn1, hn3.imp h4 id, by omega, (bt HB2.out HB8.out (Nat.le_refl _)).trans (hb9.mono hwg), hps1, hps2, ?_⟩
              rw [hb9.block _ hps2]
              exact hpKeep HPS.out HB8.out
            clear r0 r1 r2 hok3 hlike hcnt3 hh3 h4 hb9 HCH HCH8 HB8
            go_wp2
            go_roundw
            case rel => exact ⟨u2 + 1, c + 1, by go_num, by go_num, by omega, HLI.out⟩
            case measure => simp [intOf]; omega
        · obtain ⟨s2, hok, hb, hp, hre, hcnt, hh, hn1, hn3, hu2, hbel, _, _, hpsc⟩ := hli.out
          have HSI := hid (esilence hok hh)
          have HH := hid (show s2.b = b ∧ s2.p = p ∧ s2.re = R ∧ s2.cnt = f from ⟨hb, hp, hre, hcnt⟩)
          have HB2 := hid hbel
          have HPS := hid hpsc
          have hgw : w.heap.size ≤ g := by omega
          have HFIN : Hid (∀ r w', ESil g u2 F s2 wr r w' → r = .returned (.int .i64 0) ∧ LeAt w g ps b p R F u2 f (n + 1) w') := by
            rintro r w' ⟨s3, rfl, hok3, hlike, hcnt3, h4, h5, hb3⟩
            refine ⟨rfl, s3, hok3, by rw [hlike.b]; exact HH.out.1, by rw [hlike.p]; exact HH.out.2.1, by rw [hlike.re]; exact HH.out.2.2.1, by rw [hcnt3]; exact HH.out.2.2.2, ?_, hu2, HB2.out.trans (hb3.mono hgw), hps1, hps2, ?_⟩
            · by_cases hp4 : s2.ph = 4
              · rcases h4 hp4 with h | h
                · exact .inl ⟨h, by omega⟩
                · exact .inr (.inr (.inr ⟨h, by omega, by omega⟩))
              · have hn3' : n + 2 ≤ 3 * f := by rcases hn3 with h | h; exact absurd h hp4; exact h
                rcases h5 hp4 with h | h
                · exact .inr (.inr (.inl ⟨h, by omega⟩))
                · exact .inr (.inr (.inr ⟨h, by omega, by omega⟩))
            · rw [hb3.block _ hps2]; exact HPS.out
          have hcs : (decide ((c : Int) < 4) = false) ∨ (decide ((c : Int) < 4) = true ∧ decide ((u2 : Int) < (len : Int)) = false ∧ decide (u2 < len) = false) ∨ (decide ((c : Int) < 4) = true ∧ decide ((u2 : Int) < (len : Int)) = true ∧ decide (u2 < len) = true ∧ decide ((u2 : Int) < 20) = false) := by
            by_cases h1 : c < 4
            · by_cases h2 : u2 < len
              · exact .inr (.inr ⟨decide_eq_true (by omega), decide_eq_true (by omega), decide_eq_true h2, decide_eq_false (by omega)⟩)
              · exact .inr (.inl ⟨decide_eq_true (by omega), decide_eq_false (by omega), decide_eq_false h2⟩)
            · exact .inl (decide_eq_false (by omega))
          clear hli hok hb hp hre hcnt hh hbel hpsc hgo
          rcases hcs with d1 | ⟨d1, d2, d3⟩ | ⟨d1, d2, d3, d4⟩
          all_goals
            go_wp2_with fail
            refine HSI.out.mono ?_
            intro r w6 h6
            obtain ⟨rfl, hle⟩ := HFIN.out r w6 h6
            have HLE := hid hle
            clear hle h6
            go_wp2
            go_roundw
            case rel => exact ⟨u2, f, n + 1, rfl, rfl, by go_num, HLE.out, by omega⟩
            case measure => simp [intOf]; omega
    · have HAC := hid (action_done g s wr HOK.out.at_ h1)
      have HO : Hid (∀ W, Below wr.heap.size wr W → Calls Try.prog 27 #[.pointer (some ⟨g, 0, none⟩)] W (OutPost W s.o)) := fun W hW => outcome_done g s W (HOK.out.at_.keep hW) h1 ((HOK.out.below hW).out h1)
      have HAT : Hid (∀ W, Below wr.heap.size wr W → Calls Try.prog 29 #[.pointer (some ⟨g, 0, none⟩)] W fun r w' => r = .returned (.int .i64 (f : Int)) ∧ W = w') := fun W hW => by have h := attempts_any g s W (HOK.out.at_.keep hW); rw [HEQ.out.2.2.2] at h; exact h
      have d1 : decide ((f : Int) ≤ R + 1) = true := decide_eq_true hfR
      have d2 : decide (1 ≤ (f : Int)) = true := decide_eq_true (by omega)
      clear h1
      go_wp2_with fail
      refine HAC.out.mono ?_
      rintro r w5 ⟨rfl, hb5⟩
      have hbA5 : ∀ X, Below wr.heap.size wr (w5.alloc X) := fun X => bta hb5 (Nat.le_refl _) X
      have HO5 := hid (HO.out _ (hbA5 (.cells #[.int .i64 3, .int .i64 0, .slice none 0 0] 54)))
      go_wp2_with fail
      refine HO5.out.mono ?_
      rintro r w6 ⟨da, dc, oa, oc, rfl, _, hb6⟩
      have hbA6 : ∀ X, Below wr.heap.size wr (w6.alloc X) := fun X => bta (bt (hbA5 _) hb6 (Nat.le_refl _)) (Nat.le_refl _) X
      clear HO HO5 HAC
      go_wp2_with fail
      refine (lkawake_any _).mono ?_
      rintro r w7 ⟨rfl, hb7⟩
      have hbr7 := bt (hbA6 _) hb7 (Nat.le_refl _)
      go_wp2_with fail
      refine (HAT.out _ hbr7).mono ?_
      rintro r w8 ⟨rfl, rfl⟩
      go_wp2
      go_ret
      exact ⟨rfl, bt HBEL.out hbr7 (Nat.le_refl _)⟩

end Go.Proofs.Ytoaajdbjlaffgaa
