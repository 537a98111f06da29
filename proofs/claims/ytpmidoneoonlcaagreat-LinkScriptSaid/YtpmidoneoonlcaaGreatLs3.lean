/-
  The walk of the law LinkScript.
-/
import Derived.Test.YtpmidoneoonlcaaGreatLs2
import Derived.Deep.CutBlock
namespace Go.Proofs.YtpmidoneoonlcaaGreat
open Go.RowKit

/-- Where the law stands at the head of its round n. -/
def LsAt (w : World) (gP gR n : Nat) (A : Int) (wr : World) : Prop :=
  ∃ (P R : Nat → Prop) (x : Tx) (sP : Lk) (sR : Rk), LsIn w gP gR n P R x sP sR wr ∧ -1 ≤ A ∧ A ≤ tb n

theorem LsAt.start {w W1 w2 w3 : World} {gP gR : Nat} {b p re ti de : Int} (hset : Okset b p) (h1 : 0 ≤ re) (h2 : re ≤ 5) (h3 : 1 ≤ ti) (h4 : ti ≤ 5000000) (h5 : 0 ≤ de) (h6 : de ≤ 5000000) (hb1 : Below w.heap.size w W1) (hg : W1.heap.size ≤ gP) (hl : LkAt w2 gP (Lk.new b p re ti de)) (hb2 : Below W1.heap.size W1 w2) (hgR : w2.heap.size ≤ gR) (hr : RkAt w3 gR (Rk.new b p re ti de)) (hb3 : Below w2.heap.size w2 w3) : LsAt w gP gR 0 0 w3 := by
  have s1 := hb1.size
  have s2 := hb2.size
  refine ⟨Grow (fun _ => False) W1 w2, Grow (fun _ => False) w2 w3, Tx.new b p re ti de, Lk.new b p re ti de, Rk.new b p re ti de, ?_, by decide, by unfold tb; omega⟩
  exact
  { pk := (PK.new hset h1 h2 h3 h4 h5 h6 hl hg).keeps (Q := fun _ => False) (Keeps.of_below hb3) (fun _ _ f => f)
    rm := RM.new hset h1 h2 h3 h4 h5 h6 hr hgR
    dis := fun j hj hj2 => by
      rcases hj with hj | hj
      · exact hj
      · rcases hj2 with hj2 | hj2
        · exact hj2
        · omega
    pb := fun j hj => by
      rcases hj with hj | hj
      · exact hj.elim
      · omega
    rb := fun j hj => by
      rcases hj with hj | hj
      · exact hj.elim
      · omega
    bel := bt hb1 (bt hb2 hb3 (Nat.le_refl _)) (Nat.le_refl _) }

theorem LsAt.below {w : World} {gP gR n : Nat} {A : Int} {wr W : World} (h : LsAt w gP gR n A wr) (hb : Below wr.heap.size wr W) : LsAt w gP gR n A W := by
  obtain ⟨P, R, x, sP, sR, h1, h2⟩ := h
  exact ⟨P, R, x, sP, sR, h1.below hb, h2⟩
theorem LsAt.bel {w : World} {gP gR n : Nat} {A : Int} {wr : World} (h : LsAt w gP gR n A wr) : Below w.heap.size w wr := by
  obtain ⟨P, R, x, sP, sR, h1, h2⟩ := h
  exact h1.bel

/-- Behind the copies of an operation and of its request. -/
def OpMid (wr : World) (o : Sop) (q : Rq) (wc : World) : Prop :=
  wc.heap[wr.heap.size]? = some (.cells #[.int .i64 o.kd, .int .i64 o.un, .int .i64 o.fn, .int .i64 o.a, .int .i64 o.b, .int .i64 o.gp, .int .i64 o.xt, .int .u8 (o.xv.toNat : Int), .int .i64 o.xf, .bool o.raw, .int .i64 o.q.fn, .int .i64 o.q.addr, .int .i64 o.q.qty, .int .i64 o.q.code, .int .i64 o.q.obj] 41) ∧ wc.heap[wr.heap.size + 1]? = some (.cells #[.int .i64 q.fn, .int .i64 q.addr, .int .i64 q.qty, .int .i64 q.code, .int .i64 q.obj] 39) ∧ Below wr.heap.size wr wc

/-- The copies stand. -/
def BgCore (b1 : Nat) (o : Sop) (q : Rq) (W : World) : Prop := W.heap[b1]? = some (.cells #[.int .i64 o.kd, .int .i64 o.un, .int .i64 o.fn, .int .i64 o.a, .int .i64 o.b, .int .i64 o.gp, .int .i64 o.xt, .int .u8 (o.xv.toNat : Int), .int .i64 o.xf, .bool o.raw, .int .i64 o.q.fn, .int .i64 o.q.addr, .int .i64 o.q.qty, .int .i64 o.q.code, .int .i64 o.q.obj] 41) ∧ W.heap[b1 + 1]? = some (.cells #[.int .i64 q.fn, .int .i64 q.addr, .int .i64 q.qty, .int .i64 q.code, .int .i64 q.obj] 39)
theorem BgCore.keeps {b1 : Nat} {o : Sop} {q : Rq} {W W' : World} {F : Nat → Prop} (h : BgCore b1 o q W) (hk : Keeps F W W') (h1 : ¬ F b1) (h2 : ¬ F (b1 + 1)) : BgCore b1 o q W' := ⟨hpKeeps h.1 hk h1, hpKeeps h.2 hk h2⟩

set_option maxRecDepth 100000 in
set_option maxHeartbeats 12800000 in
theorem Walk.linkScript {w : World} (set : Int) (w0 : (Lit.int .i64 set).wf = true) (re : Int) (_w1 : (Lit.int .i64 re).wf = true) (ti : Int) (_w2 : (Lit.int .i64 ti).wf = true) (de : Int) (_w3 : (Lit.int .i64 de).wf = true) (a : Option Addr) (len cap : Nat) (hr : Rd Tryz.prog w 22 [.slice a len cap]) :
    Calls Tryz.prog 3 #[.int .i64 set, .int .i64 re, .int .i64 ti, .int .i64 de, .slice a len cap] w fun r w' => r = .returned (.bool true) ∧ Below w.heap.size w w' := by
  obtain ⟨hlc, hcm, hop⟩ := ops_rd hr
  unfold maxLen at hcm
  have HOP := hid hop
  have i1 := Int.emod_nonneg set (show (24 : Int) ≠ 0 by decide)
  have i2 := Int.emod_lt_of_pos set (show 0 < (24 : Int) by decide)
  obtain ⟨I, hI⟩ : ∃ I : Nat, set % 24 = (I : Int) := ⟨(set % 24).toNat, by omega⟩
  have HM1 : Hid (∀ W, Calls Tryz.prog 5 #[.int .i64 set, .int .i64 24] W fun r w' => r = .returned (.int .i64 (I : Int)) ∧ W = w') := fun W => by rw [← hI]; exact mod_any set 24 (by decide) (by decide) w0 W
  rw [hI] at i1 i2
  have hI24 : I < 24 := by omega
  obtain ⟨⟨b, p⟩, hgx⟩ : ∃ x, allS[I]? = some x := ⟨_, List.getElem?_eq_getElem (show I < allS.length by rw [allS_len]; exact hI24)⟩
  have HSET := hid (allS_ok (List.mem_of_getElem? hgx))
  have HGX := hid hgx
  clear hop hI w0 hgx hr
  go_enter Tryz.func3, Tryz.ntmps3
  go_wp2_with fail
  refine (rall_any _).mono ?_
  rintro r wA ⟨v, rfl, hown, hbA⟩
  obtain ⟨ga, ca, rfl, hnc, hcm2, hel⟩ := own_setting hown (by decide)
  obtain ⟨x0, x1⟩ := hel I (b, p) HGX.out
  unfold maxLen at hcm2
  have hbA' := hid hbA
  clear hel hown hbA
  go_wp2_with (go_at_call 5; (with_reducible refine (HM1.out _).mono ?_); rintro r w2 ⟨rfl, rfl⟩)
  obtain ⟨W1, hW1⟩ : ∃ W, W = wA.alloc (.cells #[.int .i64 b, .int .i64 p] 24) := ⟨_, rfl⟩
  rw [← hW1]
  have hb1 : Below w.heap.size w W1 := by rw [hW1]; exact bta hbA'.out (Nat.le_refl _) _
  have p1 : W1.heap[wA.heap.size]? = some (.cells #[.int .i64 b, .int .i64 p] 24) := by rw [hW1]; exact hpNew _ _
  have hwA : w.heap.size ≤ wA.heap.size := hbA'.out.size
  obtain ⟨ps, hps⟩ : ∃ ps, ps = wA.heap.size := ⟨_, rfl⟩
  rw [← hps] at p1 hwA ⊢
  have HB1 := hid hb1
  have HP1 := hid p1
  have y0 : ∀ W, Below W1.heap.size W1 W → W.cell? ⟨ps, 0, none⟩ = some (.int .i64 b) := fun W h => hpCell (hpKeep p1 h) 0
  have y1 : ∀ W, Below W1.heap.size W1 W → W.cell? ⟨ps, 1, none⟩ = some (.int .i64 p) := fun W h => hpCell (hpKeep p1 h) 1
  clear hW1 hps p1 hb1 x0 x1 hbA'
  by_cases hok : 0 ≤ re ∧ re ≤ 5 ∧ 1 ≤ ti ∧ ti ≤ 5000000 ∧ 0 ≤ de ∧ de ≤ 5000000
  · obtain ⟨h1, h2, h3, h4, h5, h6⟩ := hok
    refine (lknew_ok b p re ti de HSET h1 h2 h3 h4 h5 h6 W1).mono ?_
    rintro r w2 ⟨gP, rfl, hg, hl2, hb2⟩
    go_wp2_with fail
    refine (rknew_ok b p re ti de HSET h1 h2 h3 h4 h5 h6 w2).mono ?_
    rintro r w3 ⟨gR, rfl, hgR, hr3, hb3⟩
    have HST := hid (LsAt.start HSET.out h1 h2 h3 h4 h5 h6 HB1.out hg hl2 hb2 hgR hr3 hb3)
    clear h1 h2 h3 h4 h5 h6 hg hl2 hb2 hgR hr3 hb3 y0 y1 HP1 HM1
    go_wp2_with fail
    go_loopw [16, 17] (fun s16 s17 wr => ∃ (n : Nat) (A : Int), n ≤ 30 ∧ s16 = .int .i64 A ∧ s17 = .int .i64 n ∧ Hid (LsAt w gP gR n A wr)) (fun _ s17 _ => 30 - (intOf s17).toNat)
    case atStart => exact ⟨0, 0, by omega, rfl, rfl, HST.out⟩
    case round =>
      clear HST
      obtain ⟨n, A, hn30, rfl, rfl, hls⟩ := hrel
      by_cases hgo : n < len ∧ n < 30
      · obtain ⟨hnl, hn3⟩ := hgo
        obtain ⟨bk, off, o, rfl, hwf, hc⟩ := HOP.out n hnl
        have hbel := hls.out.bel
        have e0 := cell_keep hbel (hc 0 (by decide))
        have e1 := cell_keep hbel (hc 1 (by decide))
        have e2 := cell_keep hbel (hc 2 (by decide))
        have e3 := cell_keep hbel (hc 3 (by decide))
        have e4 := cell_keep hbel (hc 4 (by decide))
        have e5 := cell_keep hbel (hc 5 (by decide))
        have e6 := cell_keep hbel (hc 6 (by decide))
        have e7 := cell_keep hbel (hc 7 (by decide))
        have e8 := cell_keep hbel (hc 8 (by decide))
        have e9 := cell_keep hbel (hc 9 (by decide))
        have e10 := cell_keep hbel (hc 10 (by decide))
        have e11 := cell_keep hbel (hc 11 (by decide))
        have e12 := cell_keep hbel (hc 12 (by decide))
        have e13 := cell_keep hbel (hc 13 (by decide))
        have e14 := cell_keep hbel (hc 14 (by decide))
        simp only [Nat.add_zero, Sop.cells] at e0 e1 e2 e3 e4 e5 e6 e7 e8 e9 e10 e11 e12 e13 e14
        have hnl' : (n : Int) < (len : Int) := by omega
        have hn3' : (n : Int) < 30 := by omega
        have hn0 : (0 : Int) ≤ (n : Int) := Int.natCast_nonneg _
        have HWF := hid hwf
        have HMK := hid (fun W => make_any o.fn o.a o.b hwf.fn hwf.a hwf.b W)
        clear hc hwf hbel
        go_upto_if 74 with (fail)
        obtain ⟨W4, hW4⟩ : ∃ W, (wr.alloc (.cells #[.int .i64 o.kd, .int .i64 o.un, .int .i64 o.fn, .int .i64 o.a, .int .i64 o.b, .int .i64 o.gp, .int .i64 o.xt, .int .u8 (o.xv.toNat : Int), .int .i64 o.xf, .bool o.raw, .int .i64 o.q.fn, .int .i64 o.q.addr, .int .i64 o.q.qty, .int .i64 o.q.code, .int .i64 o.q.obj] 41)).alloc (.cells #[.int .i64 o.q.fn, .int .i64 o.q.addr, .int .i64 o.q.qty, .int .i64 o.q.code, .int .i64 o.q.obj] 39) = W := ⟨_, rfl⟩
        rw [hW4]
        have HO4 : Hid (OpMid wr o o.q W4) := by
          show OpMid _ _ _ _
          rw [← hW4]
          exact ⟨hpKeep (hpNew wr _) (bal' _ _), by have := hpNew (wr.alloc (.cells #[.int .i64 o.kd, .int .i64 o.un, .int .i64 o.fn, .int .i64 o.a, .int .i64 o.b, .int .i64 o.gp, .int .i64 o.xt, .int .u8 (o.xv.toNat : Int), .int .i64 o.xf, .bool o.raw, .int .i64 o.q.fn, .int .i64 o.q.addr, .int .i64 o.q.qty, .int .i64 o.q.code, .int .i64 o.q.obj] 41)) (.cells #[.int .i64 o.q.fn, .int .i64 o.q.addr, .int .i64 o.q.qty, .int .i64 o.q.code, .int .i64 o.q.obj] 39); simpa using this, bta (bal' wr _) (Nat.le_refl _) _⟩
        have u2 : W4.cell? ⟨wr.heap.size, 2, none⟩ = some (.int .i64 o.fn) := hpCell HO4.out.1 2
        have u3 : W4.cell? ⟨wr.heap.size, 3, none⟩ = some (.int .i64 o.a) := hpCell HO4.out.1 3
        have u4 : W4.cell? ⟨wr.heap.size, 4, none⟩ = some (.int .i64 o.b) := hpCell HO4.out.1 4
        clear hW4 e0 e1 e2 e3 e4 e5 e6 e7 e8 e9 e10 e11 e12 e13 e14
        go_cut [] from 66 to 81 (fun wc => Hid (∃ q, OpMid wr o q wc))
        case first =>
          obtain ⟨rw_, hrw⟩ : ∃ x, o.raw = x := ⟨_, rfl⟩
          rw [hrw]
          clear hrw
          cases rw_ with
          | true =>
            go_wp2
            go_meet
            case rel => exact ⟨o.q, HO4.out⟩
          | false =>
            go_wp2_with fail
            refine (HMK.out _).mono ?_
            rintro r w5 ⟨rfl, hb5⟩
            have g5 := hpKeep HO4.out.1 hb5
            have g6 := hpKeep HO4.out.2.1 hb5
            have hbw5 := bt HO4.out.2.2 hb5 (Nat.le_refl _)
            generalize mkRq o.fn o.a o.b = Q
            go_wp2_with (refine wpList_storeW rfl 39 (.tmp 19) (.tmp 81) rfl (wr.heap.size + 1) 0 _ _ (#[.int .i64 Q.fn, .int .i64 Q.addr, .int .i64 Q.qty, .int .i64 Q.code, .int .i64 Q.obj]) rfl rfl g6 (by simp) (by kernel_rfl) (by rfl) ?_; intro w6 g7 hk6 hz6)
            go_meet
            case rel => exact ⟨Q, hpKeeps g5 hk6 (fun e => by have e' : wr.heap.size = wr.heap.size + 1 := e; omega), g7, hbw5.trans (hk6.below (by have := hbw5.size; omega) (fun k hk e => by have e' : k = wr.heap.size + 1 := e; omega))⟩
        case rest =>
          clear HO4 u2 u3 u4 HMK
          obtain ⟨q, hom⟩ := hcut.out
          have HOM := hid hom
          obtain ⟨P, R, x, sP, sR, hin0, hA1, hA2⟩ := hls.out
          have HPN : Hid (∀ j, P j → ¬ (j = wr.heap.size ∨ j = wr.heap.size + 1)) := fun j hj e => by have := hin0.pk.pin j hj; omega
          have HRN : Hid (∀ j, R j → ¬ (j = wr.heap.size ∨ j = wr.heap.size + 1)) := fun j hj e => by have := hin0.rm.pin j hj; omega
          have HIN0 := hid (hin0.below hom.2.2)
          clear hin0
          have v0 : wc.cell? ⟨wr.heap.size, 0, none⟩ = some (.int .i64 o.kd) := hpCell hom.1 0
          have k1 := Int.emod_nonneg o.kd (show (4 : Int) ≠ 0 by decide)
          have k2 := Int.emod_lt_of_pos o.kd (show 0 < (4 : Int) by decide)
          have HMD := hid (fun W => mod_any o.kd 4 (by decide) (by decide) HWF.out.kd W)
          obtain ⟨M, hM⟩ : ∃ M, o.kd % 4 = M := ⟨_, rfl⟩
          rw [hM] at HMD k1 k2
          clear hM hcut hom
          go_wp2_with fail
          refine (HMD.out _).mono ?_
          rintro r w5 ⟨rfl, rfl⟩
          go_upto_block 2 with (fail)
          clear HMD v0
          go_cut [16, 20, 21, 22] from 85 to 159 (fun s16 s20 s21 s22 wd => ∃ A' e, s16 = .int .i64 A' ∧ s20 = .int .i64 e ∧ s21 = .int .i64 e ∧ Hid (LsAt w gP gR (n + 1) A' wd))
          case first =>
            have hin := HIN0.out
            have htb := tb_step n
            have htm := tb_max (k := n) (by omega)
            have hnw0 := hin.rm.ok.now0
            have hnw1 := hin.rm.ok.now1
            have hnw := hin.rm.now
            have hM4 : M = 0 ∨ M = 1 ∨ M = 2 ∨ M = 3 := by omega
            clear k1 k2
            rcases hM4 with rfl | rfl | rfl | rfl
            · have q1 := Int.emod_nonneg o.gp (show (1000 : Int) ≠ 0 by decide)
              have q2 := Int.emod_lt_of_pos o.gp (show 0 < (1000 : Int) by decide)
              have HMG := hid (fun W => mod_any o.gp 1000 (by decide) (by decide) HWF.out.gp W)
              obtain ⟨G, hG⟩ : ∃ G, o.gp % 1000 = G := ⟨_, rfl⟩
              rw [hG] at HMG q1 q2
              have s1 : IntKind.i64.wrap (sR.now + G) = sR.now + G := IntWalk.i64_in _ (by omega)
              have s2 : IntKind.i64.wrap (sR.now + G - 1) = sR.now + G - 1 := IntWalk.i64_in _ (by omega)
              have kC : BgCore wr.heap.size o q wc := ⟨HOM.out.1, HOM.out.2.1⟩
              have kD : BgCore wr.heap.size o q wc.drew := kC
              have u1 : ∀ W, BgCore wr.heap.size o q W → W.cell? ⟨wr.heap.size, 1, none⟩ = some (.int .i64 o.un) := fun W h => hpCell h.1 1
              have u5 : ∀ W, BgCore wr.heap.size o q W → W.cell? ⟨wr.heap.size, 5, none⟩ = some (.int .i64 o.gp) := fun W h => hpCell h.1 5
              have z0 : ∀ W, BgCore wr.heap.size o q W → W.cell? ⟨wr.heap.size + 1, 0, none⟩ = some (.int .i64 q.fn) := fun W h => hpCell h.2 0
              have z1 : ∀ W, BgCore wr.heap.size o q W → W.cell? ⟨wr.heap.size + 1, 1, none⟩ = some (.int .i64 q.addr) := fun W h => hpCell h.2 1
              have z2 : ∀ W, BgCore wr.heap.size o q W → W.cell? ⟨wr.heap.size + 1, 2, none⟩ = some (.int .i64 q.qty) := fun W h => hpCell h.2 2
              have z3 : ∀ W, BgCore wr.heap.size o q W → W.cell? ⟨wr.heap.size + 1, 3, none⟩ = some (.int .i64 q.code) := fun W h => hpCell h.2 3
              have z4 : ∀ W, BgCore wr.heap.size o q W → W.cell? ⟨wr.heap.size + 1, 4, none⟩ = some (.int .i64 q.obj) := fun W h => hpCell h.2 4
              have c12 : wc.cell? ⟨gR, 12, none⟩ = some (.int .i64 sR.now) := hin.rm.at_.cell 12
              have hS := ls_bg (gP := gP) (gR := gR) (k := n) (P := P) (R := R) (x := x) (by omega) o.un q.fn q.addr q.qty q.code q.obj (sR.now + G - 1) (by omega) (by omega)
              obtain ⟨hS1, hS2⟩ := hS
              generalize x.bgE o.un ⟨q.fn, q.addr, q.qty, q.code, q.obj⟩ (sR.now + G - 1) = E at hS1 hS2
              generalize x.bg o.un ⟨q.fn, q.addr, q.qty, q.code, q.obj⟩ (sR.now + G - 1) = y at hS1 hS2
              have HIND := hid (hin.below (W := wc.drew) (Below.refl _ _).drew)
              have HC1 := hid (hS1 sP wc.drew HIND.out.pk)
              have HS2 := hid hS2
              have HPC : Hid (¬ P wr.heap.size ∧ ¬ P (wr.heap.size + 1)) := ⟨fun e => HPN.out _ e (.inl rfl), fun e => HPN.out _ e (.inr rfl)⟩
              have HRC : Hid (¬ R wr.heap.size ∧ ¬ R (wr.heap.size + 1)) := ⟨fun e => HRN.out _ e (.inl rfl), fun e => HRN.out _ e (.inr rfl)⟩
              clear hin hS1 hS2 hG hnw hnw0 hnw1 q1 q2 kC
              go_upto_region 23 with (fail)
              refine wp_region_held_drew (S := fun W => BgCore wr.heap.size o q W) (by kernel_rfl) kD (fun hH => ?_); refine tkD 0 95 (v := ?_) rfl (by kernel_rfl) (fun _ _ _ h => h) rfl (by rfl) (by assumption) ?_ ?_; rotate_left; (intro w hSw; (try dsimp only at hSw); go_simp; try (with_reducible rfl)); simp only [List.setIfInBounds_toArray, List.set_cons_zero, List.set_cons_succ]; refine tkD 1 96 (v := ?_) rfl (by kernel_rfl) (fun _ _ _ h => h) rfl (by rfl) (by assumption) ?_ ?_; rotate_left; (intro w hSw; (try dsimp only at hSw); go_simp; try (with_reducible rfl)); simp only [List.setIfInBounds_toArray, List.set_cons_zero, List.set_cons_succ]; refine tkD 2 97 (v := ?_) rfl (by kernel_rfl) (fun _ _ _ h => h) rfl (by rfl) (by assumption) ?_ ?_; rotate_left; (intro w hSw; (try dsimp only at hSw); go_simp; try (with_reducible rfl)); simp only [List.setIfInBounds_toArray, List.set_cons_zero, List.set_cons_succ]; refine tkD 3 98 (v := ?_) rfl (by kernel_rfl) (fun _ _ _ h => h) rfl (by rfl) (by assumption) ?_ ?_; rotate_left; (intro w hSw; (try dsimp only at hSw); go_simp; try (with_reducible rfl)); simp only [List.setIfInBounds_toArray, List.set_cons_zero, List.set_cons_succ]; refine tkD 4 99 (v := ?_) rfl (by kernel_rfl) (fun _ _ _ h => h) rfl (by rfl) (by assumption) ?_ ?_; rotate_left; (intro w hSw; (try dsimp only at hSw); go_simp; try (with_reducible rfl)); simp only [List.setIfInBounds_toArray, List.set_cons_zero, List.set_cons_succ]; refine tkD 5 100 (v := ?_) rfl (by kernel_rfl) (fun _ _ _ h => h) rfl (by rfl) (by assumption) ?_ ?_; rotate_left; (intro w hSw; (try dsimp only at hSw); go_simp; try (with_reducible rfl)); simp only [List.setIfInBounds_toArray, List.set_cons_zero, List.set_cons_succ]; refine tkD 6 101 (v := ?_) rfl (by kernel_rfl) (fun _ _ _ h => h) rfl (by rfl) (by assumption) ?_ ?_; rotate_left; (intro w hSw; (try dsimp only at hSw); go_simp; try (with_reducible rfl)); simp only [List.setIfInBounds_toArray, List.set_cons_zero, List.set_cons_succ]; refine tkD 8 103 (v := ?_) rfl (by kernel_rfl) (fun _ _ _ h => h) rfl (by rfl) (by assumption) ?_ ?_; rotate_left; (intro w hSw; (try dsimp only at hSw); go_simp; try (with_reducible rfl)); simp only [List.setIfInBounds_toArray, List.set_cons_zero, List.set_cons_succ]; refine tkD 9 104 (v := ?_) rfl (by kernel_rfl) (fun _ _ _ h => h) rfl (by rfl) (by assumption) ?_ ?_; rotate_left; (intro w hSw; (try dsimp only at hSw); go_simp; try (with_reducible rfl)); simp only [List.setIfInBounds_toArray, List.set_cons_zero, List.set_cons_succ]; refine tkD 14 109 (v := ?_) rfl (by kernel_rfl) (fun _ _ _ h => h) rfl (by rfl) (by assumption) ?_ ?_; rotate_left; (intro w hSw; (try dsimp only at hSw); go_simp; try (with_reducible rfl)); simp only [List.setIfInBounds_toArray, List.set_cons_zero, List.set_cons_succ]; refine tkD 15 110 (v := ?_) rfl (by kernel_rfl) (fun _ _ _ h => h) rfl (by rfl) (by assumption) ?_ ?_; rotate_left; (intro w hSw; (try dsimp only at hSw); go_simp; try (with_reducible rfl)); simp only [List.setIfInBounds_toArray, List.set_cons_zero, List.set_cons_succ]; refine tkD 16 111 (v := ?_) rfl (by kernel_rfl) (fun _ _ _ h => h) rfl (by rfl) (by assumption) ?_ ?_; rotate_left; (intro w hSw; (try dsimp only at hSw); go_simp; try (with_reducible rfl)); simp only [List.setIfInBounds_toArray, List.set_cons_zero, List.set_cons_succ]; refine tkD 17 112 (v := ?_) rfl (by kernel_rfl) (fun _ _ _ h => h) rfl (by rfl) (by assumption) ?_ ?_; rotate_left; (intro w hSw; (try dsimp only at hSw); go_simp; try (with_reducible rfl)); simp only [List.setIfInBounds_toArray, List.set_cons_zero, List.set_cons_succ]; refine tkD 18 113 (v := ?_) rfl (by kernel_rfl) (fun _ _ _ h => h) rfl (by rfl) (by assumption) ?_ ?_; rotate_left; (intro w hSw; (try dsimp only at hSw); go_simp; try (with_reducible rfl)); simp only [List.setIfInBounds_toArray, List.set_cons_zero, List.set_cons_succ]; refine tkD 19 114 (v := ?_) rfl (by kernel_rfl) (fun _ _ _ h => h) rfl (by rfl) (by assumption) ?_ ?_; rotate_left; (intro w hSw; (try dsimp only at hSw); go_simp; try (with_reducible rfl)); simp only [List.setIfInBounds_toArray, List.set_cons_zero, List.set_cons_succ]; refine tkD 20 115 (v := ?_) rfl (by kernel_rfl) (fun _ _ _ h => h) rfl (by rfl) (by assumption) ?_ ?_; rotate_left; (intro w hSw; (try dsimp only at hSw); go_simp; try (with_reducible rfl)); simp only [List.setIfInBounds_toArray, List.set_cons_zero, List.set_cons_succ]; refine tkD 22 117 (v := ?_) rfl (by kernel_rfl) (fun _ _ _ h => h) rfl (by rfl) (by assumption) ?_ ?_; rotate_left; (intro w hSw; (try dsimp only at hSw); go_simp; try (with_reducible rfl)); simp only [List.setIfInBounds_toArray, List.set_cons_zero, List.set_cons_succ]; refine tkD 23 118 (v := ?_) rfl (by kernel_rfl) (fun _ _ _ h => h) rfl (by rfl) (by assumption) ?_ ?_; rotate_left; (intro w hSw; (try dsimp only at hSw); go_simp; try (with_reducible rfl)); simp only [List.setIfInBounds_toArray, List.set_cons_zero, List.set_cons_succ]; clear hH; refine wpAnyH_ready (rs := [7, 10, 21]) (by kernel_rfl) (by simp) ?_; refine AllReadyH.cons rfl (fun K hK => ?_) ?_
              · go_simp; refine hK.out _ _ kD (fun hSx => ?_); clear hK K hSx; refine wpAnyH_ready (rs := [10, 21]) (by kernel_rfl) (by simp) ?_; refine AllReadyH.cons rfl (fun K hK => ?_) ?_
                · go_simp; refine (HMG.out _).mono ?_; rintro r wx ⟨rfl, rfl⟩; refine hK.out _ _ kD (fun hSx => ?_); clear hK K hSx; refine tkD 11 106 (v := ?_) rfl (by kernel_rfl) (fun _ _ _ h => h) rfl (by rfl) (by assumption) ?_ ?_; rotate_left; (intro w hSw; (try dsimp only at hSw); go_simp; try (with_reducible rfl)); simp only [List.setIfInBounds_toArray, List.set_cons_zero, List.set_cons_succ]; refine tkD 12 107 (v := ?_) rfl (by kernel_rfl) (fun _ _ _ h => h) rfl (by rfl) (by assumption) ?_ ?_; rotate_left; (intro w hSw; (try dsimp only at hSw); go_simp; try (with_reducible rfl)); simp only [List.setIfInBounds_toArray, List.set_cons_zero, List.set_cons_succ]; refine wpAnyH_ready (rs := [13, 21]) (by kernel_rfl) (by simp) ?_; refine AllReadyH.cons rfl (fun K hK => ?_) ?_
                  · go_simp; refine HC1.out.mono ?_; rintro r w6 ⟨sP', rfl, hp', hk1⟩; have hmid := HIND.out.mid hp' hk1; have hS6 : BgCore wr.heap.size o q w6 := kD.keeps hk1 HPC.out.1 HPC.out.2; have hc2 := hid (HS2.out sR w6 hmid.rm); have c12e : w6.cell? ⟨gR, 12, none⟩ = some (.int .i64 sR.now) := hmid.rm.at_.cell 12; refine hK.out _ _ hS6 (fun hSx => ?_); clear hK K hSx; refine wpAnyH_ready (rs := [21, 24]) (by kernel_rfl) (by simp) ?_; refine AllReadyH.cons rfl (fun K hK => ?_) ?_
                    · go_simp; refine hK.out _ _ hS6 (fun hSx => ?_); clear hK K hSx; refine wpAnyH_ready (rs := [24]) (by kernel_rfl) (by simp) ?_; refine AllReadyH.cons rfl (fun K hK => ?_) AllReadyH.nil; go_simp; refine (HMG.out _).mono ?_; rintro r wx ⟨rfl, rfl⟩; refine hK.out _ _ hS6 (fun hSx => ?_); clear hK K hSx; refine tkD 25 120 (v := ?_) rfl (by kernel_rfl) (fun _ _ _ h => h) rfl (by rfl) (by assumption) ?_ ?_; rotate_left; (intro w hSw; (try dsimp only at hSw); go_simp; try (with_reducible rfl)); simp only [List.setIfInBounds_toArray, List.set_cons_zero, List.set_cons_succ]; refine tkD 26 121 (v := ?_) rfl (by kernel_rfl) (fun _ _ _ h => h) rfl (by rfl) (by assumption) ?_ ?_; rotate_left; (intro w hSw; (try dsimp only at hSw); go_simp; try (with_reducible rfl)); simp only [List.setIfInBounds_toArray, List.set_cons_zero, List.set_cons_succ]; refine wpAnyH_ready (rs := [27]) (by kernel_rfl) (by simp) ?_; refine AllReadyH.cons rfl (fun K hK => ?_) AllReadyH.nil; go_simp; refine hc2.out.mono ?_; rintro r w7 ⟨sR', rfl, hr', hk2⟩; have HDN := hid (hmid.done hr' hk2); have hS7 : BgCore wr.heap.size o q w7 := hS6.keeps hk2 HRC.out.1 HRC.out.2; refine hK.out _ _ hS7 (fun hSx => ?_); clear hK K hSx; refine tkD 28 20 (v := ?_) rfl (by kernel_rfl) (fun _ _ _ h => h) rfl (by rfl) (by assumption) ?_ ?_; rotate_left; (intro w hSw; (try dsimp only at hSw); go_simp; try (with_reducible rfl)); simp only [List.setIfInBounds_toArray, List.set_cons_zero, List.set_cons_succ]; refine tkD 29 21 (v := ?_) rfl (by kernel_rfl) (fun _ _ _ h => h) rfl (by rfl) (by assumption) ?_ ?_; rotate_left; (intro w hSw; (try dsimp only at hSw); go_simp; try (with_reducible rfl)); simp only [List.setIfInBounds_toArray, List.set_cons_zero, List.set_cons_succ]; refine wpAnyH_done (by kernel_rfl) ?_ _; clear c12 c12e hmid hc2 hS6 hS7 hr' hk2 hp' hk1 kD; go_wp2; go_meet
                      case rel =>
                        obtain ⟨sP2, hin2⟩ := HDN.out
                        exact ⟨_, _, rfl, rfl, rfl, ⟨_, _, _, _, _, hin2, by omega, by omega⟩⟩
                    refine AllReadyH.cons rfl (fun K hK => ?_) AllReadyH.nil; go_simp; refine (HMG.out _).mono ?_; rintro r wx ⟨rfl, rfl⟩; refine hK.out _ _ hS6 (fun hSx => ?_); clear hK K hSx; refine wpAnyH_ready (rs := [21]) (by kernel_rfl) (by simp) ?_; refine AllReadyH.cons rfl (fun K hK => ?_) AllReadyH.nil; go_simp; refine hK.out _ _ hS6 (fun hSx => ?_); clear hK K hSx; refine tkD 25 120 (v := ?_) rfl (by kernel_rfl) (fun _ _ _ h => h) rfl (by rfl) (by assumption) ?_ ?_; rotate_left; (intro w hSw; (try dsimp only at hSw); go_simp; try (with_reducible rfl)); simp only [List.setIfInBounds_toArray, List.set_cons_zero, List.set_cons_succ]; refine tkD 26 121 (v := ?_) rfl (by kernel_rfl) (fun _ _ _ h => h) rfl (by rfl) (by assumption) ?_ ?_; rotate_left; (intro w hSw; (try dsimp only at hSw); go_simp; try (with_reducible rfl)); simp only [List.setIfInBounds_toArray, List.set_cons_zero, List.set_cons_succ]; refine wpAnyH_ready (rs := [27]) (by kernel_rfl) (by simp) ?_; refine AllReadyH.cons rfl (fun K hK => ?_) AllReadyH.nil; go_simp; refine hc2.out.mono ?_; rintro r w7 ⟨sR', rfl, hr', hk2⟩; have HDN := hid (hmid.done hr' hk2); have hS7 : BgCore wr.heap.size o q w7 := hS6.keeps hk2 HRC.out.1 HRC.out.2; refine hK.out _ _ hS7 (fun hSx => ?_); clear hK K hSx; refine tkD 28 20 (v := ?_) rfl (by kernel_rfl) (fun _ _ _ h => h) rfl (by rfl) (by assumption) ?_ ?_; rotate_left; (intro w hSw; (try dsimp only at hSw); go_simp; try (with_reducible rfl)); simp only [List.setIfInBounds_toArray, List.set_cons_zero, List.set_cons_succ]; refine tkD 29 21 (v := ?_) rfl (by kernel_rfl) (fun _ _ _ h => h) rfl (by rfl) (by assumption) ?_ ?_; rotate_left; (intro w hSw; (try dsimp only at hSw); go_simp; try (with_reducible rfl)); simp only [List.setIfInBounds_toArray, List.set_cons_zero, List.set_cons_succ]; refine wpAnyH_done (by kernel_rfl) ?_ _; clear c12 c12e hmid hc2 hS6 hS7 hr' hk2 hp' hk1 kD; go_wp2; go_meet
                    case rel =>
                      obtain ⟨sP2, hin2⟩ := HDN.out
                      exact ⟨_, _, rfl, rfl, rfl, ⟨_, _, _, _, _, hin2, by omega, by omega⟩⟩
                  refine AllReadyH.cons rfl (fun K hK => ?_) AllReadyH.nil; go_simp; refine hK.out _ _ kD (fun hSx => ?_); clear hK K hSx; refine wpAnyH_ready (rs := [13]) (by kernel_rfl) (by simp) ?_; refine AllReadyH.cons rfl (fun K hK => ?_) AllReadyH.nil; go_simp; refine HC1.out.mono ?_; rintro r w6 ⟨sP', rfl, hp', hk1⟩; have hmid := HIND.out.mid hp' hk1; have hS6 : BgCore wr.heap.size o q w6 := kD.keeps hk1 HPC.out.1 HPC.out.2; have hc2 := hid (HS2.out sR w6 hmid.rm); have c12e : w6.cell? ⟨gR, 12, none⟩ = some (.int .i64 sR.now) := hmid.rm.at_.cell 12; refine hK.out _ _ hS6 (fun hSx => ?_); clear hK K hSx; refine wpAnyH_ready (rs := [24]) (by kernel_rfl) (by simp) ?_; refine AllReadyH.cons rfl (fun K hK => ?_) AllReadyH.nil; go_simp; refine (HMG.out _).mono ?_; rintro r wx ⟨rfl, rfl⟩; refine hK.out _ _ hS6 (fun hSx => ?_); clear hK K hSx; refine tkD 25 120 (v := ?_) rfl (by kernel_rfl) (fun _ _ _ h => h) rfl (by rfl) (by assumption) ?_ ?_; rotate_left; (intro w hSw; (try dsimp only at hSw); go_simp; try (with_reducible rfl)); simp only [List.setIfInBounds_toArray, List.set_cons_zero, List.set_cons_succ]; refine tkD 26 121 (v := ?_) rfl (by kernel_rfl) (fun _ _ _ h => h) rfl (by rfl) (by assumption) ?_ ?_; rotate_left; (intro w hSw; (try dsimp only at hSw); go_simp; try (with_reducible rfl)); simp only [List.setIfInBounds_toArray, List.set_cons_zero, List.set_cons_succ]; refine wpAnyH_ready (rs := [27]) (by kernel_rfl) (by simp) ?_; refine AllReadyH.cons rfl (fun K hK => ?_) AllReadyH.nil; go_simp; refine hc2.out.mono ?_; rintro r w7 ⟨sR', rfl, hr', hk2⟩; have HDN := hid (hmid.done hr' hk2); have hS7 : BgCore wr.heap.size o q w7 := hS6.keeps hk2 HRC.out.1 HRC.out.2; refine hK.out _ _ hS7 (fun hSx => ?_); clear hK K hSx; refine tkD 28 20 (v := ?_) rfl (by kernel_rfl) (fun _ _ _ h => h) rfl (by rfl) (by assumption) ?_ ?_; rotate_left; (intro w hSw; (try dsimp only at hSw); go_simp; try (with_reducible rfl)); simp only [List.setIfInBounds_toArray, List.set_cons_zero, List.set_cons_succ]; refine tkD 29 21 (v := ?_) rfl (by kernel_rfl) (fun _ _ _ h => h) rfl (by rfl) (by assumption) ?_ ?_; rotate_left; (intro w hSw; (try dsimp only at hSw); go_simp; try (with_reducible rfl)); simp only [List.setIfInBounds_toArray, List.set_cons_zero, List.set_cons_succ]; refine wpAnyH_done (by kernel_rfl) ?_ _; clear c12 c12e hmid hc2 hS6 hS7 hr' hk2 hp' hk1 kD; go_wp2; go_meet
                  case rel =>
                    obtain ⟨sP2, hin2⟩ := HDN.out
                    exact ⟨_, _, rfl, rfl, rfl, ⟨_, _, _, _, _, hin2, by omega, by omega⟩⟩
                refine AllReadyH.cons rfl (fun K hK => ?_) AllReadyH.nil; go_simp; refine hK.out _ _ kD (fun hSx => ?_); clear hK K hSx; refine wpAnyH_ready (rs := [10]) (by kernel_rfl) (by simp) ?_; refine AllReadyH.cons rfl (fun K hK => ?_) AllReadyH.nil; go_simp; refine (HMG.out _).mono ?_; rintro r wx ⟨rfl, rfl⟩; refine hK.out _ _ kD (fun hSx => ?_); clear hK K hSx; refine tkD 11 106 (v := ?_) rfl (by kernel_rfl) (fun _ _ _ h => h) rfl (by rfl) (by assumption) ?_ ?_; rotate_left; (intro w hSw; (try dsimp only at hSw); go_simp; try (with_reducible rfl)); simp only [List.setIfInBounds_toArray, List.set_cons_zero, List.set_cons_succ]; refine tkD 12 107 (v := ?_) rfl (by kernel_rfl) (fun _ _ _ h => h) rfl (by rfl) (by assumption) ?_ ?_; rotate_left; (intro w hSw; (try dsimp only at hSw); go_simp; try (with_reducible rfl)); simp only [List.setIfInBounds_toArray, List.set_cons_zero, List.set_cons_succ]; refine wpAnyH_ready (rs := [13]) (by kernel_rfl) (by simp) ?_; refine AllReadyH.cons rfl (fun K hK => ?_) AllReadyH.nil; go_simp; refine HC1.out.mono ?_; rintro r w6 ⟨sP', rfl, hp', hk1⟩; have hmid := HIND.out.mid hp' hk1; have hS6 : BgCore wr.heap.size o q w6 := kD.keeps hk1 HPC.out.1 HPC.out.2; have hc2 := hid (HS2.out sR w6 hmid.rm); have c12e : w6.cell? ⟨gR, 12, none⟩ = some (.int .i64 sR.now) := hmid.rm.at_.cell 12; refine hK.out _ _ hS6 (fun hSx => ?_); clear hK K hSx; refine wpAnyH_ready (rs := [24]) (by kernel_rfl) (by simp) ?_; refine AllReadyH.cons rfl (fun K hK => ?_) AllReadyH.nil; go_simp; refine (HMG.out _).mono ?_; rintro r wx ⟨rfl, rfl⟩; refine hK.out _ _ hS6 (fun hSx => ?_); clear hK K hSx; refine tkD 25 120 (v := ?_) rfl (by kernel_rfl) (fun _ _ _ h => h) rfl (by rfl) (by assumption) ?_ ?_; rotate_left; (intro w hSw; (try dsimp only at hSw); go_simp; try (with_reducible rfl)); simp only [List.setIfInBounds_toArray, List.set_cons_zero, List.set_cons_succ]; refine tkD 26 121 (v := ?_) rfl (by kernel_rfl) (fun _ _ _ h => h) rfl (by rfl) (by assumption) ?_ ?_; rotate_left; (intro w hSw; (try dsimp only at hSw); go_simp; try (with_reducible rfl)); simp only [List.setIfInBounds_toArray, List.set_cons_zero, List.set_cons_succ]; refine wpAnyH_ready (rs := [27]) (by kernel_rfl) (by simp) ?_; refine AllReadyH.cons rfl (fun K hK => ?_) AllReadyH.nil; go_simp; refine hc2.out.mono ?_; rintro r w7 ⟨sR', rfl, hr', hk2⟩; have HDN := hid (hmid.done hr' hk2); have hS7 : BgCore wr.heap.size o q w7 := hS6.keeps hk2 HRC.out.1 HRC.out.2; refine hK.out _ _ hS7 (fun hSx => ?_); clear hK K hSx; refine tkD 28 20 (v := ?_) rfl (by kernel_rfl) (fun _ _ _ h => h) rfl (by rfl) (by assumption) ?_ ?_; rotate_left; (intro w hSw; (try dsimp only at hSw); go_simp; try (with_reducible rfl)); simp only [List.setIfInBounds_toArray, List.set_cons_zero, List.set_cons_succ]; refine tkD 29 21 (v := ?_) rfl (by kernel_rfl) (fun _ _ _ h => h) rfl (by rfl) (by assumption) ?_ ?_; rotate_left; (intro w hSw; (try dsimp only at hSw); go_simp; try (with_reducible rfl)); simp only [List.setIfInBounds_toArray, List.set_cons_zero, List.set_cons_succ]; refine wpAnyH_done (by kernel_rfl) ?_ _; clear c12 c12e hmid hc2 hS6 hS7 hr' hk2 hp' hk1 kD; go_wp2; go_meet
                case rel =>
                  obtain ⟨sP2, hin2⟩ := HDN.out
                  exact ⟨_, _, rfl, rfl, rfl, ⟨_, _, _, _, _, hin2, by omega, by omega⟩⟩
              refine AllReadyH.cons rfl (fun K hK => ?_) ?_
              · go_simp; refine (HMG.out _).mono ?_; rintro r wx ⟨rfl, rfl⟩; refine hK.out _ _ kD (fun hSx => ?_); clear hK K hSx; refine wpAnyH_ready (rs := [7, 21]) (by kernel_rfl) (by simp) ?_; refine AllReadyH.cons rfl (fun K hK => ?_) ?_
                · go_simp; refine hK.out _ _ kD (fun hSx => ?_); clear hK K hSx; refine tkD 11 106 (v := ?_) rfl (by kernel_rfl) (fun _ _ _ h => h) rfl (by rfl) (by assumption) ?_ ?_; rotate_left; (intro w hSw; (try dsimp only at hSw); go_simp; try (with_reducible rfl)); simp only [List.setIfInBounds_toArray, List.set_cons_zero, List.set_cons_succ]; refine tkD 12 107 (v := ?_) rfl (by kernel_rfl) (fun _ _ _ h => h) rfl (by rfl) (by assumption) ?_ ?_; rotate_left; (intro w hSw; (try dsimp only at hSw); go_simp; try (with_reducible rfl)); simp only [List.setIfInBounds_toArray, List.set_cons_zero, List.set_cons_succ]; refine wpAnyH_ready (rs := [13, 21]) (by kernel_rfl) (by simp) ?_; refine AllReadyH.cons rfl (fun K hK => ?_) ?_
                  · go_simp; refine HC1.out.mono ?_; rintro r w6 ⟨sP', rfl, hp', hk1⟩; have hmid := HIND.out.mid hp' hk1; have hS6 : BgCore wr.heap.size o q w6 := kD.keeps hk1 HPC.out.1 HPC.out.2; have hc2 := hid (HS2.out sR w6 hmid.rm); have c12e : w6.cell? ⟨gR, 12, none⟩ = some (.int .i64 sR.now) := hmid.rm.at_.cell 12; refine hK.out _ _ hS6 (fun hSx => ?_); clear hK K hSx; refine wpAnyH_ready (rs := [21, 24]) (by kernel_rfl) (by simp) ?_; refine AllReadyH.cons rfl (fun K hK => ?_) ?_
                    · go_simp; refine hK.out _ _ hS6 (fun hSx => ?_); clear hK K hSx; refine wpAnyH_ready (rs := [24]) (by kernel_rfl) (by simp) ?_; refine AllReadyH.cons rfl (fun K hK => ?_) AllReadyH.nil; go_simp; refine (HMG.out _).mono ?_; rintro r wx ⟨rfl, rfl⟩; refine hK.out _ _ hS6 (fun hSx => ?_); clear hK K hSx; refine tkD 25 120 (v := ?_) rfl (by kernel_rfl) (fun _ _ _ h => h) rfl (by rfl) (by assumption) ?_ ?_; rotate_left; (intro w hSw; (try dsimp only at hSw); go_simp; try (with_reducible rfl)); simp only [List.setIfInBounds_toArray, List.set_cons_zero, List.set_cons_succ]; refine tkD 26 121 (v := ?_) rfl (by kernel_rfl) (fun _ _ _ h => h) rfl (by rfl) (by assumption) ?_ ?_; rotate_left; (intro w hSw; (try dsimp only at hSw); go_simp; try (with_reducible rfl)); simp only [List.setIfInBounds_toArray, List.set_cons_zero, List.set_cons_succ]; refine wpAnyH_ready (rs := [27]) (by kernel_rfl) (by simp) ?_; refine AllReadyH.cons rfl (fun K hK => ?_) AllReadyH.nil; go_simp; refine hc2.out.mono ?_; rintro r w7 ⟨sR', rfl, hr', hk2⟩; have HDN := hid (hmid.done hr' hk2); have hS7 : BgCore wr.heap.size o q w7 := hS6.keeps hk2 HRC.out.1 HRC.out.2; refine hK.out _ _ hS7 (fun hSx => ?_); clear hK K hSx; refine tkD 28 20 (v := ?_) rfl (by kernel_rfl) (fun _ _ _ h => h) rfl (by rfl) (by assumption) ?_ ?_; rotate_left; (intro w hSw; (try dsimp only at hSw); go_simp; try (with_reducible rfl)); simp only [List.setIfInBounds_toArray, List.set_cons_zero, List.set_cons_succ]; refine tkD 29 21 (v := ?_) rfl (by kernel_rfl) (fun _ _ _ h => h) rfl (by rfl) (by assumption) ?_ ?_; rotate_left; (intro w hSw; (try dsimp only at hSw); go_simp; try (with_reducible rfl)); simp only [List.setIfInBounds_toArray, List.set_cons_zero, List.set_cons_succ]; refine wpAnyH_done (by kernel_rfl) ?_ _; clear c12 c12e hmid hc2 hS6 hS7 hr' hk2 hp' hk1 kD; go_wp2; go_meet
                      case rel =>
                        obtain ⟨sP2, hin2⟩ := HDN.out
                        exact ⟨_, _, rfl, rfl, rfl, ⟨_, _, _, _, _, hin2, by omega, by omega⟩⟩
                    refine AllReadyH.cons rfl (fun K hK => ?_) AllReadyH.nil; go_simp; refine (HMG.out _).mono ?_; rintro r wx ⟨rfl, rfl⟩; refine hK.out _ _ hS6 (fun hSx => ?_); clear hK K hSx; refine wpAnyH_ready (rs := [21]) (by kernel_rfl) (by simp) ?_; refine AllReadyH.cons rfl (fun K hK => ?_) AllReadyH.nil; go_simp; refine hK.out _ _ hS6 (fun hSx => ?_); clear hK K hSx; refine tkD 25 120 (v := ?_) rfl (by kernel_rfl) (fun _ _ _ h => h) rfl (by rfl) (by assumption) ?_ ?_; rotate_left; (intro w hSw; (try dsimp only at hSw); go_simp; try (with_reducible rfl)); simp only [List.setIfInBounds_toArray, List.set_cons_zero, List.set_cons_succ]; refine tkD 26 121 (v := ?_) rfl (by kernel_rfl) (fun _ _ _ h => h) rfl (by rfl) (by assumption) ?_ ?_; rotate_left; (intro w hSw; (try dsimp only at hSw); go_simp; try (with_reducible rfl)); simp only [List.setIfInBounds_toArray, List.set_cons_zero, List.set_cons_succ]; refine wpAnyH_ready (rs := [27]) (by kernel_rfl) (by simp) ?_; refine AllReadyH.cons rfl (fun K hK => ?_) AllReadyH.nil; go_simp; refine hc2.out.mono ?_; rintro r w7 ⟨sR', rfl, hr', hk2⟩; have HDN := hid (hmid.done hr' hk2); have hS7 : BgCore wr.heap.size o q w7 := hS6.keeps hk2 HRC.out.1 HRC.out.2; refine hK.out _ _ hS7 (fun hSx => ?_); clear hK K hSx; refine tkD 28 20 (v := ?_) rfl (by kernel_rfl) (fun _ _ _ h => h) rfl (by rfl) (by assumption) ?_ ?_; rotate_left; (intro w hSw; (try dsimp only at hSw); go_simp; try (with_reducible rfl)); simp only [List.setIfInBounds_toArray, List.set_cons_zero, List.set_cons_succ]; refine tkD 29 21 (v := ?_) rfl (by kernel_rfl) (fun _ _ _ h => h) rfl (by rfl) (by assumption) ?_ ?_; rotate_left; (intro w hSw; (try dsimp only at hSw); go_simp; try (with_reducible rfl)); simp only [List.setIfInBounds_toArray, List.set_cons_zero, List.set_cons_succ]; refine wpAnyH_done (by kernel_rfl) ?_ _; clear c12 c12e hmid hc2 hS6 hS7 hr' hk2 hp' hk1 kD; go_wp2; go_meet
                    case rel =>
                      obtain ⟨sP2, hin2⟩ := HDN.out
                      exact ⟨_, _, rfl, rfl, rfl, ⟨_, _, _, _, _, hin2, by omega, by omega⟩⟩
                  refine AllReadyH.cons rfl (fun K hK => ?_) AllReadyH.nil; go_simp; refine hK.out _ _ kD (fun hSx => ?_); clear hK K hSx; refine wpAnyH_ready (rs := [13]) (by kernel_rfl) (by simp) ?_; refine AllReadyH.cons rfl (fun K hK => ?_) AllReadyH.nil; go_simp; refine HC1.out.mono ?_; rintro r w6 ⟨sP', rfl, hp', hk1⟩; have hmid := HIND.out.mid hp' hk1; have hS6 : BgCore wr.heap.size o q w6 := kD.keeps hk1 HPC.out.1 HPC.out.2; have hc2 := hid (HS2.out sR w6 hmid.rm); have c12e : w6.cell? ⟨gR, 12, none⟩ = some (.int .i64 sR.now) := hmid.rm.at_.cell 12; refine hK.out _ _ hS6 (fun hSx => ?_); clear hK K hSx; refine wpAnyH_ready (rs := [24]) (by kernel_rfl) (by simp) ?_; refine AllReadyH.cons rfl (fun K hK => ?_) AllReadyH.nil; go_simp; refine (HMG.out _).mono ?_; rintro r wx ⟨rfl, rfl⟩; refine hK.out _ _ hS6 (fun hSx => ?_); clear hK K hSx; refine tkD 25 120 (v := ?_) rfl (by kernel_rfl) (fun _ _ _ h => h) rfl (by rfl) (by assumption) ?_ ?_; rotate_left; (intro w hSw; (try dsimp only at hSw); go_simp; try (with_reducible rfl)); simp only [List.setIfInBounds_toArray, List.set_cons_zero, List.set_cons_succ]; refine tkD 26 121 (v := ?_) rfl (by kernel_rfl) (fun _ _ _ h => h) rfl (by rfl) (by assumption) ?_ ?_; rotate_left; (intro w hSw; (try dsimp only at hSw); go_simp; try (with_reducible rfl)); simp only [List.setIfInBounds_toArray, List.set_cons_zero, List.set_cons_succ]; refine wpAnyH_ready (rs := [27]) (by kernel_rfl) (by simp) ?_; refine AllReadyH.cons rfl (fun K hK => ?_) AllReadyH.nil; go_simp; refine hc2.out.mono ?_; rintro r w7 ⟨sR', rfl, hr', hk2⟩; have HDN := hid (hmid.done hr' hk2); have hS7 : BgCore wr.heap.size o q w7 := hS6.keeps hk2 HRC.out.1 HRC.out.2; refine hK.out _ _ hS7 (fun hSx => ?_); clear hK K hSx; refine tkD 28 20 (v := ?_) rfl (by kernel_rfl) (fun _ _ _ h => h) rfl (by rfl) (by assumption) ?_ ?_; rotate_left; (intro w hSw; (try dsimp only at hSw); go_simp; try (with_reducible rfl)); simp only [List.setIfInBounds_toArray, List.set_cons_zero, List.set_cons_succ]; refine tkD 29 21 (v := ?_) rfl (by kernel_rfl) (fun _ _ _ h => h) rfl (by rfl) (by assumption) ?_ ?_; rotate_left; (intro w hSw; (try dsimp only at hSw); go_simp; try (with_reducible rfl)); simp only [List.setIfInBounds_toArray, List.set_cons_zero, List.set_cons_succ]; refine wpAnyH_done (by kernel_rfl) ?_ _; clear c12 c12e hmid hc2 hS6 hS7 hr' hk2 hp' hk1 kD; go_wp2; go_meet
                  case rel =>
                    obtain ⟨sP2, hin2⟩ := HDN.out
                    exact ⟨_, _, rfl, rfl, rfl, ⟨_, _, _, _, _, hin2, by omega, by omega⟩⟩
                refine AllReadyH.cons rfl (fun K hK => ?_) AllReadyH.nil; go_simp; refine hK.out _ _ kD (fun hSx => ?_); clear hK K hSx; refine wpAnyH_ready (rs := [7]) (by kernel_rfl) (by simp) ?_; refine AllReadyH.cons rfl (fun K hK => ?_) AllReadyH.nil; go_simp; refine hK.out _ _ kD (fun hSx => ?_); clear hK K hSx; refine tkD 11 106 (v := ?_) rfl (by kernel_rfl) (fun _ _ _ h => h) rfl (by rfl) (by assumption) ?_ ?_; rotate_left; (intro w hSw; (try dsimp only at hSw); go_simp; try (with_reducible rfl)); simp only [List.setIfInBounds_toArray, List.set_cons_zero, List.set_cons_succ]; refine tkD 12 107 (v := ?_) rfl (by kernel_rfl) (fun _ _ _ h => h) rfl (by rfl) (by assumption) ?_ ?_; rotate_left; (intro w hSw; (try dsimp only at hSw); go_simp; try (with_reducible rfl)); simp only [List.setIfInBounds_toArray, List.set_cons_zero, List.set_cons_succ]; refine wpAnyH_ready (rs := [13]) (by kernel_rfl) (by simp) ?_; refine AllReadyH.cons rfl (fun K hK => ?_) AllReadyH.nil; go_simp; refine HC1.out.mono ?_; rintro r w6 ⟨sP', rfl, hp', hk1⟩; have hmid := HIND.out.mid hp' hk1; have hS6 : BgCore wr.heap.size o q w6 := kD.keeps hk1 HPC.out.1 HPC.out.2; have hc2 := hid (HS2.out sR w6 hmid.rm); have c12e : w6.cell? ⟨gR, 12, none⟩ = some (.int .i64 sR.now) := hmid.rm.at_.cell 12; refine hK.out _ _ hS6 (fun hSx => ?_); clear hK K hSx; refine wpAnyH_ready (rs := [24]) (by kernel_rfl) (by simp) ?_; refine AllReadyH.cons rfl (fun K hK => ?_) AllReadyH.nil; go_simp; refine (HMG.out _).mono ?_; rintro r wx ⟨rfl, rfl⟩; refine hK.out _ _ hS6 (fun hSx => ?_); clear hK K hSx; refine tkD 25 120 (v := ?_) rfl (by kernel_rfl) (fun _ _ _ h => h) rfl (by rfl) (by assumption) ?_ ?_; rotate_left; (intro w hSw; (try dsimp only at hSw); go_simp; try (with_reducible rfl)); simp only [List.setIfInBounds_toArray, List.set_cons_zero, List.set_cons_succ]; refine tkD 26 121 (v := ?_) rfl (by kernel_rfl) (fun _ _ _ h => h) rfl (by rfl) (by assumption) ?_ ?_; rotate_left; (intro w hSw; (try dsimp only at hSw); go_simp; try (with_reducible rfl)); simp only [List.setIfInBounds_toArray, List.set_cons_zero, List.set_cons_succ]; refine wpAnyH_ready (rs := [27]) (by kernel_rfl) (by simp) ?_; refine AllReadyH.cons rfl (fun K hK => ?_) AllReadyH.nil; go_simp; refine hc2.out.mono ?_; rintro r w7 ⟨sR', rfl, hr', hk2⟩; have HDN := hid (hmid.done hr' hk2); have hS7 : BgCore wr.heap.size o q w7 := hS6.keeps hk2 HRC.out.1 HRC.out.2; refine hK.out _ _ hS7 (fun hSx => ?_); clear hK K hSx; refine tkD 28 20 (v := ?_) rfl (by kernel_rfl) (fun _ _ _ h => h) rfl (by rfl) (by assumption) ?_ ?_; rotate_left; (intro w hSw; (try dsimp only at hSw); go_simp; try (with_reducible rfl)); simp only [List.setIfInBounds_toArray, List.set_cons_zero, List.set_cons_succ]; refine tkD 29 21 (v := ?_) rfl (by kernel_rfl) (fun _ _ _ h => h) rfl (by rfl) (by assumption) ?_ ?_; rotate_left; (intro w hSw; (try dsimp only at hSw); go_simp; try (with_reducible rfl)); simp only [List.setIfInBounds_toArray, List.set_cons_zero, List.set_cons_succ]; refine wpAnyH_done (by kernel_rfl) ?_ _; clear c12 c12e hmid hc2 hS6 hS7 hr' hk2 hp' hk1 kD; go_wp2; go_meet
                case rel =>
                  obtain ⟨sP2, hin2⟩ := HDN.out
                  exact ⟨_, _, rfl, rfl, rfl, ⟨_, _, _, _, _, hin2, by omega, by omega⟩⟩
              refine AllReadyH.cons rfl (fun K hK => ?_) AllReadyH.nil; go_simp; refine hK.out _ _ kD (fun hSx => ?_); clear hK K hSx; refine wpAnyH_ready (rs := [7, 10]) (by kernel_rfl) (by simp) ?_; refine AllReadyH.cons rfl (fun K hK => ?_) ?_
              · go_simp; refine hK.out _ _ kD (fun hSx => ?_); clear hK K hSx; refine wpAnyH_ready (rs := [10]) (by kernel_rfl) (by simp) ?_; refine AllReadyH.cons rfl (fun K hK => ?_) AllReadyH.nil; go_simp; refine (HMG.out _).mono ?_; rintro r wx ⟨rfl, rfl⟩; refine hK.out _ _ kD (fun hSx => ?_); clear hK K hSx; refine tkD 11 106 (v := ?_) rfl (by kernel_rfl) (fun _ _ _ h => h) rfl (by rfl) (by assumption) ?_ ?_; rotate_left; (intro w hSw; (try dsimp only at hSw); go_simp; try (with_reducible rfl)); simp only [List.setIfInBounds_toArray, List.set_cons_zero, List.set_cons_succ]; refine tkD 12 107 (v := ?_) rfl (by kernel_rfl) (fun _ _ _ h => h) rfl (by rfl) (by assumption) ?_ ?_; rotate_left; (intro w hSw; (try dsimp only at hSw); go_simp; try (with_reducible rfl)); simp only [List.setIfInBounds_toArray, List.set_cons_zero, List.set_cons_succ]; refine wpAnyH_ready (rs := [13]) (by kernel_rfl) (by simp) ?_; refine AllReadyH.cons rfl (fun K hK => ?_) AllReadyH.nil; go_simp; refine HC1.out.mono ?_; rintro r w6 ⟨sP', rfl, hp', hk1⟩; have hmid := HIND.out.mid hp' hk1; have hS6 : BgCore wr.heap.size o q w6 := kD.keeps hk1 HPC.out.1 HPC.out.2; have hc2 := hid (HS2.out sR w6 hmid.rm); have c12e : w6.cell? ⟨gR, 12, none⟩ = some (.int .i64 sR.now) := hmid.rm.at_.cell 12; refine hK.out _ _ hS6 (fun hSx => ?_); clear hK K hSx; refine wpAnyH_ready (rs := [24]) (by kernel_rfl) (by simp) ?_; refine AllReadyH.cons rfl (fun K hK => ?_) AllReadyH.nil; go_simp; refine (HMG.out _).mono ?_; rintro r wx ⟨rfl, rfl⟩; refine hK.out _ _ hS6 (fun hSx => ?_); clear hK K hSx; refine tkD 25 120 (v := ?_) rfl (by kernel_rfl) (fun _ _ _ h => h) rfl (by rfl) (by assumption) ?_ ?_; rotate_left; (intro w hSw; (try dsimp only at hSw); go_simp; try (with_reducible rfl)); simp only [List.setIfInBounds_toArray, List.set_cons_zero, List.set_cons_succ]; refine tkD 26 121 (v := ?_) rfl (by kernel_rfl) (fun _ _ _ h => h) rfl (by rfl) (by assumption) ?_ ?_; rotate_left; (intro w hSw; (try dsimp only at hSw); go_simp; try (with_reducible rfl)); simp only [List.setIfInBounds_toArray, List.set_cons_zero, List.set_cons_succ]; refine wpAnyH_ready (rs := [27]) (by kernel_rfl) (by simp) ?_; refine AllReadyH.cons rfl (fun K hK => ?_) AllReadyH.nil; go_simp; refine hc2.out.mono ?_; rintro r w7 ⟨sR', rfl, hr', hk2⟩; have HDN := hid (hmid.done hr' hk2); have hS7 : BgCore wr.heap.size o q w7 := hS6.keeps hk2 HRC.out.1 HRC.out.2; refine hK.out _ _ hS7 (fun hSx => ?_); clear hK K hSx; refine tkD 28 20 (v := ?_) rfl (by kernel_rfl) (fun _ _ _ h => h) rfl (by rfl) (by assumption) ?_ ?_; rotate_left; (intro w hSw; (try dsimp only at hSw); go_simp; try (with_reducible rfl)); simp only [List.setIfInBounds_toArray, List.set_cons_zero, List.set_cons_succ]; refine tkD 29 21 (v := ?_) rfl (by kernel_rfl) (fun _ _ _ h => h) rfl (by rfl) (by assumption) ?_ ?_; rotate_left; (intro w hSw; (try dsimp only at hSw); go_simp; try (with_reducible rfl)); simp only [List.setIfInBounds_toArray, List.set_cons_zero, List.set_cons_succ]; refine wpAnyH_done (by kernel_rfl) ?_ _; clear c12 c12e hmid hc2 hS6 hS7 hr' hk2 hp' hk1 kD; go_wp2; go_meet
                case rel =>
                  obtain ⟨sP2, hin2⟩ := HDN.out
                  exact ⟨_, _, rfl, rfl, rfl, ⟨_, _, _, _, _, hin2, by omega, by omega⟩⟩
              refine AllReadyH.cons rfl (fun K hK => ?_) AllReadyH.nil; go_simp; refine (HMG.out _).mono ?_; rintro r wx ⟨rfl, rfl⟩; refine hK.out _ _ kD (fun hSx => ?_); clear hK K hSx; refine wpAnyH_ready (rs := [7]) (by kernel_rfl) (by simp) ?_; refine AllReadyH.cons rfl (fun K hK => ?_) AllReadyH.nil; go_simp; refine hK.out _ _ kD (fun hSx => ?_); clear hK K hSx; refine tkD 11 106 (v := ?_) rfl (by kernel_rfl) (fun _ _ _ h => h) rfl (by rfl) (by assumption) ?_ ?_; rotate_left; (intro w hSw; (try dsimp only at hSw); go_simp; try (with_reducible rfl)); simp only [List.setIfInBounds_toArray, List.set_cons_zero, List.set_cons_succ]; refine tkD 12 107 (v := ?_) rfl (by kernel_rfl) (fun _ _ _ h => h) rfl (by rfl) (by assumption) ?_ ?_; rotate_left; (intro w hSw; (try dsimp only at hSw); go_simp; try (with_reducible rfl)); simp only [List.setIfInBounds_toArray, List.set_cons_zero, List.set_cons_succ]; refine wpAnyH_ready (rs := [13]) (by kernel_rfl) (by simp) ?_; refine AllReadyH.cons rfl (fun K hK => ?_) AllReadyH.nil; go_simp; refine HC1.out.mono ?_; rintro r w6 ⟨sP', rfl, hp', hk1⟩; have hmid := HIND.out.mid hp' hk1; have hS6 : BgCore wr.heap.size o q w6 := kD.keeps hk1 HPC.out.1 HPC.out.2; have hc2 := hid (HS2.out sR w6 hmid.rm); have c12e : w6.cell? ⟨gR, 12, none⟩ = some (.int .i64 sR.now) := hmid.rm.at_.cell 12; refine hK.out _ _ hS6 (fun hSx => ?_); clear hK K hSx; refine wpAnyH_ready (rs := [24]) (by kernel_rfl) (by simp) ?_; refine AllReadyH.cons rfl (fun K hK => ?_) AllReadyH.nil; go_simp; refine (HMG.out _).mono ?_; rintro r wx ⟨rfl, rfl⟩; refine hK.out _ _ hS6 (fun hSx => ?_); clear hK K hSx; refine tkD 25 120 (v := ?_) rfl (by kernel_rfl) (fun _ _ _ h => h) rfl (by rfl) (by assumption) ?_ ?_; rotate_left; (intro w hSw; (try dsimp only at hSw); go_simp; try (with_reducible rfl)); simp only [List.setIfInBounds_toArray, List.set_cons_zero, List.set_cons_succ]; refine tkD 26 121 (v := ?_) rfl (by kernel_rfl) (fun _ _ _ h => h) rfl (by rfl) (by assumption) ?_ ?_; rotate_left; (intro w hSw; (try dsimp only at hSw); go_simp; try (with_reducible rfl)); simp only [List.setIfInBounds_toArray, List.set_cons_zero, List.set_cons_succ]; refine wpAnyH_ready (rs := [27]) (by kernel_rfl) (by simp) ?_; refine AllReadyH.cons rfl (fun K hK => ?_) AllReadyH.nil; go_simp; refine hc2.out.mono ?_; rintro r w7 ⟨sR', rfl, hr', hk2⟩; have HDN := hid (hmid.done hr' hk2); have hS7 : BgCore wr.heap.size o q w7 := hS6.keeps hk2 HRC.out.1 HRC.out.2; refine hK.out _ _ hS7 (fun hSx => ?_); clear hK K hSx; refine tkD 28 20 (v := ?_) rfl (by kernel_rfl) (fun _ _ _ h => h) rfl (by rfl) (by assumption) ?_ ?_; rotate_left; (intro w hSw; (try dsimp only at hSw); go_simp; try (with_reducible rfl)); simp only [List.setIfInBounds_toArray, List.set_cons_zero, List.set_cons_succ]; refine tkD 29 21 (v := ?_) rfl (by kernel_rfl) (fun _ _ _ h => h) rfl (by rfl) (by assumption) ?_ ?_; rotate_left; (intro w hSw; (try dsimp only at hSw); go_simp; try (with_reducible rfl)); simp only [List.setIfInBounds_toArray, List.set_cons_zero, List.set_cons_succ]; refine wpAnyH_done (by kernel_rfl) ?_ _; clear c12 c12e hmid hc2 hS6 hS7 hr' hk2 hp' hk1 kD; go_wp2; go_meet
              case rel =>
                obtain ⟨sP2, hin2⟩ := HDN.out
                exact ⟨_, _, rfl, rfl, rfl, ⟨_, _, _, _, _, hin2, by omega, by omega⟩⟩
            · have q1 := Int.emod_nonneg o.gp (show (100000 : Int) ≠ 0 by decide)
              have q2 := Int.emod_lt_of_pos o.gp (show 0 < (100000 : Int) by decide)
              have HMG := hid (fun W => mod_any o.gp 100000 (by decide) (by decide) HWF.out.gp W)
              obtain ⟨G, hG⟩ : ∃ G, o.gp % 100000 = G := ⟨_, rfl⟩
              rw [hG] at HMG q1 q2
              have s1 : IntKind.i64.wrap (sR.now + G) = sR.now + G := IntWalk.i64_in _ (by omega)
              have s2 : IntKind.i64.wrap (sR.now + G - 1) = sR.now + G - 1 := IntWalk.i64_in _ (by omega)
              have c5 : ∀ W, Below wc.heap.size wc W → W.cell? ⟨wr.heap.size, 5, none⟩ = some (.int .i64 o.gp) := fun W h => hpCell (hpKeep HOM.out.1 h) 5
              have c12 : ∀ W, Below wc.heap.size wc W → W.cell? ⟨gR, 12, none⟩ = some (.int .i64 sR.now) := fun W h => (hin.rm.at_.keep h).cell 12
              have kD : Below wc.heap.size wc wc.drew := (Below.refl _ _).drew
              have HIN := hid (hin.below kD)
              have hS := ls_sn (gP := gP) (gR := gR) (k := n) (P := P) (R := R) (x := x) (by omega) (sR.now + G - 1) (by omega)
              obtain ⟨hS1, hS2⟩ := hS
              generalize x.snE (sR.now + G - 1) = E at hS1 hS2
              generalize x.sn (sR.now + G - 1) = y at hS1 hS2
              have HS1 := hid (hS1 sP wc.drew HIN.out.pk)
              have HS2 := hid hS2
              have HBD : Hid (-1 ≤ sR.now + G - 1 ∧ sR.now + G - 1 ≤ tb (n + 1)) := ⟨by omega, by omega⟩
              clear hin hS1 hS2 hG hnw hnw0 hnw1 q1 q2 hA1 hA2
              go_upto_region 25 with (fail)
              go_region_held3 (fun W => Below wc.heap.size wc W) ((with_reducible (first | exact kD | assumption))) ((go_at_call 5; (with_reducible refine (HMG.out _).mono ?_); rintro r w5 ⟨rfl, rfl⟩))
              go_wp2_with fail
              refine HS1.out.mono ?_
              rintro r w6 ⟨sP', rfl, hp', hk1⟩
              have hmid := HIN.out.mid hp' hk1
              have hc2 := hid (HS2.out sR w6 hmid.rm)
              clear c5 c12 kD
              go_wp2_with fail
              refine hc2.out.mono ?_
              rintro r w7 ⟨sR', rfl, hr', hk2⟩
              have HDN := hid (hmid.done hr' hk2)
              clear hmid hc2 hr' hk2 hp' hk1
              go_wp2
              go_meet
              case rel =>
                obtain ⟨sP2, hin2⟩ := HDN.out
                exact ⟨_, _, rfl, rfl, rfl, ⟨_, _, _, _, _, hin2, HBD.out.1, HBD.out.2⟩⟩
            · have v6 : wc.cell? ⟨wr.heap.size, 6, none⟩ = some (.int .i64 o.xt) := hpCell HOM.out.1 6
              have v7 : wc.cell? ⟨wr.heap.size, 7, none⟩ = some (.int .u8 (o.xv.toNat : Int)) := hpCell HOM.out.1 7
              have v8 : wc.cell? ⟨wr.heap.size, 8, none⟩ = some (.int .i64 o.xf) := hpCell HOM.out.1 8
              obtain ⟨rw_, hrw⟩ : ∃ x, o.raw = x := ⟨_, rfl⟩
              have v9 : ∀ X, (wc.alloc X).cell? ⟨wr.heap.size, 9, none⟩ = some (.bool rw_) := fun X => by rw [← hrw]; exact hpCell (hpKeep HOM.out.1 (bal' wc X)) 9
              clear hrw
              cases rw_ with
              | true =>
                go_upto_region 32 with (fail)
                obtain ⟨W5, hW5⟩ : ∃ W, wc.alloc (.cells #[.int .i64 o.xt, .int .u8 (o.xv.toNat : Int), .int .i64 o.xf] 37) = W := ⟨_, rfl⟩
                rw [hW5]
                have hb5 : Below wc.heap.size wc W5 := by rw [← hW5]; exact bal' wc _
                have p5 : W5.heap[wc.heap.size]? = some (.cells #[.int .i64 o.xt, .int .u8 (o.xv.toNat : Int), .int .i64 o.xf] 37) := by rw [← hW5]; exact hpNew wc _
                clear v6 v7 v8 v9 hW5
                have hS := ls_ch (gP := gP) (gR := gR) (k := n) (P := P) (R := R) (x := x) (by omega) ⟨o.xt, o.xv, o.xf⟩
                obtain ⟨hS1, hS2⟩ := hS
                generalize x.chE ⟨o.xt, o.xv, o.xf⟩ = E at hS1 hS2
                generalize x.ch ⟨o.xt, o.xv, o.xf⟩ = y at hS1 hS2
                have HS1 := hid hS1
                have HS2 := hid hS2
                have hin5 := hin.below hb5
                have HIN5 := hid hin5
                have HC1 := hid (HS1.out sP (W5.drew) (hin5.below (Below.refl _ _).drew).pk)
                have HIND := hid (hin5.below (W := W5.drew) (Below.refl _ _).drew)
                have HPC : Hid (∀ j, P j → j ≠ wc.heap.size) := fun j hj => by have := hin.pk.pin j hj; omega
                have HRC : Hid (∀ j, R j → j ≠ wc.heap.size) := fun j hj => by have := hin.rm.pin j hj; omega
                have y0 : ∀ W : World, W.heap[wc.heap.size]? = some (.cells #[.int .i64 o.xt, .int .u8 (o.xv.toNat : Int), .int .i64 o.xf] 37) → W.cell? ⟨wc.heap.size, 0, none⟩ = some (.int .i64 o.xt) := fun W h => hpCell h 0
                have y1 : ∀ W : World, W.heap[wc.heap.size]? = some (.cells #[.int .i64 o.xt, .int .u8 (o.xv.toNat : Int), .int .i64 o.xf] 37) → W.cell? ⟨wc.heap.size, 1, none⟩ = some (.int .u8 (o.xv.toNat : Int)) := fun W h => hpCell h 1
                have y2 : ∀ W : World, W.heap[wc.heap.size]? = some (.cells #[.int .i64 o.xt, .int .u8 (o.xv.toNat : Int), .int .i64 o.xf] 37) → W.cell? ⟨wc.heap.size, 2, none⟩ = some (.int .i64 o.xf) := fun W h => hpCell h 2
                have kD : W5.drew.heap[wc.heap.size]? = some (.cells #[.int .i64 o.xt, .int .u8 (o.xv.toNat : Int), .int .i64 o.xf] 37) := p5
                clear hS1 hS2 hin hin5 p5 hb5
                go_region_held3 (fun (W : World) => W.heap[wc.heap.size]? = some (.cells #[.int .i64 o.xt, .int .u8 (o.xv.toNat : Int), .int .i64 o.xf] 37)) ((with_reducible (first | exact kD | assumption))) (first
                  | (go_at_call 14; (with_reducible refine HC1.out.mono ?_); rintro r w6 ⟨sP', rfl, hp', hk1⟩; have hmid := HIND.out.mid hp' hk1; have hS6 : w6.heap[wc.heap.size]? = some (.cells #[.int .i64 o.xt, .int .u8 (o.xv.toNat : Int), .int .i64 o.xf] 37) := hpKeeps kD hk1 (fun e => HPC.out _ e rfl); have hc2 := HS2.out sR w6 hmid.rm)
                  | (go_at_call 15; (with_reducible refine hc2.mono ?_); rintro r w7 ⟨sR', rfl, hr', hk2⟩; have hS7 : w7.heap[wc.heap.size]? = some (.cells #[.int .i64 o.xt, .int .u8 (o.xv.toNat : Int), .int .i64 o.xf] 37) := hpKeeps hS6 hk2 (fun e => HRC.out _ e rfl)))
                all_goals
                  have HDN := hid (hmid.done hr' hk2)
                  clear hmid hc2 hS6 hS7 hr' hk2 hp' hk1 y0 y1 y2 kD
                  go_wp2
                  go_meet
                  case rel =>
                    obtain ⟨sP2, hin2⟩ := HDN.out
                    exact ⟨_, _, rfl, rfl, rfl, ⟨_, _, _, _, _, hin2, by omega, by omega⟩⟩
              | false =>
                have q1 := Int.emod_nonneg o.xt (show (9000 : Int) ≠ 0 by decide)
                have q2 := Int.emod_lt_of_pos o.xt (show 0 < (9000 : Int) by decide)
                have HMG := hid (fun W => mod_any o.xt 9000 (by decide) (by decide) HWF.out.xt W)
                obtain ⟨G, hG⟩ : ∃ G, o.xt % 9000 = G := ⟨_, rfl⟩
                rw [hG] at HMG q1 q2
                have s1 : IntKind.i64.wrap (A + G) = A + G := IntWalk.i64_in _ (by omega)
                clear hG
                go_upto_region 32 with (go_at_call 5; (with_reducible refine (HMG.out _).mono ?_); rintro r w5 ⟨rfl, rfl⟩)
                obtain ⟨W5, hW5⟩ : ∃ W, wc.alloc (.cells #[.int .i64 (A + G), .int .u8 (o.xv.toNat : Int), .int .i64 o.xf] 37) = W := ⟨_, rfl⟩
                rw [hW5]
                have hb5 : Below wc.heap.size wc W5 := by rw [← hW5]; exact bal' wc _
                have p5 : W5.heap[wc.heap.size]? = some (.cells #[.int .i64 (A + G), .int .u8 (o.xv.toNat : Int), .int .i64 o.xf] 37) := by rw [← hW5]; exact hpNew wc _
                clear v6 v7 v8 v9 hW5
                have hS := ls_ch (gP := gP) (gR := gR) (k := n) (P := P) (R := R) (x := x) (by omega) ⟨A + G, o.xv, o.xf⟩
                obtain ⟨hS1, hS2⟩ := hS
                generalize x.chE ⟨A + G, o.xv, o.xf⟩ = E at hS1 hS2
                generalize x.ch ⟨A + G, o.xv, o.xf⟩ = y at hS1 hS2
                have HS1 := hid hS1
                have HS2 := hid hS2
                have hin5 := hin.below hb5
                have HIN5 := hid hin5
                have HC1 := hid (HS1.out sP (W5.drew) (hin5.below (Below.refl _ _).drew).pk)
                have HIND := hid (hin5.below (W := W5.drew) (Below.refl _ _).drew)
                have HPC : Hid (∀ j, P j → j ≠ wc.heap.size) := fun j hj => by have := hin.pk.pin j hj; omega
                have HRC : Hid (∀ j, R j → j ≠ wc.heap.size) := fun j hj => by have := hin.rm.pin j hj; omega
                have y0 : ∀ W : World, W.heap[wc.heap.size]? = some (.cells #[.int .i64 (A + G), .int .u8 (o.xv.toNat : Int), .int .i64 o.xf] 37) → W.cell? ⟨wc.heap.size, 0, none⟩ = some (.int .i64 (A + G)) := fun W h => hpCell h 0
                have y1 : ∀ W : World, W.heap[wc.heap.size]? = some (.cells #[.int .i64 (A + G), .int .u8 (o.xv.toNat : Int), .int .i64 o.xf] 37) → W.cell? ⟨wc.heap.size, 1, none⟩ = some (.int .u8 (o.xv.toNat : Int)) := fun W h => hpCell h 1
                have y2 : ∀ W : World, W.heap[wc.heap.size]? = some (.cells #[.int .i64 (A + G), .int .u8 (o.xv.toNat : Int), .int .i64 o.xf] 37) → W.cell? ⟨wc.heap.size, 2, none⟩ = some (.int .i64 o.xf) := fun W h => hpCell h 2
                have kD : W5.drew.heap[wc.heap.size]? = some (.cells #[.int .i64 (A + G), .int .u8 (o.xv.toNat : Int), .int .i64 o.xf] 37) := p5
                clear hS1 hS2 hin hin5 p5 hb5
                go_region_held3 (fun (W : World) => W.heap[wc.heap.size]? = some (.cells #[.int .i64 (A + G), .int .u8 (o.xv.toNat : Int), .int .i64 o.xf] 37)) ((with_reducible (first | exact kD | assumption))) (first
                  | (go_at_call 14; (with_reducible refine HC1.out.mono ?_); rintro r w6 ⟨sP', rfl, hp', hk1⟩; have hmid := HIND.out.mid hp' hk1; have hS6 : w6.heap[wc.heap.size]? = some (.cells #[.int .i64 (A + G), .int .u8 (o.xv.toNat : Int), .int .i64 o.xf] 37) := hpKeeps kD hk1 (fun e => HPC.out _ e rfl); have hc2 := HS2.out sR w6 hmid.rm)
                  | (go_at_call 15; (with_reducible refine hc2.mono ?_); rintro r w7 ⟨sR', rfl, hr', hk2⟩; have hS7 : w7.heap[wc.heap.size]? = some (.cells #[.int .i64 (A + G), .int .u8 (o.xv.toNat : Int), .int .i64 o.xf] 37) := hpKeeps hS6 hk2 (fun e => HRC.out _ e rfl)))
                all_goals
                  have HDN := hid (hmid.done hr' hk2)
                  clear hmid hc2 hS6 hS7 hr' hk2 hp' hk1 y0 y1 y2 kD
                  go_wp2
                  go_meet
                  case rel =>
                    obtain ⟨sP2, hin2⟩ := HDN.out
                    exact ⟨_, _, rfl, rfl, rfl, ⟨_, _, _, _, _, hin2, by omega, by omega⟩⟩
            · have hS := ls_sl (gP := gP) (gR := gR) (k := n) (P := P) (R := R) (x := x) (by omega)
              obtain ⟨hS1, hS2⟩ := hS
              generalize x.slE = E at hS1 hS2
              generalize x.sl = y at hS1 hS2
              have HS1 := hid (hS1 sP wc hin.pk)
              have HS2 := hid hS2
              have HIN := hid hin
              clear hin hS1 hS2
              go_wp2_with fail
              refine HS1.out.mono ?_
              rintro r w6 ⟨sP', rfl, hp', hk1⟩
              have hmid := HIN.out.mid hp' hk1
              have hc2 := hid (HS2.out sR w6 hmid.rm)
              go_wp2_with fail
              refine hc2.out.mono ?_
              rintro r w7 ⟨sR', rfl, hr', hk2⟩
              have HDN := hid (hmid.done hr' hk2)
              have c12 : w7.cell? ⟨gR, 12, none⟩ = some (.int .i64 sR'.now) := hr'.at_.cell 12
              have b1 := hr'.ok.now0
              have b2 := hr'.ok.now1
              have b3 := hr'.now
              clear hmid hc2 hr' hk2 hp' hk1
              go_wp2
              go_meet
              case rel =>
                obtain ⟨sP2, hin2⟩ := HDN.out
                exact ⟨_, _, rfl, rfl, rfl, ⟨_, _, _, _, _, hin2, by omega, by omega⟩⟩
          case rest =>
            obtain ⟨A', e, rfl, rfl, rfl, hls'⟩ := hcut
            obtain ⟨P, R, x, sP, sR, hin, hA⟩ := hls'.out
            have HSM := hid (lksame_any hin.pk hin.rm)
            clear hin hA HIN0 HPN HRN HOM
            go_wp2_with fail
            refine HSM.out.mono ?_
            rintro r w7 ⟨rfl, hb7⟩
            have HL7 := hid (hls'.out.below hb7)
            clear hb7 HSM
            go_wp2
            go_roundw
            case rel => exact ⟨n + 1, A', by omega, rfl, by go_num, HL7.out⟩
            case measure => simp [intOf]; omega
      · have hb := hls.out.bel
        have hgo' : ¬ n < len ∨ (n < len ∧ ¬ n < 30) := by omega
        rcases hgo' with h | ⟨h, h'⟩
        · have h1 : ¬ (n : Int) < (len : Int) := by omega
          clear h hgo
          go_wp2_with fail
          refine (lkawake_any _).mono ?_
          rintro r w4 ⟨rfl, hb4⟩
          go_wp2
          go_ret
          exact ⟨rfl, bt hb hb4 (Nat.le_refl _)⟩
        · have h1 : (n : Int) < (len : Int) := by omega
          have h2 : ¬ (n : Int) < 30 := by omega
          clear h h' hgo
          go_wp2_with fail
          refine (lkawake_any _).mono ?_
          rintro r w4 ⟨rfl, hb4⟩
          go_wp2
          go_ret
          exact ⟨rfl, bt hb hb4 (Nat.le_refl _)⟩
  · refine (lknew_range b p re ti de HSET hok W1).mono ?_
    rintro r w2 ⟨rfl, hb2⟩
    go_wp2_with fail
    refine (rknew_range b p re ti de HSET hok w2).mono ?_
    rintro r w3 ⟨rfl, hb3⟩
    have hb13 := bt HB1.out (bt hb2 hb3 (Nat.le_refl _)) (Nat.le_refl _)
    clear y0 y1 hb2 hb3 HP1 HM1 hok
    go_wp2_with fail
    refine (lkawake_any _).mono ?_
    rintro r w4 ⟨rfl, hb4⟩
    go_wp2
    go_ret
    exact ⟨rfl, bt hb13 hb4 (Nat.le_refl _)⟩

end Go.Proofs.YtpmidoneoonlcaaGreat
