/-
  Several texts of this claim in one file.
-/
import Derived.Test.YtpmidoneoonlcaaGreatMpk
import Derived.Test.YtpmidoneoonlcaaGreatMrk
/-
The reference's link: Char where the character is heard.
-/
namespace Go.Proofs.YtpmidoneoonlcaaGreat
open Go.RowKit

/-- What Char leaves where the character is heard. -/
def RkHeard (w : World) (g : Nat) (s s' : Rk) (l : List Ev) (r : Ending) (w' : World) : Prop :=
  ∃ a c, r = .returned (.int .i64 0) ∧ RkAt w' g { s' with ea := a, eln := s.eln + 1, ec := c } ∧ w'.ownsRow (g + 1) 37 3 (.slice a (s.eln + 1) c) (s.eln + 1) (evV l) ∧ NewOr w (.slice s.ea s.eln s.ec) (.slice a (s.eln + 1) c) ∧ Keeps (fun j => j = g ∨ (Value.slice s.ea s.eln s.ec).ownBlock = some j) w w'

theorem infoEv : (Tryz.prog.info? 37).map (fun i => (i.zero, i.size, i.bytes)) = some (some (.agg #[.int .i64 0, .int .u8 0, .int .i64 0]), 3, 24) := by kernel_rfl

/-- Behind the append. -/
def RkMid (w : World) (g : Nat) (s : Rk) (t : Int) (v : UInt8) (fl : Int) (n : Nat) (L : List Ev) (wc : World) : Prop :=
  ∃ a c, RkAt wc g { s with la := t, ea := a, eln := n, ec := c } ∧ wc.heap[w.heap.size]? = some (.cells #[.int .i64 t, .int .u8 (v.toNat : Int), .int .i64 fl] 37) ∧ wc.ownsRow (g + 1) 37 3 (.slice a n c) n (evV L) ∧ NewOr w (.slice s.ea s.eln s.ec) (.slice a n c) ∧ Keeps (fun j => j = g ∨ (Value.slice s.ea s.eln s.ec).ownBlock = some j) w wc
theorem RkMid.below {w : World} {g : Nat} {s : Rk} {t : Int} {v : UInt8} {fl : Int} {n : Nat} {L : List Ev} {wc W : World} (h : RkMid w g s t v fl n L wc) (hb : Below wc.heap.size wc W) : RkMid w g s t v fl n L W := by
  obtain ⟨a, c, h1, h2, h3, h4, h5⟩ := h
  exact ⟨a, c, h1.keep hb, hpKeep h2 hb, own_keeps (F := fun _ => False) h3 (Keeps.of_below hb) (fun _ _ f => f), h4, h5.trans (Keeps.of_below hb) (fun _ _ e => e)⟩

/-- The reference in block g but for the cells of A, and the character's tick. -/
def RkB (g b0 : Nat) (t : Int) (s : Rk) (A : List Nat) (W : World) : Prop := RkS g s A W ∧ W.cell? ⟨b0, 0, none⟩ = some (.int .i64 t)
theorem RkB.set {g b0 : Nat} {t : Int} {s : Rk} {A : List Nat} {W : World} (h : RkB g b0 t s A W) (hb : b0 ≠ g) {j : Nat} (hj : j ∈ A) (v : Value) : RkB g b0 t s A (W.setCell ⟨g, j, none⟩ v) :=
  ⟨h.1.set hj v, by rw [World.cell?_setCell_other _ _ _ _ (fun e => hb (by cases e; rfl))]; exact h.2⟩

set_option maxRecDepth 100000 in
set_option maxHeartbeats 6400000 in
theorem rkchar_one (g : Nat) (s : Rk) (t : Int) (v : UInt8) (fl : Int) (w : World) (hl : RkAt w g s) (hr : 0 ≤ t ∧ t ≤ s.til) (ho : s.la ≤ t) (hph : s.ph = 2) (hd : s.en < t) (hE : s.eln = 0) (hrow : w.ownsRow (g + 1) 37 3 (.slice s.ea s.eln s.ec) s.eln []) (htil : s.til ≤ 1500000000) (hset : Hid (Okset s.b s.p)) :
    Calls Tryz.prog 15 #[.pointer (some ⟨g, 0, none⟩), .agg #[.int .i64 t, .int .u8 (v.toNat : Int), .int .i64 fl]] w (RkHeard w g s { s with la := t, ph := 3, til := t + t35T s.b + charT s.b } [⟨t, v, fl⟩]) := by
  obtain ⟨i5, hi, hz0, hz1, hz2⟩ := info_parts infoEv
  obtain ⟨W0, hW0⟩ : ∃ W, w.alloc (.cells #[.int .i64 t, .int .u8 (v.toNat : Int), .int .i64 fl] 37) = W := ⟨_, rfl⟩; have hb0 : Below w.heap.size w W0 := (by rw [← hW0]; exact bal' w _); have p0 : W0.heap[w.heap.size]? = some (.cells #[.int .i64 t, .int .u8 (v.toNat : Int), .int .i64 fl] 37) := (by rw [← hW0]; exact hpNew w _); have l0 := hl.keep hb0; have HW0 := hid hW0; have HB0 := hid hb0; have P0 := hid p0; have L0 := hid l0; have hg := hl.lt; have g0 : W0.cell? ⟨w.heap.size, 0, none⟩ = some (.int .i64 t) := hpCell p0 0; have c13 : W0.cell? ⟨g, 13, none⟩ = some (.int .i64 s.en) := l0.cell 13; have c14 : W0.cell? ⟨g, 14, none⟩ = some (.int .i64 s.til) := l0.cell 14; have c15 : W0.cell? ⟨g, 15, none⟩ = some (.int .i64 s.la) := l0.cell 15; have f15 : W0.frozen? ⟨g, 15, none⟩ = false := l0.free 15; have hgn : g ≠ w.heap.size := (by omega)
  have d1 : decide (t < 0) = false := decide_eq_false (by omega)
  have d2 : decide (s.til < t) = false := decide_eq_false (by omega)
  have d3 : decide (t < s.la) = false := decide_eq_false (by omega)
  have c5 : W0.cell? ⟨g, 5, none⟩ = some (.int .i64 2) := by rw [l0.cell 5]; simp [Rk.cells, hph]
  have d4 : decide (s.en < t) = true := decide_eq_true hd
  have HRW := hid hrow
  have HT0 : Hid (0 ≤ t ∧ t ≤ 1500000000) := ⟨hr.1, by omega⟩
  obtain ⟨n, hn⟩ : ∃ n, s.eln + 1 = n := ⟨_, rfl⟩
  have d5 : decide ((1 : Int) < (n : Int)) = false := decide_eq_false (by omega)
  have HNN := hid hn
  have HE := hid hE
  clear hE hn
  clear hr ho hl hd hW0 hb0 p0 l0 hrow hph
  go_enter Tryz.func15, Tryz.ntmps15
  go_upto_region 1 with (fail)
  rw [HW0.out]
  go_wp2
  go_quiet (fail)
  go_wp2
  go_quiet (fail)
  go_wp2
  go_quiet (fail)
  go_upto_region 9 with (fail)
  rename_i na nb K1 a1 K2 a2
  clear g0 c13 c14 c15 f15 c5 d1 d2 d3 d4
  obtain ⟨W1, hW1⟩ : ∃ W, W = ((W0.drewN (na + nb)).setCell ⟨g, 15, none⟩ (.int .i64 t)).drewN nq := ⟨_, rfl⟩; rw [← hW1]; have l1 : RkAt W1 g { s with la := t } := (by rw [hW1]; exact RkAt.keep (hpSetE (L0.out.keep (below_drewN (Below.refl _ _) _)) rfl) (below_drewN (Below.refl _ _) _)); have p1 : W1.heap[w.heap.size]? = some (.cells #[.int .i64 t, .int .u8 (v.toNat : Int), .int .i64 fl] 37) := (by rw [hW1]; exact hpKeep ((hpOther (Ne.symm hgn)).trans (hpKeep P0.out (below_drewN (Below.refl _ _) _))) (below_drewN (Below.refl _ _) _)); have k1 : Keeps (· = g) w W1 := (by rw [hW1]; exact (kset' (Keeps.of_below (bt HB0.out (below_drewN (Below.refl _ _) _) (Nat.le_refl _))) _ _).trans (Keeps.of_below (below_drewN (Below.refl _ _) _)) (fun _ _ e => e))
  have own1 := hid (own_keeps HRW.out k1 (fun k hk e => (by have h1 := (HRW.out.lt k hk).1; have h2 : k = g := e; omega))); have hs1 : w.heap.size < W1.heap.size := hpLt p1; have c16 : W1.cell? ⟨g, 16, none⟩ = some (.slice s.ea s.eln s.ec) := l1.cell 16; have cA16 : ∀ X, (W1.alloc X).cell? ⟨g, 16, none⟩ = some (.slice s.ea s.eln s.ec) := (fun X => (l1.keep (bal' _ X)).cell 16); have f16 : W1.frozen? ⟨g, 16, none⟩ = false := l1.free 16; have y0 : W1.cell? ⟨w.heap.size, 0, none⟩ = some (.int .i64 t) := hpCell p1 0; have y1 : W1.cell? ⟨w.heap.size, 1, none⟩ = some (.int .u8 (v.toNat : Int)) := hpCell p1 1; have y2 : W1.cell? ⟨w.heap.size, 2, none⟩ = some (.int .i64 fl) := hpCell p1 2; have hgo : Hid (some g ≠ (Value.slice s.ea s.eln s.ec).ownBlock) := (fun h => (by have := (HRW.out.lt g h.symm).1; omega)); have hpo : Hid (some w.heap.size ≠ (Value.slice s.ea s.eln s.ec).ownBlock) := (fun h => (by have := (HRW.out.lt _ h.symm).2; omega)); have hg1 : g < W1.heap.size := (by omega); have HB2 : Hid (∀ w2, (W1.alloc (.cells #[.int .i64 t, .int .u8 (v.toNat : Int), .int .i64 fl] 37)).drew.grownBy w2 (Value.slice s.ea s.eln s.ec).ownBlock → RkAt w2 g { s with la := t } ∧ w2.heap[w.heap.size]? = some (.cells #[.int .i64 t, .int .u8 (v.toNat : Int), .int .i64 fl] 37)) := (fun w2 h => ⟨(h.block g (by show g < (W1.alloc _).heap.size; simp; omega) hgo.out).trans (l1.keep (bal' _ _).drew), (h.block w.heap.size (by show w.heap.size < (W1.alloc _).heap.size; simp; omega) hpo.out).trans (hpKeep p1 (bal' _ _).drew)⟩); have L1 := hid l1; have K1 := hid k1; clear l1 k1 p1 hW1
  go_cut [] from 70 to 79 (fun wc => Hid (RkMid w g s t v fl n [⟨t, v, fl⟩] wc))
  case first =>
    go_region_law (refine step_appN rfl (.tmp 74) (.tmp 76) 44 rfl (g + 1) 37 i5 _ 3 24 Tryz.underlying44 hi hz0 hz1 hz2 rfl (by decide) (.slice s.ea s.eln s.ec) s.eln [] rfl (own1.out.alloc _) ⟨W1.heap.size, 0, none⟩ 1 1 [.int .i64 t, .int .u8 (v.toNat : Int), .int .i64 fl] rfl rfl (newsNew W1 [.int .i64 t, .int .u8 (v.toNat : Int), .int .i64 fl] _) (by intro u hu; simp at hu; rcases hu with rfl | rfl | rfl <;> rfl) (by have := HE.out; unfold maxLen; omega) (by have := HE.out; omega) (by simp; omega) ?_; intro v' w2 hown2 hgr hnew; rw [HNN.out] at hown2; obtain ⟨a', c', rfl⟩ := own_slice hown2; have z16 : w2.cell? ⟨g, 16, none⟩ = some (.slice s.ea s.eln s.ec) := (HB2.out w2 hgr).1.cell 16; have x16 : w2.frozen? ⟨g, 16, none⟩ = false := (HB2.out w2 hgr).1.free 16)
    all_goals
      obtain ⟨l2, p2⟩ := HB2.out w2 hgr; obtain ⟨W3, hW3⟩ : ∃ W, W = w2.setCell ⟨g, 16, none⟩ (.slice a' n c') := ⟨_, rfl⟩; rw [← hW3]; have HM3 : Hid (RkMid w g s t v fl n [⟨t, v, fl⟩] W3) := (by refine ⟨a', c', ?_, ?_, ?_, ?_, ?_⟩; (rw [hW3]; exact hpSetE l2 rfl); (rw [hW3]; exact (hpOther (Ne.symm hgn)).trans p2); (rw [hW3]; exact own_keeps (by simpa [evV_append, evV] using hown2) (setK (p := g)) (fun k hk e => (by have h1 := (hown2.lt k hk).1; have h2 : k = g := e; omega))); (rcases hnew with h | ⟨j, h, hj⟩; exact .inl h; refine .inr ⟨j, h, ?_⟩; have hj' : (W1.alloc (.cells #[.int .i64 t, .int .u8 (v.toNat : Int), .int .i64 fl] 37)).heap.size ≤ j := hj; simp at hj'; omega); (rw [hW3]; exact ((K1.out.mono (fun k _ h => Or.inl h)).trans ((Keeps.of_below (bal' W1 (.cells #[.int .i64 t, .int .u8 (v.toNat : Int), .int .i64 fl] 37)).drew).trans (Keeps.of_grown (F := fun j => j = g ∨ (Value.slice s.ea s.eln s.ec).ownBlock = some j) hgr (fun k hk => .inr hk)) (fun _ _ h => h)) (fun _ _ h => h)).set ⟨g, 16, none⟩ _ (.inl rfl))); have c16 : W3.cell? ⟨g, 16, none⟩ = some (.slice a' n c') := (by rw [hW3]; exact hpCell (hpSet l2 16 (.slice a' n c')) 16); clear l2 p2 hW3 hown2 hgr hnew z16 x16 own1 HB2 y0 y1 y2 f16 cA16
      go_wp2
      go_meet
      case rel => exact HM3.out
  case rest =>
    obtain ⟨a', c', l3, p3, o3, n3, k3⟩ := hcut
    have c16 : wc.cell? ⟨g, 16, none⟩ = some (.slice a' n c') := l3.cell 16
    have L3 := hid l3
    have P3 := hid p3
    have O3 := hid o3
    have N3 := hid n3
    have K3 := hid k3
    clear l3 p3 o3 n3 k3
    go_wp2
    go_quiet (fail)
    go_upto_region 15 with (fail)
    obtain ⟨W4, hW4⟩ : ∃ W, W = wc.drewN nq := ⟨_, rfl⟩
    rw [← hW4]
    have hb4 : Below wc.heap.size wc W4 := by rw [hW4]; exact below_drewN (Below.refl _ _) _
    clear hW4 c16
    obtain ⟨s1, hs1⟩ : ∃ x, x = { s with la := t, ea := a', eln := n, ec := c' } := ⟨_, rfl⟩; have l4 : RkAt W4 g s1 := (by rw [hs1]; exact L3.out.keep hb4); have p4 := hpKeep P3.out hb4; have hset1 : Hid (Okset s1.b s1.p) := (by rw [hs1]; exact hset); obtain ⟨t1, t2, _, _, t5, t6⟩ := time_bd hset1.out; obtain ⟨C, hC⟩ : ∃ C, charT s1.b = C := ⟨_, rfl⟩; obtain ⟨T, hT⟩ : ∃ T, t35T s1.b = T := ⟨_, rfl⟩; have HCH : Hid (∀ W, Calls Tryz.prog 37 #[.agg #[.int .i64 s1.b, .int .i64 s1.p]] W fun r w' => r = .returned (.int .i64 C) ∧ Below W.heap.size W w') := (fun W => by rw [← hC]; exact rchar_ok s1.b s1.p hset1 W); have HT3 : Hid (∀ W, Calls Tryz.prog 36 #[.agg #[.int .i64 s1.b, .int .i64 s1.p]] W fun r w' => r = .returned (.int .i64 T) ∧ Below W.heap.size W w') := (fun W => by rw [← hT]; exact rt35_ok s1.b s1.p hset1 W); rw [hC] at t1 t2; rw [hT] at t5 t6; obtain ⟨Q, hQ⟩ : ∃ Q, t + T + C = Q := ⟨_, rfl⟩; have s2 : IntKind.i64.wrap (t + T) = t + T := IntWalk.i64_in _ (by have := HT0.out; omega); have s3 : IntKind.i64.wrap (t + T + C) = Q := (by rw [← hQ]; exact IntWalk.i64_in _ (by have := HT0.out; omega)); have HQ : Hid (Q = t + t35T s.b + charT s.b) := (by show _ = _; rw [← hQ, ← hC, ← hT, hs1])
    have k0 : ∀ W, RkB g w.heap.size t s1 [5, 14] W → W.cell? ⟨g, 0, none⟩ = some (.int .i64 s1.b) := (fun W h => h.1 0 (by decide)); have k1 : ∀ W, RkB g w.heap.size t s1 [5, 14] W → W.cell? ⟨g, 1, none⟩ = some (.int .i64 s1.p) := (fun W h => h.1 1 (by decide)); have kt : ∀ W, RkB g w.heap.size t s1 [5, 14] W → W.cell? ⟨w.heap.size, 0, none⟩ = some (.int .i64 t) := (fun W h => h.2); have j5 : ∀ W v, RkB g w.heap.size t s1 [5, 14] W → RkB g w.heap.size t s1 [5, 14] (W.setCell ⟨g, 5, none⟩ v) := (fun W v h => h.set (Ne.symm hgn) (by decide) v); have j14 : ∀ W v, RkB g w.heap.size t s1 [5, 14] W → RkB g w.heap.size t s1 [5, 14] (W.setCell ⟨g, 14, none⟩ v) := (fun W v h => h.set (Ne.symm hgn) (by decide) v); have HS : Hid (∀ W, Below W4.heap.size W4 W → RkB g w.heap.size t s1 [5, 14] W) := (fun W h => ⟨(l4.keep h).rks _, hpCell (hpKeep p4 h) 0⟩); have kD : Below W4.heap.size W4 W4.drew := (Below.refl _ _).drew; have kS : RkB g w.heap.size t s1 [5, 14] W4.drew := HS.out _ kD; have HB : Hid (∀ W, Below W4.heap.size W4 W → W.cell? ⟨g, 5, none⟩ = some (.int .i64 s1.ph) ∧ W.cell? ⟨g, 14, none⟩ = some (.int .i64 s1.til) ∧ W.frozen? ⟨g, 5, none⟩ = false ∧ W.frozen? ⟨g, 14, none⟩ = false) := (fun W h => ⟨(l4.keep h).cell 5, (l4.keep h).cell 14, (l4.keep h).free 5, (l4.keep h).free 14⟩); have L4 := hid l4; have HB4 := hid hb4; have HS1 := hid hs1; clear l4 p4 hb4 hs1 hC hT hQ t1 t2 t5 t6
    go_region_held3 (fun W => RkB g w.heap.size t s1 [5, 14] W) ((with_reducible (first | exact kS | assumption | exact j5 _ _ hSL | exact j14 _ _ (j5 _ _ hSL)))) (first | (go_at_call 37; (with_reducible refine (HCH.out W4.drew).mono ?_); rintro r w4 ⟨rfl, hb4⟩; have hB4 := bt kD hb4 (Nat.le_refl _); have hS4 := HS.out _ hB4) | (go_at_call 36; (with_reducible refine (HT3.out W4.drew).mono ?_); rintro r w5 ⟨rfl, hb5⟩; have hB5 := bt kD hb5 (Nat.le_refl _); have hS5 := HS.out _ hB5) | (go_at_call 37; (with_reducible refine (HCH.out w5).mono ?_); rintro r w4 ⟨rfl, hb4⟩; have hBL := bt hB5 hb4 (Nat.le_refl _); have hSL := HS.out _ hBL; obtain ⟨z5, z14, y5, y14⟩ := HB.out _ hBL) | (go_at_call 36; (with_reducible refine (HT3.out w4).mono ?_); rintro r w5 ⟨rfl, hb5⟩; have hBL := bt hB4 hb5 (Nat.le_refl _); have hSL := HS.out _ hBL; obtain ⟨z5, z14, y5, y14⟩ := HB.out _ hBL))
    all_goals
      have l9 : RkAt _ g { s1 with ph := 3, til := Q } := hpSetE (u := .int .i64 Q) (i := 14) (hpSetE (u := .int .i64 3) (i := 5) (L4.out.keep hBL) rfl) rfl; have k9 : Keeps (fun j => j = g ∨ (Value.slice s.ea s.eln s.ec).ownBlock = some j) w _ := (K3.out.trans ((Keeps.of_below HB4.out).trans (kset' (kset' (Keeps.of_below hBL) 5 (.int .i64 3)) 14 (.int .i64 Q)) (fun _ _ e => e)) (fun _ _ e => .inl e)); have o9 := own_keeps O3.out ((Keeps.of_below HB4.out).trans (kset' (kset' (Keeps.of_below hBL) 5 (.int .i64 3)) 14 (.int .i64 Q)) (fun _ _ e => e)) (fun k hk e => (by have h1 := (O3.out.lt k hk).1; have h2 : k = g := e; omega)); clear k0 k1 kt j5 j14 kS z5 z14 y5 y14 hSL
      go_wp2
      go_ret
      rw [HS1.out] at l9
      unfold RkHeard
      rw [HNN.out, ← HQ.out]
      exact ⟨a', c', rfl, l9, o9, N3.out, k9⟩

end Go.Proofs.YtpmidoneoonlcaaGreat

/-
The reference's link: Char where the character is heard behind others.
-/
namespace Go.Proofs.YtpmidoneoonlcaaGreat
open Go.RowKit

/-- The reference's silence before the character that was appended. -/
theorem hearSil (b p : Int) (hset : Hid (Okset b p)) (bk n c j i : Nat) (l : List Ev) (e : Ev) (h1 : i = j + 1) (h2 : i = l.length) (h3 : n = i + 1) (h4 : n ≤ 100) (hbd : ∀ q, q < l.length → 0 ≤ (evAt l q).t ∧ (evAt l q).t ≤ 1500000000) (h5 : 0 ≤ e.t) (h6 : e.t ≤ 1500000000) (W : World)
    (hc : ∀ q, q < (l ++ [e]).length → W.cell? ⟨bk, q * 3, none⟩ = some (.int .i64 (evAt (l ++ [e]) q).t)) :
    Calls Tryz.prog 42 #[.agg #[.int .i64 b, .int .i64 p], .slice (some ⟨bk, 0, none⟩) n c, .int .i64 (i : Int)] W fun r w' => r = .returned (.int .i64 (silE (charT b) (l ++ [e]) l.length)) ∧ Below W.heap.size W w' := by
  have hll : (l ++ [e]).length = l.length + 1 := by simp
  have e1 : evAt (l ++ [e]) j = evAt l j := evAt_old (by omega)
  have e2 : evAt (l ++ [e]) i = e := by rw [h2]; exact evAt_new l e
  have c1 := hc j (by omega)
  have c2 := hc i (by omega)
  have hj := hbd j (by omega)
  have := rsil_ok b p hset bk n c j i (evAt (l ++ [e]) j).t (evAt (l ++ [e]) i).t h1 (by omega) h4 (by rw [e1]; exact hj.1) (by rw [e1]; omega) (by rw [e2]; exact h5) (by rw [e2]; omega) W c1 c2
  rw [← h2]
  unfold silE
  rw [show i - 1 = j by omega]
  exact this

set_option maxRecDepth 100000 in
set_option maxHeartbeats 6400000 in
theorem rkchar_hear (g : Nat) (s : Rk) (t : Int) (v : UInt8) (fl : Int) (l : List Ev) (w : World) (hl : RkAt w g s) (hr : 0 ≤ t ∧ t ≤ s.til) (ho : s.la ≤ t) (hph : s.ph = 3) (hrow : w.ownsRow (g + 1) 37 3 (.slice s.ea s.eln s.ec) s.eln (evV l)) (hne : l ≠ []) (hlen : l.length ≤ 40)
    (hbd : ∀ q, q < l.length → 0 ≤ (evAt l q).t ∧ (evAt l q).t ≤ 1500000000) (htil : s.til ≤ 1500000000) (hset : Hid (Okset s.b s.p)) (hS : (decide (0 < l.length) && decide (t35T s.b ≤ silE (charT s.b) (l ++ [⟨t, v, fl⟩]) l.length)) = false) :
    Calls Tryz.prog 15 #[.pointer (some ⟨g, 0, none⟩), .agg #[.int .i64 t, .int .u8 (v.toNat : Int), .int .i64 fl]] w (RkHeard w g s { s with la := t, ph := 3, til := t + t35T s.b + charT s.b } (l ++ [⟨t, v, fl⟩])) := by
  obtain ⟨i5, hi, hz0, hz1, hz2⟩ := info_parts infoEv; obtain ⟨hnl0, -⟩ := own_ev hrow hne; have hpos : 0 < l.length := List.length_pos_iff.2 hne; obtain ⟨W0, hW0⟩ : ∃ W, w.alloc (.cells #[.int .i64 t, .int .u8 (v.toNat : Int), .int .i64 fl] 37) = W := ⟨_, rfl⟩; have hb0 : Below w.heap.size w W0 := (by rw [← hW0]; exact bal' w _); have p0 : W0.heap[w.heap.size]? = some (.cells #[.int .i64 t, .int .u8 (v.toNat : Int), .int .i64 fl] 37) := (by rw [← hW0]; exact hpNew w _); have l0 := hl.keep hb0; have HW0 := hid hW0; have HB0 := hid hb0; have P0 := hid p0; have L0 := hid l0; have hg := hl.lt; have g0 : W0.cell? ⟨w.heap.size, 0, none⟩ = some (.int .i64 t) := hpCell p0 0; have c13 : W0.cell? ⟨g, 13, none⟩ = some (.int .i64 s.en) := l0.cell 13; have c14 : W0.cell? ⟨g, 14, none⟩ = some (.int .i64 s.til) := l0.cell 14; have c15 : W0.cell? ⟨g, 15, none⟩ = some (.int .i64 s.la) := l0.cell 15; have f15 : W0.frozen? ⟨g, 15, none⟩ = false := l0.free 15; have hgn : g ≠ w.heap.size := (by omega); have d1 : decide (t < 0) = false := decide_eq_false (by omega); have d2 : decide (s.til < t) = false := decide_eq_false (by omega); have d3 : decide (t < s.la) = false := decide_eq_false (by omega); have c5 : W0.cell? ⟨g, 5, none⟩ = some (.int .i64 3) := (by rw [l0.cell 5]; simp [Rk.cells, hph]); have HRW := hid hrow; have HT0 : Hid (0 ≤ t ∧ t ≤ 1500000000) := ⟨hr.1, by omega⟩; obtain ⟨n, hn⟩ : ∃ n, s.eln + 1 = n := ⟨_, rfl⟩; obtain ⟨i, hi0⟩ : ∃ i, i = l.length := ⟨_, rfl⟩; obtain ⟨j, hj0⟩ : ∃ j, i = j + 1 := ⟨i - 1, by omega⟩; have d5 : decide ((1 : Int) < (n : Int)) = true := decide_eq_true (by omega); have d5' : decide (1 < n) = true := decide_eq_true (by omega); have s5 : IntKind.i64.wrap ((n : Int) - 1) = (i : Int) := (by rw [IntWalk.i64_in _ (by omega)]; omega); have HNN := hid hn; have HE : Hid (s.eln ≤ 40) := (show s.eln ≤ 40 by omega); have HJ : Hid (i = j + 1 ∧ i = l.length ∧ n = i + 1 ∧ n ≤ 100) := ⟨hj0, hi0, by omega, by omega⟩; have HBD := hid hbd; obtain ⟨X, hX⟩ : ∃ X, silE (charT s.b) (l ++ [⟨t, v, fl⟩]) l.length = X := ⟨_, rfl⟩; obtain ⟨T, hT⟩ : ∃ T, t35T s.b = T := ⟨_, rfl⟩; have HT3 : Hid (∀ W, Calls Tryz.prog 36 #[.agg #[.int .i64 s.b, .int .i64 s.p]] W fun r w' => r = .returned (.int .i64 T) ∧ Below W.heap.size W w') := (fun W => by rw [← hT]; exact rt35_ok s.b s.p hset W); have d6 : decide (T ≤ X) = false := (by rw [← hT, ← hX, ← hS, decide_eq_true hpos]; rfl); have HX := hid hX; clear hX hT hS hr ho hl hW0 hb0 p0 l0 hrow hph hn hi0 hj0 hbd hne hlen hnl0 hpos
  go_enter Tryz.func15, Tryz.ntmps15; go_upto_region 1 with (fail); rw [HW0.out]; go_wp2; go_quiet (fail); go_wp2; go_quiet (fail); go_wp2; go_quiet (fail); go_upto_region 9 with (fail)
  rename_i na nb K1 a1 K2 a2
  clear g0 c13 c14 c15 f15 c5 d1 d2 d3
  obtain ⟨W1, hW1⟩ : ∃ W, W = ((W0.drewN (na + nb)).setCell ⟨g, 15, none⟩ (.int .i64 t)).drewN nq := ⟨_, rfl⟩; rw [← hW1]; have l1 : RkAt W1 g { s with la := t } := (by rw [hW1]; exact RkAt.keep (hpSetE (L0.out.keep (below_drewN (Below.refl _ _) _)) rfl) (below_drewN (Below.refl _ _) _)); have p1 : W1.heap[w.heap.size]? = some (.cells #[.int .i64 t, .int .u8 (v.toNat : Int), .int .i64 fl] 37) := (by rw [hW1]; exact hpKeep ((hpOther (Ne.symm hgn)).trans (hpKeep P0.out (below_drewN (Below.refl _ _) _))) (below_drewN (Below.refl _ _) _)); have k1 : Keeps (· = g) w W1 := (by rw [hW1]; exact (kset' (Keeps.of_below (bt HB0.out (below_drewN (Below.refl _ _) _) (Nat.le_refl _))) _ _).trans (Keeps.of_below (below_drewN (Below.refl _ _) _)) (fun _ _ e => e))
  have own1 := hid (own_keeps HRW.out k1 (fun k hk e => (by have h1 := (HRW.out.lt k hk).1; have h2 : k = g := e; omega))); have hs1 : w.heap.size < W1.heap.size := hpLt p1; have c16 : W1.cell? ⟨g, 16, none⟩ = some (.slice s.ea s.eln s.ec) := l1.cell 16; have cA16 : ∀ X, (W1.alloc X).cell? ⟨g, 16, none⟩ = some (.slice s.ea s.eln s.ec) := (fun X => (l1.keep (bal' _ X)).cell 16); have f16 : W1.frozen? ⟨g, 16, none⟩ = false := l1.free 16; have y0 : W1.cell? ⟨w.heap.size, 0, none⟩ = some (.int .i64 t) := hpCell p1 0; have y1 : W1.cell? ⟨w.heap.size, 1, none⟩ = some (.int .u8 (v.toNat : Int)) := hpCell p1 1; have y2 : W1.cell? ⟨w.heap.size, 2, none⟩ = some (.int .i64 fl) := hpCell p1 2; have hgo : Hid (some g ≠ (Value.slice s.ea s.eln s.ec).ownBlock) := (fun h => (by have := (HRW.out.lt g h.symm).1; omega)); have hpo : Hid (some w.heap.size ≠ (Value.slice s.ea s.eln s.ec).ownBlock) := (fun h => (by have := (HRW.out.lt _ h.symm).2; omega)); have hg1 : g < W1.heap.size := (by omega); have HB2 : Hid (∀ w2, (W1.alloc (.cells #[.int .i64 t, .int .u8 (v.toNat : Int), .int .i64 fl] 37)).drew.grownBy w2 (Value.slice s.ea s.eln s.ec).ownBlock → RkAt w2 g { s with la := t } ∧ w2.heap[w.heap.size]? = some (.cells #[.int .i64 t, .int .u8 (v.toNat : Int), .int .i64 fl] 37)) := (fun w2 h => ⟨(h.block g (by show g < (W1.alloc _).heap.size; simp; omega) hgo.out).trans (l1.keep (bal' _ _).drew), (h.block w.heap.size (by show w.heap.size < (W1.alloc _).heap.size; simp; omega) hpo.out).trans (hpKeep p1 (bal' _ _).drew)⟩); have L1 := hid l1; have K1 := hid k1; clear l1 k1 p1 hW1
  go_cut [] from 70 to 79 (fun wc => Hid (RkMid w g s t v fl n (l ++ [⟨t, v, fl⟩]) wc))
  case first =>
    go_region_law (refine step_appN rfl (.tmp 74) (.tmp 76) 44 rfl (g + 1) 37 i5 _ 3 24 Tryz.underlying44 hi hz0 hz1 hz2 rfl (by decide) (.slice s.ea s.eln s.ec) s.eln _ rfl (own1.out.alloc _) ⟨W1.heap.size, 0, none⟩ 1 1 [.int .i64 t, .int .u8 (v.toNat : Int), .int .i64 fl] rfl rfl (newsNew W1 [.int .i64 t, .int .u8 (v.toNat : Int), .int .i64 fl] _) (by intro u hu; simp at hu; rcases hu with rfl | rfl | rfl <;> rfl) (by have := HE.out; unfold maxLen; omega) (by have := HE.out; omega) (by simp; omega) ?_; intro v' w2 hown2 hgr hnew; rw [HNN.out] at hown2; obtain ⟨a', c', rfl⟩ := own_slice hown2; have z16 : w2.cell? ⟨g, 16, none⟩ = some (.slice s.ea s.eln s.ec) := (HB2.out w2 hgr).1.cell 16; have x16 : w2.frozen? ⟨g, 16, none⟩ = false := (HB2.out w2 hgr).1.free 16)
    all_goals
      obtain ⟨l2, p2⟩ := HB2.out w2 hgr; obtain ⟨W3, hW3⟩ : ∃ W, W = w2.setCell ⟨g, 16, none⟩ (.slice a' n c') := ⟨_, rfl⟩; rw [← hW3]; have HM3 : Hid (RkMid w g s t v fl n (l ++ [⟨t, v, fl⟩]) W3) := (by refine ⟨a', c', ?_, ?_, ?_, ?_, ?_⟩; (rw [hW3]; exact hpSetE l2 rfl); (rw [hW3]; exact (hpOther (Ne.symm hgn)).trans p2); (rw [hW3]; exact own_keeps (by simpa [evV_append, evV] using hown2) (setK (p := g)) (fun k hk e => (by have h1 := (hown2.lt k hk).1; have h2 : k = g := e; omega))); (rcases hnew with h | ⟨j, h, hj⟩; exact .inl h; refine .inr ⟨j, h, ?_⟩; have hj' : (W1.alloc (.cells #[.int .i64 t, .int .u8 (v.toNat : Int), .int .i64 fl] 37)).heap.size ≤ j := hj; simp at hj'; omega); (rw [hW3]; exact ((K1.out.mono (fun k _ h => Or.inl h)).trans ((Keeps.of_below (bal' W1 (.cells #[.int .i64 t, .int .u8 (v.toNat : Int), .int .i64 fl] 37)).drew).trans (Keeps.of_grown (F := fun j => j = g ∨ (Value.slice s.ea s.eln s.ec).ownBlock = some j) hgr (fun k hk => .inr hk)) (fun _ _ h => h)) (fun _ _ h => h)).set ⟨g, 16, none⟩ _ (.inl rfl))); have c16 : W3.cell? ⟨g, 16, none⟩ = some (.slice a' n c') := (by rw [hW3]; exact hpCell (hpSet l2 16 (.slice a' n c')) 16); clear l2 p2 hW3 hown2 hgr hnew z16 x16 own1 HB2 y0 y1 y2 f16 cA16
      go_wp2
      go_meet
      case rel => exact HM3.out
  case rest =>
    obtain ⟨a', c', l3, p3, o3, n3, k3⟩ := hcut
    obtain ⟨hnl, bk, ck, hsl, -, -, hcl⟩ := own_ev o3 (by simp); simp only [Value.slice.injEq, true_and] at hsl; obtain ⟨rfl, -⟩ := hsl; have c16 : ∀ W, Below wc.heap.size wc W → W.cell? ⟨g, 16, none⟩ = some (.slice (some ⟨bk, 0, none⟩) n c') := (fun W h => (l3.keep h).cell 16); have c0 : ∀ W, Below wc.heap.size wc W → W.cell? ⟨g, 0, none⟩ = some (.int .i64 s.b) := (fun W h => (l3.keep h).cell 0); have c1 : ∀ W, Below wc.heap.size wc W → W.cell? ⟨g, 1, none⟩ = some (.int .i64 s.p) := (fun W h => (l3.keep h).cell 1); have HSI : Hid (∀ W, Below wc.heap.size wc W → Calls Tryz.prog 42 #[.agg #[.int .i64 s.b, .int .i64 s.p], .slice (some ⟨bk, 0, none⟩) n c', .int .i64 (i : Int)] W fun r w' => r = .returned (.int .i64 X) ∧ Below W.heap.size W w') := (fun W hW => by rw [← HX.out]; exact hearSil s.b s.p hset bk n c' j i l ⟨t, v, fl⟩ HJ.out.1 HJ.out.2.1 HJ.out.2.2.1 HJ.out.2.2.2 HBD.out HT0.out.1 HT0.out.2 W (fun q hq => cell_keep hW (hcl q hq).1)); have L3 := hid l3; have P3 := hid p3; have O3 := hid o3; have N3 := hid n3; have K3 := hid k3; clear l3 p3 o3 n3 k3 hcl hnl; have kD : Below wc.heap.size wc wc.drew := (Below.refl _ _).drew; have kR : Below wc.heap.size wc wc := Below.refl _ _; go_upto_region 11 with (fail)
    go_cut [105] from 85 to 105 (fun s105 wx => s105 = .bool false ∧ Below wc.heap.size wc wx)
    case first =>
      go_region_held3 (fun W => Below wc.heap.size wc W) ((with_reducible (first | exact kD | assumption))) (first | (go_at_call 42; (with_reducible refine (HSI.out wc.drew kD).mono ?_); rintro r w4 ⟨rfl, hb4⟩; have hB4 := bt kD hb4 (Nat.le_refl _)) | (go_at_call 36; (with_reducible refine (HT3.out wc.drew).mono ?_); rintro r w5 ⟨rfl, hb5⟩; have hB5 := bt kD hb5 (Nat.le_refl _)) | (go_at_call 42; (with_reducible refine (HSI.out w5 hB5).mono ?_); rintro r w4 ⟨rfl, hb4⟩; have hBL := bt hB5 hb4 (Nat.le_refl _)) | (go_at_call 36; (with_reducible refine (HT3.out w4).mono ?_); rintro r w5 ⟨rfl, hb5⟩; have hBL := bt hB4 hb5 (Nat.le_refl _)))
      all_goals
        go_wp2
        go_meet
        case rel => exact ⟨rfl, hBL⟩
    case rest =>
      obtain ⟨rfl, hbx⟩ := hcut
      clear c16 c0 c1 HSI HT3 d6 d5 d5' s5 kD
      go_upto_region 15 with (fail)
      obtain ⟨W4, hW4⟩ : ∃ W, W = wc := ⟨_, rfl⟩
      rw [← hW4] at hbx ⊢
      have hb4 := hbx
      clear hW4 hbx
      generalize (some ⟨bk, 0, none⟩ : Option Addr) = a' at *
      obtain ⟨s1, hs1⟩ : ∃ x, x = { s with la := t, ea := a', eln := n, ec := c' } := ⟨_, rfl⟩; have l4 : RkAt W4 g s1 := (by rw [hs1]; exact L3.out.keep hb4); have p4 := hpKeep P3.out hb4; have hset1 : Hid (Okset s1.b s1.p) := (by rw [hs1]; exact hset); obtain ⟨t1, t2, _, _, t5, t6⟩ := time_bd hset1.out; obtain ⟨C, hC⟩ : ∃ C, charT s1.b = C := ⟨_, rfl⟩; obtain ⟨T, hT⟩ : ∃ T, t35T s1.b = T := ⟨_, rfl⟩; have HCH : Hid (∀ W, Calls Tryz.prog 37 #[.agg #[.int .i64 s1.b, .int .i64 s1.p]] W fun r w' => r = .returned (.int .i64 C) ∧ Below W.heap.size W w') := (fun W => by rw [← hC]; exact rchar_ok s1.b s1.p hset1 W); have HT3 : Hid (∀ W, Calls Tryz.prog 36 #[.agg #[.int .i64 s1.b, .int .i64 s1.p]] W fun r w' => r = .returned (.int .i64 T) ∧ Below W.heap.size W w') := (fun W => by rw [← hT]; exact rt35_ok s1.b s1.p hset1 W); rw [hC] at t1 t2; rw [hT] at t5 t6; obtain ⟨Q, hQ⟩ : ∃ Q, t + T + C = Q := ⟨_, rfl⟩; have s2 : IntKind.i64.wrap (t + T) = t + T := IntWalk.i64_in _ (by have := HT0.out; omega); have s3 : IntKind.i64.wrap (t + T + C) = Q := (by rw [← hQ]; exact IntWalk.i64_in _ (by have := HT0.out; omega)); have HQ : Hid (Q = t + t35T s.b + charT s.b) := (by show _ = _; rw [← hQ, ← hC, ← hT, hs1])
      have k0 : ∀ W, RkB g w.heap.size t s1 [5, 14] W → W.cell? ⟨g, 0, none⟩ = some (.int .i64 s1.b) := (fun W h => h.1 0 (by decide)); have k1 : ∀ W, RkB g w.heap.size t s1 [5, 14] W → W.cell? ⟨g, 1, none⟩ = some (.int .i64 s1.p) := (fun W h => h.1 1 (by decide)); have kt : ∀ W, RkB g w.heap.size t s1 [5, 14] W → W.cell? ⟨w.heap.size, 0, none⟩ = some (.int .i64 t) := (fun W h => h.2); have j5 : ∀ W v, RkB g w.heap.size t s1 [5, 14] W → RkB g w.heap.size t s1 [5, 14] (W.setCell ⟨g, 5, none⟩ v) := (fun W v h => h.set (Ne.symm hgn) (by decide) v); have j14 : ∀ W v, RkB g w.heap.size t s1 [5, 14] W → RkB g w.heap.size t s1 [5, 14] (W.setCell ⟨g, 14, none⟩ v) := (fun W v h => h.set (Ne.symm hgn) (by decide) v); have HS : Hid (∀ W, Below W4.heap.size W4 W → RkB g w.heap.size t s1 [5, 14] W) := (fun W h => ⟨(l4.keep h).rks _, hpCell (hpKeep p4 h) 0⟩); have kD : Below W4.heap.size W4 W4.drew := (Below.refl _ _).drew; have kS : RkB g w.heap.size t s1 [5, 14] W4.drew := HS.out _ kD; have HB : Hid (∀ W, Below W4.heap.size W4 W → W.cell? ⟨g, 5, none⟩ = some (.int .i64 s1.ph) ∧ W.cell? ⟨g, 14, none⟩ = some (.int .i64 s1.til) ∧ W.frozen? ⟨g, 5, none⟩ = false ∧ W.frozen? ⟨g, 14, none⟩ = false) := (fun W h => ⟨(l4.keep h).cell 5, (l4.keep h).cell 14, (l4.keep h).free 5, (l4.keep h).free 14⟩); have L4 := hid l4; have HB4 := hid hb4; have HS1 := hid hs1; clear l4 p4 hb4 hs1 hC hT hQ t1 t2 t5 t6
      go_region_held3 (fun W => RkB g w.heap.size t s1 [5, 14] W) ((with_reducible (first | exact kS | assumption | exact j5 _ _ hSL | exact j14 _ _ (j5 _ _ hSL)))) (first | (go_at_call 37; (with_reducible refine (HCH.out W4.drew).mono ?_); rintro r w4 ⟨rfl, hb4⟩; have hB4 := bt kD hb4 (Nat.le_refl _); have hS4 := HS.out _ hB4) | (go_at_call 36; (with_reducible refine (HT3.out W4.drew).mono ?_); rintro r w5 ⟨rfl, hb5⟩; have hB5 := bt kD hb5 (Nat.le_refl _); have hS5 := HS.out _ hB5) | (go_at_call 37; (with_reducible refine (HCH.out w5).mono ?_); rintro r w4 ⟨rfl, hb4⟩; have hBL := bt hB5 hb4 (Nat.le_refl _); have hSL := HS.out _ hBL; obtain ⟨z5, z14, y5, y14⟩ := HB.out _ hBL) | (go_at_call 36; (with_reducible refine (HT3.out w4).mono ?_); rintro r w5 ⟨rfl, hb5⟩; have hBL := bt hB4 hb5 (Nat.le_refl _); have hSL := HS.out _ hBL; obtain ⟨z5, z14, y5, y14⟩ := HB.out _ hBL))
      all_goals
        have l9 : RkAt _ g { s1 with ph := 3, til := Q } := hpSetE (u := .int .i64 Q) (i := 14) (hpSetE (u := .int .i64 3) (i := 5) (L4.out.keep hBL) rfl) rfl; have k9 : Keeps (fun j => j = g ∨ (Value.slice s.ea s.eln s.ec).ownBlock = some j) w _ := (K3.out.trans ((Keeps.of_below HB4.out).trans (kset' (kset' (Keeps.of_below hBL) 5 (.int .i64 3)) 14 (.int .i64 Q)) (fun _ _ e => e)) (fun _ _ e => .inl e)); have o9 := own_keeps O3.out ((Keeps.of_below HB4.out).trans (kset' (kset' (Keeps.of_below hBL) 5 (.int .i64 3)) 14 (.int .i64 Q)) (fun _ _ e => e)) (fun k hk e => (by have h1 := (O3.out.lt k hk).1; have h2 : k = g := e; omega)); clear k0 k1 kt j5 j14 kS z5 z14 y5 y14 hSL
        go_wp2
        go_ret
        rw [HS1.out] at l9
        unfold RkHeard
        rw [HNN.out, ← HQ.out]
        exact ⟨a', c', rfl, l9, o9, N3.out, k9⟩

end Go.Proofs.YtpmidoneoonlcaaGreat

/-
The reference's link: Char where the character comes too late.
-/
namespace Go.Proofs.YtpmidoneoonlcaaGreat
open Go.RowKit

set_option maxRecDepth 100000 in
set_option maxHeartbeats 6400000 in
theorem rkchar_cut (g : Nat) (s : Rk) (t : Int) (v : UInt8) (fl : Int) (l : List Ev) (w : World) (hl : RkAt w g s) (hr : 0 ≤ t ∧ t ≤ s.til) (ho : s.la ≤ t) (hph : s.ph = 3) (hrow : w.ownsRow (g + 1) 37 3 (.slice s.ea s.eln s.ec) s.eln (evV l)) (hne : l ≠ []) (hlen : l.length ≤ 40)
    (hbd : ∀ q, q < l.length → 0 ≤ (evAt l q).t ∧ (evAt l q).t ≤ 1500000000) (htil : s.til ≤ 1500000000) (hset : Hid (Okset s.b s.p)) (hS : (decide (0 < l.length) && decide (t35T s.b ≤ silE (charT s.b) (l ++ [⟨t, v, fl⟩]) l.length)) = true)
    (hx1 : 0 ≤ s.ti) (hx2 : s.ti ≤ 5000000) (hy1 : 0 ≤ s.de) (hy2 : s.de ≤ 5000000) (he1 : 0 ≤ s.en) (he2 : s.en ≤ 1152921504606846976) :
    Calls Tryz.prog 15 #[.pointer (some ⟨g, 0, none⟩), .agg #[.int .i64 t, .int .u8 (v.toNat : Int), .int .i64 fl]] w (RkHeard w g s { s with la := t, bad := true, ph := 4, til := if t < s.en + drainT s.b s.ti s.de then s.en + drainT s.b s.ti s.de else t } (l ++ [⟨t, v, fl⟩])) := by
  obtain ⟨M, hM⟩ : ∃ M, (if t < s.en + drainT s.b s.ti s.de then s.en + drainT s.b s.ti s.de else t) = M := ⟨_, rfl⟩
  rw [hM]
  have HMM := hid hM
  have HBN : Hid (0 ≤ s.ti ∧ s.ti ≤ 5000000 ∧ 0 ≤ s.de ∧ s.de ≤ 5000000 ∧ 0 ≤ s.en ∧ s.en ≤ 1152921504606846976) := ⟨hx1, hx2, hy1, hy2, he1, he2⟩
  clear hM hx1 hx2 hy1 hy2 he1 he2
  obtain ⟨i5, hi, hz0, hz1, hz2⟩ := info_parts infoEv; obtain ⟨hnl0, -⟩ := own_ev hrow hne; have hpos : 0 < l.length := List.length_pos_iff.2 hne; obtain ⟨W0, hW0⟩ : ∃ W, w.alloc (.cells #[.int .i64 t, .int .u8 (v.toNat : Int), .int .i64 fl] 37) = W := ⟨_, rfl⟩; have hb0 : Below w.heap.size w W0 := (by rw [← hW0]; exact bal' w _); have p0 : W0.heap[w.heap.size]? = some (.cells #[.int .i64 t, .int .u8 (v.toNat : Int), .int .i64 fl] 37) := (by rw [← hW0]; exact hpNew w _); have l0 := hl.keep hb0; have HW0 := hid hW0; have HB0 := hid hb0; have P0 := hid p0; have L0 := hid l0; have hg := hl.lt; have g0 : W0.cell? ⟨w.heap.size, 0, none⟩ = some (.int .i64 t) := hpCell p0 0; have c13 : W0.cell? ⟨g, 13, none⟩ = some (.int .i64 s.en) := l0.cell 13; have c14 : W0.cell? ⟨g, 14, none⟩ = some (.int .i64 s.til) := l0.cell 14; have c15 : W0.cell? ⟨g, 15, none⟩ = some (.int .i64 s.la) := l0.cell 15; have f15 : W0.frozen? ⟨g, 15, none⟩ = false := l0.free 15; have hgn : g ≠ w.heap.size := (by omega); have d1 : decide (t < 0) = false := decide_eq_false (by omega); have d2 : decide (s.til < t) = false := decide_eq_false (by omega); have d3 : decide (t < s.la) = false := decide_eq_false (by omega); have c5 : W0.cell? ⟨g, 5, none⟩ = some (.int .i64 3) := (by rw [l0.cell 5]; simp [Rk.cells, hph]); have HRW := hid hrow; have HT0 : Hid (0 ≤ t ∧ t ≤ 1500000000) := ⟨hr.1, by omega⟩; obtain ⟨n, hn⟩ : ∃ n, s.eln + 1 = n := ⟨_, rfl⟩; obtain ⟨i, hi0⟩ : ∃ i, i = l.length := ⟨_, rfl⟩; obtain ⟨j, hj0⟩ : ∃ j, i = j + 1 := ⟨i - 1, by omega⟩; have d5 : decide ((1 : Int) < (n : Int)) = true := decide_eq_true (by omega); have d5' : decide (1 < n) = true := decide_eq_true (by omega); have s5 : IntKind.i64.wrap ((n : Int) - 1) = (i : Int) := (by rw [IntWalk.i64_in _ (by omega)]; omega); have HNN := hid hn; have HE : Hid (s.eln ≤ 40) := (show s.eln ≤ 40 by omega); have HJ : Hid (i = j + 1 ∧ i = l.length ∧ n = i + 1 ∧ n ≤ 100) := ⟨hj0, hi0, by omega, by omega⟩; have HBD := hid hbd; obtain ⟨X, hX⟩ : ∃ X, silE (charT s.b) (l ++ [⟨t, v, fl⟩]) l.length = X := ⟨_, rfl⟩; obtain ⟨T, hT⟩ : ∃ T, t35T s.b = T := ⟨_, rfl⟩; have HT3 : Hid (∀ W, Calls Tryz.prog 36 #[.agg #[.int .i64 s.b, .int .i64 s.p]] W fun r w' => r = .returned (.int .i64 T) ∧ Below W.heap.size W w') := (fun W => by rw [← hT]; exact rt35_ok s.b s.p hset W); have d6 : decide (T ≤ X) = true := (by rw [← hT, ← hX, ← hS, decide_eq_true hpos]; rfl); have HX := hid hX; clear hX hT hS hr ho hl hW0 hb0 p0 l0 hrow hph hn hi0 hj0 hbd hne hlen hnl0 hpos
  go_enter Tryz.func15, Tryz.ntmps15; go_upto_region 1 with (fail); rw [HW0.out]; go_wp2; go_quiet (fail); go_wp2; go_quiet (fail); go_wp2; go_quiet (fail); go_upto_region 9 with (fail)
  rename_i na nb K1 a1 K2 a2
  clear g0 c13 c14 c15 f15 c5 d1 d2 d3
  obtain ⟨W1, hW1⟩ : ∃ W, W = ((W0.drewN (na + nb)).setCell ⟨g, 15, none⟩ (.int .i64 t)).drewN nq := ⟨_, rfl⟩; rw [← hW1]; have l1 : RkAt W1 g { s with la := t } := (by rw [hW1]; exact RkAt.keep (hpSetE (L0.out.keep (below_drewN (Below.refl _ _) _)) rfl) (below_drewN (Below.refl _ _) _)); have p1 : W1.heap[w.heap.size]? = some (.cells #[.int .i64 t, .int .u8 (v.toNat : Int), .int .i64 fl] 37) := (by rw [hW1]; exact hpKeep ((hpOther (Ne.symm hgn)).trans (hpKeep P0.out (below_drewN (Below.refl _ _) _))) (below_drewN (Below.refl _ _) _)); have k1 : Keeps (· = g) w W1 := (by rw [hW1]; exact (kset' (Keeps.of_below (bt HB0.out (below_drewN (Below.refl _ _) _) (Nat.le_refl _))) _ _).trans (Keeps.of_below (below_drewN (Below.refl _ _) _)) (fun _ _ e => e))
  have own1 := hid (own_keeps HRW.out k1 (fun k hk e => (by have h1 := (HRW.out.lt k hk).1; have h2 : k = g := e; omega))); have hs1 : w.heap.size < W1.heap.size := hpLt p1; have c16 : W1.cell? ⟨g, 16, none⟩ = some (.slice s.ea s.eln s.ec) := l1.cell 16; have cA16 : ∀ X, (W1.alloc X).cell? ⟨g, 16, none⟩ = some (.slice s.ea s.eln s.ec) := (fun X => (l1.keep (bal' _ X)).cell 16); have f16 : W1.frozen? ⟨g, 16, none⟩ = false := l1.free 16; have y0 : W1.cell? ⟨w.heap.size, 0, none⟩ = some (.int .i64 t) := hpCell p1 0; have y1 : W1.cell? ⟨w.heap.size, 1, none⟩ = some (.int .u8 (v.toNat : Int)) := hpCell p1 1; have y2 : W1.cell? ⟨w.heap.size, 2, none⟩ = some (.int .i64 fl) := hpCell p1 2; have hgo : Hid (some g ≠ (Value.slice s.ea s.eln s.ec).ownBlock) := (fun h => (by have := (HRW.out.lt g h.symm).1; omega)); have hpo : Hid (some w.heap.size ≠ (Value.slice s.ea s.eln s.ec).ownBlock) := (fun h => (by have := (HRW.out.lt _ h.symm).2; omega)); have hg1 : g < W1.heap.size := (by omega); have HB2 : Hid (∀ w2, (W1.alloc (.cells #[.int .i64 t, .int .u8 (v.toNat : Int), .int .i64 fl] 37)).drew.grownBy w2 (Value.slice s.ea s.eln s.ec).ownBlock → RkAt w2 g { s with la := t } ∧ w2.heap[w.heap.size]? = some (.cells #[.int .i64 t, .int .u8 (v.toNat : Int), .int .i64 fl] 37)) := (fun w2 h => ⟨(h.block g (by show g < (W1.alloc _).heap.size; simp; omega) hgo.out).trans (l1.keep (bal' _ _).drew), (h.block w.heap.size (by show w.heap.size < (W1.alloc _).heap.size; simp; omega) hpo.out).trans (hpKeep p1 (bal' _ _).drew)⟩); have L1 := hid l1; have K1 := hid k1; clear l1 k1 p1 hW1
  go_cut [] from 70 to 79 (fun wc => Hid (RkMid w g s t v fl n (l ++ [⟨t, v, fl⟩]) wc))
  case first =>
    go_region_law (refine step_appN rfl (.tmp 74) (.tmp 76) 44 rfl (g + 1) 37 i5 _ 3 24 Tryz.underlying44 hi hz0 hz1 hz2 rfl (by decide) (.slice s.ea s.eln s.ec) s.eln _ rfl (own1.out.alloc _) ⟨W1.heap.size, 0, none⟩ 1 1 [.int .i64 t, .int .u8 (v.toNat : Int), .int .i64 fl] rfl rfl (newsNew W1 [.int .i64 t, .int .u8 (v.toNat : Int), .int .i64 fl] _) (by intro u hu; simp at hu; rcases hu with rfl | rfl | rfl <;> rfl) (by have := HE.out; unfold maxLen; omega) (by have := HE.out; omega) (by simp; omega) ?_; intro v' w2 hown2 hgr hnew; rw [HNN.out] at hown2; obtain ⟨a', c', rfl⟩ := own_slice hown2; have z16 : w2.cell? ⟨g, 16, none⟩ = some (.slice s.ea s.eln s.ec) := (HB2.out w2 hgr).1.cell 16; have x16 : w2.frozen? ⟨g, 16, none⟩ = false := (HB2.out w2 hgr).1.free 16)
    all_goals
      obtain ⟨l2, p2⟩ := HB2.out w2 hgr; obtain ⟨W3, hW3⟩ : ∃ W, W = w2.setCell ⟨g, 16, none⟩ (.slice a' n c') := ⟨_, rfl⟩; rw [← hW3]; have HM3 : Hid (RkMid w g s t v fl n (l ++ [⟨t, v, fl⟩]) W3) := (by refine ⟨a', c', ?_, ?_, ?_, ?_, ?_⟩; (rw [hW3]; exact hpSetE l2 rfl); (rw [hW3]; exact (hpOther (Ne.symm hgn)).trans p2); (rw [hW3]; exact own_keeps (by simpa [evV_append, evV] using hown2) (setK (p := g)) (fun k hk e => (by have h1 := (hown2.lt k hk).1; have h2 : k = g := e; omega))); (rcases hnew with h | ⟨j, h, hj⟩; exact .inl h; refine .inr ⟨j, h, ?_⟩; have hj' : (W1.alloc (.cells #[.int .i64 t, .int .u8 (v.toNat : Int), .int .i64 fl] 37)).heap.size ≤ j := hj; simp at hj'; omega); (rw [hW3]; exact ((K1.out.mono (fun k _ h => Or.inl h)).trans ((Keeps.of_below (bal' W1 (.cells #[.int .i64 t, .int .u8 (v.toNat : Int), .int .i64 fl] 37)).drew).trans (Keeps.of_grown (F := fun j => j = g ∨ (Value.slice s.ea s.eln s.ec).ownBlock = some j) hgr (fun k hk => .inr hk)) (fun _ _ h => h)) (fun _ _ h => h)).set ⟨g, 16, none⟩ _ (.inl rfl))); have c16 : W3.cell? ⟨g, 16, none⟩ = some (.slice a' n c') := (by rw [hW3]; exact hpCell (hpSet l2 16 (.slice a' n c')) 16); clear l2 p2 hW3 hown2 hgr hnew z16 x16 own1 HB2 y0 y1 y2 f16 cA16
      go_wp2
      go_meet
      case rel => exact HM3.out
  case rest =>
    obtain ⟨a', c', l3, p3, o3, n3, k3⟩ := hcut
    obtain ⟨hnl, bk, ck, hsl, -, -, hcl⟩ := own_ev o3 (by simp); simp only [Value.slice.injEq, true_and] at hsl; obtain ⟨rfl, -⟩ := hsl; have c16 : ∀ W, Below wc.heap.size wc W → W.cell? ⟨g, 16, none⟩ = some (.slice (some ⟨bk, 0, none⟩) n c') := (fun W h => (l3.keep h).cell 16); have c0 : ∀ W, Below wc.heap.size wc W → W.cell? ⟨g, 0, none⟩ = some (.int .i64 s.b) := (fun W h => (l3.keep h).cell 0); have c1 : ∀ W, Below wc.heap.size wc W → W.cell? ⟨g, 1, none⟩ = some (.int .i64 s.p) := (fun W h => (l3.keep h).cell 1); have HSI : Hid (∀ W, Below wc.heap.size wc W → Calls Tryz.prog 42 #[.agg #[.int .i64 s.b, .int .i64 s.p], .slice (some ⟨bk, 0, none⟩) n c', .int .i64 (i : Int)] W fun r w' => r = .returned (.int .i64 X) ∧ Below W.heap.size W w') := (fun W hW => by rw [← HX.out]; exact hearSil s.b s.p hset bk n c' j i l ⟨t, v, fl⟩ HJ.out.1 HJ.out.2.1 HJ.out.2.2.1 HJ.out.2.2.2 HBD.out HT0.out.1 HT0.out.2 W (fun q hq => cell_keep hW (hcl q hq).1)); have L3 := hid l3; have P3 := hid p3; have O3 := hid o3; have N3 := hid n3; have K3 := hid k3; clear l3 p3 o3 n3 k3 hcl hnl; have kD : Below wc.heap.size wc wc.drew := (Below.refl _ _).drew; have kR : Below wc.heap.size wc wc := Below.refl _ _; go_upto_region 11 with (fail)
    go_cut [105] from 85 to 105 (fun s105 wx => s105 = .bool true ∧ Below wc.heap.size wc wx)
    case first =>
      go_region_held3 (fun W => Below wc.heap.size wc W) ((with_reducible (first | exact kD | assumption))) (first | (go_at_call 42; (with_reducible refine (HSI.out wc.drew kD).mono ?_); rintro r w4 ⟨rfl, hb4⟩; have hB4 := bt kD hb4 (Nat.le_refl _)) | (go_at_call 36; (with_reducible refine (HT3.out wc.drew).mono ?_); rintro r w5 ⟨rfl, hb5⟩; have hB5 := bt kD hb5 (Nat.le_refl _)) | (go_at_call 42; (with_reducible refine (HSI.out w5 hB5).mono ?_); rintro r w4 ⟨rfl, hb4⟩; have hBL := bt hB5 hb4 (Nat.le_refl _)) | (go_at_call 36; (with_reducible refine (HT3.out w4).mono ?_); rintro r w5 ⟨rfl, hb5⟩; have hBL := bt hB4 hb5 (Nat.le_refl _)))
      all_goals
        go_wp2
        go_meet
        case rel => exact ⟨rfl, hBL⟩
    case rest =>
      obtain ⟨rfl, hbx⟩ := hcut
      clear c16 c0 c1 HSI HT3 d6 d5 d5' s5 kD kR
      obtain ⟨W4, hW4⟩ : ∃ W, W = wc := ⟨_, rfl⟩
      rw [← hW4] at hbx ⊢
      have hb4 := hbx
      clear hW4 hbx
      generalize (some ⟨bk, 0, none⟩ : Option Addr) = a' at *
      have l4 : RkAt W4 g { s with la := t, ea := a', eln := n, ec := c' } := L3.out.keep hb4
      have p4 := hpKeep P3.out hb4
      have c18 : W4.cell? ⟨g, 18, none⟩ = some (.bool s.bad) := l4.cell 18
      have f18 : W4.frozen? ⟨g, 18, none⟩ = false := l4.free 18
      obtain ⟨W5, hW5⟩ : ∃ W, W4.setCell ⟨g, 18, none⟩ (.bool true) = W := ⟨_, rfl⟩
      have l5 : RkAt W5 g { s with la := t, ea := a', eln := n, ec := c', bad := true } := by rw [← hW5]; exact hpSetE l4 rfl
      have p5 : W5.heap[w.heap.size]? = some (.cells #[.int .i64 t, .int .u8 (v.toNat : Int), .int .i64 fl] 37) := by rw [← hW5]; exact (hpOther (Ne.symm hgn)).trans p4
      have k5 : Keeps (· = g) W4 W5 := by rw [← hW5]; exact kset' (Keeps.refl _ _) _ _
      have HB4 := hid hb4
      have y0 : W5.cell? ⟨w.heap.size, 0, none⟩ = some (.int .i64 t) := hpCell p5 0
      have HDR : Hid (Calls Tryz.prog 43 #[.pointer (some ⟨g, 0, none⟩), .int .i64 t] W5 (fun r w' => r = .returned (.tuple #[]) ∧ RkAt w' g { s with la := t, bad := true, ph := 4, til := M, ea := a', eln := n, ec := c' } ∧ Keeps (· = g) W5 w')) := by
        rw [← HMM.out]
        obtain ⟨hx1, hx2, hy1, hy2, he1, he2⟩ := HBN.out
        exact rkdrain g { s with la := t, ea := a', eln := n, ec := c', bad := true } t W5 l5 hset hx1 hx2 hy1 hy2 he1 he2
      have K5 := hid k5
      clear l4 p4 l5 p5 hb4 k5
      go_upto_region 13 with (fail)
      clear c18 f18 hW5
      go_wp2_with fail
      refine HDR.out.mono ?_
      rintro r w6 ⟨rfl, l6, k6⟩
      have k9 := K3.out.trans ((Keeps.of_below HB4.out).trans (K5.out.trans k6 (fun _ _ e => e)) (fun _ _ e => e)) (fun _ _ e => .inl e)
      have o9 := own_keeps O3.out ((Keeps.of_below HB4.out).trans (K5.out.trans k6 (fun _ _ e => e)) (fun _ _ e => e)) (fun k hk e => by have h1 := (O3.out.lt k hk).1; have h2 : k = g := e; omega)
      go_wp2
      go_ret
      unfold RkHeard
      rw [HNN.out]
      exact ⟨a', c', rfl, l6, o9, N3.out, k9⟩

end Go.Proofs.YtpmidoneoonlcaaGreat
