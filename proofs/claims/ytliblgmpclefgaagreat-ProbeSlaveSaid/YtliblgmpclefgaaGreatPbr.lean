/-
  Devices that are equal: the contracts of modscanref21.SameSpans and SameDevice.
-/
import Derived.Test.YtliblgmpclefgaaGreatPbo
import Derived.Test.YtliblgmpclefgaaGreatMrecb
namespace Go.Proofs.YtliblgmpclefgaaGreat
open Go.RowKit

theorem Spn.at {base : Nat} {w : World} {v : Value} {l : List (Int × Int)} (h : Spn base w v l) {k : Nat} {p : Int × Int} (hp : l[k]? = some p) :
    ∃ g cap, v = .slice (some ⟨g, 0, none⟩) l.length cap ∧ w.cell? ⟨g, k * 2, none⟩ = some (.int .i64 p.1) ∧ w.cell? ⟨g, k * 2 + 1, none⟩ = some (.int .i64 p.2) := by
  have hk := (List.getElem?_eq_some_iff.1 hp).1
  have h' : w.ownsRow base 107 2 v l.length (rcs l) := h
  rcases h.2 with ⟨_, h0⟩ | ⟨g, cap, cur, hv, hg, _, hnc, hcm, _⟩
  · omega
  · subst hv
    obtain ⟨h2, h3⟩ := rcs_get l k p hp
    exact ⟨g, cap, rfl, by rw [h'.cellAt _ (by omega)]; exact h2, by rw [h'.cellAt _ (by omega)]; exact h3⟩

set_option maxRecDepth 100000 in
set_option maxHeartbeats 3200000 in
theorem samespans_eq (v1 v2 : Value) (l : List (Int × Int)) (hl : l.length ≤ 1024) (w : World) (h1 : Spn 0 w v1 l) (h2 : Spn 0 w v2 l) :
    Calls Tryz.prog 35 #[v1, v2] w (BoolPost w true) := by
  obtain ⟨a1, c1, rfl⟩ := h1.slice
  obtain ⟨a2, c2, rfl⟩ := h2.slice
  obtain ⟨n, hN⟩ : ∃ n, l.length = n := ⟨_, rfl⟩
  rw [hN] at h1 h2 hl ⊢
  have HN := hid hN
  have H1 := hid h1
  have H2 := hid h2
  clear hN h1 h2
  go_enter Tryz.func35, Tryz.ntmps35
  go_wp2
  go_loopw [5] (fun iv wr => ∃ k : Nat, k ≤ n ∧ iv = .int .i64 k ∧ Below w.heap.size w wr) (fun iv _ => n - (intOf iv).toNat)
  case atStart => exact ⟨0, Nat.zero_le _, rfl, Below.refl _ _⟩
  case round =>
    obtain ⟨k, hk, rfl, hbw⟩ := hrel
    by_cases hlt : k < n
    · obtain ⟨p, hp⟩ := gs (l := l) HN.out hlt
      obtain ⟨g, cap, hv, d0, d1⟩ := (H1.out.keep hbw).at hp
      rw [HN.out] at hv
      simp only [Value.slice.injEq, true_and] at hv
      obtain ⟨rfl, rfl⟩ := hv
      obtain ⟨g2, cap2, hv2, e0, e1⟩ := (H2.out.keep hbw).at hp
      rw [HN.out] at hv2
      simp only [Value.slice.injEq, true_and] at hv2
      obtain ⟨rfl, rfl⟩ := hv2
      have hki : (0 : Int) ≤ (k : Int) := Int.natCast_nonneg _
      have hkl : (k : Int) < (n : Int) := by omega
      have hbq : ∀ m, Below w.heap.size w (wr.drewN m) := fun m => below_drewN hbw m
      clear hp
      go_wp2
      go_quiet (fail)
      go_wp2
      go_roundw
      case rel => exact ⟨k + 1, by omega, by go_num, hbq _⟩
      case measure => simp [intOf]; omega
    · obtain rfl : k = n := by omega
      go_wp2
      go_ret
      exact ⟨rfl, hbw⟩

theorem DvI.tab0 {W : World} {b : Nat} {d : Dv} {ov sv : Value} {mv : Nat → Value} (h : DvI W b d ov sv mv) {k : Nat} (hk : k < 4) : W.cell? ⟨b, 8 + k * 3, none⟩ = some (.int .i64 (d.ts k).st) ∧ W.cell? ⟨b, 8 + k * 3 + 1, none⟩ = some (.int .i64 (d.ts k).most) := by
  rw [hpCell h, hpCell h]
  match k, hk with
  | 0, _ => exact ⟨rfl, rfl⟩
  | 1, _ => exact ⟨rfl, rfl⟩
  | 2, _ => exact ⟨rfl, rfl⟩
  | 3, _ => exact ⟨rfl, rfl⟩
set_option maxRecDepth 100000 in
set_option maxHeartbeats 6400000 in
theorem samedev_eq (d : Dv) (hd : d.small) (ov1 sv1 : Value) (mv1 : Nat → Value) (ov2 sv2 : Value) (mv2 : Nat → Value) (w : World) (h1 : DvRd w d ov1 sv1 mv1) (h2 : DvRd w d ov2 sv2 mv2) :
    Calls Tryz.prog 15 #[.agg (DvC d ov1 sv1 mv1), .agg (DvC d ov2 sv2 mv2)] w (BoolPost w true) := by
  obtain ⟨va, vc, rfl, -⟩ := id h1.1
  obtain ⟨sa, sc, rfl, -⟩ := id h1.2.1
  obtain ⟨vb, vd, rfl, -⟩ := id h2.1
  obtain ⟨sb, se, rfl, -⟩ := id h2.2.1
  obtain ⟨n, hN⟩ : ∃ n, d.objs.length = n := ⟨_, rfl⟩
  obtain ⟨sn, hSN⟩ : ∃ n, d.sd.length = n := ⟨_, rfl⟩
  rw [hN, hSN] at h1 h2 ⊢
  obtain ⟨W0, hW0⟩ : ∃ W, (w.alloc (.cells #[.int .i64 0, .int .i64 0, .int .i64 d.st, .int .i64 d.idn, .int .i64 d.lv, .slice va n vc, .int .i64 d.srv, .slice sa sn sc, .int .i64 (d.ts 0).st, .int .i64 (d.ts 0).most, mv1 0, .int .i64 (d.ts 1).st, .int .i64 (d.ts 1).most, mv1 1, .int .i64 (d.ts 2).st, .int .i64 (d.ts 2).most, mv1 2, .int .i64 (d.ts 3).st, .int .i64 (d.ts 3).most, mv1 3, .string ByteArray.empty] 61)).alloc (.cells #[.int .i64 0, .int .i64 0, .int .i64 d.st, .int .i64 d.idn, .int .i64 d.lv, .slice vb n vd, .int .i64 d.srv, .slice sb sn se, .int .i64 (d.ts 0).st, .int .i64 (d.ts 0).most, mv2 0, .int .i64 (d.ts 1).st, .int .i64 (d.ts 1).most, mv2 1, .int .i64 (d.ts 2).st, .int .i64 (d.ts 2).most, mv2 2, .int .i64 (d.ts 3).st, .int .i64 (d.ts 3).most, mv2 3, .string ByteArray.empty] 61) = W := ⟨_, rfl⟩
  have hb0 : Below w.heap.size w W0 := by rw [← hW0]; exact bta (bal' w _) (Nat.le_refl _) _
  have hz0 : W0.heap.size = w.heap.size + 2 := by rw [← hW0]; simp
  have pA : DvI W0 w.heap.size d (.slice va n vc) (.slice sa sn sc) mv1 := by rw [← hW0]; exact hpKeep (hpNew w _) (bal' _ _)
  have pB : DvI W0 (w.heap.size + 1) d (.slice vb n vd) (.slice sb sn se) mv2 := by
    rw [← hW0]
    have := hpNew (w.alloc (.cells #[.int .i64 0, .int .i64 0, .int .i64 d.st, .int .i64 d.idn, .int .i64 d.lv, .slice va n vc, .int .i64 d.srv, .slice sa sn sc, .int .i64 (d.ts 0).st, .int .i64 (d.ts 0).most, mv1 0, .int .i64 (d.ts 1).st, .int .i64 (d.ts 1).most, mv1 1, .int .i64 (d.ts 2).st, .int .i64 (d.ts 2).most, mv1 2, .int .i64 (d.ts 3).st, .int .i64 (d.ts 3).most, mv1 3, .string ByteArray.empty] 61)) (.cells #[.int .i64 0, .int .i64 0, .int .i64 d.st, .int .i64 d.idn, .int .i64 d.lv, .slice vb n vd, .int .i64 d.srv, .slice sb sn se, .int .i64 (d.ts 0).st, .int .i64 (d.ts 0).most, mv2 0, .int .i64 (d.ts 1).st, .int .i64 (d.ts 1).most, mv2 1, .int .i64 (d.ts 2).st, .int .i64 (d.ts 2).most, mv2 2, .int .i64 (d.ts 3).st, .int .i64 (d.ts 3).most, mv2 3, .string ByteArray.empty] 61)
    unfold DvI DvC
    simpa using this
  have e0 : ∀ X, Below W0.heap.size W0 X → X.cell? ⟨w.heap.size, 0, none⟩ = some (.int .i64 0) := fun X k => hpCell (hpKeep pA k) 0
  have e1 : ∀ X, Below W0.heap.size W0 X → X.cell? ⟨w.heap.size, 1, none⟩ = some (.int .i64 0) := fun X k => hpCell (hpKeep pA k) 1
  have e2 : ∀ X, Below W0.heap.size W0 X → X.cell? ⟨w.heap.size, 2, none⟩ = some (.int .i64 d.st) := fun X k => hpCell (hpKeep pA k) 2
  have e3 : ∀ X, Below W0.heap.size W0 X → X.cell? ⟨w.heap.size, 3, none⟩ = some (.int .i64 d.idn) := fun X k => hpCell (hpKeep pA k) 3
  have e4 : ∀ X, Below W0.heap.size W0 X → X.cell? ⟨w.heap.size, 4, none⟩ = some (.int .i64 d.lv) := fun X k => hpCell (hpKeep pA k) 4
  have e5 : ∀ X, Below W0.heap.size W0 X → X.cell? ⟨w.heap.size, 5, none⟩ = some (.slice va n vc) := fun X k => hpCell (hpKeep pA k) 5
  have e6 : ∀ X, Below W0.heap.size W0 X → X.cell? ⟨w.heap.size, 6, none⟩ = some (.int .i64 d.srv) := fun X k => hpCell (hpKeep pA k) 6
  have e7 : ∀ X, Below W0.heap.size W0 X → X.cell? ⟨w.heap.size, 7, none⟩ = some (.slice sa sn sc) := fun X k => hpCell (hpKeep pA k) 7
  have e20 : ∀ X, Below W0.heap.size W0 X → X.cell? ⟨w.heap.size, 20, none⟩ = some (.string ByteArray.empty) := fun X k => hpCell (hpKeep pA k) 20
  have f0 : ∀ X, Below W0.heap.size W0 X → X.cell? ⟨w.heap.size + 1, 0, none⟩ = some (.int .i64 0) := fun X k => hpCell (hpKeep pB k) 0
  have f1 : ∀ X, Below W0.heap.size W0 X → X.cell? ⟨w.heap.size + 1, 1, none⟩ = some (.int .i64 0) := fun X k => hpCell (hpKeep pB k) 1
  have f2 : ∀ X, Below W0.heap.size W0 X → X.cell? ⟨w.heap.size + 1, 2, none⟩ = some (.int .i64 d.st) := fun X k => hpCell (hpKeep pB k) 2
  have f3 : ∀ X, Below W0.heap.size W0 X → X.cell? ⟨w.heap.size + 1, 3, none⟩ = some (.int .i64 d.idn) := fun X k => hpCell (hpKeep pB k) 3
  have f4 : ∀ X, Below W0.heap.size W0 X → X.cell? ⟨w.heap.size + 1, 4, none⟩ = some (.int .i64 d.lv) := fun X k => hpCell (hpKeep pB k) 4
  have f5 : ∀ X, Below W0.heap.size W0 X → X.cell? ⟨w.heap.size + 1, 5, none⟩ = some (.slice vb n vd) := fun X k => hpCell (hpKeep pB k) 5
  have f6 : ∀ X, Below W0.heap.size W0 X → X.cell? ⟨w.heap.size + 1, 6, none⟩ = some (.int .i64 d.srv) := fun X k => hpCell (hpKeep pB k) 6
  have f7 : ∀ X, Below W0.heap.size W0 X → X.cell? ⟨w.heap.size + 1, 7, none⟩ = some (.slice sb sn se) := fun X k => hpCell (hpKeep pB k) 7
  have f20 : ∀ X, Below W0.heap.size W0 X → X.cell? ⟨w.heap.size + 1, 20, none⟩ = some (.string ByteArray.empty) := fun X k => hpCell (hpKeep pB k) 20
  have k0 : Below W0.heap.size W0 W0 := Below.refl _ _
  have HSO : Hid (∀ X, Below W0.heap.size W0 X → Calls Tryz.prog 34 #[.slice va n vc, .slice vb n vd] X (BoolPost X true)) := fun X hX => sameObjects_any _ _ d.objs d.objs X (h1.1.keep (bt hb0 hX (Nat.le_refl _))) (h2.1.keep (bt hb0 hX (Nat.le_refl _))) true (sameObs_self _)
  have ss1 : ∀ X, Below W0.heap.size W0 X → (convert 29 9 (.slice sa sn sc)).run Tryz.prog X = .ok (.string ⟨d.sd.toArray⟩) X := fun X hX => run_str Tryz.underlying29 Tryz.underlying5 (h1.2.1.keep (bt hb0 hX (Nat.le_refl _))) _ Tryz.underlying9
  have ss2 : ∀ X, Below W0.heap.size W0 X → (convert 29 9 (.slice sb sn se)).run Tryz.prog X = .ok (.string ⟨d.sd.toArray⟩) X := fun X hX => run_str Tryz.underlying29 Tryz.underlying5 (h2.2.1.keep (bt hb0 hX (Nat.le_refl _))) _ Tryz.underlying9
  have HSP : Hid (∀ k, k < 4 → ∀ X, Below W0.heap.size W0 X → Calls Tryz.prog 35 #[mv1 k, mv2 k] X (BoolPost X true)) := fun k hk X hX => samespans_eq _ _ (d.ts k).map (hd.mp k hk) X ((h1.2.2 k hk).keep (bt hb0 hX (Nat.le_refl _))) ((h2.2.2 k hk).keep (bt hb0 hX (Nat.le_refl _)))
  have HMS : Hid (∀ k, k < 4 → ∃ a c a' c', mv1 k = .slice a (d.ts k).map.length c ∧ mv2 k = .slice a' (d.ts k).map.length c') := fun k hk => by
    obtain ⟨a, c, e⟩ := (h1.2.2 k hk).slice
    obtain ⟨a', c', e'⟩ := (h2.2.2 k hk).slice
    exact ⟨a, c, a', c', e, e'⟩
  have HW0 := hid hW0
  have HB0 := hid hb0
  have HZ0 := hid hz0
  have PA := hid pA
  have PB := hid pB
  clear hW0 hb0 hz0 pA pB h1 h2 hN hSN
  show Calls _ _ #[.agg #[.int .i64 0, .int .i64 0, .int .i64 d.st, .int .i64 d.idn, .int .i64 d.lv, .slice va n vc, .int .i64 d.srv, .slice sa sn sc, .int .i64 (d.ts 0).st, .int .i64 (d.ts 0).most, mv1 0, .int .i64 (d.ts 1).st, .int .i64 (d.ts 1).most, mv1 1, .int .i64 (d.ts 2).st, .int .i64 (d.ts 2).most, mv1 2, .int .i64 (d.ts 3).st, .int .i64 (d.ts 3).most, mv1 3, .string ByteArray.empty], .agg #[.int .i64 0, .int .i64 0, .int .i64 d.st, .int .i64 d.idn, .int .i64 d.lv, .slice vb n vd, .int .i64 d.srv, .slice sb sn se, .int .i64 (d.ts 0).st, .int .i64 (d.ts 0).most, mv2 0, .int .i64 (d.ts 1).st, .int .i64 (d.ts 1).most, mv2 1, .int .i64 (d.ts 2).st, .int .i64 (d.ts 2).most, mv2 2, .int .i64 (d.ts 3).st, .int .i64 (d.ts 3).most, mv2 3, .string ByteArray.empty]] w _
  go_enter Tryz.func15, Tryz.ntmps15
  go_upto_region 1 with (fail)
  rw [HW0.out]
  go_wp2_with (go_at_call 34; (with_reducible refine (HSO.out _ k0).mono ?_); rintro r w1 ⟨rfl, hb1⟩)
  have hB1 := bt k0 hb1 (Nat.le_refl _)
  clear e0 e1 e2 e3 e4 e5 e6 e7 e20 f0 f1 f2 f3 f4 f5 f6 f7 f20 ss1 ss2
  go_loopw [5] (fun iv wr => ∃ k : Nat, k ≤ 4 ∧ iv = .int .i64 k ∧ Below W0.heap.size W0 wr) (fun iv _ => 4 - (intOf iv).toNat)
  case atStart => exact ⟨0, by omega, rfl, hB1⟩
  case round =>
    obtain ⟨k, hk, rfl, hbw⟩ := hrel
    by_cases hlt : k < 4
    · have hki : (0 : Int) ≤ (k : Int) := Int.natCast_nonneg _
      have hkl : (k : Int) < 4 := by omega
      obtain ⟨ma, mc, mb, md, e1, e2⟩ := HMS.out k hlt
      have pA := hpKeep PA.out hbw
      have pB := hpKeep PB.out hbw
      obtain ⟨a0, a1⟩ := DvI.tab0 pA hlt
      obtain ⟨b0', b1'⟩ := DvI.tab0 pB hlt
      have a2 : wr.cell? ⟨w.heap.size, 8 + k * 3 + 2, none⟩ = some (mv1 k) := DvI.mapc pA hlt
      have b2 : wr.cell? ⟨w.heap.size + 1, 8 + k * 3 + 2, none⟩ = some (mv2 k) := DvI.mapc pB hlt
      have HS2 := hid (HSP.out k hlt)
      rw [e1] at a2 HS2
      rw [e2] at b2 HS2
      clear e1 e2 pA pB
      obtain ⟨st, hst⟩ : ∃ x, (d.ts k).st = x := ⟨_, rfl⟩
      obtain ⟨mo, hmo⟩ : ∃ x, (d.ts k).most = x := ⟨_, rfl⟩
      obtain ⟨ml, hml⟩ : ∃ x, (d.ts k).map.length = x := ⟨_, rfl⟩
      rw [hst] at a0 b0'
      rw [hmo] at a1 b1'
      rw [hml] at a2 b2 HS2
      clear hst hmo hml
      have A0 : ∀ X, Below wr.heap.size wr X → X.cell? ⟨w.heap.size, 8 + k * 3, none⟩ = some (.int .i64 st) := fun X h => cell_keep h a0
      have A1 : ∀ X, Below wr.heap.size wr X → X.cell? ⟨w.heap.size, 8 + k * 3 + 1, none⟩ = some (.int .i64 mo) := fun X h => cell_keep h a1
      have A2 : ∀ X, Below wr.heap.size wr X → X.cell? ⟨w.heap.size, 8 + k * 3 + 2, none⟩ = some (.slice ma ml mc) := fun X h => cell_keep h a2
      have B0 : ∀ X, Below wr.heap.size wr X → X.cell? ⟨w.heap.size + 1, 8 + k * 3, none⟩ = some (.int .i64 st) := fun X h => cell_keep h b0'
      have B1 : ∀ X, Below wr.heap.size wr X → X.cell? ⟨w.heap.size + 1, 8 + k * 3 + 1, none⟩ = some (.int .i64 mo) := fun X h => cell_keep h b1'
      have B2 : ∀ X, Below wr.heap.size wr X → X.cell? ⟨w.heap.size + 1, 8 + k * 3 + 2, none⟩ = some (.slice mb ml md) := fun X h => cell_keep h b2
      have kk0 : Below wr.heap.size wr wr := Below.refl _ _
      have kA : ∀ o, Below wr.heap.size wr (wr.alloc o) := fun o => bal' wr o
      have kB : ∀ o o', Below wr.heap.size wr ((wr.alloc o).alloc o') := fun o o' => bta (bal' wr o) (Nat.le_refl _) o'
      clear a0 a1 a2 b0' b1' b2
      go_upto_region 6 with (fail)
      go_region
      all_goals
        clear A0 A1 A2 B0 B1 B2 kk0 kA kB
        go_wp2_with (go_at_call 35; (with_reducible refine (HS2.out _ ((bta (bta hbw (Nat.le_refl _) _) (Nat.le_refl _) _).drew)).mono ?_); rintro r w3 ⟨rfl, hb3⟩)
        go_roundw
        case rel => exact ⟨k + 1, by omega, by go_num, bt (bta (bta hbw (Nat.le_refl _) _) (Nat.le_refl _) _).drew hb3 (Nat.le_refl _)⟩
        case measure => simp [intOf]; omega
    · obtain rfl : k = 4 := by omega
      go_wp2
      go_ret
      exact ⟨rfl, bt HB0.out hbw (Nat.le_refl _)⟩

end Go.Proofs.YtliblgmpclefgaaGreat
