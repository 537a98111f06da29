/-
  Texts 52 of the claim.
-/
import Derived.Test.YtipnamoocemeeaaGreatD47
import Derived.Test.YtipnamoocemeeaaGreatD42
import Derived.Test.YtipnamoocemeeaaGreatD18
import Derived.Test.YtipnamoocemeeaaGreatD20
namespace Go.Proofs.YtipnamoocemeeaaGreat
open Go.RowKit
theorem CfC_cnt (c : Cf) (sv : Value) (k : Nat) (hk : k < 4) : (CfC c sv)[6 + k * 2 + 1]? = some (.int .i64 (c.win k).2) := by
  match k, hk with
  | 0, _ => rfl
  | 1, _ => rfl
  | 2, _ => rfl
  | 3, _ => rfl
end Go.Proofs.YtipnamoocemeeaaGreat

namespace Go.Proofs.YtipnamoocemeeaaGreat
open Go.RowKit
theorem Cf.ord0 {c : Cf} (h : chkE c = 0) (k : Nat) (hk : k < 4) (hz : (c.win k).2 = 0) : (c.win k).1 = 0 := by
  unfold chkE at h
  split at h
  · split at h
    · unfold winE at h
      split at h
      · split at h
        · rename_i ho
          have a2 := inB_iff.1 (ordB4_at 4 ho k hk)
          rw [hz, if_neg (by decide)] at a2
          omega
        · omega
      · omega
    · omega
  · omega
theorem Cf.okw {c : Cf} (hc : chkE c = 0) (h12 : ∀ k, k < 4 → (c.win k).2 ≤ 12) : ∀ k, k < 4 → okW12 (c.win k) := fun k hk => by
  have h := (Cf.ok_of hc).win k hk
  have h2 := Cf.ord0 hc k hk
  have h3 := h12 k hk
  exact ⟨h.1, h3, h.2.2.1, h.2.2.2, h2⟩
set_option maxRecDepth 100000 in
set_option maxHeartbeats 6400000 in
theorem msmall_s (c : Cf) (sn : Nat) : ∃ V : Bool, (V = true → ∀ k, k < 4 → (c.win k).2 ≤ 12) ∧ ∀ (w : World) (sa : Option Addr) (sc : Nat), Calls Tryz.prog 58 #[.agg (CfC c (.slice sa sn sc))] w (BoolPost w V) := by
  obtain ⟨b1, h1⟩ : ∃ b, decide ((sn : Int) ≤ 2) = b := ⟨_, rfl⟩
  obtain ⟨b2, h2⟩ : ∃ b, decide (wrap64 (c.la - c.fi) ≤ 3) = b := ⟨_, rfl⟩
  obtain ⟨b3, h3⟩ : ∃ b, decide (1 ≤ c.fi) = b := ⟨_, rfl⟩
  obtain ⟨b4, h4⟩ : ∃ b, decide (c.la ≤ 247) = b := ⟨_, rfl⟩
  obtain ⟨b5, h5⟩ : ∃ b, decide (c.re ≤ 2) = b := ⟨_, rfl⟩
  obtain ⟨w4, hw4⟩ : ∃ w4 : Bool, w4 = true ↔ ∀ k, k < 4 → (c.win k).2 ≤ 12 := by
    by_cases h : ∀ k, k < 4 → (c.win k).2 ≤ 12
    · exact ⟨true, fun _ => h, fun _ => rfl⟩
    · exact ⟨false, fun e => (by cases e), fun e => absurd e h⟩
  obtain ⟨V, hV⟩ : ∃ V : Bool, V = (w4 && (b1 && (b2 && (b3 && (b4 && b5))))) := ⟨_, rfl⟩
  refine ⟨V, fun e => hw4.1 (by rw [hV, Bool.and_eq_true] at e; exact e.1), fun w sa sc => ?_⟩
  obtain ⟨C, hC⟩ : ∃ C, CfC c (.slice sa sn sc) = C := ⟨_, rfl⟩
  rw [hC]
  obtain ⟨W0, hW0⟩ : ∃ W, w.alloc (.cells C 27) = W := ⟨_, rfl⟩
  have hb0 : Below w.heap.size w W0 := by rw [← hW0]; exact bal' w _
  have p0 : W0.heap[w.heap.size]? = some (.cells C 27) := by rw [← hW0]; exact hpNew w _
  have HV := hid hV
  have HW4 := hid hw4
  have HW0 := hid hW0
  have HB0 := hid hb0
  have HC := hid hC
  have P0 := hid p0
  have H1 := hid h1
  have H2 := hid h2
  have H3 := hid h3
  have H4 := hid h4
  have H5 := hid h5
  clear hV hw4 hW0 hb0 hC p0 h1 h2 h3 h4 h5
  go_enter Tryz.func58, Tryz.ntmps58
  go_upto_region 1 with (fail)
  rw [HW0.out]
  go_wp2
  go_loopw [3] (fun iv wr => ∃ k : Nat, k ≤ 4 ∧ iv = .int .i64 (k : Int) ∧ Hid (∀ j, j < k → (c.win j).2 ≤ 12) ∧ Below W0.heap.size W0 wr) (fun iv _ => 4 - (intOf iv).toNat)
  case atStart => exact ⟨0, Nat.zero_le _, rfl, fun j hj => absurd hj (Nat.not_lt_zero _), Below.refl _ _⟩
  case round =>
    obtain ⟨k, hk, rfl, hall, hbr⟩ := hrel
    have hbw : Below w.heap.size w wr := HB0.out.trans (hbr.mono HB0.out.size)
    by_cases hlt : k < 4
    · have hkl : (k : Int) < 4 := by omega
      have hki : (0 : Int) ≤ (k : Int) := Int.natCast_nonneg _
      have cw : wr.cell? ⟨w.heap.size, 6 + k * 2 + 1, none⟩ = some (.int .i64 (c.win k).2) := by rw [hpCell (hpKeep P0.out hbr), ← HC.out]; exact CfC_cnt c _ k hlt
      obtain ⟨x, hx⟩ : ∃ x, (c.win k).2 = x := ⟨_, rfl⟩
      rw [hx] at cw
      by_cases hg : 12 < x
      · have HVF : Hid (V = false) := by
          show _ = _
          have hwf : w4 = false := by
            cases e : w4
            · rfl
            · have := HW4.out.1 e k hlt
              omega
          rw [HV.out, hwf]
          rfl
        clear hx
        go_wp2
        go_ret
        exact ⟨by rw [HVF.out]; rfl, hbw⟩
      · have HA : Hid (∀ j, j < k + 1 → (c.win j).2 ≤ 12) := fun j hj => by
          by_cases e : j = k
          · subst e; omega
          · exact hall.out j (by omega)
        clear hx hall
        go_wp2
        go_roundw
        case rel => exact ⟨k + 1, by omega, by go_num, HA.out, hbr⟩
        case measure => simp [intOf]; omega
    · obtain rfl : k = 4 := by omega
      have HVT : Hid (V = (b1 && (b2 && (b3 && (b4 && b5))))) := by
        show _ = _
        rw [HV.out, HW4.out.2 hall.out]
        rfl
      have c0 : wr.cell? ⟨w.heap.size, 0, none⟩ = some (.slice sa sn sc) := by rw [hpCell (hpKeep P0.out hbr), ← HC.out]; rfl
      have c1 : wr.cell? ⟨w.heap.size, 1, none⟩ = some (.int .i64 c.fi) := by rw [hpCell (hpKeep P0.out hbr), ← HC.out]; rfl
      have c2 : wr.cell? ⟨w.heap.size, 2, none⟩ = some (.int .i64 c.la) := by rw [hpCell (hpKeep P0.out hbr), ← HC.out]; rfl
      have c3 : wr.cell? ⟨w.heap.size, 3, none⟩ = some (.int .i64 c.re) := by rw [hpCell (hpKeep P0.out hbr), ← HC.out]; rfl
      clear hall hk
      cases b1 with
      | false =>
        have g1 := H1.out
        go_wp2
        go_ret
        exact ⟨by rw [HVT.out]; rfl, hbw⟩
      | true =>
      cases b2 with
      | false =>
        have g1 := H1.out
        have g2 := H2.out
        go_wp2
        go_ret
        exact ⟨by rw [HVT.out]; rfl, hbw⟩
      | true =>
      cases b3 with
      | false =>
        have g1 := H1.out
        have g2 := H2.out
        have g3 := H3.out
        go_wp2
        go_ret
        exact ⟨by rw [HVT.out]; rfl, hbw⟩
      | true =>
      cases b4 with
      | false =>
        have g1 := H1.out
        have g2 := H2.out
        have g3 := H3.out
        have g4 := H4.out
        go_wp2
        go_ret
        exact ⟨by rw [HVT.out]; rfl, hbw⟩
      | true =>
        have g1 := H1.out
        have g2 := H2.out
        have g3 := H3.out
        have g4 := H4.out
        have HV5 : Hid (V = b5) := by show _ = _; rw [HVT.out]; rfl
        have g5 := H5.out
        clear HVT HV H1 H2 H3 H4 H5 HW4
        go_wp2
        go_ret
        refine ⟨?_, hbw⟩
        rw [HV5.out, ← g5]
        rfl
set_option maxRecDepth 100000 in
set_option maxHeartbeats 6400000 in
theorem mvalid_s (c : Cf) : ∃ V : Bool, (V = true → chkE c = 0 ∧ ∀ k, k < 4 → (c.win k).2 ≤ 12) ∧ ∀ (w : World) (sv : Value), Rgs w sv c.sets → Calls Tryz.prog 20 #[.agg (CfC c sv)] w (BoolPost w V) := by
  obtain ⟨b, hsm, hb⟩ := msmall_s c c.sets.length
  obtain ⟨E, hE⟩ : ∃ E, chkE c = E := ⟨_, rfl⟩
  obtain ⟨b2, hb2⟩ : ∃ b, (E == 0) = b := ⟨_, rfl⟩
  refine ⟨b && b2, fun h => ?_, fun w sv hs => ?_⟩
  · rw [Bool.and_eq_true] at h
    rw [← hb2, beq_iff_eq] at h
    rw [hE]
    exact ⟨h.2, hsm h.1⟩
  obtain ⟨sa, sc, rfl⟩ := hs.slc
  obtain ⟨sv, hsv⟩ : ∃ v, Value.slice sa c.sets.length sc = v := ⟨_, rfl⟩
  obtain ⟨C, hC⟩ : ∃ C, CfC c sv = C := ⟨_, rfl⟩
  have hi : (Tryz.prog.info? 27).map (·.size) = some C.size := by rw [← hC]; exact infoCf
  obtain ⟨W0, hW0⟩ : ∃ W, w.alloc (.cells C 27) = W := ⟨_, rfl⟩
  have hb0 : Below w.heap.size w W0 := by rw [← hW0]; exact bal' w _
  have p0 : W0.heap[w.heap.size]? = some (.cells C 27) := by rw [← hW0]; exact hpNew w _
  have y0 : ∀ X, Below W0.heap.size W0 X → X.cell? ⟨w.heap.size, 0, none⟩ = some (sv) := fun X hX => by rw [hpCell (hpKeep p0 hX), ← hC]; rfl
  have y1 : ∀ X, Below W0.heap.size W0 X → X.cell? ⟨w.heap.size, 1, none⟩ = some (.int .i64 c.fi) := fun X hX => by rw [hpCell (hpKeep p0 hX), ← hC]; rfl
  have y2 : ∀ X, Below W0.heap.size W0 X → X.cell? ⟨w.heap.size, 2, none⟩ = some (.int .i64 c.la) := fun X hX => by rw [hpCell (hpKeep p0 hX), ← hC]; rfl
  have y3 : ∀ X, Below W0.heap.size W0 X → X.cell? ⟨w.heap.size, 3, none⟩ = some (.int .i64 c.re) := fun X hX => by rw [hpCell (hpKeep p0 hX), ← hC]; rfl
  have y4 : ∀ X, Below W0.heap.size W0 X → X.cell? ⟨w.heap.size, 4, none⟩ = some (.int .i64 c.ti) := fun X hX => by rw [hpCell (hpKeep p0 hX), ← hC]; rfl
  have y5 : ∀ X, Below W0.heap.size W0 X → X.cell? ⟨w.heap.size, 5, none⟩ = some (.int .i64 c.de) := fun X hX => by rw [hpCell (hpKeep p0 hX), ← hC]; rfl
  have y6 : ∀ X, Below W0.heap.size W0 X → X.cell? ⟨w.heap.size, 6, none⟩ = some (.int .i64 (c.win 0).1) := fun X hX => by rw [hpCell (hpKeep p0 hX), ← hC]; rfl
  have y7 : ∀ X, Below W0.heap.size W0 X → X.cell? ⟨w.heap.size, 7, none⟩ = some (.int .i64 (c.win 0).2) := fun X hX => by rw [hpCell (hpKeep p0 hX), ← hC]; rfl
  have y8 : ∀ X, Below W0.heap.size W0 X → X.cell? ⟨w.heap.size, 8, none⟩ = some (.int .i64 (c.win 1).1) := fun X hX => by rw [hpCell (hpKeep p0 hX), ← hC]; rfl
  have y9 : ∀ X, Below W0.heap.size W0 X → X.cell? ⟨w.heap.size, 9, none⟩ = some (.int .i64 (c.win 1).2) := fun X hX => by rw [hpCell (hpKeep p0 hX), ← hC]; rfl
  have y10 : ∀ X, Below W0.heap.size W0 X → X.cell? ⟨w.heap.size, 10, none⟩ = some (.int .i64 (c.win 2).1) := fun X hX => by rw [hpCell (hpKeep p0 hX), ← hC]; rfl
  have y11 : ∀ X, Below W0.heap.size W0 X → X.cell? ⟨w.heap.size, 11, none⟩ = some (.int .i64 (c.win 2).2) := fun X hX => by rw [hpCell (hpKeep p0 hX), ← hC]; rfl
  have y12 : ∀ X, Below W0.heap.size W0 X → X.cell? ⟨w.heap.size, 12, none⟩ = some (.int .i64 (c.win 3).1) := fun X hX => by rw [hpCell (hpKeep p0 hX), ← hC]; rfl
  have y13 : ∀ X, Below W0.heap.size W0 X → X.cell? ⟨w.heap.size, 13, none⟩ = some (.int .i64 (c.win 3).2) := fun X hX => by rw [hpCell (hpKeep p0 hX), ← hC]; rfl
  have y14 : ∀ X, Below W0.heap.size W0 X → X.cell? ⟨w.heap.size, 14, none⟩ = some (.int .i64 c.ev) := fun X hX => by rw [hpCell (hpKeep p0 hX), ← hC]; rfl
  have y15 : ∀ X, Below W0.heap.size W0 X → X.cell? ⟨w.heap.size, 15, none⟩ = some (.int .i64 c.st) := fun X hX => by rw [hpCell (hpKeep p0 hX), ← hC]; rfl
  have HSM : Hid (∀ X, Calls Tryz.prog 58 #[.agg C] X (BoolPost X b)) := fun X => by rw [← hC, ← hsv]; exact hb X sa sc
  have HCK : Hid (∀ X, Below W0.heap.size W0 X → Calls Tryz.prog 10 #[.agg #[sv, .int .i64 c.fi, .int .i64 c.la, .int .i64 c.re, .int .i64 c.ti, .int .i64 c.de, .int .i64 (c.win 0).1, .int .i64 (c.win 0).2, .int .i64 (c.win 1).1, .int .i64 (c.win 1).2, .int .i64 (c.win 2).1, .int .i64 (c.win 2).2, .int .i64 (c.win 3).1, .int .i64 (c.win 3).2, .int .i64 c.ev, .int .i64 c.st]] X (IntPost X E)) := fun X hX => rcheck_any c sv X ((hsv ▸ hs).keep (bt hb0 hX (Nat.le_refl _))) E hE
  rw [hsv, hC]
  have HW0 := hid hW0
  have HB0 := hid hb0
  have HB2 := hid hb2
  clear hW0 hb0 hC hb hE hs hb2 hsv
  have r0 : Below W0.heap.size W0 W0 := Below.refl _ _
  go_enter Tryz.func20, Tryz.ntmps20
  go_upto_region 1 with (fail)
  rw [HW0.out]
  cases b with
  | false =>
    go_wp2_with (first
      | (refine wpList_load_row rfl 27 (.tmp 1) rfl w.heap.size rfl 27 C (0, 0) _ p0 Tryz.underlying27 rfl hi ?_)
      | (go_at_call 58; (with_reducible refine (HSM.out _).mono ?_); rintro r w1 ⟨rfl, hb1⟩))
    go_ret
    exact ⟨rfl, bt HB0.out hb1 (Nat.le_refl _)⟩
  | true =>
    go_wp2_with (first
      | (refine wpList_load_row rfl 27 (.tmp 1) rfl w.heap.size rfl 27 C (0, 0) _ p0 Tryz.underlying27 rfl hi ?_)
      | (go_at_call 58; (with_reducible refine (HSM.out _).mono ?_); rintro r w1 ⟨rfl, hb1⟩)
      | (go_at_call 10; (with_reducible refine (HCK.out _ hb1).mono ?_); rintro r w2 ⟨rfl, hb2⟩))
    go_ret
    exact ⟨by rw [HB2.out]; rfl, bt (bt HB0.out hb1 (Nat.le_refl _)) hb2 (Nat.le_refl _)⟩
set_option maxRecDepth 100000 in
set_option maxHeartbeats 6400000 in
theorem unitc_any (c : Cf) (hc : chkE c = 0) (hw12 : ∀ k, k < 4 → (c.win k).2 ≤ 12) (sv : Value) (w : World) (hs : Rgs w sv c.sets) (U : Int) (hU : Hid (unitS c.win 4 = U)) :
    Calls Tryz.prog 36 #[.agg (CfC c sv)] w (IntPost w U) := by
  have hwo := Cf.okw hc hw12
  obtain ⟨C, hC⟩ : ∃ C, CfC c sv = C := ⟨_, rfl⟩
  have hi : (Tryz.prog.info? 27).map (·.size) = some C.size := by rw [← hC]; exact infoCf
  obtain ⟨W0, hW0⟩ : ∃ W, w.alloc (.cells C 27) = W := ⟨_, rfl⟩
  have hb0 : Below w.heap.size w W0 := by rw [← hW0]; exact bal' w _
  have p0 : W0.heap[w.heap.size]? = some (.cells C 27) := by rw [← hW0]; exact hpNew w _
  obtain ⟨win, hwin⟩ : ∃ f, c.win = f := ⟨_, rfl⟩
  have y0 : ∀ X, Below W0.heap.size W0 X → X.cell? ⟨w.heap.size, 6, none⟩ = some (.int .i64 (win 0).1) := fun X k => by rw [hpCell (hpKeep p0 k), ← hC, ← hwin]; rfl
  have y1 : ∀ X, Below W0.heap.size W0 X → X.cell? ⟨w.heap.size, 7, none⟩ = some (.int .i64 (win 0).2) := fun X k => by rw [hpCell (hpKeep p0 k), ← hC, ← hwin]; rfl
  have y2 : ∀ X, Below W0.heap.size W0 X → X.cell? ⟨w.heap.size, 8, none⟩ = some (.int .i64 (win 1).1) := fun X k => by rw [hpCell (hpKeep p0 k), ← hC, ← hwin]; rfl
  have y3 : ∀ X, Below W0.heap.size W0 X → X.cell? ⟨w.heap.size, 9, none⟩ = some (.int .i64 (win 1).2) := fun X k => by rw [hpCell (hpKeep p0 k), ← hC, ← hwin]; rfl
  have y4 : ∀ X, Below W0.heap.size W0 X → X.cell? ⟨w.heap.size, 10, none⟩ = some (.int .i64 (win 2).1) := fun X k => by rw [hpCell (hpKeep p0 k), ← hC, ← hwin]; rfl
  have y5 : ∀ X, Below W0.heap.size W0 X → X.cell? ⟨w.heap.size, 11, none⟩ = some (.int .i64 (win 2).2) := fun X k => by rw [hpCell (hpKeep p0 k), ← hC, ← hwin]; rfl
  have y6 : ∀ X, Below W0.heap.size W0 X → X.cell? ⟨w.heap.size, 12, none⟩ = some (.int .i64 (win 3).1) := fun X k => by rw [hpCell (hpKeep p0 k), ← hC, ← hwin]; rfl
  have y7 : ∀ X, Below W0.heap.size W0 X → X.cell? ⟨w.heap.size, 13, none⟩ = some (.int .i64 (win 3).2) := fun X k => by rw [hpCell (hpKeep p0 k), ← hC, ← hwin]; rfl
  have HCK : Hid (Calls Tryz.prog 41 #[.agg C] W0 (IntPost W0 0)) := by rw [← hC]; exact ccheck_any c sv W0 (hs.keep hb0) 0 hc
  rw [hC]
  rw [hwin] at hU hwo
  have hw := hwo
  have P0 := hid p0
  have HW0 := hid hW0
  have HB0 := hid hb0
  have HWN := hid hw
  clear hW0 hb0 p0 hw hwo hs hC hw12
  go_enter Tryz.func36, Tryz.ntmps36
  go_upto_region 1 with (fail)
  rw [HW0.out]
  go_wp2_with (first
    | (refine wpList_load_row rfl 27 (.tmp 1) rfl w.heap.size rfl 27 C (0, 0) _ P0.out Tryz.underlying27 rfl hi ?_)
    | (go_at_call 41; (with_reducible refine HCK.out.mono ?_); rintro r w1 ⟨rfl, hb1⟩))
  clear y0 y1 y2 y3 y4 y5 y6 y7
  go_loopw [3, 11] (fun sv iv wr => ∃ k : Nat, k ≤ 4 ∧ iv = .int .i64 k ∧ sv = .int .i64 (unitS win k) ∧ Below W0.heap.size W0 wr) (fun _ iv _ => 4 - (intOf iv).toNat)
  case atStart => exact ⟨0, by omega, rfl, rfl, hb1⟩
  case round =>
    obtain ⟨k, hk, rfl, rfl, hbw⟩ := hrel
    by_cases hlt : k < 4
    · have hki : (0 : Int) ≤ (k : Int) := Int.natCast_nonneg _
      have hkl : (k : Int) < 4 := by omega
      have hix := win_index win k hlt
      have hok := HWN.out k hlt
      have hbd := unitS_bd HWN.out k (by omega)
      have hcn := hok.2.1
      have sw1 : IntKind.i64.wrap ((k : Int) + 1) = (k : Int) + 1 := IntWalk.i64_in _ (by omega)
      by_cases hc : 0 < (win k).2
      · have HNX : Hid (unitS win (k + 1) = unitS win k + (srchB ((k : Int) + 1) + winB (win k).2)) := by show unitS win k + tabB win k = _; unfold tabB; rw [if_pos hc]
        have HSR : Hid (∀ X, Calls Tryz.prog 70 #[.int .i64 ((k : Int) + 1)] X fun r w' => r = .returned (.int .i64 (srchB ((k : Int) + 1))) ∧ X = w') := fun X => bsearch_k X _ (by omega) (by omega)
        have HWW : Hid (∀ X, Calls Tryz.prog 71 #[.int .i64 (win k).2] X fun r w' => r = .returned (.int .i64 (winB (win k).2)) ∧ X = w') := fun X => window_k X _ (by omega) hcn
        have hwb := winB_bd hok.1 hcn
        have hsb : 8 ≤ srchB ((k : Int) + 1) ∧ srchB ((k : Int) + 1) ≤ 12 := by unfold srchB; split <;> omega
        generalize winB (win k).2 = wb at *
        generalize srchB ((k : Int) + 1) = sb at *
        generalize unitS win k = us at *
        have sw2 : IntKind.i64.wrap (sb + wb) = sb + wb := IntWalk.i64_in _ (by omega)
        have sw3 : IntKind.i64.wrap (us + (sb + wb)) = us + (sb + wb) := IntWalk.i64_in _ (by omega)
        clear hok hbd hcn hwb hsb
        go_upto_region 8 with (fail)
        go_region_with (first
          | (go_at_call 70; (with_reducible refine (HSR.out _).mono ?_); rintro r w2 ⟨rfl, rfl⟩)
          | (go_at_call 71; (with_reducible refine (HWW.out _).mono ?_); rintro r w2 ⟨rfl, rfl⟩))
        all_goals
          go_wp2
          go_roundw
          case rel => exact ⟨k + 1, by omega, by go_num, by rw [HNX.out], (bta hbw (Nat.le_refl _) _).drew⟩
          case measure => simp [intOf]; omega
      · have HNX : Hid (unitS win (k + 1) = unitS win k) := by show unitS win k + tabB win k = _; unfold tabB; rw [if_neg hc]; omega
        clear hok hbd hcn
        go_wp2
        go_roundw
        case rel => exact ⟨k + 1, by omega, by go_num, by rw [HNX.out], bta hbw (Nat.le_refl _) _⟩
        case measure => simp [intOf]; omega
    · obtain rfl : k = 4 := by omega
      go_wp2
      go_ret
      exact ⟨by rw [← hU.out]; rfl, bt HB0.out hbw (Nat.le_refl _)⟩
end Go.Proofs.YtipnamoocemeeaaGreat
