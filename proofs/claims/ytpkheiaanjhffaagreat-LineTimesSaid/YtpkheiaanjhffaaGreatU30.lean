/-
  Texts 30 of the claim.
-/
import Derived.Test.YtpkheiaanjhffaaGreatU29
import Derived.Test.YtpkheiaanjhffaaGreatU14
import Derived.Test.YtpkheiaanjhffaaGreatU03
import Derived.Test.YtpkheiaanjhffaaGreatU05
import Derived.Test.YtpkheiaanjhffaaGreatU04
namespace Go.Proofs.YtpkheiaanjhffaaGreat
open Go.RowKit
structure CkAt (W : World) (g o n N : Nat) (t : Nat → Kc) : Prop where
  h : ∃ c, W.heap[g]? = some (.cells c 116 (0, 0)) ∧ c.size = N ∧ ∀ i, i < n → c[o + i * 4]? = some (.int .i64 (t i).at_) ∧ c[o + i * 4 + 1]? = some (.int .u8 (t i).val) ∧ c[o + i * 4 + 2]? = some (.int .i64 (t i).fl) ∧ c[o + i * 4 + 3]? = some (.int .i64 (t i).du)
  le : o + n * 4 ≤ N
theorem CkAt.at {W : World} {g o n N : Nat} {t : Nat → Kc} (h : CkAt W g o n N t) {i : Nat} (hi : i < n) :
    W.cell? ⟨g, o + i * 4, none⟩ = some (.int .i64 (t i).at_) ∧ W.cell? ⟨g, o + i * 4 + 1, none⟩ = some (.int .u8 (t i).val) ∧ W.cell? ⟨g, o + i * 4 + 2, none⟩ = some (.int .i64 (t i).fl) ∧ W.cell? ⟨g, o + i * 4 + 3, none⟩ = some (.int .i64 (t i).du) := by
  obtain ⟨c, hc, -, hr⟩ := h.h
  obtain ⟨h0, h1, h2, h3⟩ := hr i hi
  exact ⟨by rw [hpCell hc]; exact h0, by rw [hpCell hc]; exact h1, by rw [hpCell hc]; exact h2, by rw [hpCell hc]; exact h3⟩
theorem CkAt.free {W : World} {g o n N : Nat} {t : Nat → Kc} (h : CkAt W g o n N t) (j : Nat) : W.frozen? ⟨g, j, none⟩ = false := by
  obtain ⟨c, hc, -⟩ := h.h
  exact hpFree hc j
theorem CkAt.keeps {W X : World} {F : Nat → Prop} {g o n N : Nat} {t : Nat → Kc} (h : CkAt W g o n N t) (hk : Keeps F W X) (hn : ¬ F g) : CkAt X g o n N t := by
  obtain ⟨c, hc, h2, h3⟩ := h.h
  exact ⟨⟨c, hpKeeps hc hk hn, h2, h3⟩, h.le⟩
theorem CkAt.put {W : World} {g o n N : Nat} {t : Nat → Kc} (h : CkAt W g o n N t) {j : Nat} (hj : j < n) (x : Kc) :
    CkAt ((((W.setCell ⟨g, o + j * 4, none⟩ (.int .i64 x.at_)).setCell ⟨g, o + j * 4 + 1, none⟩ (.int .u8 x.val)).setCell ⟨g, o + j * 4 + 2, none⟩ (.int .i64 x.fl)).setCell ⟨g, o + j * 4 + 3, none⟩ (.int .i64 x.du)) g o n N (fun i => if i = j then x else t i) := by
  obtain ⟨c, hc, h2, h3⟩ := h.h
  have hle := h.le
  refine ⟨⟨_, hpSet (hpSet (hpSet (hpSet hc _ _) _ _) _ _) _ _, by simpa using h2, fun i hi => ?_⟩, h.le⟩
  obtain ⟨e0, e1, e2, e3⟩ := h3 i hi
  simp only [Array.getElem?_setIfInBounds, Array.size_setIfInBounds, h2]
  by_cases e : i = j
  · subst e
    rw [if_pos rfl]
    refine ⟨?_, ?_, ?_, ?_⟩ <;> (repeat' (first | rw [if_pos (by omega)] | rw [if_neg (by omega)]))
  · rw [if_neg e]
    refine ⟨?_, ?_, ?_, ?_⟩ <;> (repeat (rw [if_neg (by omega)])) <;> assumption
def SrPost (w : World) (g o n N : Nat) (t : Nat → Kc) (r : Ending) (w' : World) : Prop := r = .returned (.tuple #[]) ∧ CkAt w' g o n N t ∧ Keeps (· = g) w w'
set_option maxRecDepth 100000 in
set_option maxHeartbeats 6400000 in
theorem swapR_any (g o n N c : Nat) (t : Nat → Kc) (cf : Value) (a b m : Nat) (hm : a + m ≤ b) (hb : b + m ≤ n) (hn : n ≤ 100000000) (w : World) (h : CkAt w g o n N t) :
    Calls Tryz.prog 133 #[.slice (some ⟨g, o, none⟩) n c, .int .i64 (a : Int), .int .i64 (b : Int), .int .i64 (m : Int), cf] w (SrPost w g o n N (swapR a b m t)) := by
  have H := hid h
  have HMB := hid (And.intro hm (And.intro hb hn))
  clear h hm hb hn
  go_enter Tryz.func133, Tryz.ntmps133
  go_wp2
  go_loopw [10] (fun iv wr => ∃ i : Nat, i ≤ m ∧ iv = .int .i64 (i : Int) ∧ Hid (CkAt wr g o n N (swapR a b i t)) ∧ Hid (Keeps (· = g) w wr)) (fun iv _ => m - (intOf iv).toNat)
  case atStart => exact ⟨0, Nat.zero_le _, rfl, by rw [swapR_zero]; exact H.out, Keeps.refl _ _⟩
  case round =>
    obtain ⟨i, hi, rfl, hck, hkp⟩ := hrel
    have hii : (0 : Int) ≤ (i : Int) := Int.natCast_nonneg _
    obtain ⟨b1, b2, b3⟩ := HMB.out
    by_cases hlt : i < m
    · have hil : (i : Int) < (m : Int) := by omega
      obtain ⟨A, hA⟩ : ∃ A : Nat, a + i = A := ⟨_, rfl⟩
      obtain ⟨B, hB⟩ : ∃ B : Nat, b + i = B := ⟨_, rfl⟩
      have s1 : IntKind.i64.wrap ((a : Int) + (i : Int)) = (A : Int) := (IntWalk.i64_in _ (by omega)).trans (by omega)
      have s2 : IntKind.i64.wrap ((b : Int) + (i : Int)) = (B : Int) := (IntWalk.i64_in _ (by omega)).trans (by omega)
      have hAn : (A : Int) < (n : Int) := by omega
      have hBn : (B : Int) < (n : Int) := by omega
      have hA0 : (0 : Int) ≤ (A : Int) := Int.natCast_nonneg _
      have hB0 : (0 : Int) ≤ (B : Int) := Int.natCast_nonneg _
      obtain ⟨T, hT⟩ : ∃ T, swapR a b i t = T := ⟨_, rfl⟩
      rw [hT] at hck
      have HST : Hid ((fun k => if k = B then T A else (fun k => if k = A then T B else T k) k) = swapR a b (i + 1) t) := by
        show _ = _
        rw [swapR_succ (by omega), hT, hA, hB]
        have eA : T A = t A := by rw [← hT, ← hA]; unfold swapR; rw [if_neg (by omega), if_neg (by omega)]
        have eB : T B = t B := by rw [← hT, ← hB]; unfold swapR; rw [if_neg (by omega), if_neg (by omega)]
        rw [eA, eB]
        funext k
        by_cases e1 : k = A
        · subst e1
          rw [if_neg (by omega)]
          dsimp only
          rw [if_pos rfl, if_pos rfl]
        · by_cases e2 : k = B
          · subst e2
            rw [if_pos rfl, if_neg e1, if_pos rfl]
          · rw [if_neg e2]
            dsimp only
            rw [if_neg e1, if_neg e1, if_neg e2]
      have hck2 := (hck.out.put (j := A) (by omega) (T B)).put (j := B) (by omega) (T A)
      rw [HST.out] at hck2
      have hkp2 : Keeps (· = g) w _ := hkp.out.trans (ks1 (ks1 (ks1 (ks1 (ks1 (ks1 (ks1 (ks1 (Keeps.refl (· = g) wr) (o + A * 4) (.int .i64 (T B).at_)) (o + A * 4 + 1) (.int .u8 (T B).val)) (o + A * 4 + 2) (.int .i64 (T B).fl)) (o + A * 4 + 3) (.int .i64 (T B).du)) (o + B * 4) (.int .i64 (T A).at_)) (o + B * 4 + 1) (.int .u8 (T A).val)) (o + B * 4 + 2) (.int .i64 (T A).fl)) (o + B * 4 + 3) (.int .i64 (T A).du)) (fun _ _ e => e)
      have HCK2 := hid hck2
      have HKP2 := hid hkp2
      obtain ⟨x0, x1, x2, x3⟩ := hck.out.at (i := A) (by omega)
      obtain ⟨y0, y1, y2, y3⟩ := hck.out.at (i := B) (by omega)
      have f0 := hck.out.free (o + A * 4)
      have f1 := hck.out.free (o + A * 4 + 1)
      have f2 := hck.out.free (o + A * 4 + 2)
      have f3 := hck.out.free (o + A * 4 + 3)
      have f4 := hck.out.free (o + B * 4)
      have f5 := hck.out.free (o + B * 4 + 1)
      have f6 := hck.out.free (o + B * 4 + 2)
      have f7 := hck.out.free (o + B * 4 + 3)
      have hAB : A < B := by omega
      clear hA hB hT hck2 hkp2
      go_upto_region 3 with (fail)
      go_region
      go_wp2
      go_roundw
      case rel => exact ⟨i + 1, by omega, by go_num, HCK2.out.keeps (F := fun _ => False) (Keeps.of_below (Below.refl _ _).drew) (fun e => e), HKP2.out.trans (Keeps.of_below (F := fun _ => False) (Below.refl _ _).drew) (fun _ _ e => e.elim)⟩
      case measure => simp [intOf]; omega
    · obtain rfl : i = m := by omega
      go_wp2
      go_end0
      exact ⟨rfl, hck.out, hkp.out⟩
set_option maxRecDepth 100000 in
set_option maxHeartbeats 6400000 in
theorem rot_any (g o n N c : Nat) (t : Nat → Kc) (cf : Value) (a m b : Nat) (ham : a < m) (hmb : m < b) (hb : b ≤ n) (hn : n ≤ 100000000) (w : World) (h : CkAt w g o n N t) :
    Calls Tryz.prog 125 #[.slice (some ⟨g, o, none⟩) n c, .int .i64 (a : Int), .int .i64 (m : Int), .int .i64 (b : Int), cf] w (SrPost w g o n N (rotF a m b t)) := by
  have H := hid h
  have HB := hid (And.intro ham (And.intro hmb (And.intro hb hn)))
  have HSW : Hid (∀ (X : World) (T : Nat → Kc) (a b m : Nat), a + m ≤ b → b + m ≤ n → CkAt X g o n N T → Calls Tryz.prog 133 #[.slice (some ⟨g, o, none⟩) n c, .int .i64 (a : Int), .int .i64 (b : Int), .int .i64 (m : Int), cf] X (SrPost X g o n N (swapR a b m T))) := fun X T a b m h1 h2 h3 => swapR_any g o n N c T cf a b m h1 h2 hn X h3
  obtain ⟨i0, hi0⟩ : ∃ i : Nat, m - a = i := ⟨_, rfl⟩
  obtain ⟨j0, hj0⟩ : ∃ i : Nat, b - m = i := ⟨_, rfl⟩
  have s1 : IntKind.i64.wrap ((m : Int) - (a : Int)) = (i0 : Int) := (IntWalk.i64_in _ (by omega)).trans (by omega)
  have s2 : IntKind.i64.wrap ((b : Int) - (m : Int)) = (j0 : Int) := (IntWalk.i64_in _ (by omega)).trans (by omega)
  have HI := hid (And.intro hi0 hj0)
  obtain ⟨R, hR⟩ : ∃ R, rotF a m b t = R := ⟨_, rfl⟩
  rw [hR]
  have HR0 : Hid (rotF (m - i0) m (m + j0) t = R) := by show _ = _; rw [← hR, show m - i0 = a by omega, show m + j0 = b by omega]
  clear h ham hmb hb hn hi0 hj0 hR
  go_enter Tryz.func125, Tryz.ntmps125
  go_wp2
  go_loopw [10, 11] (fun iv jv wr => ∃ (i j : Nat) (T : Nat → Kc), iv = .int .i64 (i : Int) ∧ jv = .int .i64 (j : Int) ∧ 0 < i ∧ 0 < j ∧ Hid (i ≤ m ∧ m + j ≤ n) ∧ Hid (rotF (m - i) m (m + j) T = R) ∧ Hid (CkAt wr g o n N T) ∧ Hid (Keeps (· = g) w wr)) (fun iv jv _ => (intOf iv).toNat + (intOf jv).toNat)
  case atStart => exact ⟨i0, j0, t, rfl, rfl, by have := HI.out; have := HB.out; omega, by have := HI.out; have := HB.out; omega, ⟨by have := HI.out; omega, by have := HI.out; have := HB.out; omega⟩, HR0.out, H.out, Keeps.refl _ _⟩
  case round =>
    obtain ⟨i, j, T, rfl, rfl, hi, hj, hij, hrot, hck, hkp⟩ := hrel
    obtain ⟨a1, a2⟩ := hij.out
    obtain ⟨b1, b2, b3, b4⟩ := HB.out
    by_cases e : i = j
    · subst e
      have g1 : ((i : Int) != (i : Int)) = false := by rw [bne_eq_false_iff_eq]
      obtain ⟨L, hL⟩ : ∃ L : Nat, m - i = L := ⟨_, rfl⟩
      have s3 : IntKind.i64.wrap ((m : Int) - (i : Int)) = (L : Int) := (IntWalk.i64_in _ (by omega)).trans (by omega)
      have HC := hid (HSW.out wr T L m i (by omega) (by omega) hck.out)
      have HRR : Hid (swapR L m i T = R) := by show _ = _; rw [← hrot.out, ← hL]; exact rotF_eq T a1
      clear hL
      go_wp2_with (go_at_call 133; (with_reducible refine HC.out.mono ?_); rintro r w2 ⟨rfl, hck2, hkp2⟩; have HCK := hid hck2; have HKP := hid hkp2; clear hck2 hkp2)
      go_end0
      exact ⟨rfl, by rw [← HRR.out]; exact HCK.out, hkp.out.trans HKP.out (fun _ _ e => e)⟩
    · have g1 : ((i : Int) != (j : Int)) = true := by rw [bne_iff_ne]; omega
      have g1n : ¬ (i : Int) = (j : Int) := by omega
      by_cases h2 : j < i
      · have g2 : decide ((j : Int) < (i : Int)) = true := decide_eq_true (by omega)
        obtain ⟨L, hL⟩ : ∃ L : Nat, m - i = L := ⟨_, rfl⟩
        have s3 : IntKind.i64.wrap ((m : Int) - (i : Int)) = (L : Int) := (IntWalk.i64_in _ (by omega)).trans (by omega)
        obtain ⟨I, hI⟩ : ∃ I : Nat, i - j = I := ⟨_, rfl⟩
        have s4 : IntKind.i64.wrap ((i : Int) - (j : Int)) = (I : Int) := (IntWalk.i64_in _ (by omega)).trans (by omega)
        have HC := hid (HSW.out wr T L m j (by omega) (by omega) hck.out)
        have HRR : Hid (rotF (m - I) m (m + j) (swapR L m j T) = R) := by show _ = _; rw [← hrot.out, ← hL, ← hI]; exact rotF_gt T a1 h2 hj
        have hI0 : 0 < I := by omega
        have HIL := hid hI
        have g3 : j < i := h2
        clear hL hI
        go_wp2_with (go_at_call 133; (with_reducible refine HC.out.mono ?_); rintro r w2 ⟨rfl, hck2, hkp2⟩; have HCK := hid hck2; have HKP := hid hkp2; clear hck2 hkp2)
        go_roundw
        case rel => exact ⟨I, j, swapR L m j T, rfl, rfl, hI0, hj, ⟨by have := HIL.out; omega, a2⟩, HRR.out, HCK.out, hkp.out.trans HKP.out (fun _ _ e => e)⟩
        case measure => have := HIL.out; simp [intOf]; omega
      · have g2 : decide ((j : Int) < (i : Int)) = false := decide_eq_false (by omega)
        have h3 : i < j := by omega
        obtain ⟨L, hL⟩ : ∃ L : Nat, m - i = L := ⟨_, rfl⟩
        have s3 : IntKind.i64.wrap ((m : Int) - (i : Int)) = (L : Int) := (IntWalk.i64_in _ (by omega)).trans (by omega)
        obtain ⟨Q, hQ⟩ : ∃ Q : Nat, m + j = Q := ⟨_, rfl⟩
        have s5 : IntKind.i64.wrap ((m : Int) + (j : Int)) = (Q : Int) := (IntWalk.i64_in _ (by omega)).trans (by omega)
        obtain ⟨U, hU⟩ : ∃ U : Nat, Q - i = U := ⟨_, rfl⟩
        have s6 : IntKind.i64.wrap ((Q : Int) - (i : Int)) = (U : Int) := (IntWalk.i64_in _ (by omega)).trans (by omega)
        obtain ⟨J, hJ⟩ : ∃ J : Nat, j - i = J := ⟨_, rfl⟩
        have s7 : IntKind.i64.wrap ((j : Int) - (i : Int)) = (J : Int) := (IntWalk.i64_in _ (by omega)).trans (by omega)
        have HC := hid (HSW.out wr T L U i (by omega) (by omega) hck.out)
        have HRR : Hid (rotF (m - i) m (m + J) (swapR L U i T) = R) := by show _ = _; rw [← hrot.out, ← hL, ← hU, ← hQ, ← hJ]; exact rotF_lt T a1 h3 hi
        have hJ0 : 0 < J := by omega
        have HJL := hid hJ
        have g3 : ¬ j < i := h2
        clear hL hQ hU hJ
        go_wp2_with (go_at_call 133; (with_reducible refine HC.out.mono ?_); rintro r w2 ⟨rfl, hck2, hkp2⟩; have HCK := hid hck2; have HKP := hid hkp2; clear hck2 hkp2)
        go_roundw
        case rel => exact ⟨i, J, swapR L U i T, rfl, rfl, hi, hJ0, ⟨a1, by have := HJL.out; omega⟩, HRR.out, HCK.out, hkp.out.trans HKP.out (fun _ _ e => e)⟩
        case measure => have := HJL.out; simp [intOf]; omega
def CmPost (w : World) (V : Bool) (r : Ending) (w' : World) : Prop := ∃ n : Int, r = .returned (.int .i64 n) ∧ Hid (decide (n < 0) = V) ∧ Below w.heap.size w w'
set_option maxRecDepth 100000 in
set_option maxHeartbeats 800000 in
theorem nan_any (a : Int) (w : World) : Calls Tryz.prog 102 #[.int .i64 a] w fun r w' => r = .returned (.bool false) ∧ w = w' := by
  have g : (a != a) = false := by rw [bne_eq_false_iff_eq]
  go_enter Tryz.func102, Tryz.ntmps102
  go_wp2
  go_ret
  exact ⟨rfl, rfl⟩
set_option maxRecDepth 100000 in
set_option maxHeartbeats 800000 in
theorem comp_any (a b : Int) (w : World) : Calls Tryz.prog 88 #[.int .i64 a, .int .i64 b] w fun r w' => ∃ n : Int, r = .returned (.int .i64 n) ∧ Hid (decide (n < 0) = decide (a < b)) ∧ w = w' := by
  have HN := hid nan_any
  by_cases h1 : a < b
  · have d1 : decide (a < b) = true := decide_eq_true h1
    clear h1
    go_enter Tryz.func88, Tryz.ntmps88
    go_wp2_with (go_at_call 102; (with_reducible refine (HN.out _ _).mono ?_); rintro r w2 ⟨rfl, rfl⟩)
    go_ret
    exact ⟨-1, rfl, by show _ = _; rw [d1]; rfl, rfl⟩
  · have d1 : decide (a < b) = false := decide_eq_false h1
    by_cases h2 : b < a
    · have d2 : decide (b < a) = true := decide_eq_true h2
      clear h1 h2
      go_enter Tryz.func88, Tryz.ntmps88
      go_wp2_with (go_at_call 102; (with_reducible refine (HN.out _ _).mono ?_); rintro r w2 ⟨rfl, rfl⟩)
      go_ret
      exact ⟨1, rfl, by show _ = _; rw [d1]; rfl, rfl⟩
    · have d2 : decide (b < a) = false := decide_eq_false h2
      clear h1 h2
      go_enter Tryz.func88, Tryz.ntmps88
      go_wp2_with (go_at_call 102; (with_reducible refine (HN.out _ _).mono ?_); rintro r w2 ⟨rfl, rfl⟩)
      go_ret
      exact ⟨0, rfl, by show _ = _; rw [d1]; rfl, rfl⟩
set_option maxRecDepth 100000 in
set_option maxHeartbeats 1600000 in
theorem ccmp_any (x y : Kc) (w : World) : Calls Tryz.prog 87 #[.agg #[.int .i64 (x).at_, .int .u8 (x).val, .int .i64 (x).fl, .int .i64 (x).du], .agg #[.int .i64 (y).at_, .int .u8 (y).val, .int .i64 (y).fl, .int .i64 (y).du]] w (CmPost w (decide (x.at_ < y.at_))) := by
  have HK := hid (comp_any x.at_ y.at_)
  have HB : Hid (∀ A B, Below w.heap.size w ((w.alloc A).alloc B)) := fun A B => bta (bal' w A) (Nat.le_refl _) B
  obtain ⟨xa, xv, xf, xd, xk⟩ := x
  obtain ⟨ya, yv, yf, yd, yk⟩ := y
  dsimp only at HK ⊢
  go_enter Tryz.func87, Tryz.ntmps87
  go_wp2_with (go_at_call 88; (with_reducible refine (HK.out _).mono ?_); rintro r w2 ⟨n, rfl, hn, rfl⟩)
  go_ret
  exact ⟨n, rfl, hn.out, HB.out _ _⟩
end Go.Proofs.YtpkheiaanjhffaaGreat
