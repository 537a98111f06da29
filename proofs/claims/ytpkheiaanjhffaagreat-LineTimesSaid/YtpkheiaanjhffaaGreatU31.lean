/-
  Texts 31 of the claim.
-/
import Derived.Test.YtpkheiaanjhffaaGreatU30
import Derived.Test.YtpkheiaanjhffaaGreatU07
namespace Go.Proofs.YtpkheiaanjhffaaGreat
open Go.RowKit
def OrdR (t : Nat → Kc) (a b : Nat) : Prop := ∀ i j, a ≤ i → i < j → j < b → ((t j).at_ < (t i).at_ ↔ (t j).key < (t i).key) ∧ (t j).key ≠ (t i).key
theorem InsP.mrgR {t0 t : Nat → Kc} {a b i : Nat} (ho : OrdR t0 a b) (h : InsP t0 t a i) (hi : i < b) : MrgP t a i (i + 1) :=
  ⟨h.s, fun x y h1 h2 h3 => by omega, fun x y h1 h2 h3 h4 => by
    obtain ⟨x', x1, x2, x3⟩ := h.m.fw x h1 h2
    have hy : y = i := by omega
    subst hy
    rw [x3, h.o y (.inr (Nat.le_refl _))]
    exact ho x' y x1 (by omega) hi⟩
theorem InsP.stepR {t0 t : Nat → Kc} {a b i j : Nat} (ho : OrdR t0 a b) (h : InsP t0 t a i) (hi : i < b) (haj : a ≤ j) (hji : j ≤ i) (hl : ∀ k, a ≤ k → k < j → (t k).key < (t i).key) (hr : ∀ k, j ≤ k → k < i → (t i).key < (t k).key) :
    InsP t0 (insR j i t) a (i + 1) := by
  obtain ⟨e1, e2⟩ := merge_oneR (h.mrgR ho hi) haj hji hl hr
  refine ⟨e1, ?_, fun k hk => (e2.out k hk).trans (h.o k (by omega))⟩
  refine Same.trans ?_ e2.same
  refine h.m.join ((Same.refl t0 i (i + 1)).congr fun k h1 h2 => by rw [show k = i by omega]; exact h.o i (.inr (Nat.le_refl _))) (by omega) (by omega)
def IsPost (w : World) (g o n N : Nat) (t : Nat → Kc) (a b : Nat) (r : Ending) (w' : World) : Prop := ∃ t', r = .returned (.tuple #[]) ∧ InsP t t' a b ∧ CkAt w' g o n N t' ∧ Keeps (· = g) w w'
set_option maxRecDepth 100000 in
set_option maxHeartbeats 12800000 in
theorem insS_any (g o n N c : Nat) (t : Nat → Kc) (a b : Nat) (hab : a ≤ b) (hb : b ≤ n) (hn : n ≤ 100000000) (ho : OrdR t a b) (w : World) (h : CkAt w g o n N t) :
    Calls Tryz.prog 114 #[.slice (some ⟨g, o, none⟩) n c, .int .i64 (a : Int), .int .i64 (b : Int), .func (.func 87) #[] #[]] w (IsPost w g o n N t a b) := by
  have H := hid h
  have HO := hid ho
  have HB := hid (And.intro hab (And.intro hb hn))
  clear h ho hab hb hn
  by_cases hlt0 : a < b
  case neg =>
    have hs0 : IntKind.i64.wrap ((a : Int) + 1) = ((a + 1 : Nat) : Int) := (IntWalk.i64_in _ (by have := HB.out; omega)).trans (by omega)
    have hge : ¬ a + 1 < b := by omega
    have HE : Hid (a = b) := by show a = b; have := HB.out; omega
    obtain ⟨a1, ha1⟩ : ∃ x, a + 1 = x := ⟨_, rfl⟩
    rw [ha1] at hs0 hge
    clear hlt0 ha1
    go_enter Tryz.func114, Tryz.ntmps114
    go_wp2_with fail
    go_loopw [8] (fun iv wr => iv = .int .i64 (a1 : Int) ∧ w = wr) (fun _ _ => 0)
    case atStart => exact ⟨rfl, rfl⟩
    case round =>
      obtain ⟨rfl, rfl⟩ := hrel
      have hge2 : ¬ (a1 : Int) < (b : Int) := by omega
      go_wp2
      go_end0
      have e := HE.out
      subst e
      exact ⟨t, rfl, InsP.nil t a, H.out, Keeps.refl _ _⟩
  have hs0 : IntKind.i64.wrap ((a : Int) + 1) = ((a + 1 : Nat) : Int) := (IntWalk.i64_in _ (by have := HB.out; omega)).trans (by omega)
  obtain ⟨a1, ha1⟩ : ∃ x, a + 1 = x := ⟨_, rfl⟩
  rw [ha1] at hs0
  have HA1 := hid ha1
  have HST : Hid (InsP t t a a1) := by show InsP _ _ _ _; rw [← ha1]; exact InsP.start t a
  clear ha1
  go_enter Tryz.func114, Tryz.ntmps114
  go_wp2_with fail
  go_loopw [8] (fun iv wr => ∃ (i : Nat) (T : Nat → Kc), a < i ∧ i ≤ b ∧ iv = .int .i64 (i : Int) ∧ Hid (InsP t T a i) ∧ Hid (CkAt wr g o n N T) ∧ Hid (Keeps (· = g) w wr)) (fun iv _ => b - (intOf iv).toNat)
  case atStart => exact ⟨a1, t, by have := HA1.out; omega, by have := HA1.out; omega, rfl, HST.out, H.out, Keeps.refl _ _⟩
  case round =>
    obtain ⟨i, T, hai, hib, rfl, hins, hck, hkp⟩ := hrel
    obtain ⟨b1, b2, b3⟩ := HB.out
    by_cases hlt : i < b
    · have hil : (i : Int) < (b : Int) := by omega
      have HM : Hid (MrgP T a i (i + 1)) := hins.out.mrgR HO.out hlt
      have HAI := hid hai
      go_upto_region 4 with (fail)
      go_loopw [9] (fun jv wi => ∃ j : Nat, a ≤ j ∧ j ≤ i ∧ jv = .int .i64 (j : Int) ∧ Hid (∀ k, j ≤ k → k < i → (T i).key < (T k).key) ∧ Hid (CkAt wi g o n N (insR j i T)) ∧ Hid (Keeps (· = g) w wi)) (fun jv _ => (intOf jv).toNat)
      case atStart => exact ⟨i, Nat.le_of_lt hai, Nat.le_refl _, rfl, fun k h1 h2 => by omega, by rw [insR_self]; exact hck.out, hkp.out⟩
      case round =>
        obtain ⟨j, haj, hji, rfl, hr, hck2, hkp2⟩ := hrel
        have kD : Below wr.heap.size wr wr.drew := (Below.refl _ _).drew
        by_cases hja : a < j
        · have g1 : decide ((a : Int) < (j : Int)) = true := decide_eq_true (by omega)
          have g1n : a < j := hja
          obtain ⟨p, hp⟩ : ∃ p : Nat, j - 1 = p := ⟨_, rfl⟩
          have s1 : IntKind.i64.wrap ((j : Int) - 1) = (p : Int) := (IntWalk.i64_in _ (by omega)).trans (by omega)
          have hpj : p + 1 = j := by omega
          have hj0 : (0 : Int) ≤ (j : Int) := Int.natCast_nonneg _
          have hp0 : (0 : Int) ≤ (p : Int) := Int.natCast_nonneg _
          have hjn : (j : Int) < (n : Int) := by omega
          have hpn : (p : Int) < (n : Int) := by omega
          have eJ : insR j i T j = T i := by unfold insR; rw [if_neg (by omega), if_pos rfl]
          have eP : insR j i T p = T p := by unfold insR; rw [if_pos (by omega)]
          have HX := HM.out.x p i (by omega) (by omega) (Nat.le_refl _) (by omega)
          obtain ⟨U, hU⟩ : ∃ U, insR j i T = U := ⟨_, rfl⟩
          rw [hU] at eJ eP hck2
          have HCM : Hid (∀ X, Calls Tryz.prog 87 #[.agg #[.int .i64 (U j).at_, .int .u8 (U j).val, .int .i64 (U j).fl, .int .i64 (U j).du], .agg #[.int .i64 (U p).at_, .int .u8 (U p).val, .int .i64 (U p).fl, .int .i64 (U p).du]] X (CmPost X (decide ((U j).at_ < (U p).at_)))) := fun X => ccmp_any (U j) (U p) X
          have cx : ∀ X, Below wr.heap.size wr X → X.cell? ⟨g, o + j * 4, none⟩ = some (.int .i64 (U j).at_) := fun X h => cell_keep h (hck2.out.at (i := j) (by omega)).1
          have cx1 : ∀ X, Below wr.heap.size wr X → X.cell? ⟨g, o + j * 4 + 1, none⟩ = some (.int .u8 (U j).val) := fun X h => cell_keep h (hck2.out.at (i := j) (by omega)).2.1
          have cx2 : ∀ X, Below wr.heap.size wr X → X.cell? ⟨g, o + j * 4 + 2, none⟩ = some (.int .i64 (U j).fl) := fun X h => cell_keep h (hck2.out.at (i := j) (by omega)).2.2.1
          have cx3 : ∀ X, Below wr.heap.size wr X → X.cell? ⟨g, o + j * 4 + 3, none⟩ = some (.int .i64 (U j).du) := fun X h => cell_keep h (hck2.out.at (i := j) (by omega)).2.2.2
          have cy : ∀ X, Below wr.heap.size wr X → X.cell? ⟨g, o + p * 4, none⟩ = some (.int .i64 (U p).at_) := fun X h => cell_keep h (hck2.out.at (i := p) (by omega)).1
          have cy1 : ∀ X, Below wr.heap.size wr X → X.cell? ⟨g, o + p * 4 + 1, none⟩ = some (.int .u8 (U p).val) := fun X h => cell_keep h (hck2.out.at (i := p) (by omega)).2.1
          have cy2 : ∀ X, Below wr.heap.size wr X → X.cell? ⟨g, o + p * 4 + 2, none⟩ = some (.int .i64 (U p).fl) := fun X h => cell_keep h (hck2.out.at (i := p) (by omega)).2.2.1
          have cy3 : ∀ X, Below wr.heap.size wr X → X.cell? ⟨g, o + p * 4 + 3, none⟩ = some (.int .i64 (U p).du) := fun X h => cell_keep h (hck2.out.at (i := p) (by omega)).2.2.2
          rw [eJ, eP] at HCM
          have HU := hid hU
          have HEJ := hid eJ
          have HEP := hid eP
          have HPJ := hid (And.intro hp hpj)
          rw [eJ] at cx cx1 cx2 cx3
          rw [eP] at cy cy1 cy2 cy3
          clear hp hU eJ eP
          by_cases hv : (T i).at_ < (T p).at_
          · have hv2 : decide ((T i).at_ < (T p).at_) = true := decide_eq_true hv
            rw [hv2] at HCM
            have HKY := hid (HX.1.1 hv)
            clear hv hv2 HX
            go_upto_region 4 with (fail)
            refine wp_region_held_drew (S := fun V => Below wr.heap.size wr V) (by kernel_rfl) kD (fun hH => ?_)
            clear hH
            refine tkE 0 18 rfl rfl ?_; simp only [setS]
            refine tkE 1 19 rfl rfl ?_; simp only [setS]
            refine tkE 2 20 rfl rfl ?_; simp only [setS]
            refine tkE 3 21 rfl rfl ?_; simp only [setS]
            refine tkE 4 22 rfl rfl ?_; simp only [setS]
            refine tkE 5 23 rfl rfl ?_; simp only [setS]
            refine tkE 6 24 rfl rfl ?_; simp only [setS]
            refine tkE 7 25 rfl rfl ?_; simp only [setS]
            refine tkE 8 26 rfl rfl ?_; simp only [setS]
            refine tkE 9 27 rfl rfl ?_; simp only [setS]
            refine tkE 10 28 rfl rfl ?_; simp only [setS]
            refine tkE 11 29 rfl rfl ?_; simp only [setS]
            refine tkE 12 30 rfl rfl ?_; simp only [setS]
            refine tkE 13 31 rfl rfl ?_; simp only [setS]
            refine rdyH 14 rfl (fun K hK => ?_); go_simp
            refine (HCM.out _).mono ?_
            rintro r w5 ⟨nn, rfl, hnn, hb5⟩
            have hB5 := bt kD hb5 (Nat.le_refl _)
            refine hK.out _ _ hB5 (fun hSx => ?_); clear hK K hSx
            have dn : decide (nn < 0) = true := hnn.out
            refine tkE 15 33 rfl rfl ?_; simp only [setS]
            refine tkE 16 34 rfl rfl ?_; simp only [setS]
            refine wpAnyH_done (by kernel_rfl) ?_ _
            clear cx cx1 cx2 cx3 cy cy1 cy2 cy3
            have hck5 : Hid (CkAt w5 g o n N U) := hck2.out.keeps (F := fun _ => False) (Keeps.of_below hB5) (fun e => e)
            have hkp5 : Hid (Keeps (· = g) w w5) := hkp2.out.trans (Keeps.of_below (F := fun _ => False) hB5) (fun _ _ e => e.elim)
            have hsw := (hck5.out.put (j := j) (by omega) (U p)).put (j := p) (by omega) (U j)
            have hst : (fun k => if k = p then U j else (fun k => if k = j then U p else U k) k) = insR p i T := by
              rw [← insR_step (j := p) (i := i) T (by omega)]
              rw [hpj, HU.out]
              funext k
              by_cases e1 : k = p
              · rw [if_pos e1, if_neg (by omega), if_pos e1]
              · rw [if_neg e1]
                dsimp only
                by_cases e2 : k = j
                · rw [if_pos e2, if_pos e2]
                · rw [if_neg e2, if_neg e2, if_neg e1]
            rw [hst] at hsw
            have hks : Keeps (· = g) w _ := hkp5.out.trans (ks1 (ks1 (ks1 (ks1 (ks1 (ks1 (ks1 (ks1 (Keeps.refl (· = g) w5) (o + j * 4) (.int .i64 (U p).at_)) (o + j * 4 + 1) (.int .u8 (U p).val)) (o + j * 4 + 2) (.int .i64 (U p).fl)) (o + j * 4 + 3) (.int .i64 (U p).du)) (o + p * 4) (.int .i64 (U j).at_)) (o + p * 4 + 1) (.int .u8 (U j).val)) (o + p * 4 + 2) (.int .i64 (U j).fl)) (o + p * 4 + 3) (.int .i64 (U j).du)) (fun _ _ e => e)
            have HSW := hid hsw
            have HKS := hid hks
            obtain ⟨x0, x1, x2, x3⟩ := hck5.out.at (i := j) (by omega)
            obtain ⟨y0, y1, y2, y3⟩ := hck5.out.at (i := p) (by omega)
            have f0 := hck5.out.free (o + j * 4)
            have f1 := hck5.out.free (o + j * 4 + 1)
            have f2 := hck5.out.free (o + j * 4 + 2)
            have f3 := hck5.out.free (o + j * 4 + 3)
            have f4 := hck5.out.free (o + p * 4)
            have f5 := hck5.out.free (o + p * 4 + 1)
            have f6 := hck5.out.free (o + p * 4 + 2)
            have f7 := hck5.out.free (o + p * 4 + 3)
            have hPJ : p < j := by omega
            have HRN : Hid (∀ k, p ≤ k → k < i → (T i).key < (T k).key) := fun k h1 h2 => by
              have := HPJ.out
              by_cases e : k = p
              · subst e
                exact HKY.out
              · exact hr.out k (by omega) h2
            clear hsw hks hst hpj
            go_upto_region 6 with (fail)
            go_region
            go_wp2
            go_roundw
            case rel => exact ⟨p, by have := HPJ.out; omega, by have := HPJ.out; omega, rfl, HRN.out, HSW.out.keeps (F := fun _ => False) (Keeps.of_below (Below.refl _ _).drew) (fun e => e), HKS.out.trans (Keeps.of_below (F := fun _ => False) (Below.refl _ _).drew) (fun _ _ e => e.elim)⟩
            case measure => have := HPJ.out; simp [intOf]; omega
          · have hv2 : decide ((T i).at_ < (T p).at_) = false := decide_eq_false hv
            rw [hv2] at HCM
            have HKY : Hid ((T p).key < (T i).key) := by
              show _ < _
              have h1 := mt HX.1.2 hv
              have h2 := HX.2
              omega
            clear hv hv2 HX
            go_upto_region 4 with (fail)
            refine wp_region_held_drew (S := fun V => Below wr.heap.size wr V) (by kernel_rfl) kD (fun hH => ?_)
            clear hH
            refine tkE 0 18 rfl rfl ?_; simp only [setS]
            refine tkE 1 19 rfl rfl ?_; simp only [setS]
            refine tkE 2 20 rfl rfl ?_; simp only [setS]
            refine tkE 3 21 rfl rfl ?_; simp only [setS]
            refine tkE 4 22 rfl rfl ?_; simp only [setS]
            refine tkE 5 23 rfl rfl ?_; simp only [setS]
            refine tkE 6 24 rfl rfl ?_; simp only [setS]
            refine tkE 7 25 rfl rfl ?_; simp only [setS]
            refine tkE 8 26 rfl rfl ?_; simp only [setS]
            refine tkE 9 27 rfl rfl ?_; simp only [setS]
            refine tkE 10 28 rfl rfl ?_; simp only [setS]
            refine tkE 11 29 rfl rfl ?_; simp only [setS]
            refine tkE 12 30 rfl rfl ?_; simp only [setS]
            refine tkE 13 31 rfl rfl ?_; simp only [setS]
            refine rdyH 14 rfl (fun K hK => ?_); go_simp
            refine (HCM.out _).mono ?_
            rintro r w5 ⟨nn, rfl, hnn, hb5⟩
            have hB5 := bt kD hb5 (Nat.le_refl _)
            refine hK.out _ _ hB5 (fun hSx => ?_); clear hK K hSx
            have dn : decide (nn < 0) = false := hnn.out
            refine tkE 15 33 rfl rfl ?_; simp only [setS]
            refine tkE 16 34 rfl rfl ?_; simp only [setS]
            refine wpAnyH_done (by kernel_rfl) ?_ _
            clear cx cx1 cx2 cx3 cy cy1 cy2 cy3
            have HST2 : Hid (InsP t U a (i + 1)) := by
              show InsP _ _ _ _
              rw [← HU.out]
              exact hins.out.stepR HO.out hlt haj hji (fun k h1 h2 => by
                by_cases e : k = p
                · subst e; exact HKY.out
                · have := hins.out.s k p h1 (by have := HPJ.out; omega) (by have := HPJ.out; omega)
                  have := HKY.out
                  omega) hr.out
            have hck5 : Hid (CkAt w5 g o n N U) := hck2.out.keeps (F := fun _ => False) (Keeps.of_below hB5) (fun e => e)
            have hkp5 : Hid (Keeps (· = g) w w5) := hkp2.out.trans (Keeps.of_below (F := fun _ => False) hB5) (fun _ _ e => e.elim)
            go_wp2
            go_roundw
            case rel => exact ⟨i + 1, U, by have := HAI.out; omega, by omega, by go_num, HST2.out, hck5.out, hkp5.out⟩
            case measure => simp [intOf]; omega
        · have g1 : decide ((a : Int) < (j : Int)) = false := decide_eq_false (by omega)
          have g1n : ¬ a < j := hja
          have HST2 : Hid (InsP t (insR j i T) a (i + 1)) := hins.out.stepR HO.out hlt haj hji (fun k h1 h2 => by omega) hr.out
          obtain ⟨U, hU⟩ : ∃ U, insR j i T = U := ⟨_, rfl⟩
          rw [hU] at HST2 hck2
          clear hU
          go_upto_region 4 with (fail)
          refine wp_region_held_drew (S := fun V => Below wr.heap.size wr V) (by kernel_rfl) kD (fun hH => ?_)
          clear hH
          refine tkE 0 18 rfl rfl ?_; simp only [setS]
          refine tkE 1 19 rfl rfl ?_; simp only [setS]
          refine tkE 2 20 rfl rfl ?_; simp only [setS]
          refine tkE 3 21 rfl rfl ?_; simp only [setS]
          refine tkU 4 22 rfl rfl ?_; simp only [setS]
          refine tkU 5 23 rfl rfl ?_; simp only [setS]
          refine tkU 6 24 rfl rfl ?_; simp only [setS]
          refine tkU 7 25 rfl rfl ?_; simp only [setS]
          refine tkU 8 26 rfl rfl ?_; simp only [setS]
          refine tkU 9 27 rfl rfl ?_; simp only [setS]
          refine tkU 10 28 rfl rfl ?_; simp only [setS]
          refine tkU 11 29 rfl rfl ?_; simp only [setS]
          refine tkU 12 30 rfl rfl ?_; simp only [setS]
          refine tkU 13 31 rfl rfl ?_; simp only [setS]
          refine tkU 14 32 rfl rfl ?_; simp only [setS]
          refine tkU 15 33 rfl rfl ?_; simp only [setS]
          refine tkE 16 34 rfl rfl ?_; simp only [setS]
          refine wpAnyH_done (by kernel_rfl) ?_ _
          have hck5 : Hid (CkAt wr.drew g o n N U) := hck2.out.keeps (F := fun _ => False) (Keeps.of_below kD) (fun e => e)
          have hkp5 : Hid (Keeps (· = g) w wr.drew) := hkp2.out.trans (Keeps.of_below (F := fun _ => False) kD) (fun _ _ e => e.elim)
          go_wp2
          go_roundw
          case rel => exact ⟨i + 1, U, by have := HAI.out; omega, by omega, by go_num, HST2.out, hck5.out, hkp5.out⟩
          case measure => simp [intOf]; omega
    · obtain rfl : i = b := by omega
      go_wp2
      go_end0
      exact ⟨T, rfl, hins.out, hck.out, hkp.out⟩
end Go.Proofs.YtpkheiaanjhffaaGreat
