/-
  Texts 38 of the claim.
-/
import Derived.Test.YtpkheiaanjhffaaN37
import Derived.Test.YtpkheiaanjhffaaN32
import Derived.Deep.CutRange
import Derived.Deep.CutBlock
namespace Go.Proofs.Ytpkheiaanjhffaa
open Go.RowKit
theorem OrdP.ordR {t T : Nat → Kc} {n a b : Nat} (h : OrdP t n) (hb : b ≤ n) (hT : ∀ k, a ≤ k → T k = t k) : OrdR T a b := fun i j h1 h2 h3 => by
  rw [hT i h1, hT j (by omega)]
  exact h i j h2 (by omega)
theorem Same.eqv {t T : Nat → Kc} {a b : Nat} (hT : ∀ k, a ≤ k → T k = t k) : Same t T a b := (Same.refl t a b).congr fun k h1 _ => hT k h1
def StPost (w : World) (g o n N : Nat) (t : Nat → Kc) (r : Ending) (w' : World) : Prop := ∃ t', r = .returned (.tuple #[]) ∧ SrtK t' 0 n ∧ Same t t' 0 n ∧ CkAt w' g o n N t' ∧ Keeps (· = g) w w'
set_option maxRecDepth 100000 in
set_option maxHeartbeats 25600000 in
theorem stable_any (g o n N c : Nat) (t : Nat → Kc) (hn0 : 0 < n) (hn : n ≤ 100000000) (ho : OrdP t n) (w : World) (h : CkAt w g o n N t) :
    Calls Try.prog 37 #[.slice (some ⟨g, o, none⟩) n c, .int .i64 (n : Int), .func (.func 25) #[] #[]] w (StPost w g o n N t) := by
  have H := hid h
  have HO := hid ho
  have HB := hid (And.intro hn0 hn)
  have HIS : Hid (∀ (T : Nat → Kc) (a b : Nat) (X : World), a ≤ b → b ≤ n → OrdR T a b → CkAt X g o n N T → Calls Try.prog 53 #[.slice (some ⟨g, o, none⟩) n c, .int .i64 (a : Int), .int .i64 (b : Int), .func (.func 25) #[] #[]] X (IsPost X g o n N T a b)) := fun T a b X h1 h2 h3 h4 => insS_any g o n N c T a b h1 h2 hn h3 X h4
  have HSY : Hid (∀ (T : Nat → Kc) (a m b : Nat) (X : World), a < m → m < b → b ≤ n → MrgP T a m b → CkAt X g o n N T → Calls Try.prog 54 #[.slice (some ⟨g, o, none⟩) n c, .int .i64 (a : Int), .int .i64 (m : Int), .int .i64 (b : Int), .func (.func 25) #[] #[]] X (SmPost X g o n N T a b)) := fun T a m b X h1 h2 h3 h4 h5 => sym_any g o n N c hn (b - a) T a m b (Nat.le_refl _) h1 h2 h3 h4 X h5
  clear h ho hn hn0
  go_enter Try.func37, Try.ntmps37
  go_upto_region 2 with (fail)
  go_loopw [7, 8] (fun av bv wr => ∃ (a b : Nat) (T : Nat → Kc), a ≤ n ∧ a + 20 = b ∧ av = .int .i64 (a : Int) ∧ bv = .int .i64 (b : Int) ∧ Hid (20 ∣ a ∧ BlkTo t T 20 a ∧ ∀ k, a ≤ k → T k = t k) ∧ Hid (CkAt wr g o n N T) ∧ Hid (Keeps (· = g) w wr)) (fun av _ _ => n + 1 - (intOf av).toNat)
  case atStart => exact ⟨0, 20, t, Nat.zero_le _, rfl, rfl, rfl, ⟨Nat.dvd_zero _, BlkTo.zero t t 20 (by omega), fun _ _ => rfl⟩, H.out, Keeps.refl _ _⟩
  case round =>
    obtain ⟨a, b, T, han, hab, rfl, rfl, hpl, hck, hkp⟩ := hrel
    obtain ⟨q1, q2⟩ := HB.out
    by_cases hlt : b ≤ n
    · have hil : (b : Int) ≤ (n : Int) := by omega
      have HC := hid (HIS.out T a b _ (by omega) hlt (HO.out.ordR hlt hpl.out.2.2) hck.out)
      obtain ⟨b2, hb2⟩ : ∃ x, b + 20 = x := ⟨_, rfl⟩
      have s1 : IntKind.i64.wrap ((b : Int) + 20) = (b2 : Int) := (IntWalk.i64_in _ (by omega)).trans (by omega)
      have HAB := hid (And.intro hab (And.intro hlt hb2))
      clear hab hb2
      go_wp2_with (go_at_call 53; (with_reducible refine HC.out.mono ?_); rintro r w2 ⟨T2, rfl, hi2, hck2, hkp2⟩; have HI2 := hid hi2; have HCK := hid hck2; have HKP := hid hkp2; clear hi2 hck2 hkp2)
      go_roundw
      case rel =>
        obtain ⟨e1, e2, e3⟩ := HAB.out
        obtain ⟨p1, p2, p3⟩ := hpl.out
        subst e1
        exact ⟨a + 20, b2, T2, e2, e3, rfl, rfl, ⟨(Nat.dvd_add_right p1).2 (Nat.dvd_refl _), p2.succ p1 HI2.out.s ((Same.eqv p3).trans HI2.out.m) (fun k hk => HI2.out.o k (.inl hk)), fun k hk => (HI2.out.o k (.inr hk)).trans (p3 k (by omega))⟩, HCK.out, hkp.out.trans HKP.out (fun _ _ e => e)⟩
      case measure => have := HAB.out; simp [intOf]; omega
    · have hil : ¬ (b : Int) ≤ (n : Int) := by omega
      have HC := hid (HIS.out T a n _ han (Nat.le_refl _) (HO.out.ordR (Nat.le_refl _) hpl.out.2.2) hck.out)
      have HAB := hid (And.intro hab hlt)
      clear hab hlt
      go_upto_region 7 with (go_at_call 53; (with_reducible refine HC.out.mono ?_); rintro r w2 ⟨T2, rfl, hi2, hck2, hkp2⟩; have HI2 := hid hi2; have HCK := hid hck2; have HKP := hid hkp2; clear hi2 hck2 hkp2)
      have HBK : Hid (BlkFrom t T2 20 n 0) := by
        obtain ⟨p1, p2, p3⟩ := hpl.out
        have e := HAB.out
        exact p2.all p1 (by omega) han HI2.out.s ((Same.eqv p3).trans HI2.out.m) (fun k hk => HI2.out.o k (.inl hk))
      have HKP2 := hid (hkp.out.trans HKP.out (fun _ _ e => e))
      clear hpl HAB hil hck hkp HKP HC HIS HI2 han
      go_loopw [6, 7, 8, 9] (fun sv _ _ _ wr => ∃ (bs : Nat) (T : Nat → Kc), 20 ≤ bs ∧ bs ≤ 400000000 ∧ sv = .int .i64 (bs : Int) ∧ Hid (BlkFrom t T bs n 0) ∧ Hid (CkAt wr g o n N T) ∧ Hid (Keeps (· = g) w wr)) (fun sv _ _ _ _ => n - (intOf sv).toNat)
      case atStart => exact ⟨20, T2, by omega, by omega, rfl, HBK.out, HCK.out, HKP2.out⟩
      case round =>
        clear HBK HCK HKP2
        obtain ⟨bs, U, hb20, hbm, rfl, hbk, hck, hkp⟩ := hrel
        by_cases hbn : bs < n
        · have hbi : (bs : Int) < (n : Int) := by omega
          obtain ⟨B2, hB2⟩ : ∃ x, 2 * bs = x := ⟨_, rfl⟩
          have s2 : IntKind.i64.wrap (2 * (bs : Int)) = (B2 : Int) := (IntWalk.i64_in _ (by omega)).trans (by omega)
          have s3 : IntKind.i64.wrap ((bs : Int) * 2) = (B2 : Int) := (IntWalk.i64_in _ (by omega)).trans (by omega)
          have HBB := hid (And.intro hB2 (And.intro hb20 hbn))
          clear hB2
          go_upto_region 9 with (fail)
          obtain ⟨wo, hwo⟩ : ∃ W, W = wr := ⟨_, rfl⟩
          have HKO : Hid (Keeps (· = g) w wo) := by show Keeps _ _ _; rw [hwo]; exact hkp.out
          have HCO : Hid (CkAt wo g o n N U) := by show CkAt _ _ _ _ _ _; rw [hwo]; exact hck.out
          subst hwo
          clear hck hkp
          go_loopw [7, 8] (fun av bv wi => ∃ (a b : Nat) (T : Nat → Kc), a ≤ n ∧ a + B2 = b ∧ av = .int .i64 (a : Int) ∧ bv = .int .i64 (b : Int) ∧ Hid (2 * bs ∣ a ∧ BlkTo t T (2 * bs) a ∧ BlkFrom t T bs n a) ∧ Hid (CkAt wi g o n N T) ∧ Hid (Keeps (· = g) w wi)) (fun av _ _ => n + 1 - (intOf av).toNat)
          case atStart => exact ⟨0, B2, U, Nat.zero_le _, Nat.zero_add _, rfl, rfl, ⟨Nat.dvd_zero _, BlkTo.zero t U _ (by omega), hbk.out⟩, HCO.out, HKO.out⟩
          case round =>
            clear HKO HCO hbk
            obtain ⟨a, b, T, han, hab, rfl, rfl, hpl, hck, hkp⟩ := hrel
            obtain ⟨z1, z2, z3⟩ := HBB.out
            obtain ⟨m, hm⟩ : ∃ x, a + bs = x := ⟨_, rfl⟩
            have s4 : IntKind.i64.wrap ((a : Int) + (bs : Int)) = (m : Int) := (IntWalk.i64_in _ (by omega)).trans (by omega)
            obtain ⟨b2, hb2⟩ : ∃ x, b + B2 = x := ⟨_, rfl⟩
            have s5 : IntKind.i64.wrap ((b : Int) + (B2 : Int)) = (b2 : Int) := (IntWalk.i64_in _ (by omega)).trans (by omega)
            by_cases hlt : b ≤ n
            · have hil : (b : Int) ≤ (n : Int) := by omega
              obtain ⟨j1, j2⟩ := hpl.out.2.2.two HO.out hpl.out.1 (b := b) (by omega) hlt (by omega) (.inr (by omega))
              rw [hm] at j1
              have HC := hid (HSY.out T a m b _ (by omega) (by omega) hlt j1 hck.out)
              have HJ := hid j2
              have HAB := hid (And.intro hab (And.intro hlt (And.intro hb2 (And.intro hm z1))))
              clear hab hb2 hm j1 j2 z1 z2 z3
              go_wp2_with (go_at_call 54; (with_reducible refine HC.out.mono ?_); rintro r w2 ⟨T2, rfl, hs2, hi2, hck2, hkp2⟩; have HS2 := hid hs2; have HI2 := hid hi2; have HCK := hid hck2; have HKP := hid hkp2; clear hs2 hi2 hck2 hkp2)
              go_roundw
              case rel =>
                obtain ⟨e1, e2, e3, e4, e5⟩ := HAB.out
                obtain ⟨p1, p2, p3⟩ := hpl.out
                subst e5 e1
                exact ⟨a + 2 * bs, b2, T2, e2, e3, rfl, rfl, ⟨(Nat.dvd_add_right p1).2 (Nat.dvd_refl _), p2.succ p1 HS2.out (HJ.out.trans HI2.out.same) (fun k hk => HI2.out.out k (.inl hk)), p3.keep (by omega) (fun k hk => HI2.out.out k (.inr hk))⟩, HCK.out, hkp.out.trans HKP.out (fun _ _ e => e)⟩
              case measure => have := HAB.out; have := HBB.out; simp [intOf]; omega
            · have hil : ¬ (b : Int) ≤ (n : Int) := by omega
              by_cases hmn : m < n
              · have hmi : (m : Int) < (n : Int) := by omega
                obtain ⟨j1, j2⟩ := hpl.out.2.2.two HO.out hpl.out.1 (b := n) (by omega) (Nat.le_refl _) (by omega) (.inl rfl)
                rw [hm] at j1
                have HC := hid (HSY.out T a m n _ (by omega) (by omega) (Nat.le_refl _) j1 hck.out)
                have HJ := hid j2
                have HAB := hid (And.intro hab (And.intro hlt (And.intro hb2 (And.intro hm z1))))
                clear hab hb2 hm j1 j2 z1 z2 z3 hlt
                go_wp2_with (go_at_call 54; (with_reducible refine HC.out.mono ?_); rintro r w2 ⟨T2, rfl, hs2, hi2, hck2, hkp2⟩; have HS2 := hid hs2; have HI2 := hid hi2; have HCK := hid hck2; have HKP := hid hkp2; clear hs2 hi2 hck2 hkp2)
                go_roundw
                case rel =>
                  obtain ⟨e1, e2, e3, e4, e5⟩ := HAB.out
                  obtain ⟨p1, p2, p3⟩ := hpl.out
                  have z2 := HBB.out
                  subst e5 e1
                  exact ⟨2 * bs, T2, by omega, by omega, rfl, p2.all p1 (by omega) han HS2.out (HJ.out.trans HI2.out.same) (fun k hk => HI2.out.out k (.inl hk)), HCK.out, hkp.out.trans HKP.out (fun _ _ e => e)⟩
                case measure => have := HAB.out; have := HBB.out; simp [intOf]; omega
              · have hmi : ¬ (m : Int) < (n : Int) := by omega
                have HBF : Hid (BlkFrom t T (2 * bs) n 0) := by
                  obtain ⟨p1, p2, p3⟩ := hpl.out
                  by_cases e : a < n
                  · obtain ⟨g1, g2⟩ := p3.lone p1 e (by omega)
                    exact p2.all p1 (by omega) han g1 g2 (fun _ _ => rfl)
                  · exact p2.all p1 (by omega) han (fun i j h1 h2 h3 => by omega) ⟨fun i h1 h2 => by omega, fun i h1 h2 => by omega⟩ (fun _ _ => rfl)
                have HAB := hid (And.intro hab (And.intro hlt (And.intro hb2 (And.intro hm z1))))
                clear hab hb2 hm z1 z2 z3 hlt hmn
                go_wp2
                go_roundw
                case rel =>
                  obtain ⟨e1, e2, e3, e4, e5⟩ := HAB.out
                  have z2 := HBB.out
                  subst e5
                  exact ⟨2 * bs, T, by omega, by omega, rfl, HBF.out, hck.out, hkp.out⟩
                case measure => have := HAB.out; have := HBB.out; simp [intOf]; omega
        · have hbi : ¬ (bs : Int) < (n : Int) := by omega
          obtain ⟨g1, g2⟩ := hbk.out.done q1 (by omega)
          have HG := hid (And.intro g1 g2)
          clear g1 g2
          go_wp2
          go_end0
          exact ⟨U, rfl, HG.out.1, HG.out.2, hck.out, hkp.out⟩
theorem sortst_any (g o n N c : Nat) (t : Nat → Kc) (hn0 : 0 < n) (hn : n ≤ 100000000) (ho : OrdP t n) (w : World) (h : CkAt w g o n N t) :
    Calls Try.prog 24 #[.slice (some ⟨g, o, none⟩) n c, .func (.func 25) #[] #[]] w (StPost w g o n N t) := by
  have HS := hid (stable_any g o n N c t hn0 hn ho w h)
  clear ho h
  go_enter Try.func24, Try.ntmps24
  go_wp2_with (go_at_call 37; (with_reducible refine HS.out.mono ?_); rintro r w2 ⟨T2, rfl, hs2, hi2, hck2, hkp2⟩; have HS2 := hid hs2; have HI2 := hid hi2; have HCK := hid hck2; have HKP := hid hkp2; clear hs2 hi2 hck2 hkp2)
  go_end0
  exact ⟨T2, rfl, HS2.out, HI2.out, HCK.out, HKP.out⟩
end Go.Proofs.Ytpkheiaanjhffaa
