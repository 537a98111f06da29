/-
  The walk of the law CrcBurst.
-/
import Derived.Test.YthkclnehekbpgaaLawsCrcB
import Derived.Test.YthkclnehekbpgaaFlip
namespace Go.Proofs.Ythkclnehekbpgaa
open Go.RowKit

/-- The bits that a burst has changed behind k rounds. -/
def burstE (a x k : Nat) (p : Nat) : Bool := (p == a) || (decide (a < p) && decide (p < a + k) && x.testBit (p - a))

theorem burstE_one (a x : Nat) (p : Nat) : burstE a x 1 p = (p == a) := by
  unfold burstE
  rw [Bool.eq_iff_iff]
  simp
  omega
theorem burstE_succ (a x k p : Nat) (hk : 0 < k) (hx : x.testBit k = true) : burstE a x (k + 1) p = (burstE a x k p ^^ (p == a + k)) := by
  unfold burstE
  by_cases h : p = a + k
  · subst h
    have e1 : (a + k == a) = false := by simp; omega
    simp [e1, hk, hx]
  · have e1 : (p == a + k) = false := by simpa using h
    have e2 : decide (p < a + (k + 1)) = decide (p < a + k) := by rw [decide_eq_decide]; omega
    rw [e1, e2, Bool.xor_false]
theorem burstE_skip (a x k p : Nat) (hx : x.testBit k = false) : burstE a x (k + 1) p = burstE a x k p := by
  unfold burstE
  by_cases h : p = a + k
  · subst h
    simp [hx]
  · have e2 : decide (p < a + (k + 1)) = decide (p < a + k) := by rw [decide_eq_decide]; omega
    rw [e2]

/-- g is f with the bits of e changed. -/
def Changed (f g : List UInt8) (e : Nat → Bool) : Prop := g.length = f.length ∧ ∀ p, p < 8 * f.length → bitAt g p = (bitAt f p ^^ e p)

theorem Changed.flip {f g : List UInt8} {e : Nat → Bool} (h : Changed f g e) (q : Nat) (hq : q < 8 * f.length) : Changed f (flipB g q) (fun p => e p ^^ (p == q)) :=
  ⟨by rw [flipB_length]; exact h.1, fun p hp => by rw [flipB_bit _ _ _ (by rw [h.1]; exact hq), h.2 p hp, Bool.xor_assoc]⟩

theorem shr_bit (x k : Nat) (hx : x < 65536) : (bits .and .u16 ((x : Int) / 2 ^ k) 1 == 1) = x.testBit k := by
  have hlt2 : x / 2 ^ k < 65536 := Nat.lt_of_le_of_lt (Nat.div_le_self _ _) hx
  have h := u16_and_nat (x / 2 ^ k) 1 hlt2 (by omega)
  rw [nat_mask1, shift_bit] at h
  have h2 : (((x / 2 ^ k : Nat)) : Int) = (x : Int) / 2 ^ k := by simp
  rw [h2] at h
  rw [show (1 : Int) = ((1 : Nat) : Int) from rfl, h]
  cases x.testBit k <;> rfl

set_option maxHeartbeats 1600000 in
theorem Walk.crcBurst (v : Value) (l : List UInt8) (w : World) (hv : Bs w v l) (i : Int) (wi : (Lit.int .i64 i).wf = true) (s : Int) (ws : (Lit.int .u16 s).wf = true) :
    Calls Try.prog 11 #[v, .int .i64 i, .int .u16 s] w fun r w' => r = .returned (.bool true) ∧ Below w.heap.size w w' := by
  obtain ⟨x, rfl, hx⟩ := u16_nat ws
  have HB := hid (bytes_int v l 254 w hv 254 rfl (by decide))
  have hl : (l.take 254).length ≤ 254 := by simp; omega
  generalize l.take 254 = a at *
  obtain ⟨hz, hfl⟩ := frame_zero a
  have hcf := chk_tail a
  generalize hf : a ++ crcTail a = f at *
  obtain ⟨n, hn, hn2, hn3⟩ : ∃ n : Int, n = 8 * (f.length : Int) ∧ 0 < n ∧ n ≤ 2048 := ⟨_, rfl, by omega, by omega⟩
  have hi1 := Int.emod_nonneg i (show n ≠ 0 by omega)
  have hi2 := Int.emod_lt_of_pos i hn2
  obtain ⟨i', hi'⟩ := Int.eq_ofNat_of_zero_le hi1
  have HM1 : Hid (∀ W, Calls Try.prog 29 #[.int .i64 i, .int .i64 n] W fun r w' => r = .returned (.int .i64 i') ∧ W = w') := fun W => by
    rw [← hi']; exact mod_any i n hn2 (by omega) wi W
  have hi3 : i' < 8 * f.length := by omega
  subst hn
  clear hi1 hi2 hi' hv wi ws
  have HA : Hid (∀ W v1, Bs W v1 a → Calls Try.prog 41 #[v1] W fun r w' => ∃ aa ca, r = .returned (.slice aa f.length ca) ∧ Bs w' (.slice aa f.length ca) f ∧ Below W.heap.size W w') := fun W v1 hb => by
    refine (rappend_any2 v1 a W hb (by omega)).mono ?_
    rintro r w' ⟨v', rfl, hown, hbel⟩
    rw [hf] at hown
    have hb := Bs.own hown
    obtain ⟨aa, ca, rfl, _⟩ := id hb
    exact ⟨aa, ca, rfl, hb, hbel⟩
  have hflen : f.length ≤ 256 := by omega
  have HZ := hid hz
  clear hfl hf hz
  go_enter Try.func11, Try.ntmps11
  go_wp2_with (first | (go_at_call 24; (with_reducible refine HB.out.mono ?_); rintro r w1 ⟨v1, rfl, ha, rfl⟩) | (go_at_call 41; (with_reducible refine (HA.out _ _ ha).mono ?_); rintro r w2 ⟨aa, ca, rfl, hb2, hbel2⟩) | (go_at_call 29; (with_reducible refine (HM1.out _).mono ?_); rintro r w3 ⟨rfl, rfl⟩) | (go_at_call 44; (with_reducible refine (flip_any _ f i' _ hb2 (by omega) hi3).mono ?_); rintro r w5 ⟨v5, rfl, hown5, hbel5⟩) | fail)
  have hst : Changed f (flipB f i') (burstE i' x 1) := by
    have h0 : Changed f f (fun _ => false) := ⟨rfl, fun p _ => by simp⟩
    obtain ⟨e1, e2⟩ := h0.flip i' hi3
    exact ⟨e1, fun p hp => by rw [e2 p hp, burstE_one]; simp⟩
  have hbf := hb2.keep hbel5
  have hbel0 : Below w.heap.size w w5 := bt hbel2 hbel5 (Nat.le_refl _)
  go_loopw [8, 9] (fun g k wr => ∃ (q : Nat) (gl : List UInt8), 1 ≤ q ∧ q ≤ 16 ∧ k = .int .i64 q ∧ Changed f gl (burstE i' x q) ∧ Bs wr g gl ∧ Bs wr (.slice aa f.length ca) f ∧ Below w.heap.size w wr) (fun _ k _ => 16 - (intOf k).toNat)
  case atStart => exact ⟨1, flipB f i', by omega, by omega, rfl, hst, Bs.own hown5, hbf, hbel0⟩
  case round =>
    clear hst hbf hbel0 hown5 hbel5 hbel2 hb2 ha
    obtain ⟨q, gl, hq1, hq2, rfl, hch, hbg, hbf, hbel⟩ := hrel
    have HCH := hid hch
    have hgl := hch.1
    clear hch
    have hsz := hbel.size
    by_cases hq : q < 16
    · by_cases hq3 : i' + q < 8 * f.length
      · have hbit := shr_bit x q hx
        cases hb : x.testBit q with
        | true =>
          rw [hb] at hbit
          have HB2 := hid hb
          clear hb
          go_wp2_with (first | (go_at_call 44; refine (flip_any _ gl (i' + q) _ hbg (by omega) (by omega)).mono ?_; rintro r w5 ⟨v5, rfl, hown5, hbel5⟩) | fail)
          go_roundw
          case rel =>
            refine ⟨q + 1, flipB gl (i' + q), by omega, by omega, by go_num, ?_, Bs.own hown5, hbf.keep hbel5, bt hbel hbel5 (Nat.le_refl _)⟩
            obtain ⟨e1, e2⟩ := HCH.out.flip (i' + q) hq3
            exact ⟨e1, fun p hp => by rw [e2 p hp, burstE_succ i' x q p hq1 HB2.out]⟩
          case measure => simp [intOf]; omega
        | false =>
          rw [hb] at hbit
          have HB2 := hid hb
          clear hb
          go_wp2
          go_roundw
          case rel =>
            refine ⟨q + 1, gl, by omega, by omega, by go_num, ?_, hbg, hbf, hbel⟩
            exact ⟨hgl, fun p hp => by rw [HCH.out.2 p hp, burstE_skip i' x q p HB2.out]⟩
          case measure => simp [intOf]; omega
      · have hcg : crcChk gl = false := by
          refine chk_err f gl (burstE i' x q) hgl HZ.out HCH.out.2 (burst_ne _ i' _ hi3 ?_ ?_ ?_)
          · intro p hp; unfold burstE; simp; omega
          · unfold burstE; simp
          · intro p hp; unfold burstE; simp; omega
        go_wp2_with (first | (go_at_call 34; (with_reducible refine (crawake_any _).mono ?_); rintro r w4 ⟨rfl, hbel4⟩) | (go_at_call 42; (with_reducible refine (check_any (.slice aa f.length ca) _ _ (hbf.keep hbel4)).mono ?_); rintro r w5 ⟨rfl, hbel5⟩) | (go_at_call 42; (with_reducible refine (check_any _ gl _ ((hbg.keep hbel4).keep hbel5)).mono ?_); rintro r w6 ⟨rfl, hbel6⟩) | fail)
        go_ret
        refine ⟨rfl, ?_⟩
        repeat (first | exact hbel | exact Below.refl _ _ | refine btd ?_ | refine bta ?_ (Nat.le_refl _) _ | refine bt ?_ (by assumption) (Nat.le_refl _))
    · have hcg : crcChk gl = false := by
        refine chk_err f gl (burstE i' x q) hgl HZ.out HCH.out.2 (burst_ne _ i' _ hi3 ?_ ?_ ?_)
        · intro p hp; unfold burstE; simp; omega
        · unfold burstE; simp
        · intro p hp; unfold burstE; simp; omega
      go_wp2_with (first | (go_at_call 34; (with_reducible refine (crawake_any _).mono ?_); rintro r w4 ⟨rfl, hbel4⟩) | (go_at_call 42; (with_reducible refine (check_any (.slice aa f.length ca) _ _ (hbf.keep hbel4)).mono ?_); rintro r w5 ⟨rfl, hbel5⟩) | (go_at_call 42; (with_reducible refine (check_any _ gl _ ((hbg.keep hbel4).keep hbel5)).mono ?_); rintro r w6 ⟨rfl, hbel6⟩) | fail)
      go_ret
      refine ⟨rfl, ?_⟩
      repeat (first | exact hbel | exact Below.refl _ _ | refine btd ?_ | refine bta ?_ (Nat.le_refl _) _ | refine bt ?_ (by assumption) (Nat.le_refl _))

end Go.Proofs.Ythkclnehekbpgaa
