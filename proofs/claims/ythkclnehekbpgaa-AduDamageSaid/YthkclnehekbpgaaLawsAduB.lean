/-
  The walks of the laws AduSplit and AduDamage.
-/
import Derived.Test.YthkclnehekbpgaaLawsAdu
import Derived.Test.YthkclnehekbpgaaFlip
namespace Go.Proofs.Ythkclnehekbpgaa
open Go.RowKit

theorem byte_bit (X : UInt8) (h : X ≠ 0) : ∃ i, i < 8 ∧ X.toNat.testBit i = true := by
  apply Classical.byContradiction
  intro hn
  apply h
  apply UInt8.toNat_inj.1
  apply Nat.eq_of_testBit_eq
  intro i
  rw [show (0 : UInt8).toNat = 0 from rfl, Nat.zero_testBit]
  by_cases hi : i < 8
  · cases hb : X.toNat.testBit i with
    | false => rfl
    | true => exact absurd ⟨i, hi, hb⟩ hn
  · exact Nat.testBit_lt_two_pow (Nat.lt_of_lt_of_le (byte_lt X) (Nat.pow_le_pow_right (n := 2) (by decide) (show 8 ≤ i by omega)))

theorem least_true (e : Nat → Bool) : ∀ n, e n = true → ∃ a, a ≤ n ∧ e a = true ∧ ∀ p, p < a → e p = false := by
  intro n
  induction n using Nat.strongRecOn with
  | ind n ih =>
    intro h
    by_cases hx : ∃ p, p < n ∧ e p = true
    · obtain ⟨p, hp, hpe⟩ := hx
      obtain ⟨a, h1, h2, h3⟩ := ih p hp hpe
      exact ⟨a, by omega, h2, h3⟩
    · refine ⟨n, Nat.le_refl _, h, fun p hp => ?_⟩
      cases hb : e p with
      | false => rfl
      | true => exact absurd ⟨p, hp, hb⟩ hx

/-- The bits that two adjacent changed bytes change. -/
def dmgE (k : Nat) (X Y : UInt8) (p : Nat) : Bool := if p / 8 = k then X.toNat.testBit (p % 8) else if p / 8 = k + 1 then Y.toNat.testBit (p % 8) else false

def dmgL (f : List UInt8) (k : Nat) (X Y : UInt8) : List UInt8 := (f.set k (f.getD k 0 ^^^ X)).set (k + 1) (f.getD (k + 1) 0 ^^^ Y)

theorem dmg_get (f : List UInt8) (k : Nat) (X Y : UInt8) (h : k + 1 < f.length) (q : Nat) :
    (dmgL f k X Y).getD q 0 = if q = k then f.getD k 0 ^^^ X else if q = k + 1 then f.getD (k + 1) 0 ^^^ Y else f.getD q 0 := by
  unfold dmgL
  simp only [List.getD, List.getElem?_set]
  by_cases h1 : q = k
  · subst h1
    rw [if_neg (by omega), if_pos rfl, if_pos (by omega), if_pos rfl]
    rfl
  · by_cases h2 : q = k + 1
    · subst h2
      rw [if_pos rfl, if_neg h1, if_pos rfl, if_pos (by simpa using h)]
      rfl
    · rw [if_neg (by omega), if_neg (by omega), if_neg h1, if_neg h2]

theorem damage (f : List UInt8) (k : Nat) (X Y : UInt8) (h : k + 1 < f.length) (hz : crcExt 65535 f = 0) (hne : ¬ (X = 0 ∧ Y = 0)) : crcChk (dmgL f k X Y) = false := by
  refine chk_err f _ (dmgE k X Y) (by simp [dmgL]) hz (fun p hp => ?_) ?_
  · unfold bitAt
    rw [dmg_get f k X Y h]
    unfold dmgE
    split
    · rename_i h1; rw [h1, UInt8.toNat_xor, Nat.testBit_xor]
    · split
      · rename_i h1; rw [h1, UInt8.toNat_xor, Nat.testBit_xor]
      · simp
  · obtain ⟨i, hi, he⟩ : ∃ i, i < 8 * k + 16 ∧ dmgE k X Y i = true := by
      by_cases hX : X = 0
      · obtain ⟨i, hi, hb⟩ := byte_bit Y (fun hY => hne ⟨hX, hY⟩)
        refine ⟨8 * (k + 1) + i, by omega, ?_⟩
        unfold dmgE
        rw [if_neg (by omega), if_pos (by omega), show (8 * (k + 1) + i) % 8 = i by omega]
        exact hb
      · obtain ⟨i, hi, hb⟩ := byte_bit X hX
        refine ⟨8 * k + i, by omega, ?_⟩
        unfold dmgE
        rw [if_pos (by omega), show (8 * k + i) % 8 = i by omega]
        exact hb
    obtain ⟨a, h1, h2, h3⟩ := least_true _ i he
    have ha : 8 * k ≤ a := by
      apply Classical.byContradiction
      intro hn
      unfold dmgE at h2
      rw [if_neg (by omega), if_neg (by omega)] at h2
      cases h2
    refine burst_ne _ a _ (by omega) h3 h2 (fun p hp => ?_)
    unfold dmgE
    rw [if_neg (by omega), if_neg (by omega)]

theorem u8_nat {s : Int} (h : (Lit.int .u8 s).wf = true) : ∃ X : UInt8, s = (X.toNat : Int) := by
  have := bounds_u8 h
  exact ⟨UInt8.ofNat s.toNat, by rw [UInt8.toNat_ofNat']; omega⟩

theorem xor_val (a X : UInt8) : Value.int .u8 (bits .xor .u8 (a.toNat : Int) (X.toNat : Int)) = byteV (a ^^^ X) := by
  rw [u8_xor_nat a.toNat X.toNat (byte_lt a) (byte_lt X)]
  unfold byteV
  rw [UInt8.toNat_xor]

set_option maxHeartbeats 3200000 in
theorem Walk.aduDamage (u : Int) (w : World) (wu : (Lit.int .i64 u).wf = true) (v : Value) (l : List UInt8) (hv : Bs w v l) (i : Int) (wi : (Lit.int .i64 i).wf = true) (s : Int) (ws : (Lit.int .u8 s).wf = true) (t : Int) (wt : (Lit.int .u8 t).wf = true) :
    Calls Try.prog 17 #[.int .i64 u, v, .int .i64 i, .int .u8 s, .int .u8 t] w fun r w' => r = .returned (.bool true) ∧ Below w.heap.size w w' := by
  have HB := hid (bytes_int v l 253 w hv 253 rfl (by decide))
  have hl : (l.take 253).length ≤ 253 := by simp; omega
  generalize l.take 253 = m at *
  obtain ⟨X, rfl⟩ := u8_nat ws
  obtain ⟨Y, rfl⟩ := u8_nat wt
  have hu1 := Int.emod_nonneg u (show (247 : Int) ≠ 0 by decide)
  have hu2 := Int.emod_lt_of_pos u (show 0 < (247 : Int) by decide)
  obtain ⟨x, hx⟩ : ∃ x : UInt8, 1 + u % 247 = (x.toNat : Int) := ⟨UInt8.ofNat (1 + u % 247).toNat, by rw [UInt8.toNat_ofNat']; omega⟩
  have HM : Hid (∀ W, Calls Try.prog 29 #[.int .i64 u, .int .i64 247] W fun r w' => r = .returned (.int .i64 ((x.toNat : Int) - 1)) ∧ W = w') := fun W => by
    rw [show (x.toNat : Int) - 1 = u % 247 by omega]; exact mod_any u 247 (by decide) (by decide) wu W
  have hx1 : 1 ≤ (x.toNat : Int) := by omega
  have hx2 : (x.toNat : Int) ≤ 247 := by omega
  clear hx hu1 hu2 wu hv
  have q0 : IntKind.i64.wrap (1 + ((x.toNat : Int) - 1)) = (x.toNat : Int) := by rw [IntWalk.i64_in _ (by omega)]; omega
  by_cases hm : m.length = 0
  · have hm2 : ((m.length : Int) == 0) = true := by rw [hm]; rfl
    have hm3 := hid hm
    clear hm
    go_enter Try.func17, Try.ntmps17
    go_wp2_with (first | (go_at_call 29; (with_reducible refine (HM.out _).mono ?_); rintro r w3 ⟨rfl, rfl⟩) | (go_at_call 24; (with_reducible refine HB.out.mono ?_); rintro r w1 ⟨v1, rfl, ha, rfl⟩; obtain ⟨aa, cc, rfl, _⟩ := id ha) | (go_at_call 47; (with_reducible refine (adawake_any _).mono ?_); rintro r w5 ⟨rfl, hbel5⟩) | fail)
    all_goals
      go_ret
      exact ⟨rfl, hbel5⟩
  · have hm2 : ((m.length : Int) == 0) = false := by simp; intro h; subst h; exact hm rfl
    by_cases hxy : X = 0 ∧ Y = 0
    · obtain ⟨rfl, rfl⟩ := hxy
      go_enter Try.func17, Try.ntmps17
      go_wp2_with (first | (go_at_call 29; (with_reducible refine (HM.out _).mono ?_); rintro r w3 ⟨rfl, rfl⟩) | (go_at_call 24; (with_reducible refine HB.out.mono ?_); rintro r w1 ⟨v1, rfl, ha, rfl⟩; obtain ⟨aa, cc, rfl, _⟩ := id ha) | (go_at_call 47; (with_reducible refine (adawake_any _).mono ?_); rintro r w5 ⟨rfl, hbel5⟩) | fail)
      all_goals
        go_ret
        exact ⟨rfl, hbel5⟩
    · have hxy2 : ((X.toNat : Int) == 0) = false ∨ ((X.toNat : Int) == 0) = true ∧ ((Y.toNat : Int) == 0) = false := by
        cases hb : ((X.toNat : Int) == 0) with
        | false => exact .inl rfl
        | true =>
          cases hc : ((Y.toNat : Int) == 0) with
          | false => exact .inr ⟨rfl, rfl⟩
          | true =>
            exfalso
            apply hxy
            simp only [beq_iff_eq] at hb hc
            exact ⟨UInt8.toNat_inj.1 (show X.toNat = (0 : UInt8).toNat by simp; omega), UInt8.toNat_inj.1 (show Y.toNat = (0 : UInt8).toNat by simp; omega)⟩
      have hm1 : 1 ≤ m.length := by omega
      have hi1 := Int.emod_nonneg i (show (m.length : Int) + 3 - 1 ≠ 0 by omega)
      have hi2 := Int.emod_lt_of_pos i (show 0 < (m.length : Int) + 3 - 1 by omega)
      obtain ⟨k, hk⟩ := Int.eq_ofNat_of_zero_le hi1
      have HM2 : Hid (∀ W, Calls Try.prog 29 #[.int .i64 i, .int .i64 ((m.length : Int) + 3 - 1)] W fun r w' => r = .returned (.int .i64 k) ∧ W = w') := fun W => by
        rw [← hk]; exact mod_any i _ (by omega) (by omega) wi W
      have hk2 : k < m.length + 2 := by omega
      have hfl := aduF_length x m
      have HC := hid (damage (aduF x m) k X Y (by omega) (tail_zero (x :: m)) hxy)
      have hd : (dmgL (aduF x m) k X Y).length = m.length + 3 := by simp [dmgL, hfl]
      have HD := hid hd
      clear hi1 hi2 hk wi ws wt hxy hm hd
      have HFL := hid hfl
      clear hfl
      rcases hxy2 with hx0 | ⟨hx0, hy0⟩
      all_goals
        go_enter Try.func17, Try.ntmps17
        go_wp2_with (first | (go_at_call 29; (with_reducible refine (HM.out _).mono ?_); rintro r w3 ⟨rfl, rfl⟩) | (go_at_call 24; (with_reducible refine HB.out.mono ?_); rintro r w1 ⟨v1, rfl, ha, rfl⟩; obtain ⟨aa, cc, rfl, _⟩ := id ha) | (go_at_call 46; (with_reducible refine (rbuild_ok x hx1 hx2 _ m hm1 (by omega) _ ha).mono ?_); rintro r w2 ⟨v2, rfl, hown2, hbel2⟩; obtain ⟨g, cap, rfl, hg, hnc, hcm⟩ := own_shape hown2 (by omega)) | fail)
        refine (HM2.out _).mono ?_
        rintro r w3 ⟨rfl, rfl⟩
        unfold maxLen at hcm
        have hc1 := ownb_cell hown2 k (by omega)
        have hc2 := ownb_cell hown2 (k + 1) (by omega)
        have hf1 := hown2.frozenAt k
        have hf2 := hown2.frozenAt (k + 1)
        have h1 := (hown2.stored k (byteV ((aduF x m).getD k 0 ^^^ X))).1
        have h2 := (h1.stored (k + 1) (byteV ((aduF x m).getD (k + 1) 0 ^^^ Y))).1
        rw [u8s_set, u8s_set] at h2
        have h3 := Bs.own h2
        have HBB : Hid (Bs ((w2.setCell ⟨g, k, none⟩ (byteV ((aduF x m).getD k 0 ^^^ X))).setCell ⟨g, k + 1, none⟩ (byteV ((aduF x m).getD (k + 1) 0 ^^^ Y))) (.slice (some ⟨g, 0, none⟩) (m.length + 3) cap) (dmgL (aduF x m) k X Y)) := h3
        have HBL := hid ((hbel2.setCell (p := ⟨g, k, none⟩) hg (byteV ((aduF x m).getD k 0 ^^^ X))).setCell (p := ⟨g, k + 1, none⟩) hg (byteV ((aduF x m).getD (k + 1) 0 ^^^ Y)))
        have E1 := hid (xor_val ((aduF x m).getD k 0) X)
        have E2 := hid (xor_val ((aduF x m).getD (k + 1) 0) Y)
        clear h1 h2 h3 hown2
        generalize (aduF x m).getD k 0 = c1 at *
        generalize (aduF x m).getD (k + 1) 0 = c2 at *
        go_wp2_with fail
        rw [E1.out, E2.out]
        refine (split_crc _ _ (by rw [HD.out]; omega) (by rw [HD.out]; omega) HC.out _ HBB.out).mono ?_
        rintro r w4 ⟨rfl, hbel4⟩
        go_wp2_with (first | (go_at_call 47; (with_reducible refine (adawake_any _).mono ?_); rintro r w5 ⟨rfl, hbel5⟩) | fail)
        go_ret
        exact ⟨rfl, bt (bt HBL.out hbel4 (Nat.le_refl _)) hbel5 (Nat.le_refl _)⟩

set_option maxHeartbeats 3200000 in
theorem Walk.aduSplit (v : Value) (l : List UInt8) (w : World) (hv : Bs w v l) (right : Bool) :
    Calls Try.prog 16 #[v, .bool right] w fun r w' => r = .returned (.bool true) ∧ Below w.heap.size w w' := by
  have HB := hid (bytes_int v l 300 w hv 300 rfl (by decide))
  have hl : (l.take 300).length ≤ 300 := by simp; omega
  generalize l.take 300 = m at *
  have ss : Hid (∀ (W : World) (v : Value) (l : List UInt8), Bs W v l → (convert 26 9 v).run Try.prog W = .ok (.string ⟨l.toArray⟩) W) := fun W v l h => run_str Try.underlying26 Try.underlying5 h _ Try.underlying9
  clear hv
  cases right with
  | true =>
    have HA : Hid (∃ f : List UInt8, ∀ W v1, Bs W v1 m → Calls Try.prog 41 #[v1] W fun r w' => ∃ v', r = .returned v' ∧ Bs w' v' f ∧ Below W.heap.size W w') := ⟨m ++ crcTail m, fun W v1 hb => by
      refine (rappend_any2 v1 m W hb (by omega)).mono ?_
      rintro r w' ⟨v', rfl, hown, hbel⟩
      rw [show m.length + 2 = (m ++ crcTail m).length by simp [crcTail]] at hown
      exact ⟨v', rfl, Bs.own hown, hbel⟩⟩
    obtain ⟨f, HA0⟩ := HA.out
    replace HA := hid HA0
    clear HA0
    all_goals
      by_cases hl4 : f.length < 4 ∨ 256 < f.length
      · go_enter Try.func16, Try.ntmps16
        go_wp2_with (first | (go_at_call 24; (with_reducible refine HB.out.mono ?_); rintro r w1 ⟨v1, rfl, ha, rfl⟩) | (go_at_call 41; (with_reducible refine (HA.out _ _ ha).mono ?_); rintro r w2 ⟨v2, rfl, hb2, hbel2⟩) | (go_at_call 48; (with_reducible refine (split_len _ f hl4 _ hb2).mono ?_); rintro r w3 ⟨rfl, rfl⟩) | (go_at_call 49; (with_reducible refine (rsplit_len _ f hl4 _ hb2).mono ?_); rintro r w4 ⟨rfl, rfl⟩; have e2 := ss.out _ _ _ (Bs.nil w2)) | (go_at_call 47; (with_reducible refine (adawake_any _).mono ?_); rintro r w6 ⟨rfl, hbel6⟩) | fail)
        go_ret
        refine ⟨rfl, ?_⟩
        repeat (first | exact Below.refl _ _ | refine btd ?_ | refine bta ?_ (Nat.le_refl _) _ | refine bt ?_ (by assumption) (Nat.le_refl _))
      · have h4 : 4 ≤ f.length := by omega
        have h256 : f.length ≤ 256 := by omega
        clear hl4
        cases hc : crcChk f with
        | false =>
          have HCK := hid hc
          clear hc
          go_enter Try.func16, Try.ntmps16
          go_wp2_with (first | (go_at_call 24; (with_reducible refine HB.out.mono ?_); rintro r w1 ⟨v1, rfl, ha, rfl⟩) | (go_at_call 41; (with_reducible refine (HA.out _ _ ha).mono ?_); rintro r w2 ⟨v2, rfl, hb2, hbel2⟩) | (go_at_call 48; (with_reducible refine (split_crc _ f h4 h256 HCK.out _ hb2).mono ?_); rintro r w3 ⟨rfl, hbel3⟩) | (go_at_call 49; (with_reducible refine (rsplit_crc _ f h4 h256 HCK.out _ (hb2.keep hbel3)).mono ?_); rintro r w4 ⟨rfl, hbel4⟩; have e2 := ss.out _ _ _ (Bs.nil w4)) | (go_at_call 47; (with_reducible refine (adawake_any _).mono ?_); rintro r w6 ⟨rfl, hbel6⟩) | fail)
          go_ret
          refine ⟨rfl, ?_⟩
          repeat (first | exact Below.refl _ _ | refine btd ?_ | refine bta ?_ (Nat.le_refl _) _ | refine bt ?_ (by assumption) (Nat.le_refl _))
        | true =>
          have HCK := hid hc
          clear hc
          by_cases hr : ((f.getD 0 0).toNat : Int) < 1 ∨ 247 < ((f.getD 0 0).toNat : Int)
          · go_enter Try.func16, Try.ntmps16
            go_wp2_with (first | (go_at_call 24; (with_reducible refine HB.out.mono ?_); rintro r w1 ⟨v1, rfl, ha, rfl⟩) | (go_at_call 41; (with_reducible refine (HA.out _ _ ha).mono ?_); rintro r w2 ⟨v2, rfl, hb2, hbel2⟩) | (go_at_call 48; (with_reducible refine (split_range _ f h4 h256 HCK.out hr _ hb2).mono ?_); rintro r w3 ⟨rfl, hbel3⟩) | (go_at_call 49; (with_reducible refine (rsplit_range _ f h4 h256 HCK.out hr _ (hb2.keep hbel3)).mono ?_); rintro r w4 ⟨rfl, hbel4⟩; have e2 := ss.out _ _ _ (Bs.nil w4)) | (go_at_call 47; (with_reducible refine (adawake_any _).mono ?_); rintro r w6 ⟨rfl, hbel6⟩) | fail)
            go_ret
            refine ⟨rfl, ?_⟩
            repeat (first | exact Below.refl _ _ | refine btd ?_ | refine bta ?_ (Nat.le_refl _) _ | refine bt ?_ (by assumption) (Nat.le_refl _))
          · have hr1 : 1 ≤ ((f.getD 0 0).toNat : Int) := by omega
            have hr2 : ((f.getD 0 0).toNat : Int) ≤ 247 := by omega
            clear hr
            have HBK := hid (adu_back f h4 HCK.out)
            have hpl : (aduP f).length = f.length - 3 := by simp [aduP]; omega
            have HPL := hid hpl
            have HSA : Hid (∀ W v, Bs W v f → Calls Try.prog 48 #[v] W fun r w' => ∃ v', r = .returned (.tuple #[.int .i64 (f.getD 0 0).toNat, v', .int .i64 0]) ∧ Bs w' v' (aduP f) ∧ Below W.heap.size W w') := fun W v h => by
              refine (split_ok v f h4 h256 HCK.out hr1 hr2 W h).mono ?_
              rintro r w' ⟨v', rfl, hown, hbel⟩
              rw [← HPL.out] at hown
              exact ⟨v', rfl, Bs.own hown, hbel⟩
            have HSR : Hid (∀ W v, Bs W v f → Calls Try.prog 49 #[v] W fun r w' => ∃ v', r = .returned (.tuple #[.int .i64 (f.getD 0 0).toNat, v', .int .i64 0]) ∧ Bs w' v' (aduP f) ∧ Below W.heap.size W w') := fun W v h => by
              refine (rsplit_ok v f h4 h256 HCK.out hr1 hr2 W h).mono ?_
              rintro r w' ⟨v', rfl, hown, hbel⟩
              rw [← HPL.out] at hown
              exact ⟨v', rfl, Bs.own hown, hbel⟩
            have HBU : Hid (∀ W v, Bs W v (aduP f) → Calls Try.prog 45 #[.int .i64 (f.getD 0 0).toNat, v] W fun r w' => ∃ v', r = .returned (.tuple #[v', .int .i64 0]) ∧ Bs w' v' f ∧ Below W.heap.size W w') := fun W v h => by
              refine (build_ok (f.getD 0 0) hr1 hr2 v (aduP f) (by rw [HPL.out]; omega) (by rw [HPL.out]; omega) W h).mono ?_
              rintro r w' ⟨v', rfl, hown, hbel⟩
              rw [show (aduP f).length + 3 = (aduF (f.getD 0 0) (aduP f)).length from (aduF_length _ _).symm, HBK.out] at hown
              exact ⟨v', rfl, Bs.own hown, hbel⟩
            clear hpl
            generalize (f.getD 0 0).toNat = x at *
            go_enter Try.func16, Try.ntmps16
            go_wp2_with (first | (go_at_call 24; (with_reducible refine HB.out.mono ?_); rintro r w1 ⟨v1, rfl, ha, rfl⟩) | (go_at_call 41; (with_reducible refine (HA.out _ _ ha).mono ?_); rintro r w2 ⟨v2, rfl, hb2, hbel2⟩) | (go_at_call 48; (with_reducible refine (HSA.out _ _ hb2).mono ?_); rintro r w3 ⟨v3, rfl, hb3, hbel3⟩) | (go_at_call 49; (with_reducible refine (HSR.out _ _ (hb2.keep hbel3)).mono ?_); rintro r w4 ⟨v4, rfl, hb4, hbel4⟩; have e2 := ss.out _ _ _ (hb3.keep hbel4); have e3 := ss.out _ _ _ hb4) | (go_at_call 45; (with_reducible refine (HBU.out _ _ (hb3.keep hbel4)).mono ?_); rintro r w5 ⟨v5, rfl, hb5, hbel5⟩) | (go_at_call 47; (with_reducible refine (adawake_any _).mono ?_); rintro r w6 ⟨rfl, hbel6⟩; have e5 := ss.out _ _ _ (hb5.keep hbel6); have e6 := ss.out _ _ _ ((((hb2.keep hbel3).keep hbel4).keep hbel5).keep hbel6)) | fail)
            go_ret
            refine ⟨rfl, ?_⟩
            repeat (first | exact Below.refl _ _ | refine btd ?_ | refine bta ?_ (Nat.le_refl _) _ | refine bt ?_ (by assumption) (Nat.le_refl _))
  | false =>
    obtain ⟨f, rfl⟩ : ∃ f, f = m := ⟨m, rfl⟩
    all_goals
      by_cases hl4 : f.length < 4 ∨ 256 < f.length
      · go_enter Try.func16, Try.ntmps16
        go_wp2_with (first | (go_at_call 24; (with_reducible refine HB.out.mono ?_); rintro r w1 ⟨v1, rfl, ha, rfl⟩) | (go_at_call 48; (with_reducible refine (split_len _ f hl4 _ ha).mono ?_); rintro r w3 ⟨rfl, rfl⟩) | (go_at_call 49; (with_reducible refine (rsplit_len _ f hl4 _ ha).mono ?_); rintro r w4 ⟨rfl, rfl⟩; have e2 := ss.out _ _ _ (Bs.nil w)) | (go_at_call 47; (with_reducible refine (adawake_any _).mono ?_); rintro r w6 ⟨rfl, hbel6⟩) | fail)
        go_ret
        refine ⟨rfl, ?_⟩
        repeat (first | exact Below.refl _ _ | refine btd ?_ | refine bta ?_ (Nat.le_refl _) _ | refine bt ?_ (by assumption) (Nat.le_refl _))
      · have h4 : 4 ≤ f.length := by omega
        have h256 : f.length ≤ 256 := by omega
        clear hl4
        cases hc : crcChk f with
        | false =>
          have HCK := hid hc
          clear hc
          go_enter Try.func16, Try.ntmps16
          go_wp2_with (first | (go_at_call 24; (with_reducible refine HB.out.mono ?_); rintro r w1 ⟨v1, rfl, ha, rfl⟩) | (go_at_call 48; (with_reducible refine (split_crc _ f h4 h256 HCK.out _ ha).mono ?_); rintro r w3 ⟨rfl, hbel3⟩) | (go_at_call 49; (with_reducible refine (rsplit_crc _ f h4 h256 HCK.out _ (ha.keep hbel3)).mono ?_); rintro r w4 ⟨rfl, hbel4⟩; have e2 := ss.out _ _ _ (Bs.nil w4)) | (go_at_call 47; (with_reducible refine (adawake_any _).mono ?_); rintro r w6 ⟨rfl, hbel6⟩) | fail)
          go_ret
          refine ⟨rfl, ?_⟩
          repeat (first | exact Below.refl _ _ | refine btd ?_ | refine bta ?_ (Nat.le_refl _) _ | refine bt ?_ (by assumption) (Nat.le_refl _))
        | true =>
          have HCK := hid hc
          clear hc
          by_cases hr : ((f.getD 0 0).toNat : Int) < 1 ∨ 247 < ((f.getD 0 0).toNat : Int)
          · go_enter Try.func16, Try.ntmps16
            go_wp2_with (first | (go_at_call 24; (with_reducible refine HB.out.mono ?_); rintro r w1 ⟨v1, rfl, ha, rfl⟩) | (go_at_call 48; (with_reducible refine (split_range _ f h4 h256 HCK.out hr _ ha).mono ?_); rintro r w3 ⟨rfl, hbel3⟩) | (go_at_call 49; (with_reducible refine (rsplit_range _ f h4 h256 HCK.out hr _ (ha.keep hbel3)).mono ?_); rintro r w4 ⟨rfl, hbel4⟩; have e2 := ss.out _ _ _ (Bs.nil w4)) | (go_at_call 47; (with_reducible refine (adawake_any _).mono ?_); rintro r w6 ⟨rfl, hbel6⟩) | fail)
            go_ret
            refine ⟨rfl, ?_⟩
            repeat (first | exact Below.refl _ _ | refine btd ?_ | refine bta ?_ (Nat.le_refl _) _ | refine bt ?_ (by assumption) (Nat.le_refl _))
          · have hr1 : 1 ≤ ((f.getD 0 0).toNat : Int) := by omega
            have hr2 : ((f.getD 0 0).toNat : Int) ≤ 247 := by omega
            clear hr
            have HBK := hid (adu_back f h4 HCK.out)
            have hpl : (aduP f).length = f.length - 3 := by simp [aduP]; omega
            have HPL := hid hpl
            have HSA : Hid (∀ W v, Bs W v f → Calls Try.prog 48 #[v] W fun r w' => ∃ v', r = .returned (.tuple #[.int .i64 (f.getD 0 0).toNat, v', .int .i64 0]) ∧ Bs w' v' (aduP f) ∧ Below W.heap.size W w') := fun W v h => by
              refine (split_ok v f h4 h256 HCK.out hr1 hr2 W h).mono ?_
              rintro r w' ⟨v', rfl, hown, hbel⟩
              rw [← HPL.out] at hown
              exact ⟨v', rfl, Bs.own hown, hbel⟩
            have HSR : Hid (∀ W v, Bs W v f → Calls Try.prog 49 #[v] W fun r w' => ∃ v', r = .returned (.tuple #[.int .i64 (f.getD 0 0).toNat, v', .int .i64 0]) ∧ Bs w' v' (aduP f) ∧ Below W.heap.size W w') := fun W v h => by
              refine (rsplit_ok v f h4 h256 HCK.out hr1 hr2 W h).mono ?_
              rintro r w' ⟨v', rfl, hown, hbel⟩
              rw [← HPL.out] at hown
              exact ⟨v', rfl, Bs.own hown, hbel⟩
            have HBU : Hid (∀ W v, Bs W v (aduP f) → Calls Try.prog 45 #[.int .i64 (f.getD 0 0).toNat, v] W fun r w' => ∃ v', r = .returned (.tuple #[v', .int .i64 0]) ∧ Bs w' v' f ∧ Below W.heap.size W w') := fun W v h => by
              refine (build_ok (f.getD 0 0) hr1 hr2 v (aduP f) (by rw [HPL.out]; omega) (by rw [HPL.out]; omega) W h).mono ?_
              rintro r w' ⟨v', rfl, hown, hbel⟩
              rw [show (aduP f).length + 3 = (aduF (f.getD 0 0) (aduP f)).length from (aduF_length _ _).symm, HBK.out] at hown
              exact ⟨v', rfl, Bs.own hown, hbel⟩
            clear hpl
            generalize (f.getD 0 0).toNat = x at *
            go_enter Try.func16, Try.ntmps16
            go_wp2_with (first | (go_at_call 24; (with_reducible refine HB.out.mono ?_); rintro r w1 ⟨v1, rfl, ha, rfl⟩) | (go_at_call 48; (with_reducible refine (HSA.out _ _ ha).mono ?_); rintro r w3 ⟨v3, rfl, hb3, hbel3⟩) | (go_at_call 49; (with_reducible refine (HSR.out _ _ (ha.keep hbel3)).mono ?_); rintro r w4 ⟨v4, rfl, hb4, hbel4⟩; have e2 := ss.out _ _ _ (hb3.keep hbel4); have e3 := ss.out _ _ _ hb4) | (go_at_call 45; (with_reducible refine (HBU.out _ _ (hb3.keep hbel4)).mono ?_); rintro r w5 ⟨v5, rfl, hb5, hbel5⟩) | (go_at_call 47; (with_reducible refine (adawake_any _).mono ?_); rintro r w6 ⟨rfl, hbel6⟩; have e5 := ss.out _ _ _ (hb5.keep hbel6); have e6 := ss.out _ _ _ ((((ha.keep hbel3).keep hbel4).keep hbel5).keep hbel6)) | fail)
            go_ret
            refine ⟨rfl, ?_⟩
            repeat (first | exact Below.refl _ _ | refine btd ?_ | refine bta ?_ (Nat.le_refl _) _ | refine bt ?_ (by assumption) (Nat.le_refl _))

end Go.Proofs.Ythkclnehekbpgaa
