/-
  Flipping a bit of a message: the contract of the laws' helper, and what it does to the bits.
-/
import Derived.Test.YthkclnehekbpgaaLawsCrc
namespace Go.Proofs.Ythkclnehekbpgaa
open Go.RowKit

/-- A message with one bit inverted. -/
def flipB (l : List UInt8) (p : Nat) : List UInt8 := l.set (p / 8) (UInt8.ofNat ((l.getD (p / 8) 0).toNat ^^^ 2 ^ (p % 8)))
theorem flipB_length (l : List UInt8) (p : Nat) : (flipB l p).length = l.length := by simp [flipB]

theorem flipB_bit (l : List UInt8) (p q : Nat) (hp : p < 8 * l.length) : bitAt (flipB l p) q = (bitAt l q ^^ (q == p)) := by
  unfold bitAt flipB
  by_cases h : q / 8 = p / 8
  · rw [h]
    have e1 : (l.set (p / 8) (UInt8.ofNat ((l.getD (p / 8) 0).toNat ^^^ 2 ^ (p % 8)))).getD (p / 8) 0 = UInt8.ofNat ((l.getD (p / 8) 0).toNat ^^^ 2 ^ (p % 8)) := by
      simp [List.getD, show p / 8 < l.length by omega]
    have hlt : (l.getD (p / 8) 0).toNat ^^^ 2 ^ (p % 8) < 256 := Nat.xor_lt_two_pow (n := 8) (byte_lt _) (Nat.pow_lt_pow_right (by decide) (Nat.mod_lt _ (by decide)))
    have e2 : (UInt8.ofNat ((l.getD (p / 8) 0).toNat ^^^ 2 ^ (p % 8))).toNat = (l.getD (p / 8) 0).toNat ^^^ 2 ^ (p % 8) := by
      rw [UInt8.toNat_ofNat']
      exact Nat.mod_eq_of_lt hlt
    rw [e1, e2, Nat.testBit_xor, Nat.testBit_two_pow]
    congr 1
    rw [Bool.eq_iff_iff]
    simp
    omega
  · have e1 : (l.set (p / 8) (UInt8.ofNat ((l.getD (p / 8) 0).toNat ^^^ 2 ^ (p % 8)))).getD (q / 8) 0 = l.getD (q / 8) 0 := by
      simp [List.getD, List.getElem?_set_ne (show p / 8 ≠ q / 8 by omega)]
    rw [e1]
    have : (q == p) = false := by simp; omega
    rw [this]
    simp

theorem u8s_set (l : List UInt8) (i : Nat) (x : UInt8) : (u8s l).set i (byteV x) = u8s (l.set i x) := by simp [u8s, List.map_set]

theorem ownb_cell {w : World} {base : Nat} {e : TypeId} {g n cap : Nat} {l : List UInt8} (h : w.ownsRow base e 1 (.slice (some ⟨g, 0, none⟩) n cap) n (u8s l)) (i : Nat) (hi : i < n) :
    w.cell? ⟨g, i, none⟩ = some (.int .u8 ((l.getD i 0).toNat : Int)) := by
  have hl : l.length = n := by simpa using h.1
  rw [h.cellAt i (by omega), u8s_get l i (by omega)]

theorem own_shape {w : World} {base : Nat} {e : TypeId} {sz n : Nat} {v : Value} {xs : List Value} (h : w.ownsRow base e sz v n xs) (hn : 0 < n) :
    ∃ g cap, v = .slice (some ⟨g, 0, none⟩) n cap ∧ base ≤ g ∧ n ≤ cap ∧ cap ≤ maxLen := by
  rcases h.2 with ⟨_, h0⟩ | ⟨g, cap, cur, hv, hg, _, hnc, hcm, _⟩
  · omega
  · exact ⟨g, cap, hv, hg, hnc, hcm⟩

theorem pow8 (p : Nat) : 2 ^ (p % 8) < 256 := Nat.pow_lt_pow_right (show 1 < 2 by decide) (show p % 8 < 8 from Nat.mod_lt _ (by decide))

theorem flip_val (l : List UInt8) (p : Nat) : Value.int .u8 (bits .xor .u8 ((l.getD (p / 8) 0).toNat : Int) (2 ^ (p % 8) % 256)) = byteV (UInt8.ofNat ((l.getD (p / 8) 0).toNat ^^^ 2 ^ (p % 8))) := by
  have hx := byte_lt (l.getD (p / 8) 0)
  generalize (l.getD (p / 8) 0).toNat = x at *
  have h1 := pow8 p
  have h2 : ((2 : Int) ^ (p % 8) % 256) = ((2 ^ (p % 8) : Nat) : Int) := by
    rw [show (2 : Int) ^ (p % 8) % 256 = ((2 ^ (p % 8) % 256 : Nat) : Int) by simp, Nat.mod_eq_of_lt h1]
  rw [h2, u8_xor_nat x _ hx h1]
  unfold byteV
  rw [UInt8.toNat_ofNat', Nat.mod_eq_of_lt (Nat.xor_lt_two_pow (n := 8) hx h1)]

set_option maxHeartbeats 1600000 in
theorem flip_any (v : Value) (l : List UInt8) (p : Nat) (w : World) (hv : Bs w v l) (hl : l.length ≤ 1000) (hp : p < 8 * l.length) :
    Calls Try.prog 44 #[v, .int .i64 p] w fun r w' => ∃ v', r = .returned v' ∧ w'.ownsRow w.heap.size 5 1 v' l.length (u8s (flipB l p)) ∧ Below w.heap.size w w' := by
  obtain ⟨i5, hi, hz0, hz1, hz2⟩ := info_parts info5
  have HV := hid hv
  clear hv
  go_enter Try.func44, Try.ntmps44
  go_wp2_with (at_builtin; refine wpList_app rfl _ _ 26 rfl w.heap.size 5 i5 Try.underlying26 hi hz0 hz1 hz2 (.slice none 0 0) [] rfl (World.ownsRow_nil _ _ _ _) _ l rfl HV.out ?c1 ?c2 ?c3)
  any_goals first | omega | exact Nat.le_refl _ | (simp; omega)
  case c3 =>
    intro v1 w2 hown hgr
    have hbel2 := (Below.refl w.heap.size w).grown hgr (Nat.le_refl _) (by intro k hk; simp [Value.ownBlock] at hk)
    replace hown : w2.ownsRow w.heap.size 5 1 v1 l.length (u8s l) := by simpa using hown
    obtain ⟨g, cap, hv1, hg, hnc, hcm⟩ := own_shape hown (by omega)
    rw [hv1] at hown ⊢
    unfold maxLen at hcm
    clear hgr hv1
    have hc := ownb_cell hown (p / 8) (by omega)
    have hf := hown.frozenAt (p / 8)
    have hst := hid (hown.stored (p / 8) (byteV (UInt8.ofNat ((l.getD (p / 8) 0).toNat ^^^ 2 ^ (p % 8))))).1
    have hB := hid (hbel2.setCell (p := ⟨g, p / 8, none⟩) hg (byteV (UInt8.ofNat ((l.getD (p / 8) 0).toNat ^^^ 2 ^ (p % 8)))))
    have E : Hid (Value.int .u8 (bits .xor .u8 ((l[p / 8]?.getD 0).toNat : Int) (2 ^ (p % 8) % 256)) = byteV (UInt8.ofNat ((l.getD (p / 8) 0).toNat ^^^ 2 ^ (p % 8)))) := flip_val l p
    clear hown hbel2
    go_wp2
    go_ret
    refine ⟨_, rfl, ?_, ?_⟩
    · rw [E.out]
      have h := hst.out
      rw [u8s_set] at h
      exact h
    · rw [E.out]
      exact hB.out

theorem own_dest {w : World} {base : Nat} {e : TypeId} {n : Nat} {v : Value} {l : List UInt8} (h : w.ownsRow base e 1 v n (u8s l)) : l.length = n := by simpa using h.1

/-- A whole frame has its checksum. -/
theorem frame_zero (l : List UInt8) : crcExt 65535 (l ++ crcTail l) = 0 ∧ (l ++ crcTail l).length = l.length + 2 := ⟨tail_zero l, by simp [crcTail]⟩

set_option maxHeartbeats 1600000 in
theorem Walk.crcTwo (v : Value) (l : List UInt8) (w : World) (hv : Bs w v l) (i : Int) (wi : (Lit.int .i64 i).wf = true) (k : Int) (wk : (Lit.int .i64 k).wf = true) :
    Calls Try.prog 13 #[v, .int .i64 i, .int .i64 k] w fun r w' => r = .returned (.bool true) ∧ Below w.heap.size w w' := by
  have HB := hid (bytes_int v l 254 w hv 254 rfl (by decide))
  have hl : (l.take 254).length ≤ 254 := by simp; omega
  generalize l.take 254 = a at *
  obtain ⟨hz, hfl⟩ := frame_zero a
  generalize hf : a ++ crcTail a = f at *
  obtain ⟨n, hn, hn2, hn3⟩ : ∃ n : Int, n = 8 * (f.length : Int) ∧ 0 < n ∧ n ≤ 2048 := ⟨_, rfl, by omega, by omega⟩
  have hi1 := Int.emod_nonneg i (show n ≠ 0 by omega)
  have hi2 := Int.emod_lt_of_pos i hn2
  have hk1 := Int.emod_nonneg k (show n ≠ 0 by omega)
  have hk2 := Int.emod_lt_of_pos k hn2
  obtain ⟨i', hi'⟩ := Int.eq_ofNat_of_zero_le hi1
  obtain ⟨k', hk'⟩ := Int.eq_ofNat_of_zero_le hk1
  have HM1 : Hid (∀ W, Calls Try.prog 29 #[.int .i64 i, .int .i64 n] W fun r w' => r = .returned (.int .i64 i') ∧ W = w') := fun W => by
    rw [← hi']; exact mod_any i n hn2 (by omega) wi W
  have HM2 : Hid (∀ W, Calls Try.prog 29 #[.int .i64 k, .int .i64 n] W fun r w' => r = .returned (.int .i64 k') ∧ W = w') := fun W => by
    rw [← hk']; exact mod_any k n hn2 (by omega) wk W
  have hi3 : i' < 8 * f.length := by omega
  have hk3 : k' < 8 * f.length := by omega
  have HE : Hid (i' ≠ k' → crcChk (flipB (flipB f i') k') = false) := by
    intro hne
    refine chk_err f _ (fun p => (p == i') ^^ (p == k')) (by rw [flipB_length, flipB_length]) hz (fun p _ => ?_) ?_
    · rw [flipB_bit _ _ _ (by rw [flipB_length]; exact hk3), flipB_bit _ _ _ hi3, Bool.xor_assoc]
    · rcases Nat.lt_or_gt_of_ne hne with h | h
      · exact two_ne i' k' _ h hk3 (by omega)
      · have := two_ne k' i' (8 * f.length) h hi3 (by omega)
        have e : (fun p => (p == i') ^^ (p == k')) = fun p => (p == k') ^^ (p == i') := funext fun p => Bool.xor_comm _ _
        rw [e]; exact this
  subst hn
  clear hi1 hi2 hk1 hk2 hi' hk' hv wi wk
  have HA : Hid (∀ W v1, Bs W v1 a → Calls Try.prog 41 #[v1] W fun r w' => ∃ aa ca, r = .returned (.slice aa f.length ca) ∧ Bs w' (.slice aa f.length ca) f ∧ Below W.heap.size W w') := fun W v1 hb => by
    refine (rappend_any2 v1 a W hb (by omega)).mono ?_
    rintro r w' ⟨v', rfl, hown, hbel⟩
    rw [hf] at hown
    have hb := Bs.own hown
    obtain ⟨aa, ca, rfl, _⟩ := id hb
    exact ⟨aa, ca, rfl, hb, hbel⟩
  clear hfl hf hz
  go_enter Try.func13, Try.ntmps13
  by_cases hne : i' = k'
  · subst hne
    go_wp2_with (first | (go_at_call 24; (with_reducible refine HB.out.mono ?_); rintro r w1 ⟨v1, rfl, ha, rfl⟩) | (go_at_call 41; (with_reducible refine (HA.out _ _ ha).mono ?_); rintro r w2 ⟨aa, ca, rfl, hb2, hbel2⟩) | (go_at_call 29; (with_reducible refine (HM1.out _).mono ?_); rintro r w3 ⟨rfl, rfl⟩) | (go_at_call 29; (with_reducible refine (HM2.out _).mono ?_); rintro r w3 ⟨rfl, rfl⟩) | (go_at_call 34; (with_reducible refine (crawake_any _).mono ?_); rintro r w4 ⟨rfl, hbel4⟩) | fail)
    go_ret
    exact ⟨rfl, bt hbel2 hbel4 (Nat.le_refl _)⟩
  · have hc := HE.out hne
    have hne2 : ((i' : Int) == (k' : Int)) = false := by simp; omega
    replace hne := hid hne
    go_wp2_with (first | (go_at_call 24; (with_reducible refine HB.out.mono ?_); rintro r w1 ⟨v1, rfl, ha, rfl⟩) | (go_at_call 41; (with_reducible refine (HA.out _ _ ha).mono ?_); rintro r w2 ⟨aa, ca, rfl, hb2, hbel2⟩) | (go_at_call 29; (with_reducible refine (HM1.out _).mono ?_); rintro r w3 ⟨rfl, rfl⟩) | (go_at_call 29; (with_reducible refine (HM2.out _).mono ?_); rintro r w3 ⟨rfl, rfl⟩) | (go_at_call 34; (with_reducible refine (crawake_any _).mono ?_); rintro r w4 ⟨rfl, hbel4⟩) | (go_at_call 44; (with_reducible refine (flip_any _ f i' _ (hb2.keep hbel4) (by omega) hi3).mono ?_); rintro r w5 ⟨v5, rfl, hown5, hbel5⟩) | (go_at_call 44; (with_reducible refine (flip_any v5 (flipB f i') k' _ (Bs.own hown5) (by rw [flipB_length]; omega) (by rw [flipB_length]; omega)).mono ?_); rintro r w6 ⟨v6, rfl, hown6, hbel6⟩) | (go_at_call 42; (with_reducible refine (check_any v6 _ _ (Bs.own hown6)).mono ?_); rintro r w7 ⟨rfl, hbel7⟩) | fail)
    go_ret
    refine ⟨rfl, ?_⟩
    repeat (first | exact Below.refl _ _ | refine btd ?_ | refine bta ?_ (Nat.le_refl _) _ | refine bt ?_ (by assumption) (Nat.le_refl _))

end Go.Proofs.Ythkclnehekbpgaa
