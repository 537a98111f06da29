/-
  The walk of the law CrcOdd.
-/
import Derived.Test.YthkclnehekbpgaaLawsCrcC
import Derived.Test.YthkclnehekbpgaaInts
namespace Go.Proofs.Ythkclnehekbpgaa
open Go.RowKit

/-- How many of the first k bits are set. -/
def cntB (m : List Bool) : Nat → Nat
  | 0 => 0
  | k + 1 => cntB m k + (m.getD k false).toNat
theorem cntB_par (m : List Bool) (k : Nat) : parE (fun p => m.getD p false) k = decide (cntB m k % 2 = 1) := by
  induction k with
  | zero => rfl
  | succ k ih =>
    rw [parE, ih, cntB]
    cases m.getD k false with
    | false => simp
    | true =>
      rw [Bool.xor_true, ← decide_not, decide_eq_decide]
      show ¬ cntB m k % 2 = 1 ↔ (cntB m k + 1) % 2 = 1
      omega
theorem cntB_le (m : List Bool) (k : Nat) : cntB m k ≤ k := by
  induction k with
  | zero => exact Nat.le_refl _
  | succ k ih =>
    rw [cntB]
    have : (m.getD k false).toNat ≤ 1 := by cases m.getD k false <;> decide
    omega
/-- The bits that are changed behind k rounds. -/
def oddE (m : List Bool) (k p : Nat) : Bool := decide (p < k) && m.getD p false

set_option maxHeartbeats 3200000 in
theorem Walk.crcOdd (v : Value) (l : List UInt8) (w : World) (hv : Bs w v l) (pv : Value) (ps : List Int) (hp : Ns w pv ps) :
    Calls Try.prog 12 #[v, pv] w fun r w' => r = .returned (.bool true) ∧ Below w.heap.size w w' := by
  obtain ⟨i5, hi, hz0, hz1, hz2⟩ := info_parts info5
  obtain ⟨i4, hi4, hz40, hz41, hz42⟩ := info_parts info4
  have HB := hid (bytes_int v l 254 w hv 254 rfl (by decide))
  have hl : (l.take 254).length ≤ 254 := by simp; omega
  generalize l.take 254 = a at *
  obtain ⟨hz, hfl⟩ := frame_zero a
  generalize hf : a ++ crcTail a = f at *
  have HA : Hid (∀ W v1, Bs W v1 a → Calls Try.prog 41 #[v1] W fun r w' => ∃ aa ca, r = .returned (.slice aa f.length ca) ∧ Bs w' (.slice aa f.length ca) f ∧ Below W.heap.size W w') := fun W v1 hb => by
    refine (rappend_any2 v1 a W hb (by omega)).mono ?_
    rintro r w' ⟨v', rfl, hown, hbel⟩
    rw [hf] at hown
    have hb := Bs.own hown
    obtain ⟨aa, ca, rfl, _⟩ := id hb
    exact ⟨aa, ca, rfl, hb, hbel⟩
  have hflen : f.length ≤ 256 := by omega
  have hfpos : 0 < f.length := by omega
  have HZ := hid hz
  obtain ⟨⟨pa, pc, hpv, hpc1, hpc2, hpn, hpcell⟩, hpw⟩ := hp
  subst hpv
  unfold maxLen at hpc2
  have HP := hid hpcell
  have HW := hid hpw
  clear hfl hf hz hv hpcell hpw
  go_enter Try.func12, Try.ntmps12
  obtain ⟨N, hN⟩ : ∃ N : Nat, N = 8 * f.length := ⟨_, rfl⟩
  replace hN := hid hN
  go_wp2_with (first | (go_at_call 24; (with_reducible refine HB.out.mono ?_); rintro r w1 ⟨v1, rfl, ha, rfl⟩) | (go_at_call 41; (with_reducible refine (HA.out _ _ ha).mono ?_); rintro r w2 ⟨aa, ca, rfl, hb2, hbel2⟩) | (at_make; refine wpList_make_full _ rfl _ _ 60 rfl w.heap.size 4 i4 (.bool false) 1 Try.underlying60 hi4 hz40 hz41 .i64 .i64 (8 * (f.length : Int)) (8 * (f.length : Int)) N rfl rfl ?m1 ?m2 ?m3 ?m4 ?m5 ?m6))
  case m1 => rw [hN.out]; simp
  case m2 => rw [hN.out]; simp
  case m3 => rw [hN.out, hz42]; omega
  case m4 => rw [hN.out]; unfold maxLen; omega
  case m5 => exact hbel2.size
  case m6 =>
    intro w3 hown hgr
    rw [made_one (.bool false) N] at hown
    replace hown : w3.ownsRow w.heap.size 4 1 (.slice (some ⟨w2.heap.size, 0, none⟩) N N) N (bls (List.replicate N false)) := by simpa [bls] using hown
    have hbel3 := hbel2.grown hgr hbel2.size (by intro k hk; cases hk)
    have hbel23 : Below w2.heap.size w2 w3 := (Below.refl _ _).grown hgr (Nat.le_refl _) (by intro k hk; cases hk)
    have hg := hbel2.size
    have HBF := hid hb2
    obtain ⟨g, hgg⟩ : ∃ g, g = w2.heap.size := ⟨_, rfl⟩
    rw [← hgg] at hown hg hbel23 ⊢
    have HGG := hid hgg
    have hNpos : 0 < N := by rw [hN.out]; omega
    have hNle : N ≤ 2048 := by rw [hN.out]; omega
    clear hgr hb2 hbel2 ha hgg
    go_wp2
    go_loopw [7, 8] (fun i _ wr => ∃ (q : Nat) (m : List Bool), q ≤ ps.length ∧ q ≤ 30 ∧ i = .int .i64 q ∧ wr.ownsRow w.heap.size 4 1 (.slice (some ⟨g, 0, none⟩) N N) N (bls m) ∧ Below g w2 wr ∧ Below w.heap.size w wr) (fun i _ _ => 30 - (intOf i).toNat)
    case atStart => exact ⟨0, _, by omega, by omega, rfl, hown, hbel23, hbel3⟩
    case round =>
      clear hown hbel23 hbel3
      obtain ⟨q, m, hq1, hq2, rfl, hown, hbf, hbel⟩ := hrel
      by_cases hin : q < ps.length ∧ q < 30
      · obtain ⟨hq, hq3⟩ := hin
        obtain ⟨b, o, rfl, hpc⟩ := HP.out (by rintro rfl; simp at hq)
        have hcell : wr.cell? ⟨b, o + q, none⟩ = some (.int .i64 (ps.getD q 0)) := by
          rw [hbel.cell (cell_lt (hpc q hq))]; exact hpc q hq
        have hwf : (Lit.int .i64 (ps.getD q 0)).wf = true := by
          have : ps.getD q 0 = ps[q] := by simp [List.getD, hq]
          rw [this]; exact HW.out _ (List.getElem_mem hq)
        generalize ps.getD q 0 = x at *
        obtain ⟨k, hk⟩ := Int.eq_ofNat_of_zero_le (Int.emod_nonneg x (show (N : Int) ≠ 0 by omega))
        have hk2 := Int.emod_lt_of_pos x (show 0 < (N : Int) by omega)
        have HM : Hid (∀ W, Calls Try.prog 29 #[.int .i64 x, .int .i64 N] W fun r w' => r = .returned (.int .i64 k) ∧ W = w') := fun W => by
          rw [← hk]; exact mod_any x N (by omega) (by omega) hwf W
        have hkN : k < N := by omega
        clear hk hk2 hwf hpc
        have hml : m.length = N := by simpa [bls_length] using hown.1
        have hc := own_cell hown k hkN
        have hf := hown.frozenAt k
        have HO := hid (own_flip hown k)
        have HBe := hid (hbel.setCell (p := ⟨g, k, none⟩) hg (.bool (!(m.getD k false))))
        have HF := hid (hbf.setCell (p := ⟨g, k, none⟩) (Nat.le_refl _) (.bool (!(m.getD k false))))
        clear hown hbel hbf
        generalize m.getD k false = y at *
        go_wp2_with (first | (go_at_call 29; (with_reducible refine (HM.out _).mono ?_); rintro r w4 ⟨rfl, rfl⟩) | fail)
        go_roundw
        case rel => exact ⟨q + 1, bflip m k, by omega, by omega, by go_num, HO.out, HF.out, HBe.out⟩
        case measure => simp [intOf]; omega
      · have HBr := HBF.out.below hbf (by rw [HGG.out]; exact Nat.le_refl _)
        have hwr : g < wr.heap.size := (hown.lt g rfl).2
        have hml : m.length = N := by simpa [bls_length] using hown.1
        have hgo : (q < ps.length ∧ q = 30) ∨ ¬ q < ps.length := by omega
        clear hin
        rcases hgo with ⟨hq, rfl⟩ | hq
        all_goals
          go_wp2_with (at_builtin; refine wpList_app rfl _ _ 26 rfl wr.heap.size 5 i5 Try.underlying26 hi hz0 hz1 hz2 (.slice none 0 0) [] rfl (World.ownsRow_nil _ _ _ _) _ f rfl HBr ?_ ?_ ?_)
          any_goals first | omega | exact Nat.le_refl _ | (simp; omega)
          intro v5 w5 hown5 hgr5
          have hbel5 := hbel.grown hgr5 hbel.size (by intro k hk; simp [Value.ownBlock] at hk)
          have hm5 := hown.kept hgr5 (.inr (by simp [Value.ownBlock]))
          replace hown5 : w5.ownsRow wr.heap.size 5 1 v5 f.length (u8s f) := by simpa using hown5
          obtain ⟨gg, cap, hv5, hgg, hnc, hcm⟩ := own_shape hown5 hfpos
          rw [hv5] at hown5 ⊢
          unfold maxLen at hcm
          have hggw : w.heap.size ≤ gg := by have := hbel.size; omega
          clear hgr5 hv5 hown hbel hbf HBr
          go_wp2
          have hm5' : w5.ownsRow w.heap.size 4 1 (.slice (some ⟨g, 0, none⟩) N N) N (bls m) := hm5
          have hgne : g ≠ gg := by omega
          have hwrh := hid hwr
          clear hm5 hwr
          go_loopw [10, 11] (fun nv kv wx => ∃ (k : Nat) (gl : List UInt8), k ≤ N ∧ kv = .int .i64 k ∧ nv = .int .i64 (cntB m k) ∧ wx.ownsRow wr.heap.size 5 1 (.slice (some ⟨gg, 0, none⟩) f.length cap) f.length (u8s gl) ∧ Changed f gl (oddE m k) ∧ wx.ownsRow w.heap.size 4 1 (.slice (some ⟨g, 0, none⟩) N N) N (bls m) ∧ Below w.heap.size w wx) (fun _ kv _ => N - (intOf kv).toNat)
          case atStart =>
            exact ⟨0, f, by omega, rfl, rfl, hown5, ⟨rfl, fun p _ => by simp [oddE]⟩, hm5', hbel5⟩
          case round =>
            clear hown5 hbel5 hm5'
            obtain ⟨k, gl, hk, rfl, rfl, hown, hch, hm, hbel⟩ := hrel
            have hcl := cntB_le m k
            have hgl := hch.1
            have HCH := hid hch
            clear hch
            have hNf : N = 8 * f.length := hN.out
            by_cases hkN : k < N
            · have hc := own_cell hm k hkN
              have hcs : Hid (cntB m (k + 1) = cntB m k + (m.getD k false).toNat) := rfl
              cases hy : m.getD k false with
              | true =>
                have HY := hid hy
                rw [hy] at hc hcs
                clear hy
                have hc8 := ownb_cell hown (k / 8) (by omega)
                have hf8 := hown.frozenAt (k / 8)
                have hst := hid (hown.stored (k / 8) (byteV (UInt8.ofNat ((gl.getD (k / 8) 0).toNat ^^^ 2 ^ (k % 8)))))
                have HBe := hid (hbel.setCell (p := ⟨gg, k / 8, none⟩) hggw (byteV (UInt8.ofNat ((gl.getD (k / 8) 0).toNat ^^^ 2 ^ (k % 8)))))
                have HM2 := hid (hm.kept hst.out.2 (.inr (by simp [Value.ownBlock]; exact hgne)))
                have E : Hid (Value.int .u8 (bits .xor .u8 ((gl[k / 8]?.getD 0).toNat : Int) (2 ^ (k % 8) % 256)) = byteV (UInt8.ofNat ((gl.getD (k / 8) 0).toNat ^^^ 2 ^ (k % 8)))) := flip_val gl k
                replace hNf := hid hNf
                clear hown hbel hm hgl
                generalize hcn : cntB m k = cn at *
                replace hcn := hid hcn
                have h2048 : f.length ≤ 256 := hflen
                have hk8 : k / 8 < f.length := by have := hNf.out; omega
                go_wp2
                go_roundw
                case rel =>
                  rw [E.out]
                  refine ⟨k + 1, flipB gl k, by omega, by go_num, by rw [hcs.out]; go_num, ?_, ?_, HM2.out, HBe.out⟩
                  · have h := hst.out.1
                    rw [u8s_set] at h
                    exact h
                  · obtain ⟨e1, e2⟩ := HCH.out.flip k (by have := hNf.out; omega)
                    refine ⟨e1, fun p hp => ?_⟩
                    rw [e2 p hp]
                    congr 1
                    show (oddE m k p ^^ (p == k)) = oddE m (k + 1) p
                    unfold oddE
                    by_cases h : p = k
                    · subst h; have := HY.out; simp only [List.getD] at this; simp [this]
                    · have e2 : decide (p < k + 1) = decide (p < k) := by rw [decide_eq_decide]; omega
                      have e3 : (p == k) = false := by simpa using h
                      rw [e2, e3, Bool.xor_false]
                case measure => simp [intOf]; omega
              | false =>
                have HY := hid hy
                rw [hy] at hc hcs
                have HO := hid hown
                have HM2 := hid hm
                replace hNf := hid hNf
                clear hy hown hm hgl
                generalize hcn : cntB m k = cn at *
                replace hcn := hid hcn
                go_wp2
                go_roundw
                case rel =>
                  refine ⟨k + 1, gl, by omega, by go_num, by rw [hcs.out]; rfl, HO.out, ?_, HM2.out, hbel⟩
                  refine ⟨HCH.out.1, fun p hp => ?_⟩
                  rw [HCH.out.2 p hp]
                  congr 1
                  unfold oddE
                  by_cases h : p = k
                  · subst h; have := HY.out; simp only [List.getD] at this; simp [this]
                  · have e2 : decide (p < k + 1) = decide (p < k) := by rw [decide_eq_decide]; omega
                    rw [e2]
                case measure => simp [intOf]; omega
            · have hkk : k = N := by omega
              subst hkk
              have HE : Hid (cntB m k % 2 = 1 → crcChk gl = false) := by
                intro hodd
                refine chk_err f gl (oddE m k) hgl HZ.out HCH.out.2 (odd_ne _ _ ?_)
                have e1 : parE (oddE m k) (8 * f.length) = parE (fun p => m.getD p false) (8 * f.length) := parE_congr _ (fun p hp => by unfold oddE; simp; omega)
                rw [e1, ← hNf, cntB_par]
                simpa using hodd
              have hbg := hid (Bs.own hown)
              clear hown hm hgl
              replace hNf := hid hNf
              generalize cntB m k = cn at *
              by_cases hodd : cn % 2 = 1
              · have hcg := HE.out hodd
                have ho2 : ((cn : Int) % 2 == 0) = false := by simp; omega
                replace hodd := hid hodd
                go_wp2_with (first | (go_at_call 34; (with_reducible refine (crawake_any _).mono ?_); rintro r w6 ⟨rfl, hbel6⟩) | (go_at_call 42; (with_reducible refine (check_any _ gl _ (hbg.out.keep hbel6)).mono ?_); rintro r w7 ⟨rfl, hbel7⟩) | fail)
                go_ret
                exact ⟨rfl, bt (bt hbel hbel6 (Nat.le_refl _)) hbel7 (Nat.le_refl _)⟩
              · have ho2 : ((cn : Int) % 2 == 0) = true := by simp; omega
                replace hodd := hid hodd
                go_wp2_with (first | (go_at_call 34; (with_reducible refine (crawake_any _).mono ?_); rintro r w6 ⟨rfl, hbel6⟩) | fail)
                go_ret
                exact ⟨rfl, bt hbel hbel6 (Nat.le_refl _)⟩

end Go.Proofs.Ythkclnehekbpgaa
