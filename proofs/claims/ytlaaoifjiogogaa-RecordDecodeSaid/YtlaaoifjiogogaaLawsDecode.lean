/-
  The walk of the law RecordDecode.
-/
import Derived.Test.YtlaaoifjiogogaaLawsRound
import Derived.Test.YtlaaoifjiogogaaMrlst
import Derived.Test.YtlaaoifjiogogaaRdec3
import Derived.Test.YtlaaoifjiogogaaMenc
import Derived.Laws.OwnMore
namespace Go.Proofs.Ytlaaoifjiogogaa
open Go.RowKit

theorem u8s_set (l : List UInt8) (i : Nat) (x : UInt8) : (u8s l).set i (byteV x) = u8s (l.set i x) := by simp [u8s, List.map_set]

theorem ownb_cell {w : World} {base : Nat} {e : TypeId} {g n cap : Nat} {l : List UInt8} (h : w.ownsRow base e 1 (.slice (some ⟨g, 0, none⟩) n cap) n (u8s l)) (i : Nat) (hi : i < n) :
    w.cell? ⟨g, i, none⟩ = some (.int .u8 ((l.getD i 0).toNat : Int)) := by
  have hl : l.length = n := by simpa using h.1
  rw [h.cellAt i (by omega), u8s_get l i (by omega)]

theorem u8_nat {s : Int} (h : (Lit.int .u8 s).wf = true) : ∃ X : UInt8, s = (X.toNat : Int) := by
  have := bounds_u8 h
  exact ⟨UInt8.ofNat s.toNat, by rw [UInt8.toNat_ofNat']; omega⟩

/-- What holds where the ways to the bytes meet. -/
def LdRel (w : World) (v : Value) (wc : World) : Prop :=
  ∃ (a : Option Addr) (n c : Nat) (l : List UInt8), v = .slice a n c ∧ Bs wc (.slice a n c) l ∧ n ≤ 1000000000 ∧ Below w.heap.size w wc

set_option maxRecDepth 100000 in
set_option maxHeartbeats 12800000 in
theorem Walk.recordDecode {w : World} (a0 : Option Addr) (n0 c0 : Nat) (l0 : List UInt8) (w0 : Bs w (.slice a0 n0 c0) l0) (a1 : Option Addr) (n1 c1 : Nat) (w1 : Rd Try.prog w 33 [.slice a1 n1 c1]) (b2 : Bool) (x3 : Int) (h3 : (Lit.int .i64 x3).wf = true) (x4 : Int) (h4 : (Lit.int .u8 x4).wf = true) (b5 : Bool) :
    Calls Try.prog 5 #[.slice a0 n0 c0, .slice a1 n1 c1, .bool b2, .int .i64 x3, .int .u8 x4, .bool b5] w fun r w' => r = .returned (.bool true) ∧ Below w.heap.size w w' := by
  go_enter Try.func5, Try.ntmps5
  have HW1 := hid (ocs_rd w1)
  have HW0 := hid w0
  clear w0 w1
  have HBY := hid (bytes_int (.slice a0 n0 c0) l0 80 w HW0.out 80 rfl (by decide))

  go_upto_if 23 with (go_at_call 22; (with_reducible refine HBY.out.mono ?_); rintro r wA ⟨vA, rfl, hBA, rfl⟩; obtain ⟨aA, cA, rfl, _⟩ := id hBA)
  have HBA := hid hBA
  go_cut [0] from 13 to 50 (fun s0 wc => LdRel w s0 wc)
  case first =>
    rw [show (l0.take 80).length = min 80 l0.length from List.length_take ..] at HBA
    cases b2 with
    | true =>
      go_wp2
      go_meet
      case rel => exact ⟨aA, _, cA, _, rfl, HBA.out, by omega, Below.refl _ _⟩
    | false =>
      obtain ⟨l1, hl1⟩ := HW1.out
      have HL1 := hid hl1
      clear hl1
      obtain ⟨V, hV⟩ : ∃ V, smallOcs l1 8 = V := ⟨_, rfl⟩
      have HM := hid (mocs_any (.slice a1 n1 c1) l1 8 w HL1.out V hV)
      clear hV
      go_wp2_with fail
      refine HM.out.mono ?_
      rintro r w2 ⟨rfl, hb2⟩
      cases V with
      | false =>
        go_wp2_with (go_at_call 11; (with_reducible refine (recawake_any _).mono ?_); rintro r w3 ⟨rfl, hb3⟩)
        go_ret
        exact ⟨rfl, bt hb2 hb3 (Nat.le_refl _)⟩
      | true =>
        go_wp2_with fail
        refine (refEncode_own _ l1 w2 (HL1.out.keep hb2)).mono ?_
        rintro r w3 hp3
        cases hok : okL l1 with
        | false =>
          obtain ⟨rfl, hb3⟩ := hp3.2 hok
          have hbw3 := bt hb2 hb3 (Nat.le_refl _)
          obtain ⟨e, he⟩ : ∃ e, encErr l1 = e := ⟨_, rfl⟩
          have hbd := encErr_bd l1
          rw [he] at hbd ⊢
          obtain ⟨hbd1, hbd2⟩ := hbd
          have he0 : (e != 0) = true := by rw [bne_iff_ne]; omega
          clear hp3 hok hb2 hb3 he
          go_wp2_with (go_at_call 11; (with_reducible refine (recawake_any _).mono ?_); rintro r w4 ⟨rfl, hb4⟩)
          go_ret
          exact ⟨rfl, bt hbw3 hb4 (Nat.le_refl _)⟩
        | true =>
          obtain ⟨a3, c3, rfl, hown, h20, hb3⟩ := hp3.1 hok
          have hbw3 := bt hb2 hb3 (Nat.le_refl _)
          have hL1 : 1 ≤ (encL l1).length := by simp [encL]
          clear hp3 hok hb3
          generalize encL l1 = L at *
          obtain ⟨g, rfl⟩ : ∃ g, a3 = some ⟨g, 0, none⟩ := by
            rcases hown.2 with ⟨h1, h2⟩ | ⟨g, cap, cur, hv, _⟩
            · omega
            · cases hv; exact ⟨_, rfl⟩
          have hBs := Bs.own hown
          obtain ⟨_, hnc3, hcm3⟩ := hBs.capOf
          unfold maxLen at hcm3
          obtain ⟨N, hN⟩ : ∃ N, L.length = N := ⟨_, rfl⟩
          rw [hN] at hown h20 hL1 hnc3 ⊢
          have hi1 := Int.emod_nonneg x3 (show (N : Int) ≠ 0 by omega)
          have hi2 := Int.emod_lt_of_pos x3 (show 0 < (N : Int) by omega)
          obtain ⟨k, hk⟩ := Int.eq_ofNat_of_zero_le hi1
          have HM2 : Hid (Calls Try.prog 23 #[.int .i64 x3, .int .i64 N] w3 fun r w' => r = .returned (.int .i64 k) ∧ w3 = w') := by
            show Calls _ _ _ _ _
            rw [← hk]; exact mod_any x3 _ (by omega) (by omega) h3 w3
          have hk2 : k < N := by omega
          have hc1 := ownb_cell hown k hk2
          have hf1 := hown.frozenAt k
          obtain ⟨X, rfl⟩ := u8_nat h4
          have hst := (hown.stored k (byteV X)).1
          rw [u8s_set] at hst
          have HBB := hid (Bs.own hst)
          have hg : w.heap.size ≤ g := Nat.le_trans hb2.size (hown.lt g rfl).1
          have HBL := hid (hbw3.setCell (p := ⟨g, k, none⟩) hg (byteV X))
          have hpre : ∀ W, (Instr.slice 22 (.slice (some ⟨g, 0, none⟩) N c3) none (some (.int .i64 k)) none).run Try.prog W = .ok (.slice (some ⟨g, 0, none⟩) k c3) W := by
            obtain ⟨i5, hi, hz0, hz1, hz2⟩ := info_parts infoB
            exact fun W => run_pre Try.underlying22 hi _ N c3 k (by omega) W
          have hkN : (k : Int) < (N : Int) := by omega
          have hk0 : (0 : Int) ≤ (k : Int) := by omega
          clear hown hst hBs hi1 hi2 hk h3 h4
          go_wp2_with fail
          refine HM2.out.mono ?_
          rintro r w4 ⟨rfl, rfl⟩
          cases b5 with
          | false =>
            go_wp2
            go_meet
            case rel => exact ⟨_, N, c3, _, rfl, HBB.out, by omega, HBL.out⟩
          | true =>
            go_wp2
            go_meet
            case rel => exact ⟨_, k, c3, _, rfl, HBB.out.takeS (by omega), by omega, HBL.out⟩
  case rest =>
    obtain ⟨a, n, c, l, rfl, hB, hn, hbw⟩ := hcut
    have HB := hid hB
    clear hB
    go_wp2_with fail
    refine (recDecode_any _ _ _ l wc HB.out (hid fun a n c b w h => rdec_any a n c b w h)).mono ?_
    rintro r w4 hp4
    rcases hp4 with ⟨m, v, hm, rfl, hO, hb4⟩ | ⟨hm, rfl, hb4⟩
    · have HM := hid hm
      have hbw4 := bt hbw hb4 (Nat.le_refl _)
      have HO := hid hO
      obtain ⟨va, vc, rfl, _⟩ := id HO.out
      have HB4 := hid (HB.out.keep hb4)
      clear hm hO hb4
      go_wp2_with fail
      refine (rdecode_any _ _ _ l w4 HB4.out hn (hid fun a n c b w h => xdec_any a n c b w h)).mono ?_
      rintro r w5 hp5
      rcases hp5 with ⟨m5, v5, hm5, rfl, hO5, hb5⟩ | ⟨hm5, _⟩
      · rw [HM.out] at hm5
        cases hm5
        have hbw5 := bt hbw4 hb5 (Nat.le_refl _)
        have HO5 := hid hO5
        have HO4 := hid (HO.out.keep hb5)
        obtain ⟨va5, vc5, rfl, _⟩ := id HO5.out
        clear hO5 hb5
        go_wp2_with fail
        refine (recawake_any _).mono ?_
        rintro r w6 ⟨rfl, hb6⟩
        have hbw6 := bt hbw5 hb6 (Nat.le_refl _)
        have HO6 := hid (HO4.out.keep hb6)
        have HO7 := hid (HO5.out.keep hb6)
        clear hb6
        go_wp2_with fail
        refine (sameL_any _ _ m w6 HO6.out HO7.out).mono ?_
        rintro r w7 ⟨rfl, hb7⟩
        go_wp2
        go_ret
        exact ⟨rfl, bt hbw6 hb7 (Nat.le_refl _)⟩
      · rw [HM.out] at hm5
        cases hm5
    · have hbw4 := bt hbw hb4 (Nat.le_refl _)
      have HM := hid hm
      have HB4 := hid (HB.out.keep hb4)
      clear hm hb4
      go_wp2_with fail
      refine (rdecode_any _ _ _ l w4 HB4.out hn (hid fun a n c b w h => xdec_any a n c b w h)).mono ?_
      rintro r w5 hp5
      rcases hp5 with ⟨m5, v5, hm5, _⟩ | ⟨hm5, rfl, hb5⟩
      · rw [HM.out] at hm5
        cases hm5
      · have hbw5 := bt hbw4 hb5 (Nat.le_refl _)
        have HO6 : Hid (Ocs w5 (.slice none 0 0) []) := Sls.nil w5
        clear hb5
        go_wp2_with fail
        refine (recawake_any _).mono ?_
        rintro r w6 ⟨rfl, hb6⟩
        have hbw6 := bt hbw5 hb6 (Nat.le_refl _)
        have HO7 := hid (HO6.out.keep hb6)
        clear hb6
        go_wp2_with fail
        refine (sameL_any _ _ [] w6 HO7.out HO7.out).mono ?_
        rintro r w7 ⟨rfl, hb7⟩
        go_wp2
        go_ret
        exact ⟨rfl, bt hbw6 hb7 (Nat.le_refl _)⟩
end Go.Proofs.Ytlaaoifjiogogaa
