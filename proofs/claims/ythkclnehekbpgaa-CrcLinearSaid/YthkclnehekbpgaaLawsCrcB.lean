/-
  The walks of the laws CrcExtend and CrcAppend.
-/
import Derived.Test.YthkclnehekbpgaaLawsCrc
namespace Go.Proofs.Ythkclnehekbpgaa
open Go.RowKit

theorem u16_nat {s : Int} (h : (Lit.int .u16 s).wf = true) : ∃ c : Nat, s = c ∧ c < 65536 := by
  have := bounds_u16 h
  exact ⟨s.toNat, by omega, by omega⟩

set_option maxHeartbeats 1600000 in
theorem Walk.crcExtend (s : Int) (w : World) (ws : (Lit.int .u16 s).wf = true) (va : Value) (la : List UInt8) (ha : Bs w va la) (vb : Value) (lb : List UInt8) (hb : Bs w vb lb) :
    Calls Try.prog 9 #[.int .u16 s, va, vb] w fun r w' => r = .returned (.bool true) ∧ Below w.heap.size w w' := by
  obtain ⟨i5, hi, hz0, hz1, hz2⟩ := info_parts info5
  obtain ⟨c, rfl, hc⟩ := u16_nat ws
  have HA := hid (bytes_int va la 64 w ha 64 rfl (by decide))
  have HB := hid (bytes_int vb lb 64 w hb 64 rfl (by decide))
  have hla : (la.take 64).length ≤ 64 := by simp; omega
  have hlb : (lb.take 64).length ≤ 64 := by simp; omega
  generalize la.take 64 = a at *
  generalize lb.take 64 = b at *
  clear ha hb ws
  go_enter Try.func9, Try.ntmps9
  go_wp2_with (first | (go_at_call 24; (with_reducible refine HA.out.mono ?_); rintro r w1 ⟨va', rfl, ha, rfl⟩) | (go_at_call 24; (with_reducible refine HB.out.mono ?_); rintro r w1 ⟨vb', rfl, hb, rfl⟩) | fail)
  obtain ⟨aa, ca, rfl, h1, h2, h3, h4⟩ := id ha
  unfold maxLen at h2
  have HA2 := hid ha
  have HB2 := hid hb
  have H4 := hid h4
  clear HA HB ha hb h4
  go_loop [7, 8] (fun x i => ∃ k : Nat, k ≤ a.length ∧ i = .int .i64 k ∧ x = .int .u16 (crcExt c (a.take k))) (fun _ i => a.length - (intOf i).toNat)
  case atStart => exact ⟨0, Nat.zero_le _, rfl, rfl⟩
  case round =>
    obtain ⟨k, hk, rfl, rfl⟩ := hrel
    have hn := crcExt_lt (a.take k) hc
    by_cases hlt : k < a.length
    · obtain ⟨bb, o, rfl, hcell⟩ := H4.out (by rintro rfl; simp at hlt)
      have HS := hid (crcExt_take_succ c a k hlt)
      generalize crcExt c (a.take k) = n at *
      have hx := byte_lt (a.getD k 0)
      have hcl := hcell k hlt
      clear hcell
      generalize (a.getD k 0).toNat = x at *
      go_wp2_with (go_at_call 37; refine (upd_any _ _ hn hx _).mono ?_; rintro r w' ⟨rfl, rfl⟩)
      go_round
      case rel => exact ⟨k + 1, by omega, by go_num, by rw [HS.out]⟩
      case measure => simp [intOf]; omega
    · have hk2 : k = a.length := by omega
      subst hk2
      obtain ⟨x, hx, hxlt⟩ : ∃ x, x = crcExt c (a.take a.length) ∧ x < 65536 := ⟨_, rfl, hn⟩
      rw [← hx]
      have HX : Hid (x = crcExt c a) := by rw [hx, List.take_length]; exact rfl
      clear hx hn
      go_wp2_with (at_builtin; refine wpList_app rfl _ _ 26 rfl w.heap.size 5 i5 Try.underlying26 hi hz0 hz1 hz2 (.slice none 0 0) [] rfl (World.ownsRow_nil _ _ _ _) _ a rfl HA2.out ?c1 ?c2 ?c3)
      any_goals first | omega | exact Nat.le_refl _ | (simp; omega)
      case c3 =>
        intro v1 w2 hown hgr
        have hbel2 := (Below.refl w.heap.size w).grown hgr (Nat.le_refl _) (by intro k hk; simp [Value.ownBlock] at hk)
        replace hown : w2.ownsRow w.heap.size 5 1 v1 a.length (u8s a) := by simpa using hown
        clear hgr
        have hb2 := HB2.out.keep hbel2
        go_wp2_with (at_builtin; refine wpList_app rfl _ _ 26 rfl w.heap.size 5 i5 Try.underlying26 hi hz0 hz1 hz2 v1 a rfl hown _ b rfl hb2 ?d1 ?d2 ?d3)
        any_goals first | omega | exact hbel2.size
        case d3 =>
          intro v2 w3 hown3 hgr3
          have hbel3 := hbel2.grown hgr3 hbel2.size (fun b hb => (hown.lt b hb).1)
          have HBo := hid (Bs.own hown3)
          have HA3 := hid (HA2.out.keep hbel3)
          have HB3 := hid (HB2.out.keep hbel3)
          have e1 : crcExt c a = x := HX.out.symm
          have e2 : crcExt c (a ++ b) = crcExt x b := by rw [crcExt_append, e1]
          have e3 : crcExt 65535 (a ++ b) = crcExt (crcExt 65535 a) b := crcExt_append _ _ _
          have hs := crcExt_lt a (show 65535 < 65536 by decide)
          have E : Hid (crcExt c a = x ∧ crcExt c (a ++ b) = crcExt x b ∧ crcExt 65535 (a ++ b) = crcExt (crcExt 65535 a) b) := ⟨e1, e2, e3⟩
          clear hown hown3 hgr3 e1 e2 e3 hb2
          have C1 : ∀ W, Below w3.heap.size w3 W → Calls Try.prog 38 #[.int .u16 c, .slice aa a.length ca] W fun r w' => r = .returned (.int .u16 x) ∧ W = w' := fun W hW => by
            rw [← E.out.1]; exact ext_any c hc _ _ W (HA3.out.keep hW)
          have C2 : ∀ W, Below w3.heap.size w3 W → Calls Try.prog 38 #[.int .u16 c, v2] W fun r w' => r = .returned (.int .u16 (crcExt x b)) ∧ W = w' := fun W hW => by
            rw [← E.out.2.1]; exact ext_any c hc _ _ W (HBo.out.keep hW)
          have C3 : ∀ W, Below w3.heap.size w3 W → Calls Try.prog 38 #[.int .u16 x, vb'] W fun r w' => r = .returned (.int .u16 (crcExt x b)) ∧ W = w' := fun W hW => ext_any x hxlt _ _ W (HB3.out.keep hW)
          have C4 : ∀ W, Below w3.heap.size w3 W → Calls Try.prog 35 #[v2] W fun r w' => r = .returned (.int .u16 (crcExt (crcExt 65535 a) b)) ∧ W = w' := fun W hW => by
            rw [← E.out.2.2]; exact sum_any _ _ W (HBo.out.keep hW)
          have C5 : ∀ W, Below w3.heap.size w3 W → Calls Try.prog 35 #[.slice aa a.length ca] W fun r w' => r = .returned (.int .u16 (crcExt 65535 a)) ∧ W = w' := fun W hW => sum_any _ _ W (HA3.out.keep hW)
          have C6 : ∀ W, Below w3.heap.size w3 W → Calls Try.prog 38 #[.int .u16 (crcExt 65535 a), vb'] W fun r w' => r = .returned (.int .u16 (crcExt (crcExt 65535 a) b)) ∧ W = w' := fun W hW => ext_any _ hs _ _ W (HB3.out.keep hW)
          replace C1 := hid C1
          replace C2 := hid C2
          replace C3 := hid C3
          replace C4 := hid C4
          replace C5 := hid C5
          replace C6 := hid C6
          go_wp2_with (first | (go_at_call 34; (with_reducible refine (crawake_any _).mono ?_); rintro r w4 ⟨rfl, hbel4⟩) | (go_at_call 38; (with_reducible refine (C1.out _ hbel4).mono ?_); rintro r w5 ⟨rfl, rfl⟩) | (go_at_call 38; (with_reducible refine (C2.out _ hbel4).mono ?_); rintro r w5 ⟨rfl, rfl⟩) | (go_at_call 38; (with_reducible refine (C3.out _ hbel4).mono ?_); rintro r w5 ⟨rfl, rfl⟩) | (go_at_call 35; (with_reducible refine (C4.out _ hbel4).mono ?_); rintro r w5 ⟨rfl, rfl⟩) | (go_at_call 35; (with_reducible refine (C5.out _ hbel4).mono ?_); rintro r w5 ⟨rfl, rfl⟩) | (go_at_call 38; (with_reducible refine (C6.out _ hbel4).mono ?_); rintro r w5 ⟨rfl, rfl⟩) | fail)
          go_ret
          exact ⟨rfl, bt hbel3 hbel4 (Nat.le_refl _)⟩

set_option maxHeartbeats 1600000 in
theorem Walk.crcAppend (v : Value) (l : List UInt8) (w : World) (hv : Bs w v l) (raw : Bool) :
    Calls Try.prog 10 #[v, .bool raw] w fun r w' => r = .returned (.bool true) ∧ Below w.heap.size w w' := by
  have HB := hid (bytes_int v l 64 w hv 64 rfl (by decide))
  have hl : (l.take 64).length ≤ 64 := by simp; omega
  generalize l.take 64 = a at *
  have hz := tail_zero a
  have hc := chk_tail a
  clear hv
  go_enter Try.func10, Try.ntmps10
  go_wp2_with (first | (go_at_call 24; (with_reducible refine HB.out.mono ?_); rintro r w1 ⟨v1, rfl, ha, rfl⟩) | (go_at_call 39; refine (append_any _ _ _ ha (by omega)).mono ?_; rintro r w2 ⟨v2, rfl, hown2, hbel2⟩) | (go_at_call 41; refine (rappend_any2 _ _ _ (ha.keep hbel2) (by omega)).mono ?_; rintro r w3 ⟨v3, rfl, hown3, hbel3⟩) | (go_at_call 40; refine (eq_any _ _ _ _ _ ((Bs.own hown2).keep hbel3) (Bs.own hown3)).mono ?_; rintro r w4 ⟨rfl, rfl⟩) | (go_at_call 42; (with_reducible refine (check_any v2 _ _ ((Bs.own hown2).keep hbel3)).mono ?_); rintro r w5 ⟨rfl, hbel5⟩) | (go_at_call 35; (with_reducible refine (sum_any v2 _ _ (((Bs.own hown2).keep hbel3).keep hbel5)).mono ?_); rintro r w6 ⟨rfl, rfl⟩) | (go_at_call 34; (with_reducible refine (crawake_any _).mono ?_); rintro r w7 ⟨rfl, hbel7⟩) | (go_at_call 42; (with_reducible refine (check_any v1 _ _ ((((ha.keep hbel2).keep hbel3).keep hbel5).keep hbel7)).mono ?_); rintro r w8 ⟨rfl, hbel8⟩) | (go_at_call 43; (with_reducible refine (rcheck_any2 v1 _ _ (((((ha.keep hbel2).keep hbel3).keep hbel5).keep hbel7).keep hbel8) (by omega)).mono ?_); rintro r w9 ⟨rfl, hbel9⟩) | fail)
  go_ret
  refine ⟨rfl, ?_⟩
  repeat (first | exact Below.refl _ _ | refine btd ?_ | refine bta ?_ (Nat.le_refl _) _ | refine bt ?_ (by assumption) (Nat.le_refl _))

end Go.Proofs.Ythkclnehekbpgaa
