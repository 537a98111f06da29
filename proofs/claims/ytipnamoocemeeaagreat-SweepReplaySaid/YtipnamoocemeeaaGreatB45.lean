/-
  Texts 45 of the claim.
-/
import Derived.Test.YtipnamoocemeeaaGreatB06
import Derived.Test.YtipnamoocemeeaaGreatB03
import Derived.Test.YtipnamoocemeeaaGreatB01
import Derived.Deep.RegionLaw
import Derived.Deep.RegionHeld3
import Derived.Deep.CutBlock
import Derived.Deep.CutRange
/-
  The contract of reply.decodeDevice.
-/
namespace Go.Proofs.YtipnamoocemeeaaGreat
open Go.RowKit
/-- What the device identification's bytes come to, once its objects are read. -/
def devTail (b : List UInt8) : Option (List Ob × List UInt8) → Option Rp
  | some (l, []) => if (Rp.devOf b l).ok = true ∧ (bAt b 4 = 0 ∨ bAt b 4 = 255) then some (Rp.devOf b l) else none
  | _ => none
theorem decDev_eq {b : List UInt8} (h : 7 ≤ b.length) (h1 : bAt b 1 = 14) : decDev b = devTail b (decObs (bAt b 6).toNat (b.drop 7)) := by
  unfold decDev
  rw [if_neg (by omega)]
  rfl
theorem decObs_short {m : Nat} {rest : List UInt8} (h : rest.length < 2) : decObs (m + 1) rest = none := by
  match rest, h with
  | [], _ => rfl
  | [_], _ => rfl
theorem decObs_long {m : Nat} {rest : List UInt8} (h : (rest.length : Int) < 2 + bAt rest 1) : decObs (m + 1) rest = none := by
  match rest, h with
  | [], _ => rfl
  | [_], _ => rfl
  | i :: n :: r, h =>
    have e : bAt (i :: n :: r) 1 = (n.toNat : Int) := rfl
    rw [e] at h
    simp only [List.length_cons] at h
    unfold decObs
    rw [if_neg (by omega)]
theorem decObs_step {m : Nat} {rest : List UInt8} (h2 : 2 ≤ rest.length) {q : Nat} (hq : bAt rest 1 = (q : Int)) (h : 2 + q ≤ rest.length) :
    decObs (m + 1) rest = (decObs m (rest.drop (2 + q))).map fun p => (⟨bAt rest 0, (rest.take (2 + q)).drop 2⟩ :: p.1, p.2) := by
  match rest, h2, hq, h with
  | i :: n :: r, _, hq, h =>
    have e : bAt (i :: n :: r) 1 = (n.toNat : Int) := rfl
    rw [e] at hq
    have hn : n.toNat = q := by omega
    simp only [List.length_cons] at h
    have e0 : decObs (m + 1) (i :: n :: r) = (decObs m (r.drop q)).map fun p => (⟨(i.toNat : Int), r.take q⟩ :: p.1, p.2) := by
      rw [← hn]
      show (if n.toNat ≤ r.length then _ else _) = _
      rw [if_pos (by omega)]
    have e1 : (i :: n :: r).drop (2 + q) = r.drop q := by rw [Nat.add_comm]; rfl
    have e2 : ((i :: n :: r).take (2 + q)).drop 2 = r.take q := by rw [Nat.add_comm]; rfl
    rw [e0, e1, e2]
    rfl

end Go.Proofs.YtipnamoocemeeaaGreat

/-
  The contract of modscanref10.objects.
-/
namespace Go.Proofs.YtipnamoocemeeaaGreat
open Go.RowKit

/-- What the reference's reader of objects leaves. -/
def RobPost (w : World) (o : Option (List Ob × List UInt8)) (r : Ending) (w' : World) : Prop :=
  (∃ l oa oc, o = some (l, []) ∧ r = .returned (.tuple #[.slice oa l.length oc, .bool true]) ∧ (∀ W, Agree w.heap.size w' W → Obs W (.slice oa l.length oc) l) ∧ Below w.heap.size w w') ∨
  (∃ oa n oc, (∀ l, o ≠ some (l, [])) ∧ r = .returned (.tuple #[.slice oa n oc, .bool false]) ∧ Below w.heap.size w w')

/-- What holds at the head of a round. -/
structure RbRel (w wr : World) (b : List UInt8) (n k : Nat) (acc : List Ob) (ra : Option Addr) (rc : Nat) (rest : List UInt8) (v : Value) (cs : List Value) : Prop where
  len : acc.length = k
  bs : Bs w (.slice ra rest.length rc) rest
  own : wr.ownsRow w.heap.size 156 2 v k cs
  rows : CsL 2 (ObQF (DevF w.heap.size v) wr) cs acc
  bel : Below w.heap.size w wr
  eq : decObs n b = (decObs (n - k) rest).map fun p => (acc ++ p.1, p.2)

set_option maxRecDepth 100000 in
set_option maxHeartbeats 12800000 in
theorem robjects_any (a : Option Addr) (bn c : Nat) (b : List UInt8) (n : Nat) (w : World) (hb : Bs w (.slice a bn c) b) (hl : bn ≤ 1000) (hn : n ≤ 255) :
    Calls Tryz.prog 137 #[.slice a bn c, .int .i64 n] w (RobPost w (decObs n b)) := by
  obtain ⟨i5, hi, hz0, hz1, hz2⟩ := info_parts infoB
  obtain ⟨iO, hiO, hzO0, hzO1, hzO2⟩ := info_parts infoOb
  obtain ⟨hbn, hnc, hcm⟩ := hb.capOf
  subst hbn
  have HREL0 : Hid (RbRel w w b n 0 [] a c b (.slice none 0 0) []) := ⟨rfl, hb, World.ownsRow_nil _ _ _ _, rfl, Below.refl _ _, by simp⟩
  clear hb hcm hnc
  obtain ⟨bn, hbn⟩ : ∃ bn, b.length = bn := ⟨_, rfl⟩
  rw [hbn] at hl ⊢
  replace hbn := hid hbn
  go_enter Tryz.func137, Tryz.ntmps137
  go_wp2_with fail
  go_loopw [0, 6, 7] (fun bv ov kv wr => ∃ (k : Nat) (acc : List Ob) (ra oa : Option Addr) (rc oc rn : Nat) (rest : List UInt8) (cs : List Value), k ≤ n ∧ kv = .int .i64 k ∧ bv = .slice ra rn rc ∧ ov = .slice oa k oc ∧ rn ≤ 1000 ∧ Hid (rest.length = rn) ∧ Hid (RbRel w wr b n k acc ra rc rest (.slice oa k oc) cs)) (fun _ _ kv _ => n - (intOf kv).toNat)
  case atStart => exact ⟨0, [], a, none, c, 0, bn, b, [], Nat.zero_le _, rfl, rfl, rfl, hl, hbn.out, HREL0.out⟩
  case round =>
    clear HREL0
    obtain ⟨k, acc, ra, oa, rc, oc, rn, rest, cs, hk, rfl, rfl, rfl, hrl, hrn, hR⟩ := hrel
    have hbw := hR.out.bel
    by_cases hlt : k < n
    · have hkl : (k : Int) < (n : Int) := by omega
      obtain ⟨m, hm⟩ : ∃ m, n - k = m + 1 := ⟨n - k - 1, by omega⟩
      have hbs := hR.out.bs
      rw [hrn.out] at hbs
      by_cases hs2 : rn < 2
      · have HN : Hid (∀ l, decObs n b ≠ some (l, [])) := fun l h => by
          rw [hR.out.eq, hm, decObs_short (by rw [hrn.out]; exact hs2)] at h
          cases h
        clear hbs hm
        go_wp2
        go_ret2
        exact .inr ⟨none, 0, 0, HN.out, rfl, hbw⟩
      · obtain ⟨rb, ro, rfl, y0c⟩ := hbs.byte (i := 0) (by omega)
        obtain ⟨rb', ro', hra', y1c⟩ := hbs.byte (i := 1) (by omega)
        cases hra'
        obtain ⟨b0, b0'⟩ := bAt_bd rest 0
        obtain ⟨q, hq⟩ := Int.eq_ofNat_of_zero_le (bAt_bd rest 1).1
        have b1' := (bAt_bd rest 1).2
        rw [hq] at b1'
        have c0 : wr.cell? ⟨rb, ro, none⟩ = some (.int .u8 (bAt rest 0)) := cell_keep hbw y0c
        have c1 : wr.cell? ⟨rb, ro + 1, none⟩ = some (.int .u8 (q : Int)) := by rw [← hq]; exact cell_keep hbw y1c
        have hrbl : rb < w.heap.size := cell_lt y0c
        have uq : IntKind.i64.wrap (q : Int) = (q : Int) := IntWalk.i64_in _ (by omega)
        have uy : IntKind.i64.wrap (bAt rest 0) = bAt rest 0 := IntWalk.i64_in _ (by omega)
        by_cases hs3 : (rn : Int) - 2 < (q : Int)
        · have HN : Hid (∀ l, decObs n b ≠ some (l, [])) := fun l h => by
            rw [hR.out.eq, hm, decObs_long (by rw [hrn.out, hq]; omega)] at h
            cases h
          clear hbs hm y0c y1c hq
          generalize bAt rest 0 = y0 at *
          go_wp2
          go_ret2
          exact .inr ⟨none, 0, 0, HN.out, rfl, hbw⟩
        · have hs4 : 2 + q ≤ rn := by omega
          obtain ⟨-, hrnc, hrcm⟩ := hbs.capOf
          unfold maxLen at hrcm
          obtain ⟨Y0, hY0⟩ : ∃ x, cutA (some ⟨rb, ro, none⟩) rc 2 = x := ⟨_, rfl⟩
          obtain ⟨R2, hR2⟩ : ∃ x, cutA (some ⟨rb, ro, none⟩) rc (2 + q) = x := ⟨_, rfl⟩
          have HY := hid (show Bs w (.slice Y0 q (rc - 2)) ((rest.take (2 + q)).drop 2) by
            rw [← hY0]
            have := hbs.cut (i := 2) (k := 2 + q) (by omega) hs4
            rwa [show 2 + q - 2 = q by omega] at this)
          have HR2 := hid (show Bs w (.slice R2 (rn - (2 + q)) (rc - (2 + q))) (rest.drop (2 + q)) by rw [← hR2]; exact hbs.dropS hs4)
          have hcut : ∀ W, (Instr.slice 50 (.slice (some ⟨rb, ro, none⟩) rn rc) (some (.int .i64 2)) (some (.int .i64 (2 + (q : Int)))) none).run Tryz.prog W = .ok (.slice Y0 q (rc - 2)) W := fun W => by
            have h := run_cut (P := Tryz.prog) Tryz.underlying50 hi hz1 (some ⟨rb, ro, none⟩) rn rc 2 (2 + q) (by omega) (by omega) W
            rw [hY0, show 2 + q - 2 = q by omega, show ((2 + q : Nat) : Int) = 2 + (q : Int) by omega] at h
            exact h
          have hdrp : ∀ W, (Instr.slice 50 (.slice (some ⟨rb, ro, none⟩) rn rc) (some (.int .i64 (2 + (q : Int)))) none none).run Tryz.prog W = .ok (.slice R2 (rn - (2 + q)) (rc - (2 + q))) W := fun W => by
            have h := run_drop (P := Tryz.prog) Tryz.underlying50 hi hz1 (some ⟨rb, ro, none⟩) rn rc (2 + q) (by omega) W
            rw [hR2, show ((2 + q : Nat) : Int) = 2 + (q : Int) by omega] at h
            exact h
          obtain ⟨Y, hYe⟩ : ∃ Y, (rest.take (2 + q)).drop 2 = Y := ⟨_, rfl⟩
          have hYl : Y.length = q := by rw [← hYe]; have := hrn.out; simp; omega
          have HD2 : Hid (decObs n b = (decObs (n - (k + 1)) (rest.drop (2 + q))).map fun p => (acc ++ [⟨bAt rest 0, Y⟩] ++ p.1, p.2)) := by
            show _ = _
            rw [hR.out.eq, hm, decObs_step (by rw [hrn.out]; omega) hq (by rw [hrn.out]; exact hs4), hYe, show n - (k + 1) = m by omega, Option.map_map]
            congr 1
            funext p
            simp
          have hln2 := hid (show (rest.drop (2 + q)).length = rn - (2 + q) by have := hrn.out; simp; omega)
          rw [hYe] at HY
          have HYL := hid hYl
          have s0 : wr.drew.cell? ⟨rb, ro, none⟩ = some (.int .u8 (bAt rest 0)) := c0
          have kd : Below wr.heap.size wr wr.drew := (Below.refl _ _).drew
          have hrn0 : (0 : Int) < (rn : Int) := by omega
          have hrnN : 0 < rn := by omega
          have HYW := hid (HY.out.keep (bt hbw kd (Nat.le_refl _)))
          have HYS := hid (show ([] : List UInt8).length + Y.length ≤ 140737488355328 by rw [hYl]; simp; omega)
          clear hm hY0 hR2 hYe hYl hbs hq y0c y1c
          generalize hy0 : bAt rest 0 = y0 at *
          clear hy0
          go_wp2_with fail
          go_region_held3 (fun W => W.cell? ⟨rb, ro, none⟩ = some (.int .u8 y0)) ((first | exact s0 | assumption | exact cell_keep (bal'' _ _) (by assumption)))
            ((first
              | (refine step_appB rfl (.const (.slice none 0 0)) (.tmp 39) 50 rfl wr.heap.size 5 i5 Tryz.underlying50 hi hz0 hz1 hz2 (.slice none 0 0) [] rfl (World.ownsRow_nil _ _ _ _) (.slice Y0 q (rc - 2)) Y rfl HYW.out HYS.out (Nat.le_refl _) ?_; intro v5 w5 hown5 hgr5 _; have hb5 : Below wr.heap.size wr w5 := kd.grown hgr5 (Nat.le_refl _) (fun k hk => by cases hk); replace hown5 : w5.ownsRow wr.heap.size 5 1 v5 q (u8s Y) := (by rw [← HYL.out]; simpa using hown5); obtain ⟨a5, c5, rfl⟩ := own_slice hown5; have s5 : w5.cell? ⟨rb, ro, none⟩ = some (.int .u8 y0) := cell_keep hb5 c0)
              | (refine step_appN rfl (.tmp 32) (.tmp 42) 51 rfl w.heap.size 156 iO _ 2 32 Tryz.underlying51 hiO hzO0 hzO1 hzO2 rfl (by decide) (.slice oa k oc) k cs rfl ((own_keeps hR.out.own (Keeps.of_below (F := fun _ => False) hb5) (fun _ _ f => f)).alloc (.cells #[.int .i64 y0, .slice a5 q c5] 156)) ⟨w5.heap.size, 0, none⟩ 1 1 [.int .i64 y0, .slice a5 q c5] rfl rfl (newsNew w5 [.int .i64 y0, .slice a5 q c5] _) (by intro u hu; simp at hu; rcases hu with rfl | rfl <;> rfl) (by unfold maxLen; omega) (by omega) (by have := hb5.size; have := hbw.size; simp; omega) ?_; intro v6 w6 hown6 hgr6 hnew6; obtain ⟨a6, c6, rfl⟩ := own_slice hown6; have hS := devStep (B := w.heap.size) (y0 := y0) hbw.size hR.out.own hR.out.rows hb5 HYL.out hown5 hgr6 hnew6; have s6 : w6.cell? ⟨rb, ro, none⟩ = some (.int .u8 y0) := (by rw [World.cell?_of_block (w := wr) (hS.2.2 rb hrbl)]; exact c0))))
          have HNX : Hid (RbRel w w6 b n (k + 1) (acc ++ [⟨y0, Y⟩]) R2 (rc - (2 + q)) (rest.drop (2 + q)) (.slice a6 (k + 1) c6) (cs ++ [.int .i64 y0, .slice a5 q c5])) := by
            obtain ⟨hS1, hS2, hS3⟩ := hS
            exact ⟨by simp [hR.out.len], by rw [hln2.out]; exact HR2.out, hown6, hS1, hbw.trans ⟨hS2.os, hS2.tape, hS2.output, hS2.size, hS3⟩, HD2.out⟩
          clear hS hown6 hgr6 hnew6 hown5 hgr5 s0 s5 s6
          go_wp2
          go_roundw
          case rel => exact ⟨k + 1, acc ++ [⟨y0, Y⟩], R2, a6, rc - (2 + q), c6, rn - (2 + q), rest.drop (2 + q), _, by omega, by go_num, rfl, rfl, by omega, hln2.out, HNX⟩
          case measure => simp [intOf]; omega
    · have hkl : ¬ (k : Int) < (n : Int) := by omega
      have heq := hR.out.eq
      rw [show n - k = 0 by omega] at heq
      have heq' : decObs n b = some (acc, rest) := by rw [heq]; simp [decObs]
      clear heq
      by_cases hr0 : rn = 0
      · subst hr0
        have HS : Hid (decObs n b = some (acc, [])) := by
          show _ = _
          rw [heq', List.eq_nil_of_length_eq_zero hrn.out]
        have HOB : Hid (∀ W, Agree w.heap.size wr W → Obs W (.slice oa k oc) acc) := fun W hW => Obs.of_csl (own_agree (B := w.heap.size) hR.out.own (Nat.le_refl _) hW) (CsL.mono (fun r x h => ObQF.agree (B := w.heap.size) (Nat.le_refl _) hW r x h) _ _ hR.out.rows) hR.out.len
        have HLN := hid hR.out.len
        clear heq'
        go_wp2
        go_ret2
        refine .inl ⟨acc, oa, oc, HS.out, ?_, fun W hW => ?_, hbw⟩
        · rw [HLN.out]; rfl
        · rw [HLN.out]; exact HOB.out W hW
      · have HN : Hid (∀ l, decObs n b ≠ some (l, [])) := fun l h => by
          rw [heq'] at h
          simp only [Option.some.injEq, Prod.mk.injEq] at h
          have := hrn.out
          rw [h.2] at this
          simp at this
          omega
        have hr1 : ((rn : Int) == 0) = false := by rw [beq_eq_false_iff_ne]; omega
        clear heq'
        go_wp2
        go_ret2
        exact .inr ⟨oa, k, oc, HN.out, rfl, hbw⟩

end Go.Proofs.YtipnamoocemeeaaGreat
