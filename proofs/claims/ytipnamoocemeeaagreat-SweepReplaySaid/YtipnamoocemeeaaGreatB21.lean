/-
  Texts 21 of the claim.
-/
import Derived.Test.YtipnamoocemeeaaGreatB20
/-
  The contract of the reference's ValidReply: device identifications, part 3.
-/
namespace Go.Proofs.YtipnamoocemeeaaGreat
open Go.RowKit

set_option maxRecDepth 100000 in
set_option maxHeartbeats 12800000 in
theorem vreply_dev3 (w : World) (a2 : Option Addr) (c2 : Nat) (code level : Int) (more : Bool) (next : Int) (ov : Value) (objs : List Ob) (ho : Obs w ov objs) (c1 : 1 ≤ code) (c2' : code ≤ 3) (hl : (1 ≤ level ∧ level ≤ 3) ∨ (129 ≤ level ∧ level ≤ 131)) (V : Bool) (hV : Hid ((decide (0 ≤ next) && decide (next ≤ 255) && (rises (-1) objs && decide (obSize objs ≤ 246)) && (if more then !objs.isEmpty && decide (lastId (-1) objs < next) else next == 0)) = V)) :
    Calls Tryz.prog 60 #[.agg #[.int .i64 43, .int .i64 0, .slice a2 0 c2, .int .i64 code, .int .i64 level, .bool more, .int .i64 next, ov]] w fun r w' => r = .returned (.bool V) ∧ Below w.heap.size w w' := by
  have HKN : Hid (∀ W, Calls Tryz.prog 102 #[.int .i64 43] W fun r w' => r = .returned (.bool true) ∧ W = w') := fun W => by rw [← (show knownB 43 = true from rfl)]; exact function_any _ W
  obtain ⟨a, m, c, rfl, hlm, hm, hmc, hcm, hel⟩ := ho.open_
  have HO := hid ho
  clear ho
  obtain ⟨pb, hpb0⟩ : ∃ pb, pb = (code == 0 && level == 0 && !more && next == 0 && decide (m = 0)) := ⟨_, rfl⟩
  have hpb := hid hpb0
  clear hpb0
  have HRI : Hid (∀ W, Below w.heap.size w W → Calls Tryz.prog 103 #[.slice a m c] W fun r w' => r = .returned (.bool (rises (-1) objs)) ∧ Below W.heap.size W w') := fun W h => rising_any _ _ W (HO.out.keep h)
  have HSZ : Hid (∀ W, Below w.heap.size w W → Calls Tryz.prog 104 #[.slice a m c] W fun r w' => SizeOk objs r ∧ W = w') := fun W h => size_any _ _ W (HO.out.keep h)
  have hlast : m = 0 ∨ ∃ j b o, m = j + 1 ∧ a = some ⟨b, o, none⟩ ∧ w.cell? ⟨b, o + j * 2, none⟩ = some (.int .i64 (lastId (-1) objs)) := by
    cases m with
    | zero => exact .inl rfl
    | succ j =>
      obtain ⟨y, hgj⟩ := get_some (k := j) hlm (by omega)
      obtain ⟨b', o', xa, xc, ha, d1, _, _⟩ := hel j y hgj
      have e : lastId (-1) objs = y.id := by
        have : objs = objs.take (j + 1) := by rw [← hlm, List.take_length]
        rw [this, take_succ_snoc hgj, lastId_snoc]
      exact .inr ⟨j, b', o', rfl, ha, by rw [e]; exact d1⟩
  have HEO : Hid (objs.isEmpty = decide (m = 0)) := by
    show objs.isEmpty = decide (m = 0)
    rw [← hlm]
    cases objs <;> simp
  clear hel hlm
  have HC5 : Hid ((w.alloc (.cells #[.int .i64 43, .int .i64 0, .slice a2 0 c2, .int .i64 code, .int .i64 level, .bool more, .int .i64 next, .slice a m c] 53)).cell? ⟨w.heap.size, 5, none⟩ = some (.bool more)) := by show (w.alloc (.cells #[.int .i64 43, .int .i64 0, .slice a2 0 c2, .int .i64 code, .int .i64 level, .bool more, .int .i64 next, .slice a m c] 53)).cell? _ = _; rw [World.cell?_alloc_at _ _ _ _ rfl]; rfl
  have HC6 : Hid ((w.alloc (.cells #[.int .i64 43, .int .i64 0, .slice a2 0 c2, .int .i64 code, .int .i64 level, .bool more, .int .i64 next, .slice a m c] 53)).cell? ⟨w.heap.size, 6, none⟩ = some (.int .i64 next)) := by show (w.alloc (.cells #[.int .i64 43, .int .i64 0, .slice a2 0 c2, .int .i64 code, .int .i64 level, .bool more, .int .i64 next, .slice a m c] 53)).cell? _ = _; rw [World.cell?_alloc_at _ _ _ _ rfl]; rfl
  have HC7 : Hid ((w.alloc (.cells #[.int .i64 43, .int .i64 0, .slice a2 0 c2, .int .i64 code, .int .i64 level, .bool more, .int .i64 next, .slice a m c] 53)).cell? ⟨w.heap.size, 7, none⟩ = some (.slice a m c)) := by show (w.alloc (.cells #[.int .i64 43, .int .i64 0, .slice a2 0 c2, .int .i64 code, .int .i64 level, .bool more, .int .i64 next, .slice a m c] 53)).cell? _ = _; rw [World.cell?_alloc_at _ _ _ _ rfl]; rfl
  obtain ⟨ro, hro0⟩ : ∃ ro, rises (-1) objs = ro := ⟨_, rfl⟩
  have hro := hid hro0
  rw [hro0] at HRI
  obtain ⟨os, hos0⟩ : ∃ os, obSize objs = os := ⟨_, rfl⟩
  have HOS := hid hos0
  obtain ⟨la, hla0⟩ : ∃ la, lastId (-1) objs = la := ⟨_, rfl⟩
  have hla := hid hla0
  rw [hla0] at hlast
  clear hro0 hos0 hla0
  rcases hl with ⟨l1, l2⟩ | ⟨l1, l2⟩
  all_goals
    go_enter Tryz.func60, Tryz.ntmps60
    go_upto_region 3 with (first | (go_at_call 102; (with_reducible refine (HKN.out _).mono ?_); rintro r w1 ⟨rfl, rfl⟩))
    go_cut [0, 3] (fun s0 s3 wc => s0 = .agg #[.int .i64 43, .int .i64 0, .slice a2 0 c2, .int .i64 code, .int .i64 level, .bool more, .int .i64 next, .slice a m c] ∧ s3 = .bool pb ∧ wc = (w.alloc (.cells #[.int .i64 43, .int .i64 0, .slice a2 0 c2, .int .i64 code, .int .i64 level, .bool more, .int .i64 next, .slice a m c] 53)))
    case first =>
      go_wp2
      all_goals
        go_meet
        case rel => exact ⟨by simp [*], by first | (rw [hpb.out]; done) | (rw [hpb.out]; simp [*]; done) | (rw [hpb.out]; congr 1; done) | (rw [hpb.out]; congr 1; rw [Bool.eq_iff_iff]; simp [*]; done) | (rw [hpb.out]; congr 1; rw [Bool.eq_iff_iff]; simp [*]; omega), by simp [*]⟩
    case rest =>
      obtain ⟨rfl, rfl, rfl⟩ := hcut
      cases ro with
      | false =>
        go_wp2_with (first | (go_at_call 103; (with_reducible refine (HRI.out _ (bal' w _)).mono ?_); rintro r w1 ⟨rfl, hb1⟩; have hc5 := cell_keep hb1 HC5.out; have hc6 := cell_keep hb1 HC6.out; have hc7 := cell_keep hb1 HC7.out) | (go_at_call 104; (with_reducible refine (HSZ.out _ (bt (bal' w _) hb1 (Nat.le_refl _))).mono ?_); rintro r w2 ⟨⟨s, rfl, hs⟩, rfl⟩; rw [HOS.out] at hs; first | (have hs1 : s ≤ 246 := by omega) | (have hs1 : 246 < s := by omega); clear hs))
        go_ret
        refine ⟨ret_bool ?_, by first | exact below_drewN (bt (bal' w _) (by assumption) (Nat.le_refl _)) _ | exact bt (bal' w _) (by assumption) (Nat.le_refl _) | exact bal' w _⟩
        rw [← hV.out, hro.out, HOS.out, hla.out]
        simp
      | true =>
        by_cases ho1 : os ≤ 246
        · have e1 : decide (os ≤ 246) = true := decide_eq_true ho1
          rcases (show next < 0 ∨ (0 ≤ next ∧ 255 < next) ∨ (0 ≤ next ∧ next ≤ 255) by omega) with h | ⟨h, h'⟩ | ⟨h, h'⟩
          · have e2 : decide (0 ≤ next) = false := decide_eq_false (by omega)
            go_wp2_with (first | (go_at_call 103; (with_reducible refine (HRI.out _ (bal' w _)).mono ?_); rintro r w1 ⟨rfl, hb1⟩; have hc5 := cell_keep hb1 HC5.out; have hc6 := cell_keep hb1 HC6.out; have hc7 := cell_keep hb1 HC7.out) | (go_at_call 104; (with_reducible refine (HSZ.out _ (bt (bal' w _) hb1 (Nat.le_refl _))).mono ?_); rintro r w2 ⟨⟨s, rfl, hs⟩, rfl⟩; rw [HOS.out] at hs; first | (have hs1 : s ≤ 246 := by omega) | (have hs1 : 246 < s := by omega); clear hs))
            go_ret
            refine ⟨ret_bool ?_, by first | exact below_drewN (bt (bal' w _) (by assumption) (Nat.le_refl _)) _ | exact bt (bal' w _) (by assumption) (Nat.le_refl _) | exact bal' w _⟩
            rw [← hV.out, hro.out, HOS.out, hla.out]
            rw [e2]
            simp
          · have e2 : decide (next ≤ 255) = false := decide_eq_false (by omega)
            go_wp2_with (first | (go_at_call 103; (with_reducible refine (HRI.out _ (bal' w _)).mono ?_); rintro r w1 ⟨rfl, hb1⟩; have hc5 := cell_keep hb1 HC5.out; have hc6 := cell_keep hb1 HC6.out; have hc7 := cell_keep hb1 HC7.out) | (go_at_call 104; (with_reducible refine (HSZ.out _ (bt (bal' w _) hb1 (Nat.le_refl _))).mono ?_); rintro r w2 ⟨⟨s, rfl, hs⟩, rfl⟩; rw [HOS.out] at hs; first | (have hs1 : s ≤ 246 := by omega) | (have hs1 : 246 < s := by omega); clear hs))
            go_ret
            refine ⟨ret_bool ?_, by first | exact below_drewN (bt (bal' w _) (by assumption) (Nat.le_refl _)) _ | exact bt (bal' w _) (by assumption) (Nat.le_refl _) | exact bal' w _⟩
            rw [← hV.out, hro.out, HOS.out, hla.out]
            rw [e2]
            simp
          · have e2 : decide (0 ≤ next) = true := decide_eq_true h
            have e3 : decide (next ≤ 255) = true := decide_eq_true h'
            cases more with
            | false =>
              go_wp2_with (first | (go_at_call 103; (with_reducible refine (HRI.out _ (bal' w _)).mono ?_); rintro r w1 ⟨rfl, hb1⟩; have hc5 := cell_keep hb1 HC5.out; have hc6 := cell_keep hb1 HC6.out; have hc7 := cell_keep hb1 HC7.out) | (go_at_call 104; (with_reducible refine (HSZ.out _ (bt (bal' w _) hb1 (Nat.le_refl _))).mono ?_); rintro r w2 ⟨⟨s, rfl, hs⟩, rfl⟩; rw [HOS.out] at hs; first | (have hs1 : s ≤ 246 := by omega) | (have hs1 : 246 < s := by omega); clear hs))
              go_ret
              refine ⟨ret_bool ?_, by first | exact below_drewN (bt (bal' w _) (by assumption) (Nat.le_refl _)) _ | exact bt (bal' w _) (by assumption) (Nat.le_refl _) | exact bal' w _⟩
              rw [← hV.out, hro.out, HOS.out, hla.out]
              rw [e1, e2, e3]
              simp
            | true =>
              rcases hlast with rfl | ⟨j, b, o, rfl, rfl, hd0⟩
              · go_wp2_with (first | (go_at_call 103; (with_reducible refine (HRI.out _ (bal' w _)).mono ?_); rintro r w1 ⟨rfl, hb1⟩; have hc5 := cell_keep hb1 HC5.out; have hc6 := cell_keep hb1 HC6.out; have hc7 := cell_keep hb1 HC7.out) | (go_at_call 104; (with_reducible refine (HSZ.out _ (bt (bal' w _) hb1 (Nat.le_refl _))).mono ?_); rintro r w2 ⟨⟨s, rfl, hs⟩, rfl⟩; rw [HOS.out] at hs; first | (have hs1 : s ≤ 246 := by omega) | (have hs1 : 246 < s := by omega); clear hs))
                go_quiet (fail)
                go_wp2
                go_ret
                refine ⟨ret_bool ?_, by first | exact below_drewN (bt (bal' w _) (by assumption) (Nat.le_refl _)) _ | exact bt (bal' w _) (by assumption) (Nat.le_refl _) | exact bal' w _⟩
                rw [← hV.out, hro.out, HOS.out, hla.out]
                rw [HEO.out]
                simp
              · go_wp2_with (first | (go_at_call 103; (with_reducible refine (HRI.out _ (bal' w _)).mono ?_); rintro r w1 ⟨rfl, hb1⟩; have hc5 := cell_keep hb1 HC5.out; have hc6 := cell_keep hb1 HC6.out; have hc7 := cell_keep hb1 HC7.out) | (go_at_call 104; (with_reducible refine (HSZ.out _ (bt (bal' w _) hb1 (Nat.le_refl _))).mono ?_); rintro r w2 ⟨⟨s, rfl, hs⟩, rfl⟩; rw [HOS.out] at hs; first | (have hs1 : s ≤ 246 := by omega) | (have hs1 : 246 < s := by omega); clear hs))
                have hd1 := cell_keep hb1 (cell_keep (bal' w _) hd0)
                have hj0 : (0 : Int) ≤ (j : Int) := Int.natCast_nonneg _
                go_quiet (fail)
                go_wp2
                go_ret
                refine ⟨ret_bool ?_, by first | exact below_drewN (bt (bal' w _) (by assumption) (Nat.le_refl _)) _ | exact bt (bal' w _) (by assumption) (Nat.le_refl _) | exact bal' w _⟩
                rw [← hV.out, hro.out, HOS.out, hla.out]
                rw [HEO.out, e1, e2, e3]
                simp
        · have e1 : decide (os ≤ 246) = false := decide_eq_false ho1
          go_wp2_with (first | (go_at_call 103; (with_reducible refine (HRI.out _ (bal' w _)).mono ?_); rintro r w1 ⟨rfl, hb1⟩; have hc5 := cell_keep hb1 HC5.out; have hc6 := cell_keep hb1 HC6.out; have hc7 := cell_keep hb1 HC7.out) | (go_at_call 104; (with_reducible refine (HSZ.out _ (bt (bal' w _) hb1 (Nat.le_refl _))).mono ?_); rintro r w2 ⟨⟨s, rfl, hs⟩, rfl⟩; rw [HOS.out] at hs; first | (have hs1 : s ≤ 246 := by omega) | (have hs1 : 246 < s := by omega); clear hs))
          go_ret
          refine ⟨ret_bool ?_, by first | exact below_drewN (bt (bal' w _) (by assumption) (Nat.le_refl _)) _ | exact bt (bal' w _) (by assumption) (Nat.le_refl _) | exact bal' w _⟩
          rw [← hV.out, hro.out, HOS.out, hla.out]
          rw [e1]
          simp

end Go.Proofs.YtipnamoocemeeaaGreat
