/-
  Texts 35 of the claim.
-/
import Derived.Test.YtipnamoocemeeaaGreatA34
import Derived.Test.YtipnamoocemeeaaGreatA18
import Derived.BigQuiet
import Derived.Test.YtipnamoocemeeaaGreatA24
import Derived.Deep.RegionLaw
import Derived.Deep.CutRange
import Derived.Deep.CutBlock
/-
  Several texts of this claim in one file.
-/
/-
The reference's identification: good and Next.
-/
namespace Go.Proofs.YtipnamoocemeeaaGreat
open Go.RowKit

/-- A reply that can continue an identification. -/
def goodB (ask : Int) (O : Oc) : Bool := (O.verdict == 1) && ((O.reply.fn == 43) && O.reply.ordB ask)
theorem lastId_take {l : List Ob} {k : Nat} {x : Ob} (h : l[k]? = some x) (la : Int) : lastId la (l.take (k + 1)) = x.id := by rw [take_succ_snoc h, lastId_snoc]
/-- What rises lies above what it rises from. -/
theorem ordF_low : ∀ (l : List Ob) (la : Int), ordF la l = true → l ≠ [] → la < lastId la l
  | [], _, _, h => absurd rfl h
  | [x], la, h, _ => by
    simp only [ordF, Bool.and_eq_true, decide_eq_true_eq] at h
    exact h.1
  | x :: y :: l, la, h, _ => by
    simp only [ordF, Bool.and_eq_true, decide_eq_true_eq] at h
    have := ordF_low (y :: l) x.id (by simp only [ordF, Bool.and_eq_true, decide_eq_true_eq]; exact h.2) (by simp)
    show la < lastId x.id (y :: l)
    omega

set_option maxRecDepth 100000 in
set_option maxHeartbeats 3200000 in
theorem good_any (O : Oc) (da oa : Option Addr) (dc oc : Nat) (ask : Int) (w : World) (ho : Obs w (.slice oa O.reply.objs.length oc) O.reply.objs) (V : Bool) (hV : Hid (goodB ask O = V)) :
    Calls Tryz.prog 135 #[.agg #[.int .i64 O.verdict, .int .i64 O.reply.fn, .int .i64 O.reply.exc, .slice da O.reply.data.length dc, .int .i64 O.reply.code, .int .i64 O.reply.level, .bool O.reply.more, .int .i64 O.reply.next, .slice oa O.reply.objs.length oc], .int .i64 ask] w (BoolPost w V) := by
  obtain ⟨W0, hW0⟩ : ∃ W, (w.alloc (.cells #[.int .i64 O.verdict, .int .i64 O.reply.fn, .int .i64 O.reply.exc, .slice da O.reply.data.length dc, .int .i64 O.reply.code, .int .i64 O.reply.level, .bool O.reply.more, .int .i64 O.reply.next, .slice oa O.reply.objs.length oc] 55)).alloc (.cells #[.int .i64 O.reply.fn, .int .i64 O.reply.exc, .slice da O.reply.data.length dc, .int .i64 O.reply.code, .int .i64 O.reply.level, .bool O.reply.more, .int .i64 O.reply.next, .slice oa O.reply.objs.length oc] 53) = W := ⟨_, rfl⟩
  have hb0 : Below w.heap.size w W0 := by rw [← hW0]; exact bta (bal' w _) (Nat.le_refl _) _
  have p0 : W0.heap[w.heap.size]? = some (.cells #[.int .i64 O.verdict, .int .i64 O.reply.fn, .int .i64 O.reply.exc, .slice da O.reply.data.length dc, .int .i64 O.reply.code, .int .i64 O.reply.level, .bool O.reply.more, .int .i64 O.reply.next, .slice oa O.reply.objs.length oc] 55) := by rw [← hW0]; exact hpKeep (hpNew w _) (bal' _ _)
  have p1 : W0.heap[w.heap.size + 1]? = some (.cells #[.int .i64 O.reply.fn, .int .i64 O.reply.exc, .slice da O.reply.data.length dc, .int .i64 O.reply.code, .int .i64 O.reply.level, .bool O.reply.more, .int .i64 O.reply.next, .slice oa O.reply.objs.length oc] 53) := by
    rw [← hW0]
    have := hpNew (w.alloc (.cells #[.int .i64 O.verdict, .int .i64 O.reply.fn, .int .i64 O.reply.exc, .slice da O.reply.data.length dc, .int .i64 O.reply.code, .int .i64 O.reply.level, .bool O.reply.more, .int .i64 O.reply.next, .slice oa O.reply.objs.length oc] 55)) (.cells #[.int .i64 O.reply.fn, .int .i64 O.reply.exc, .slice da O.reply.data.length dc, .int .i64 O.reply.code, .int .i64 O.reply.level, .bool O.reply.more, .int .i64 O.reply.next, .slice oa O.reply.objs.length oc] 53)
    simpa using this
  have c0 : W0.cell? ⟨w.heap.size, 0, none⟩ = some (.int .i64 O.verdict) := hpCell p0 0
  have e0 : W0.cell? ⟨w.heap.size + 1, 0, none⟩ = some (.int .i64 O.reply.fn) := hpCell p1 0
  obtain ⟨n, hN⟩ : ∃ n, O.reply.objs.length = n := ⟨_, rfl⟩
  obtain ⟨nx, hnx⟩ : ∃ n, O.reply.next = n := ⟨_, rfl⟩
  obtain ⟨more, hmo⟩ : ∃ n, O.reply.more = n := ⟨_, rfl⟩
  have e5 : ∀ X, Below W0.heap.size W0 X → X.cell? ⟨w.heap.size + 1, 5, none⟩ = some (.bool more) := fun X h => by rw [← hmo]; exact hpCell (hpKeep p1 h) 5
  have e6 : ∀ X, Below W0.heap.size W0 X → X.cell? ⟨w.heap.size + 1, 6, none⟩ = some (.int .i64 nx) := fun X h => by rw [← hnx]; exact hpCell (hpKeep p1 h) 6
  have e7 : ∀ X, Below W0.heap.size W0 X → X.cell? ⟨w.heap.size + 1, 7, none⟩ = some (.slice oa n oc) := fun X h => by rw [← hN]; exact hpCell (hpKeep p1 h) 7
  have e7' := e7 W0 (Below.refl _ _)
  have kR : Below W0.heap.size W0 W0 := Below.refl _ _
  have HV : Hid (V = ((O.verdict == 1) && ((O.reply.fn == 43) && (ordF (ask - 1) O.reply.objs && (!O.reply.objs.isEmpty && (!more || decide (lastId (ask - 1) O.reply.objs < nx))))))) := by show _ = _; rw [← hmo, ← hnx]; exact hV.out.symm
  have HO := hid (ho.keep hb0)
  have HW0 := hid hW0
  have HB0 := hid hb0
  have HN := hid hN
  rw [hN, hnx, hmo] at HW0
  rw [hN, hnx, hmo]
  clear hW0 hb0 p0 p1 ho hV
  by_cases hv : O.verdict = 1
  · have d1 : (O.verdict != 1) = false := by rw [hv]; rfl
    by_cases hf : O.reply.fn = 43
    · have d2 : (O.reply.fn != 43) = false := by rw [hf]; rfl
      have HV2 : Hid (V = (ordF (ask - 1) O.reply.objs && (!O.reply.objs.isEmpty && (!more || decide (lastId (ask - 1) O.reply.objs < nx))))) := by show _ = _; rw [HV.out, hv, hf]; rfl
      clear HV hv hf hnx hmo
      by_cases hn0 : n = 0
      · have HVF : Hid (V = false) := by
          have : O.reply.objs = [] := List.eq_nil_of_length_eq_zero (by rw [HN.out]; exact hn0)
          show _ = _
          rw [HV2.out, this]; rfl
        clear HV2
        have hz : ((n : Int) == 0) = true := by rw [hn0]; rfl
        clear hn0
        go_enter Tryz.func135, Tryz.ntmps135; go_upto_region 2 with (fail); rw [HW0.out]
        go_wp2
        go_ret
        exact ⟨by rw [HVF.out]; rfl, HB0.out⟩
      · have hz : ((n : Int) == 0) = false := by rw [beq_eq_false_iff_ne]; omega
        obtain ⟨b, o, cc, hsv, h1, h2, hcell⟩ := HO.out.at (by rintro e; rw [e] at HN; exact hn0 HN.out.symm)
        simp only [Value.slice.injEq, HN.out, true_and] at hsv
        obtain ⟨rfl, rfl⟩ := hsv
        have HC := hid hcell
        have hnc : n ≤ oc := by have := HN.out; omega
        have hnm : n ≤ 9223372036854775807 := by have := HO.out.len; rw [HN.out] at this; unfold maxLen at this; omega
        clear hcell h1
        go_enter Tryz.func135, Tryz.ntmps135; go_upto_region 2 with (fail); rw [HW0.out]
        go_upto_region 4 with (fail)
        clear e7' c0 e0
        go_wp2_with fail
        go_loopw [6] (fun iv wr => ∃ k : Nat, k ≤ n ∧ iv = .int .i64 k ∧ Hid (ordF (ask - 1) (O.reply.objs.take k) = true) ∧ Below W0.heap.size W0 wr) (fun iv _ => n - (intOf iv).toNat)
        case atStart => exact ⟨0, Nat.zero_le _, rfl, rfl, Below.refl _ _⟩
        case round =>
          obtain ⟨k, hk, rfl, hri, hbw⟩ := hrel
          by_cases hlt : k < n
          · obtain ⟨y, hy⟩ := get_some HN.out hlt
            have HY := hid hy
            have HYI : Hid (ordF (ask - 1) (O.reply.objs.take (k + 1)) = decide (lastId (ask - 1) (O.reply.objs.take k) < y.id)) := by
              show _ = _
              rw [take_succ_snoc hy, ordF_snoc, hri.out, Bool.true_and]
            have HNO : Hid (¬ lastId (ask - 1) (O.reply.objs.take k) < y.id → V = false) := fun e => by rw [HV2.out, ordF_no hy e]; rfl
            have g1 := cell_keep hbw (HC.out k y hy).1
            obtain ⟨yi, hyi⟩ : ∃ v, y.id = v := ⟨_, rfl⟩
            rw [hyi] at HYI HNO g1
            clear hy hyi
            have hkl : (k : Int) < (n : Int) := by omega
            by_cases hk0 : k = 0
            · subst hk0
              replace g1 : wr.cell? ⟨b, o, none⟩ = some (.int .i64 yi) := by simpa using g1
              have HYI0 : Hid (ordF (ask - 1) (O.reply.objs.take 1) = decide (ask - 1 < yi)) := HYI.out
              clear HYI
              cases hd : decide (yi < ask) with
              | true =>
                have HF : Hid (V = false) := HNO.out (by have := of_decide_eq_true hd; show ¬ ask - 1 < yi; omega)
                clear HNO
                go_upto_region 7 with (fail)
                go_quiet (fail)
                go_wp2
                go_ret
                exact ⟨by rw [HF.out]; rfl, bt HB0.out (below_drewN hbw _) (Nat.le_refl _)⟩
              | false =>
                have HT : Hid (ordF (ask - 1) (O.reply.objs.take (0 + 1)) = true) := by
                  show ordF (ask - 1) (O.reply.objs.take 1) = true
                  rw [HYI0.out]
                  have := of_decide_eq_false hd
                  exact decide_eq_true (by omega)
                clear HNO HYI0
                go_upto_region 7 with (fail)
                go_quiet (fail)
                go_wp2
                go_roundw
                case rel => exact ⟨0 + 1, by omega, by go_num, HT.out, below_drewN hbw _⟩
                case measure => simp [intOf]; omega
            · obtain ⟨m, hm⟩ : ∃ m, k = m + 1 := ⟨k - 1, by omega⟩
              obtain ⟨z, hz⟩ := get_some HN.out (show m < n by omega)
              have g2 := cell_keep hbw (HC.out m z hz).1
              obtain ⟨zi, hzi⟩ : ∃ v, z.id = v := ⟨_, rfl⟩
              rw [hzi] at g2
              have HLI : Hid (lastId (ask - 1) (O.reply.objs.take k) = zi) := by show _ = _; rw [hm, lastId_take hz, hzi]
              have HLO : Hid (ask - 1 < zi) := by
                have h1 := ordF_low _ _ hri.out (by
                  intro e
                  have := congrArg List.length e
                  simp at this
                  have h2 := HN.out
                  rcases this with h3 | h3
                  · omega
                  · rw [h3] at h2; simp at h2; omega)
                rw [HLI.out] at h1
                exact h1
              rw [HLI.out] at HYI HNO
              have s1 : IntKind.i64.wrap ((k : Int) - 1) = (m : Int) := by rw [IntWalk.i64_in _ (by omega)]; omega
              have hkp : 0 < k := by omega
              have hkd : decide (0 < k) = true := decide_eq_true hkp
              have hk0' : (0 : Int) ≤ (k : Int) := by omega
              have hm0 : (0 : Int) ≤ (m : Int) := Int.natCast_nonneg _
              have hml : (m : Int) < (n : Int) := by omega
              have HM := hid hm
              clear hz hzi hm hk0
              cases hd : decide (yi < ask) with
              | true =>
                have HF : Hid (V = false) := HNO.out (by have := of_decide_eq_true hd; have := HLO.out; omega)
                clear HNO
                go_upto_region 7 with (fail)
                go_quiet (fail)
                go_wp2
                go_ret
                exact ⟨by rw [HF.out]; rfl, bt HB0.out (below_drewN hbw _) (Nat.le_refl _)⟩
              | false =>
                cases hd2 : decide (yi ≤ zi) with
                | true =>
                  have HF : Hid (V = false) := HNO.out (by have := of_decide_eq_true hd2; omega)
                  clear HNO
                  go_upto_region 7 with (fail)
                  go_quiet (fail)
                  go_wp2
                  go_ret
                  exact ⟨by rw [HF.out]; rfl, bt HB0.out (below_drewN hbw _) (Nat.le_refl _)⟩
                | false =>
                  have HT : Hid (ordF (ask - 1) (O.reply.objs.take (k + 1)) = true) := by
                    show ordF (ask - 1) (O.reply.objs.take (k + 1)) = true
                    rw [HYI.out]
                    have := of_decide_eq_false hd2
                    exact decide_eq_true (by omega)
                  clear HNO HYI
                  go_upto_region 7 with (fail)
                  go_quiet (fail)
                  go_wp2
                  go_roundw
                  case rel => exact ⟨k + 1, by omega, by go_num, HT.out, below_drewN hbw _⟩
                  case measure => simp [intOf]; omega
          · obtain rfl : k = n := by omega
            obtain ⟨m, hm⟩ : ∃ m, k = m + 1 := ⟨k - 1, by omega⟩
            obtain ⟨z, hz⟩ := get_some HN.out (show m < k by omega)
            have g2 := cell_keep hbw (HC.out m z hz).1
            obtain ⟨zi, hzi⟩ : ∃ v, z.id = v := ⟨_, rfl⟩
            rw [hzi] at g2
            have HT : Hid (O.reply.objs.take k = O.reply.objs) := List.take_of_length_le (by rw [HN.out]; exact Nat.le_refl _)
            have HLI : Hid (lastId (ask - 1) O.reply.objs = zi) := by show _ = _; rw [← HT.out, hm, lastId_take hz, hzi]
            have HV3 : Hid (V = (!more || decide (zi < nx))) := by
              show _ = _
              have h1 := hri.out
              rw [HT.out] at h1
              have h2 : O.reply.objs.isEmpty = false := by
                cases h : O.reply.objs with
                | nil => have h3 := HN.out; rw [h] at h3; simp at h3; omega
                | cons => rfl
              rw [HV2.out, h1, h2, HLI.out]
              simp
            have s1 : IntKind.i64.wrap ((k : Int) - 1) = (m : Int) := by rw [IntWalk.i64_in _ (by omega)]; omega
            have hm0 : (0 : Int) ≤ (m : Int) := Int.natCast_nonneg _
            have hml : (m : Int) < (k : Int) := by omega
            have HM := hid hm
            clear hz hzi hm hri HV2 HLI
            have g5 := e5 wr hbw
            have g6 := e6 wr hbw
            have g7 := e7 wr hbw
            cases more with
            | false =>
              go_upto_region 9 with (fail)
              go_quiet (fail)
              go_wp2
              go_ret
              exact ⟨by rw [HV3.out]; rfl, bt HB0.out (below_drewN hbw _) (Nat.le_refl _)⟩
            | true =>
              cases hd : decide (zi < nx) with
              | true =>
                go_upto_region 9 with (fail)
                go_quiet (fail)
                go_wp2
                go_ret
                exact ⟨by rw [HV3.out, hd]; rfl, bt HB0.out (below_drewN hbw _) (Nat.le_refl _)⟩
              | false =>
                go_upto_region 9 with (fail)
                go_quiet (fail)
                go_wp2
                go_ret
                exact ⟨by rw [HV3.out, hd]; rfl, bt HB0.out (below_drewN hbw _) (Nat.le_refl _)⟩
    · have d2 : (O.reply.fn != 43) = true := by rw [bne_iff_ne]; exact hf
      have HVF : Hid (V = false) := by show _ = _; rw [HV.out, b0 hf]; simp
      clear HV hf hv hnx hmo hN
      go_enter Tryz.func135, Tryz.ntmps135; go_upto_region 2 with (fail); rw [HW0.out]
      go_wp2
      go_ret
      exact ⟨by rw [HVF.out]; rfl, HB0.out⟩
  · have d1 : (O.verdict != 1) = true := by rw [bne_iff_ne]; exact hv
    have HVF : Hid (V = false) := by show _ = _; rw [HV.out, b0 hv]; rfl
    clear HV hv
    go_enter Tryz.func135, Tryz.ntmps135; go_upto_region 2 with (fail); rw [HW0.out]
    go_wp2
    go_ret
    exact ⟨by rw [HVF.out]; rfl, HB0.out⟩

/-- The reference's identification by its cells. -/
def RiC (W : World) (g : Nat) (st lv : Int) (v : Value) (nx cn : Int) : Prop := W.heap[g]? = some (.cells #[.int .i64 st, .int .i64 lv, v, .int .i64 nx, .int .i64 cn] 159)

set_option maxRecDepth 100000 in
set_option maxHeartbeats 1600000 in
theorem rinext_any (g : Nat) (st lv : Int) (v : Value) (nx cn : Int) (w : World) (h : RiC w g st lv v nx cn) (q : Rq) (V : Bool) (hq : Hid (V = decide (st = 0))) (hQ : Hid (q = if st = 0 then ⟨43, 0, 0, 3, nx⟩ else ⟨0, 0, 0, 0, 0⟩)) :
    Calls Tryz.prog 87 #[.pointer (some ⟨g, 0, none⟩)] w (AskPost w q V) := by
  obtain ⟨W0, hW0⟩ : ∃ W, w.alloc (.cells #[.int .i64 0, .int .i64 0, .int .i64 0, .int .i64 0, .int .i64 0] 39) = W := ⟨_, rfl⟩
  have hb0 : Below w.heap.size w W0 := by rw [← hW0]; exact bal' w _
  have p0 : W0.heap[w.heap.size]? = some (.cells #[.int .i64 0, .int .i64 0, .int .i64 0, .int .i64 0, .int .i64 0] 39) := by rw [← hW0]; exact hpNew w _
  have l0 := hpKeep h hb0
  have c0 : W0.cell? ⟨g, 0, none⟩ = some (.int .i64 st) := hpCell l0 0
  have c3 : W0.cell? ⟨g, 3, none⟩ = some (.int .i64 nx) := hpCell l0 3
  have z0 : W0.cell? ⟨w.heap.size, 0, none⟩ = some (.int .i64 0) := hpCell p0 0
  have z1 : W0.cell? ⟨w.heap.size, 1, none⟩ = some (.int .i64 0) := hpCell p0 1
  have z2 : W0.cell? ⟨w.heap.size, 2, none⟩ = some (.int .i64 0) := hpCell p0 2
  have z3 : W0.cell? ⟨w.heap.size, 3, none⟩ = some (.int .i64 0) := hpCell p0 3
  have z4 : W0.cell? ⟨w.heap.size, 4, none⟩ = some (.int .i64 0) := hpCell p0 4
  have y0 : W0.frozen? ⟨w.heap.size, 0, none⟩ = false := hpFree p0 0
  have y1 : W0.frozen? ⟨w.heap.size, 1, none⟩ = false := hpFree p0 1
  have y2 : W0.frozen? ⟨w.heap.size, 2, none⟩ = false := hpFree p0 2
  have y3 : W0.frozen? ⟨w.heap.size, 3, none⟩ = false := hpFree p0 3
  have y4 : W0.frozen? ⟨w.heap.size, 4, none⟩ = false := hpFree p0 4
  have HW0 := hid hW0
  have HB0 := hid hb0
  clear hW0 hb0 p0 l0 h
  by_cases h0 : st = 0
  · have d : (st != 0) = false := by rw [bne_eq_false_iff_eq]; exact h0
    have HE : Hid (q = ⟨43, 0, 0, 3, nx⟩ ∧ V = true) := ⟨by rw [hQ.out, if_pos h0], by rw [hq.out]; exact decide_eq_true h0⟩
    clear h0
    go_enter Tryz.func87, Tryz.ntmps87
    go_upto_region 1 with (fail)
    rw [HW0.out]
    go_wp2
    refine bodyPost_ret (v := .tuple #[.agg #[.int .i64 43, .int .i64 0, .int .i64 0, .int .i64 3, .int .i64 nx], .bool true]) (by simp [results, Tryz.results87, go_sem, z0, z1, z2, z3, z4]) rfl ⟨by rw [HE.out.1, HE.out.2], ?_⟩
    exact ((((HB0.out.setCell (p := ⟨w.heap.size, 0, none⟩) (Nat.le_refl _) _).setCell (p := ⟨w.heap.size, 1, none⟩) (Nat.le_refl _) _).setCell (p := ⟨w.heap.size, 2, none⟩) (Nat.le_refl _) _).setCell (p := ⟨w.heap.size, 3, none⟩) (Nat.le_refl _) _).setCell (p := ⟨w.heap.size, 4, none⟩) (Nat.le_refl _) _
  · have d : (st != 0) = true := by rw [bne_iff_ne]; exact h0
    have HE : Hid (q = ⟨0, 0, 0, 0, 0⟩ ∧ V = false) := ⟨by rw [hQ.out, if_neg h0], by rw [hq.out]; exact decide_eq_false h0⟩
    clear h0
    go_enter Tryz.func87, Tryz.ntmps87
    go_upto_region 1 with (fail)
    rw [HW0.out]
    go_wp2
    refine bodyPost_ret (v := .tuple #[.agg #[.int .i64 0, .int .i64 0, .int .i64 0, .int .i64 0, .int .i64 0], .bool false]) (by simp [results, Tryz.results87, go_sem, z0, z1, z2, z3, z4]) rfl ⟨by rw [HE.out.1, HE.out.2], ?_⟩
    exact ((((HB0.out.setCell (p := ⟨w.heap.size, 0, none⟩) (Nat.le_refl _) _).setCell (p := ⟨w.heap.size, 1, none⟩) (Nat.le_refl _) _).setCell (p := ⟨w.heap.size, 2, none⟩) (Nat.le_refl _) _).setCell (p := ⟨w.heap.size, 3, none⟩) (Nat.le_refl _) _).setCell (p := ⟨w.heap.size, 4, none⟩) (Nat.le_refl _) _

end Go.Proofs.YtipnamoocemeeaaGreat

/-
The contract of the reference identification's Feed.
-/
namespace Go.Proofs.YtipnamoocemeeaaGreat
open Go.RowKit


/-- What an append takes: cells that read from an address on. -/
def RowR (w : World) (sz : Nat) (y : Value) (m : Nat) (news : List Value) : Prop :=
  ∃ a c, y = .slice a m c ∧ news.length = m * sz ∧ (a = none → m = 0 ∧ c = 0) ∧ ∀ ad, a = some ad → ∀ (j : Nat) u, news[j]? = some u → w.cell? (ad.add j) = some u

/-- An append onto a row, as a step of a statement whose order is open. -/
theorem step_appR {P : Program} {w : World} {ops : Array Oper} {o : Oper} {a : Act} {K : Act → World → Prop} {Q : Exit → Act → World → Prop} {E : Prop} (hgd : o.guard = none) (s x : Operand) (t : TypeId)
    (ho : o.op = .call { callee := .builtin .append, args := #[s, x], argTypes := #[t, t] })
    (base : Nat) (e : TypeId) (i : TypeInfo) (z : Value) (size bytes : Nat) (ht : P.underlying t = some (.slice e)) (hi : P.info? e = some i) (hz : i.zero = some z)
    (hsize : i.size = size) (hby : i.bytes = bytes) (hzs : z.cells.size = size) (hsz : 0 < size)
    (v : Value) (n : Nat) (xs : List Value) (hs : a.eval s = v) (hown : w.ownsRow base e size v n xs)
    (y : Value) (m : Nat) (news : List Value) (hx : a.eval x = y) (hy : RowR w size y m news) (h1 : ∀ u ∈ news, u.oneCell' = true)
    (h63 : n + m ≤ maxLen) (hbytes : (n + m) * bytes ≤ 140737488355328) (hbase : base ≤ w.heap.size)
    (h : ∀ v' w', w'.ownsRow base e size v' (n + m) (xs ++ news) → w.grownBy w' v.ownBlock → NewOr w v v' → K (a.put o.dst v') w') :
    if Region.wanted o (yielded ops a.tmps) = true then Oper.wp P o a w K Q else E := by
  obtain ⟨ad, c, rfl, hl, hn, hc⟩ := hy
  cases ad with
  | some ad => exact step_appN hgd s x t ho base e i z size bytes ht hi hz hsize hby hzs hsz v n xs hs hown ad m c news hx hl (hc ad rfl) h1 h63 hbytes hbase h
  | none =>
    obtain ⟨rfl, rfl⟩ := hn rfl
    obtain rfl : news = [] := List.eq_nil_of_length_eq_zero (by simpa using hl)
    have hw : Region.wanted o (yielded ops a.tmps) = true := by simp [Region.wanted, hgd]
    rw [if_pos hw]
    subst hsize
    have hrun := run_append_owned_none (P := P) (w := w) base t o.type e i i.size ht hi v n xs hown
    unfold Oper.wp execOp
    simp only [ho, resolve, invoke, builtin, Sem.run_bind, Sem.run_pure, Result.andThen_ok, List.map_toArray, List.map_cons, List.map_nil, hs, hx, hrun]
    exact h v w (by simpa using hown) (World.grownBy.refl _ _) (.inl rfl)

theorem RowR.own {w : World} {base : Nat} {e : TypeId} {size : Nat} {v : Value} {n : Nat} {xs : List Value} (h : w.ownsRow base e size v n xs) : RowR w size v n xs := by
  rcases id h.2 with ⟨rfl, rfl⟩ | ⟨g, cap, cur, rfl, _⟩
  · exact ⟨none, 0, rfl, h.1, fun _ => ⟨rfl, rfl⟩, fun ad e => nomatch e⟩
  · refine ⟨some ⟨g, 0, none⟩, cap, rfl, h.1, (fun e => nomatch e), fun ad e j u hj => ?_⟩
    cases e
    exact h.cells (g := g) rfl j u hj
theorem Obs.cls {w : World} {v : Value} {l : List Ob} (h : Obs w v l) : ∃ cs, CsL 2 (ObQ w) cs l ∧ RowR w 2 v l.length cs := by
  obtain ⟨a, c, rfl, h1, h2, h3, h4⟩ := h
  have main : ∀ (l : List Ob) (b o : Nat), (∀ (i : Nat) x, l[i]? = some x → w.cell? ⟨b, o + i * 2, none⟩ = some (.int .i64 x.id) ∧ ∃ v, w.cell? ⟨b, o + i * 2 + 1, none⟩ = some v ∧ Bs w v x.val) →
      ∃ cs, CsL 2 (ObQ w) cs l ∧ ∀ (j : Nat) u, cs[j]? = some u → w.cell? ⟨b, o + j, none⟩ = some u := by
    intro l b
    induction l with
    | nil => intro o _; exact ⟨[], rfl, fun j u hj => by simp at hj⟩
    | cons x l ih =>
      intro o h
      obtain ⟨g1, v, g2, hv⟩ := h 0 x rfl
      obtain ⟨xa, xc, rfl, _⟩ := id hv
      obtain ⟨cs, h4, h5⟩ := ih (o + 2) (fun i y hy => by
        obtain ⟨e1, v, e2, e3⟩ := h (i + 1) y (by simpa using hy)
        rw [show o + (i + 1) * 2 = o + 2 + i * 2 by omega] at e1 e2
        exact ⟨e1, v, e2, e3⟩)
      refine ⟨[.int .i64 x.id, .slice xa x.val.length xc] ++ cs, ⟨_, cs, rfl, rfl, ⟨xa, xc, rfl, hv⟩, h4⟩, fun j u hj => ?_⟩
      match j, hj with
      | 0, hj => simp at hj; subst hj; simpa using g1
      | 1, hj => simp at hj; subst hj; simpa using g2
      | j + 2, hj =>
        have := h5 j u (by simpa using hj)
        rwa [show o + (j + 2) = o + 2 + j by omega]
  by_cases hl : l = []
  · subst hl
    exact ⟨[], rfl, a, c, rfl, rfl, fun e => ⟨rfl, h3 e⟩, fun ad e j u hj => by simp at hj⟩
  · obtain ⟨b, o, rfl, hc⟩ := h4 hl
    obtain ⟨cs, g1, g2⟩ := main l b o hc
    refine ⟨cs, g1, some ⟨b, o, none⟩, c, rfl, CsL.len _ _ g1, (fun e => nomatch e), fun ad e j u hj => ?_⟩
    cases e
    have := g2 j u hj
    rwa [show (⟨b, o, none⟩ : Addr).add j = ⟨b, o + j, none⟩ by unfold Addr.add; split <;> simp_all]
theorem RowR.keep {w w' : World} {sz : Nat} {y : Value} {m : Nat} {news : List Value} (h : RowR w sz y m news) (hb : Below w.heap.size w w') : RowR w' sz y m news := by
  obtain ⟨a, c, h1, h2, h3, h4⟩ := h
  exact ⟨a, c, h1, h2, h3, fun ad e j u hj => cell_keep hb (h4 ad e j u hj)⟩
theorem CsL.app {α : Type} {sz : Nat} {Q : List Value → α → Prop} : ∀ (l : List α) (cs : List Value), CsL sz Q cs l → ∀ (l' : List α) (cs' : List Value), CsL sz Q cs' l' → CsL sz Q (cs ++ cs') (l ++ l')
  | [], cs, h, l', cs', h' => by obtain rfl : cs = [] := h; exact h'
  | x :: l, cs, h, l', cs', h' => by
    obtain ⟨r, k, rfl, h1, h2, h3⟩ := h
    exact ⟨r, k ++ cs', by simp, h1, h2, CsL.app l k h3 l' cs' h'⟩
theorem ObQ_one {w : World} (r : List Value) (x : Ob) (h : ObQ w r x) : ∀ u ∈ r, u.oneCell' = true := by
  obtain ⟨a, c, rfl, _⟩ := h
  intro u hu
  simp at hu
  rcases hu with rfl | rfl <;> rfl

theorem bad_good (x : Idn) (O : Oc) : x.bad O = (!(goodB x.next O) || (decide (0 < x.cnt) && O.reply.level != x.level)) := by
  simp only [Idn.bad, goodB, bne]
  cases (O.verdict == 1) <;> cases (O.reply.fn == 43) <;> cases (O.reply.ordB x.next) <;> rfl

/-- The reference's identification; the values of its row lie in the memory of W0. -/
structure RiAt (W0 W : World) (g : Nat) (x : Idn) (v : Value) (cs : List Value) : Prop where
  at_ : RiC W g x.st x.level v x.next x.cnt
  own : W.ownsRow W0.heap.size 156 2 v x.objs.length cs
  obs : CsL 2 (ObQ W0) cs x.objs
def RiFed (W0 w : World) (g : Nat) (y : Idn) (r : Ending) (w' : World) : Prop :=
  r = .returned (.int .i64 0) ∧ (∃ lv v nx cn cs, RiC w' g y.st lv v nx cn ∧ (y.st = 0 → nx = y.next ∧ cn = y.cnt) ∧ (y.st = 0 ∨ y.st = 2 → lv = y.level ∧ w'.ownsRow w.heap.size 156 2 v y.objs.length cs ∧ CsL 2 (ObQ W0) cs y.objs)) ∧ Keeps (· = g) w w'
theorem RiFed.bad {W0 w w' : World} {g : Nat} {y : Idn} {st lv : Int} {v : Value} {nx cn : Int} (h : RiC w' g st lv v nx cn) (hk : Keeps (· = g) w w') (hy : y.st = st) (h0 : st ≠ 0) (h2 : st ≠ 2) : RiFed W0 w g y (.returned (.int .i64 0)) w' := by
  subst hy
  exact ⟨rfl, ⟨lv, v, nx, cn, [], h, fun e => absurd e h0, fun e => by rcases e with e | e; exact absurd e h0; exact absurd e h2⟩, hk⟩


set_option maxRecDepth 100000 in
set_option maxHeartbeats 3200000 in
theorem rifeed_a {W0 w : World} {g : Nat} {x : Idn} {v : Value} {cs : List Value} (h : RiAt W0 w g x v cs) (hst : x.st = 0) (hk : x.ok) (O : Oc) (da : Option Addr) (dc : Nat) (oa : Option Addr) (oc : Nat) (hA : O.verdict = 2 ∧ O.reply.exc = 1 ∧ x.cnt = 0) (y : Idn) (hy : y.st = 5) :
    Calls Tryz.prog 94 #[.pointer (some ⟨g, 0, none⟩), .agg #[.int .i64 O.verdict, .int .i64 O.reply.fn, .int .i64 O.reply.exc, .slice da O.reply.data.length dc, .int .i64 O.reply.code, .int .i64 O.reply.level, .bool O.reply.more, .int .i64 O.reply.next, .slice oa O.reply.objs.length oc]] w (RiFed W0 w g y) := by
  obtain ⟨c, hcn⟩ : ∃ c : Int, (x.cnt : Int) = c := ⟨_, rfl⟩; obtain ⟨c1, hc1⟩ : ∃ c1 : Int, c + 1 = c1 := ⟨_, rfl⟩; obtain ⟨WB, hWB⟩ : ∃ W, w.alloc (.cells #[.int .i64 O.verdict, .int .i64 O.reply.fn, .int .i64 O.reply.exc, .slice da O.reply.data.length dc, .int .i64 O.reply.code, .int .i64 O.reply.level, .bool O.reply.more, .int .i64 O.reply.next, .slice oa O.reply.objs.length oc] 55) = W := ⟨_, rfl⟩; have hbB : Below w.heap.size w WB := (by rw [← hWB]; exact bal' w _); have pB : WB.heap[w.heap.size]? = some (.cells #[.int .i64 O.verdict, .int .i64 O.reply.fn, .int .i64 O.reply.exc, .slice da O.reply.data.length dc, .int .i64 O.reply.code, .int .i64 O.reply.level, .bool O.reply.more, .int .i64 O.reply.next, .slice oa O.reply.objs.length oc] 55) := (by rw [← hWB]; exact hpNew w _); have lB := hpKeep h.at_ hbB; rw [hst, hcn] at lB; have hgl : g < w.heap.size := hpLt h.at_; have a0 : WB.cell? ⟨g, 0, none⟩ = some (.int .i64 0) := hpCell lB 0; have a4 : WB.cell? ⟨g, 4, none⟩ = some (.int .i64 c) := hpCell lB 4; have e4 : WB.frozen? ⟨g, 4, none⟩ = false := hpFree lB 4; have s1 : IntKind.i64.wrap (c + 1) = c1 := (by rw [IntWalk.i64_in _ (by have := hk.cn; omega)]; exact hc1)
  obtain ⟨W1, hW1⟩ : ∃ W, WB.setCell ⟨g, 4, none⟩ (.int .i64 c1) = W := ⟨_, rfl⟩; have hk1 : Keeps (· = g) WB W1 := (by rw [← hW1]; exact ks1 (Keeps.refl _ _) _ _); have p1 : W1.heap[w.heap.size]? = some (.cells #[.int .i64 O.verdict, .int .i64 O.reply.fn, .int .i64 O.reply.exc, .slice da O.reply.data.length dc, .int .i64 O.reply.code, .int .i64 O.reply.level, .bool O.reply.more, .int .i64 O.reply.next, .slice oa O.reply.objs.length oc] 55) := hpKeeps pB hk1 (fun e => by omega); have l1 : RiC W1 g 0 x.level v x.next c1 := (by rw [← hW1]; exact hpSetP lB rfl); have HKW : Hid (Keeps (· = g) w W1) := (Keeps.of_below hbB).trans hk1 (fun _ _ e => e); have HWB := hid hWB; have HW1 := hid hW1; have P1 := hid p1; have L1 := hid l1; have HCN := hid hcn; have HC1 := hid hc1; clear hWB hW1 pB lB p1 l1 hk1 hbB hcn hc1
  have k0 : Below W1.heap.size W1 W1 := Below.refl _ _; have kD : Below W1.heap.size W1 W1.drew := (Below.refl _ _).drew; have g0 : ∀ X, Below W1.heap.size W1 X → X.cell? ⟨g, 0, none⟩ = some (.int .i64 0) := (fun X h => hpCell (hpKeep L1.out h) 0); have g1 : ∀ X, Below W1.heap.size W1 X → X.cell? ⟨g, 1, none⟩ = some (.int .i64 x.level) := (fun X h => hpCell (hpKeep L1.out h) 1); have g2 : ∀ X, Below W1.heap.size W1 X → X.cell? ⟨g, 2, none⟩ = some v := (fun X h => hpCell (hpKeep L1.out h) 2); have g3 : ∀ X, Below W1.heap.size W1 X → X.cell? ⟨g, 3, none⟩ = some (.int .i64 x.next) := (fun X h => hpCell (hpKeep L1.out h) 3); have g4 : ∀ X, Below W1.heap.size W1 X → X.cell? ⟨g, 4, none⟩ = some (.int .i64 c1) := (fun X h => hpCell (hpKeep L1.out h) 4); have f0 : ∀ X, Below W1.heap.size W1 X → X.frozen? ⟨g, 0, none⟩ = false := (fun X h => hpFree (hpKeep L1.out h) 0); have f1 : ∀ X, Below W1.heap.size W1 X → X.frozen? ⟨g, 1, none⟩ = false := (fun X h => hpFree (hpKeep L1.out h) 1); have f2 : ∀ X, Below W1.heap.size W1 X → X.frozen? ⟨g, 2, none⟩ = false := (fun X h => hpFree (hpKeep L1.out h) 2)
  have o0 : ∀ X, Below W1.heap.size W1 X → X.cell? ⟨w.heap.size, 0, none⟩ = some (.int .i64 O.verdict) := (fun X h => hpCell (hpKeep P1.out h) 0); have o1 : ∀ X, Below W1.heap.size W1 X → X.cell? ⟨w.heap.size, 1, none⟩ = some (.int .i64 O.reply.fn) := (fun X h => hpCell (hpKeep P1.out h) 1); have o2 : ∀ X, Below W1.heap.size W1 X → X.cell? ⟨w.heap.size, 2, none⟩ = some (.int .i64 O.reply.exc) := (fun X h => hpCell (hpKeep P1.out h) 2); have o3 : ∀ X, Below W1.heap.size W1 X → X.cell? ⟨w.heap.size, 3, none⟩ = some (.slice da O.reply.data.length dc) := (fun X h => hpCell (hpKeep P1.out h) 3); have o4 : ∀ X, Below W1.heap.size W1 X → X.cell? ⟨w.heap.size, 4, none⟩ = some (.int .i64 O.reply.code) := (fun X h => hpCell (hpKeep P1.out h) 4); have o5 : ∀ X, Below W1.heap.size W1 X → X.cell? ⟨w.heap.size, 5, none⟩ = some (.int .i64 O.reply.level) := (fun X h => hpCell (hpKeep P1.out h) 5); have o6 : ∀ X, Below W1.heap.size W1 X → X.cell? ⟨w.heap.size, 6, none⟩ = some (.bool O.reply.more) := (fun X h => hpCell (hpKeep P1.out h) 6); have o7 : ∀ X, Below W1.heap.size W1 X → X.cell? ⟨w.heap.size, 7, none⟩ = some (.int .i64 O.reply.next) := (fun X h => hpCell (hpKeep P1.out h) 7); have o8 : ∀ X, Below W1.heap.size W1 X → X.cell? ⟨w.heap.size, 8, none⟩ = some (.slice oa O.reply.objs.length oc) := (fun X h => hpCell (hpKeep P1.out h) 8); obtain ⟨R1, hR1⟩ : ∃ b, refB O.verdict O.reply.exc 1 = b := ⟨_, rfl⟩; have HRF : Hid (∀ X, Calls Tryz.prog 134 #[.agg #[.int .i64 O.verdict, .int .i64 O.reply.fn, .int .i64 O.reply.exc, .slice da O.reply.data.length dc, .int .i64 O.reply.code, .int .i64 O.reply.level, .bool O.reply.more, .int .i64 O.reply.next, .slice oa O.reply.objs.length oc], .int .i64 1] X (BoolPost X R1)) := (fun X => by rw [← hR1]; exact refused_any _ _ _ _ _ _ _ _ _ _ X); have HR1 := hid hR1; clear hR1
  have HY := hid hy
  have hcc : c1 = 1 := by have := HCN.out; have := HC1.out; have := hA.2.2; omega
  have hR : R1 = true := by rw [← HR1.out]; unfold refB; rw [hA.1, hA.2.1]; rfl
  subst hR hcc
  clear h hy hA hst hk
  go_enter Tryz.func94, Tryz.ntmps94; go_upto_region 1 with (fail); rw [HWB.out]; go_upto_region 4 with (fail); rw [HW1.out]
  go_wp2_with (go_at_call 134; (with_reducible refine (HRF.out _).mono ?_); rintro r w5 ⟨rfl, hb5⟩)
  go_ret
  exact RiFed.bad (hpSetP (hpKeep L1.out hb5) rfl) ((HKW.out.trans (Keeps.of_below hb5) (fun _ _ (e : False) => e.elim)).trans (ks1 (Keeps.refl _ _) _ _) (fun _ _ e => e)) HY.out (by decide) (by decide)

set_option maxRecDepth 100000 in
set_option maxHeartbeats 6400000 in
theorem rifeed_b {W0 w : World} {g : Nat} {x : Idn} {v : Value} {cs : List Value} (h : RiAt W0 w g x v cs) (hst : x.st = 0) (hk : x.ok) (O : Oc) (da : Option Addr) (dc : Nat) (oa : Option Addr) (oc : Nat) (HI : RpIs W0 O.reply da dc oa oc) (hb : Below W0.heap.size W0 w) (hg : W0.heap.size ≤ g) (hA : ¬ (O.verdict = 2 ∧ O.reply.exc = 1 ∧ x.cnt = 0)) (hbad : x.bad O = true) (y : Idn) (hy : y.st = 4) :
    Calls Tryz.prog 94 #[.pointer (some ⟨g, 0, none⟩), .agg #[.int .i64 O.verdict, .int .i64 O.reply.fn, .int .i64 O.reply.exc, .slice da O.reply.data.length dc, .int .i64 O.reply.code, .int .i64 O.reply.level, .bool O.reply.more, .int .i64 O.reply.next, .slice oa O.reply.objs.length oc]] w (RiFed W0 w g y) := by
  obtain ⟨V, hV⟩ : ∃ V, goodB x.next O = V := ⟨_, rfl⟩
  obtain ⟨c, hcn⟩ : ∃ c : Int, (x.cnt : Int) = c := ⟨_, rfl⟩; obtain ⟨c1, hc1⟩ : ∃ c1 : Int, c + 1 = c1 := ⟨_, rfl⟩; obtain ⟨WB, hWB⟩ : ∃ W, w.alloc (.cells #[.int .i64 O.verdict, .int .i64 O.reply.fn, .int .i64 O.reply.exc, .slice da O.reply.data.length dc, .int .i64 O.reply.code, .int .i64 O.reply.level, .bool O.reply.more, .int .i64 O.reply.next, .slice oa O.reply.objs.length oc] 55) = W := ⟨_, rfl⟩; have hbB : Below w.heap.size w WB := (by rw [← hWB]; exact bal' w _); have pB : WB.heap[w.heap.size]? = some (.cells #[.int .i64 O.verdict, .int .i64 O.reply.fn, .int .i64 O.reply.exc, .slice da O.reply.data.length dc, .int .i64 O.reply.code, .int .i64 O.reply.level, .bool O.reply.more, .int .i64 O.reply.next, .slice oa O.reply.objs.length oc] 55) := (by rw [← hWB]; exact hpNew w _); have lB := hpKeep h.at_ hbB; rw [hst, hcn] at lB; have hgl : g < w.heap.size := hpLt h.at_; have a0 : WB.cell? ⟨g, 0, none⟩ = some (.int .i64 0) := hpCell lB 0; have a4 : WB.cell? ⟨g, 4, none⟩ = some (.int .i64 c) := hpCell lB 4; have e4 : WB.frozen? ⟨g, 4, none⟩ = false := hpFree lB 4; have s1 : IntKind.i64.wrap (c + 1) = c1 := (by rw [IntWalk.i64_in _ (by have := hk.cn; omega)]; exact hc1)
  obtain ⟨W1, hW1⟩ : ∃ W, WB.setCell ⟨g, 4, none⟩ (.int .i64 c1) = W := ⟨_, rfl⟩; have hk1 : Keeps (· = g) WB W1 := (by rw [← hW1]; exact ks1 (Keeps.refl _ _) _ _); have p1 : W1.heap[w.heap.size]? = some (.cells #[.int .i64 O.verdict, .int .i64 O.reply.fn, .int .i64 O.reply.exc, .slice da O.reply.data.length dc, .int .i64 O.reply.code, .int .i64 O.reply.level, .bool O.reply.more, .int .i64 O.reply.next, .slice oa O.reply.objs.length oc] 55) := hpKeeps pB hk1 (fun e => by omega); have l1 : RiC W1 g 0 x.level v x.next c1 := (by rw [← hW1]; exact hpSetP lB rfl); have HKW : Hid (Keeps (· = g) w W1) := (Keeps.of_below hbB).trans hk1 (fun _ _ e => e); have HWB := hid hWB; have HW1 := hid hW1; have P1 := hid p1; have L1 := hid l1; have HCN := hid hcn; have HC1 := hid hc1; clear hWB hW1 pB lB p1 l1 hk1 hbB hcn hc1
  have HGD : Hid (∀ X, Below W1.heap.size W1 X → Calls Tryz.prog 135 #[.agg #[.int .i64 O.verdict, .int .i64 O.reply.fn, .int .i64 O.reply.exc, .slice da O.reply.data.length dc, .int .i64 O.reply.code, .int .i64 O.reply.level, .bool O.reply.more, .int .i64 O.reply.next, .slice oa O.reply.objs.length oc], .int .i64 x.next] X (BoolPost X V)) := fun X hX => good_any O da oa dc oc x.next X (HI.o.keep (bt (hb.trans (HKW.out.below hb.size (fun j hj e => by omega))) hX (by have := hb.size; have := HKW.out.size; omega))) V hV
  have k0 : Below W1.heap.size W1 W1 := Below.refl _ _; have kD : Below W1.heap.size W1 W1.drew := (Below.refl _ _).drew; have g0 : ∀ X, Below W1.heap.size W1 X → X.cell? ⟨g, 0, none⟩ = some (.int .i64 0) := (fun X h => hpCell (hpKeep L1.out h) 0); have g1 : ∀ X, Below W1.heap.size W1 X → X.cell? ⟨g, 1, none⟩ = some (.int .i64 x.level) := (fun X h => hpCell (hpKeep L1.out h) 1); have g2 : ∀ X, Below W1.heap.size W1 X → X.cell? ⟨g, 2, none⟩ = some v := (fun X h => hpCell (hpKeep L1.out h) 2); have g3 : ∀ X, Below W1.heap.size W1 X → X.cell? ⟨g, 3, none⟩ = some (.int .i64 x.next) := (fun X h => hpCell (hpKeep L1.out h) 3); have g4 : ∀ X, Below W1.heap.size W1 X → X.cell? ⟨g, 4, none⟩ = some (.int .i64 c1) := (fun X h => hpCell (hpKeep L1.out h) 4); have f0 : ∀ X, Below W1.heap.size W1 X → X.frozen? ⟨g, 0, none⟩ = false := (fun X h => hpFree (hpKeep L1.out h) 0); have f1 : ∀ X, Below W1.heap.size W1 X → X.frozen? ⟨g, 1, none⟩ = false := (fun X h => hpFree (hpKeep L1.out h) 1); have f2 : ∀ X, Below W1.heap.size W1 X → X.frozen? ⟨g, 2, none⟩ = false := (fun X h => hpFree (hpKeep L1.out h) 2)
  have o0 : ∀ X, Below W1.heap.size W1 X → X.cell? ⟨w.heap.size, 0, none⟩ = some (.int .i64 O.verdict) := (fun X h => hpCell (hpKeep P1.out h) 0); have o1 : ∀ X, Below W1.heap.size W1 X → X.cell? ⟨w.heap.size, 1, none⟩ = some (.int .i64 O.reply.fn) := (fun X h => hpCell (hpKeep P1.out h) 1); have o2 : ∀ X, Below W1.heap.size W1 X → X.cell? ⟨w.heap.size, 2, none⟩ = some (.int .i64 O.reply.exc) := (fun X h => hpCell (hpKeep P1.out h) 2); have o3 : ∀ X, Below W1.heap.size W1 X → X.cell? ⟨w.heap.size, 3, none⟩ = some (.slice da O.reply.data.length dc) := (fun X h => hpCell (hpKeep P1.out h) 3); have o4 : ∀ X, Below W1.heap.size W1 X → X.cell? ⟨w.heap.size, 4, none⟩ = some (.int .i64 O.reply.code) := (fun X h => hpCell (hpKeep P1.out h) 4); have o5 : ∀ X, Below W1.heap.size W1 X → X.cell? ⟨w.heap.size, 5, none⟩ = some (.int .i64 O.reply.level) := (fun X h => hpCell (hpKeep P1.out h) 5); have o6 : ∀ X, Below W1.heap.size W1 X → X.cell? ⟨w.heap.size, 6, none⟩ = some (.bool O.reply.more) := (fun X h => hpCell (hpKeep P1.out h) 6); have o7 : ∀ X, Below W1.heap.size W1 X → X.cell? ⟨w.heap.size, 7, none⟩ = some (.int .i64 O.reply.next) := (fun X h => hpCell (hpKeep P1.out h) 7); have o8 : ∀ X, Below W1.heap.size W1 X → X.cell? ⟨w.heap.size, 8, none⟩ = some (.slice oa O.reply.objs.length oc) := (fun X h => hpCell (hpKeep P1.out h) 8); obtain ⟨R1, hR1⟩ : ∃ b, refB O.verdict O.reply.exc 1 = b := ⟨_, rfl⟩; have HRF : Hid (∀ X, Calls Tryz.prog 134 #[.agg #[.int .i64 O.verdict, .int .i64 O.reply.fn, .int .i64 O.reply.exc, .slice da O.reply.data.length dc, .int .i64 O.reply.code, .int .i64 O.reply.level, .bool O.reply.more, .int .i64 O.reply.next, .slice oa O.reply.objs.length oc], .int .i64 1] X (BoolPost X R1)) := (fun X => by rw [← hR1]; exact refused_any _ _ _ _ _ _ _ _ _ _ X); have HR1 := hid hR1; clear hR1
  have HY := hid hy
  have hcc : (c1 == 1) = false ∨ (c1 = 1 ∧ R1 = false) := by
    by_cases e : c1 = 1
    · refine .inr ⟨e, ?_⟩
      rw [← HR1.out]
      cases hx : refB O.verdict O.reply.exc 1 with
      | false => rfl
      | true =>
        exfalso
        unfold refB at hx
        simp only [Bool.and_eq_true, beq_iff_eq] at hx
        exact hA ⟨hx.1, hx.2, by have := HCN.out; have := HC1.out; omega⟩
    · exact .inl (b0 e)
  have hvv : V = false ∨ (V = true ∧ decide (1 < c1) = true ∧ (O.reply.level != x.level) = true) := by
    cases V with
    | false => exact .inl rfl
    | true =>
      refine .inr ⟨rfl, ?_⟩
      rw [bad_good, hV] at hbad
      simp only [Bool.not_true, Bool.false_or, Bool.and_eq_true, decide_eq_true_eq] at hbad
      exact ⟨decide_eq_true (by have := HCN.out; have := HC1.out; omega), hbad.2⟩
  have hEND : ∀ X, Below W1.heap.size W1 X → RiFed W0 w g y (.returned (.int .i64 0)) (((X.setCell ⟨g, 0, none⟩ (.int .i64 4)).setCell ⟨g, 1, none⟩ (.int .i64 0)).setCell ⟨g, 2, none⟩ (.slice none 0 0)) := fun X hX =>
    RiFed.bad (hpSetP (hpSetP (hpSetP (hpKeep L1.out hX) rfl) rfl) rfl) ((HKW.out.trans (Keeps.of_below hX) (fun _ _ (e : False) => e.elim)).trans (ks1 (ks1 (ks1 (Keeps.refl _ _) _ _) _ _) _ _) (fun _ _ e => e)) HY.out (by decide) (by decide)
  have HEND := hid hEND
  clear h hy hA hst hk hV hbad HI hb hEND
  rcases hcc with d1 | ⟨rfl, rfl⟩
  · rcases hvv with rfl | ⟨rfl, d2, d3⟩
    · go_enter Tryz.func94, Tryz.ntmps94; go_upto_region 1 with (fail); rw [HWB.out]; go_upto_region 4 with (fail); rw [HW1.out]
      go_upto_region 7 with (fail)
      refine wp_region_held_drew (S := fun V => Below W1.heap.size W1 V) (by kernel_rfl) kD (fun hH => ?_); refine tkD 0 29 (v := ?_) rfl (by kernel_rfl) (fun _ _ _ h => h) rfl (by rfl) (by assumption) ?_ ?_; rotate_left; (intro w hSw; (try dsimp only at hSw); go_simp; try (with_reducible rfl)); simp only [List.setIfInBounds_toArray, List.set_cons_zero, List.set_cons_succ]; refine tkD 1 30 (v := ?_) rfl (by kernel_rfl) (fun _ _ _ h => h) rfl (by rfl) (by assumption) ?_ ?_; rotate_left; (intro w hSw; (try dsimp only at hSw); go_simp; try (with_reducible rfl)); simp only [List.setIfInBounds_toArray, List.set_cons_zero, List.set_cons_succ]; refine tkD 2 31 (v := ?_) rfl (by kernel_rfl) (fun _ _ _ h => h) rfl (by rfl) (by assumption) ?_ ?_; rotate_left; (intro w hSw; (try dsimp only at hSw); go_simp; try (with_reducible rfl)); simp only [List.setIfInBounds_toArray, List.set_cons_zero, List.set_cons_succ]; refine tkD 3 32 (v := ?_) rfl (by kernel_rfl) (fun _ _ _ h => h) rfl (by rfl) (by assumption) ?_ ?_; rotate_left; (intro w hSw; (try dsimp only at hSw); go_simp; try (with_reducible rfl)); simp only [List.setIfInBounds_toArray, List.set_cons_zero, List.set_cons_succ]; refine tkD 4 33 (v := ?_) rfl (by kernel_rfl) (fun _ _ _ h => h) rfl (by rfl) (by assumption) ?_ ?_; rotate_left; (intro w hSw; (try dsimp only at hSw); go_simp; try (with_reducible rfl)); simp only [List.setIfInBounds_toArray, List.set_cons_zero, List.set_cons_succ]; clear hH; refine wpAnyH_ready (rs := [5]) (by kernel_rfl) (by simp) ?_; refine AllReadyH.cons rfl (fun K hK => ?_) AllReadyH.nil; go_simp
      refine (HGD.out _ kD).mono ?_; rintro r w6 ⟨rfl, hb6⟩; have hB6 := bt kD hb6 (Nat.le_refl _); refine hK.out _ _ hB6 (fun hSx => ?_); clear hK K hSx
      refine tkD 6 35 (v := ?_) rfl (by kernel_rfl) (fun _ _ _ h => h) rfl (by rfl) (by assumption) ?_ ?_; rotate_left; (intro w hSw; (try dsimp only at hSw); go_simp; try (with_reducible rfl)); simp only [List.setIfInBounds_toArray, List.set_cons_zero, List.set_cons_succ]; refine tkD 7 36 (v := ?_) rfl (by kernel_rfl) (fun _ _ _ h => h) rfl (by rfl) (by assumption) ?_ ?_; rotate_left; (intro w hSw; (try dsimp only at hSw); go_simp; try (with_reducible rfl)); simp only [List.setIfInBounds_toArray, List.set_cons_zero, List.set_cons_succ]; refine wpAnyH_takeD (i := 8) (d := 37) (v := undef) rfl (by kernel_rfl) (by kernel_rfl) (by kernel_rfl) (fun _ _ _ h => h) rfl (Or.inr ⟨by rfl, rfl⟩) (by assumption) ?_; (simp only [List.setIfInBounds_toArray, List.set_cons_zero, List.set_cons_succ]); refine wpAnyH_takeD (i := 9) (d := 38) (v := undef) rfl (by kernel_rfl) (by kernel_rfl) (by kernel_rfl) (fun _ _ _ h => h) rfl (Or.inr ⟨by rfl, rfl⟩) (by assumption) ?_; (simp only [List.setIfInBounds_toArray, List.set_cons_zero, List.set_cons_succ]); refine wpAnyH_takeD (i := 10) (d := 39) (v := undef) rfl (by kernel_rfl) (by kernel_rfl) (by kernel_rfl) (fun _ _ _ h => h) rfl (Or.inr ⟨by rfl, rfl⟩) (by assumption) ?_; (simp only [List.setIfInBounds_toArray, List.set_cons_zero, List.set_cons_succ]); refine wpAnyH_takeD (i := 11) (d := 40) (v := undef) rfl (by kernel_rfl) (by kernel_rfl) (by kernel_rfl) (fun _ _ _ h => h) rfl (Or.inr ⟨by rfl, rfl⟩) (by assumption) ?_; (simp only [List.setIfInBounds_toArray, List.set_cons_zero, List.set_cons_succ]); refine wpAnyH_takeD (i := 12) (d := 41) (v := undef) rfl (by kernel_rfl) (by kernel_rfl) (by kernel_rfl) (fun _ _ _ h => h) rfl (Or.inr ⟨by rfl, rfl⟩) (by assumption) ?_; (simp only [List.setIfInBounds_toArray, List.set_cons_zero, List.set_cons_succ]); refine wpAnyH_takeD (i := 13) (d := 42) (v := undef) rfl (by kernel_rfl) (by kernel_rfl) (by kernel_rfl) (fun _ _ _ h => h) rfl (Or.inr ⟨by rfl, rfl⟩) (by assumption) ?_; (simp only [List.setIfInBounds_toArray, List.set_cons_zero, List.set_cons_succ]); refine wpAnyH_takeD (i := 14) (d := 43) (v := undef) rfl (by kernel_rfl) (by kernel_rfl) (by kernel_rfl) (fun _ _ _ h => h) rfl (Or.inr ⟨by rfl, rfl⟩) (by assumption) ?_; (simp only [List.setIfInBounds_toArray, List.set_cons_zero, List.set_cons_succ]); refine wpAnyH_takeD (i := 15) (d := 44) (v := undef) rfl (by kernel_rfl) (by kernel_rfl) (by kernel_rfl) (fun _ _ _ h => h) rfl (Or.inr ⟨by rfl, rfl⟩) (by assumption) ?_; (simp only [List.setIfInBounds_toArray, List.set_cons_zero, List.set_cons_succ]); refine wpAnyH_takeD (i := 16) (d := 45) (v := undef) rfl (by kernel_rfl) (by kernel_rfl) (by kernel_rfl) (fun _ _ _ h => h) rfl (Or.inr ⟨by rfl, rfl⟩) (by assumption) ?_; (simp only [List.setIfInBounds_toArray, List.set_cons_zero, List.set_cons_succ]); refine wpAnyH_takeD (i := 17) (d := 46) (v := undef) rfl (by kernel_rfl) (by kernel_rfl) (by kernel_rfl) (fun _ _ _ h => h) rfl (Or.inr ⟨by rfl, rfl⟩) (by assumption) ?_; (simp only [List.setIfInBounds_toArray, List.set_cons_zero, List.set_cons_succ]); refine wpAnyH_takeD (i := 18) (d := 47) (v := undef) rfl (by kernel_rfl) (by kernel_rfl) (by kernel_rfl) (fun _ _ _ h => h) rfl (Or.inr ⟨by rfl, rfl⟩) (by assumption) ?_; (simp only [List.setIfInBounds_toArray, List.set_cons_zero, List.set_cons_succ]); refine wpAnyH_takeD (i := 19) (d := 48) (v := undef) rfl (by kernel_rfl) (by kernel_rfl) (by kernel_rfl) (fun _ _ _ h => h) rfl (Or.inr ⟨by rfl, rfl⟩) (by assumption) ?_; (simp only [List.setIfInBounds_toArray, List.set_cons_zero, List.set_cons_succ]); refine wpAnyH_takeD (i := 20) (d := 49) (v := undef) rfl (by kernel_rfl) (by kernel_rfl) (by kernel_rfl) (fun _ _ _ h => h) rfl (Or.inr ⟨by rfl, rfl⟩) (by assumption) ?_; (simp only [List.setIfInBounds_toArray, List.set_cons_zero, List.set_cons_succ]); refine wpAnyH_takeD (i := 21) (d := 50) (v := undef) rfl (by kernel_rfl) (by kernel_rfl) (by kernel_rfl) (fun _ _ _ h => h) rfl (Or.inr ⟨by rfl, rfl⟩) (by assumption) ?_; (simp only [List.setIfInBounds_toArray, List.set_cons_zero, List.set_cons_succ]); refine wpAnyH_takeD (i := 22) (d := 51) (v := undef) rfl (by kernel_rfl) (by kernel_rfl) (by kernel_rfl) (fun _ _ _ h => h) rfl (Or.inr ⟨by rfl, rfl⟩) (by assumption) ?_; (simp only [List.setIfInBounds_toArray, List.set_cons_zero, List.set_cons_succ]); refine tkD 23 52 (v := ?_) rfl (by kernel_rfl) (fun _ _ _ h => h) rfl (by rfl) (by assumption) ?_ ?_; rotate_left; (intro w hSw; (try dsimp only at hSw); go_simp; try (with_reducible rfl)); simp only [List.setIfInBounds_toArray, List.set_cons_zero, List.set_cons_succ]; refine wpAnyH_done (by kernel_rfl) ?_ _
      go_wp2
      go_ret
      exact HEND.out _ hB6
    · go_enter Tryz.func94, Tryz.ntmps94; go_upto_region 1 with (fail); rw [HWB.out]; go_upto_region 4 with (fail); rw [HW1.out]
      go_upto_region 7 with (fail)
      refine wp_region_held_drew (S := fun V => Below W1.heap.size W1 V) (by kernel_rfl) kD (fun hH => ?_); refine tkD 0 29 (v := ?_) rfl (by kernel_rfl) (fun _ _ _ h => h) rfl (by rfl) (by assumption) ?_ ?_; rotate_left; (intro w hSw; (try dsimp only at hSw); go_simp; try (with_reducible rfl)); simp only [List.setIfInBounds_toArray, List.set_cons_zero, List.set_cons_succ]; refine tkD 1 30 (v := ?_) rfl (by kernel_rfl) (fun _ _ _ h => h) rfl (by rfl) (by assumption) ?_ ?_; rotate_left; (intro w hSw; (try dsimp only at hSw); go_simp; try (with_reducible rfl)); simp only [List.setIfInBounds_toArray, List.set_cons_zero, List.set_cons_succ]; refine tkD 2 31 (v := ?_) rfl (by kernel_rfl) (fun _ _ _ h => h) rfl (by rfl) (by assumption) ?_ ?_; rotate_left; (intro w hSw; (try dsimp only at hSw); go_simp; try (with_reducible rfl)); simp only [List.setIfInBounds_toArray, List.set_cons_zero, List.set_cons_succ]; refine tkD 3 32 (v := ?_) rfl (by kernel_rfl) (fun _ _ _ h => h) rfl (by rfl) (by assumption) ?_ ?_; rotate_left; (intro w hSw; (try dsimp only at hSw); go_simp; try (with_reducible rfl)); simp only [List.setIfInBounds_toArray, List.set_cons_zero, List.set_cons_succ]; refine tkD 4 33 (v := ?_) rfl (by kernel_rfl) (fun _ _ _ h => h) rfl (by rfl) (by assumption) ?_ ?_; rotate_left; (intro w hSw; (try dsimp only at hSw); go_simp; try (with_reducible rfl)); simp only [List.setIfInBounds_toArray, List.set_cons_zero, List.set_cons_succ]; clear hH; refine wpAnyH_ready (rs := [5]) (by kernel_rfl) (by simp) ?_; refine AllReadyH.cons rfl (fun K hK => ?_) AllReadyH.nil; go_simp
      refine (HGD.out _ kD).mono ?_; rintro r w6 ⟨rfl, hb6⟩; have hB6 := bt kD hb6 (Nat.le_refl _); refine hK.out _ _ hB6 (fun hSx => ?_); clear hK K hSx
      refine tkD 6 35 (v := ?_) rfl (by kernel_rfl) (fun _ _ _ h => h) rfl (by rfl) (by assumption) ?_ ?_; rotate_left; (intro w hSw; (try dsimp only at hSw); go_simp; try (with_reducible rfl)); simp only [List.setIfInBounds_toArray, List.set_cons_zero, List.set_cons_succ]; refine tkD 7 36 (v := ?_) rfl (by kernel_rfl) (fun _ _ _ h => h) rfl (by rfl) (by assumption) ?_ ?_; rotate_left; (intro w hSw; (try dsimp only at hSw); go_simp; try (with_reducible rfl)); simp only [List.setIfInBounds_toArray, List.set_cons_zero, List.set_cons_succ]; refine tkD 8 37 (v := ?_) rfl (by kernel_rfl) (fun _ _ _ h => h) rfl (by rfl) (by assumption) ?_ ?_; rotate_left; (intro w hSw; (try dsimp only at hSw); go_simp; try (with_reducible rfl)); simp only [List.setIfInBounds_toArray, List.set_cons_zero, List.set_cons_succ]; refine tkD 9 38 (v := ?_) rfl (by kernel_rfl) (fun _ _ _ h => h) rfl (by rfl) (by assumption) ?_ ?_; rotate_left; (intro w hSw; (try dsimp only at hSw); go_simp; try (with_reducible rfl)); simp only [List.setIfInBounds_toArray, List.set_cons_zero, List.set_cons_succ]; refine tkD 10 39 (v := ?_) rfl (by kernel_rfl) (fun _ _ _ h => h) rfl (by rfl) (by assumption) ?_ ?_; rotate_left; (intro w hSw; (try dsimp only at hSw); go_simp; try (with_reducible rfl)); simp only [List.setIfInBounds_toArray, List.set_cons_zero, List.set_cons_succ]; refine tkD 11 40 (v := ?_) rfl (by kernel_rfl) (fun _ _ _ h => h) rfl (by rfl) (by assumption) ?_ ?_; rotate_left; (intro w hSw; (try dsimp only at hSw); go_simp; try (with_reducible rfl)); simp only [List.setIfInBounds_toArray, List.set_cons_zero, List.set_cons_succ]; refine tkD 12 41 (v := ?_) rfl (by kernel_rfl) (fun _ _ _ h => h) rfl (by rfl) (by assumption) ?_ ?_; rotate_left; (intro w hSw; (try dsimp only at hSw); go_simp; try (with_reducible rfl)); simp only [List.setIfInBounds_toArray, List.set_cons_zero, List.set_cons_succ]; refine tkD 13 42 (v := ?_) rfl (by kernel_rfl) (fun _ _ _ h => h) rfl (by rfl) (by assumption) ?_ ?_; rotate_left; (intro w hSw; (try dsimp only at hSw); go_simp; try (with_reducible rfl)); simp only [List.setIfInBounds_toArray, List.set_cons_zero, List.set_cons_succ]; refine tkD 14 43 (v := ?_) rfl (by kernel_rfl) (fun _ _ _ h => h) rfl (by rfl) (by assumption) ?_ ?_; rotate_left; (intro w hSw; (try dsimp only at hSw); go_simp; try (with_reducible rfl)); simp only [List.setIfInBounds_toArray, List.set_cons_zero, List.set_cons_succ]; refine tkD 15 44 (v := ?_) rfl (by kernel_rfl) (fun _ _ _ h => h) rfl (by rfl) (by assumption) ?_ ?_; rotate_left; (intro w hSw; (try dsimp only at hSw); go_simp; try (with_reducible rfl)); simp only [List.setIfInBounds_toArray, List.set_cons_zero, List.set_cons_succ]; refine tkD 16 45 (v := ?_) rfl (by kernel_rfl) (fun _ _ _ h => h) rfl (by rfl) (by assumption) ?_ ?_; rotate_left; (intro w hSw; (try dsimp only at hSw); go_simp; try (with_reducible rfl)); simp only [List.setIfInBounds_toArray, List.set_cons_zero, List.set_cons_succ]; refine tkD 17 46 (v := ?_) rfl (by kernel_rfl) (fun _ _ _ h => h) rfl (by rfl) (by assumption) ?_ ?_; rotate_left; (intro w hSw; (try dsimp only at hSw); go_simp; try (with_reducible rfl)); simp only [List.setIfInBounds_toArray, List.set_cons_zero, List.set_cons_succ]; refine tkD 18 47 (v := ?_) rfl (by kernel_rfl) (fun _ _ _ h => h) rfl (by rfl) (by assumption) ?_ ?_; rotate_left; (intro w hSw; (try dsimp only at hSw); go_simp; try (with_reducible rfl)); simp only [List.setIfInBounds_toArray, List.set_cons_zero, List.set_cons_succ]; refine tkD 19 48 (v := ?_) rfl (by kernel_rfl) (fun _ _ _ h => h) rfl (by rfl) (by assumption) ?_ ?_; rotate_left; (intro w hSw; (try dsimp only at hSw); go_simp; try (with_reducible rfl)); simp only [List.setIfInBounds_toArray, List.set_cons_zero, List.set_cons_succ]; refine tkD 20 49 (v := ?_) rfl (by kernel_rfl) (fun _ _ _ h => h) rfl (by rfl) (by assumption) ?_ ?_; rotate_left; (intro w hSw; (try dsimp only at hSw); go_simp; try (with_reducible rfl)); simp only [List.setIfInBounds_toArray, List.set_cons_zero, List.set_cons_succ]; refine tkD 21 50 (v := ?_) rfl (by kernel_rfl) (fun _ _ _ h => h) rfl (by rfl) (by assumption) ?_ ?_; rotate_left; (intro w hSw; (try dsimp only at hSw); go_simp; try (with_reducible rfl)); simp only [List.setIfInBounds_toArray, List.set_cons_zero, List.set_cons_succ]; refine tkD 22 51 (v := ?_) rfl (by kernel_rfl) (fun _ _ _ h => h) rfl (by rfl) (by assumption) ?_ ?_; rotate_left; (intro w hSw; (try dsimp only at hSw); go_simp; try (with_reducible rfl)); simp only [List.setIfInBounds_toArray, List.set_cons_zero, List.set_cons_succ]; refine tkD 23 52 (v := ?_) rfl (by kernel_rfl) (fun _ _ _ h => h) rfl (by rfl) (by assumption) ?_ ?_; rotate_left; (intro w hSw; (try dsimp only at hSw); go_simp; try (with_reducible rfl)); simp only [List.setIfInBounds_toArray, List.set_cons_zero, List.set_cons_succ]; refine wpAnyH_done (by kernel_rfl) ?_ _
      go_wp2
      go_ret
      exact HEND.out _ hB6
  · obtain rfl : V = false := by
      rcases hvv with e | ⟨_, e, _⟩
      · exact e
      · exact absurd (of_decide_eq_true e) (by decide)
    clear hvv
    go_enter Tryz.func94, Tryz.ntmps94; go_upto_region 1 with (fail); rw [HWB.out]; go_upto_region 4 with (fail); rw [HW1.out]
    go_upto_region 7 with (go_at_call 134; (with_reducible refine (HRF.out _).mono ?_); rintro r w5 ⟨rfl, hb5⟩)
    have kE := hb5.drew
    refine wp_region_held_drew (S := fun V => Below W1.heap.size W1 V) (by kernel_rfl) kE (fun hH => ?_); refine tkD 0 29 (v := ?_) rfl (by kernel_rfl) (fun _ _ _ h => h) rfl (by rfl) (by assumption) ?_ ?_; rotate_left; (intro w hSw; (try dsimp only at hSw); go_simp; try (with_reducible rfl)); simp only [List.setIfInBounds_toArray, List.set_cons_zero, List.set_cons_succ]; refine tkD 1 30 (v := ?_) rfl (by kernel_rfl) (fun _ _ _ h => h) rfl (by rfl) (by assumption) ?_ ?_; rotate_left; (intro w hSw; (try dsimp only at hSw); go_simp; try (with_reducible rfl)); simp only [List.setIfInBounds_toArray, List.set_cons_zero, List.set_cons_succ]; refine tkD 2 31 (v := ?_) rfl (by kernel_rfl) (fun _ _ _ h => h) rfl (by rfl) (by assumption) ?_ ?_; rotate_left; (intro w hSw; (try dsimp only at hSw); go_simp; try (with_reducible rfl)); simp only [List.setIfInBounds_toArray, List.set_cons_zero, List.set_cons_succ]; refine tkD 3 32 (v := ?_) rfl (by kernel_rfl) (fun _ _ _ h => h) rfl (by rfl) (by assumption) ?_ ?_; rotate_left; (intro w hSw; (try dsimp only at hSw); go_simp; try (with_reducible rfl)); simp only [List.setIfInBounds_toArray, List.set_cons_zero, List.set_cons_succ]; refine tkD 4 33 (v := ?_) rfl (by kernel_rfl) (fun _ _ _ h => h) rfl (by rfl) (by assumption) ?_ ?_; rotate_left; (intro w hSw; (try dsimp only at hSw); go_simp; try (with_reducible rfl)); simp only [List.setIfInBounds_toArray, List.set_cons_zero, List.set_cons_succ]; clear hH; refine wpAnyH_ready (rs := [5]) (by kernel_rfl) (by simp) ?_; refine AllReadyH.cons rfl (fun K hK => ?_) AllReadyH.nil; go_simp
    refine (HGD.out _ kE).mono ?_; rintro r w6 ⟨rfl, hb6⟩; have hB6 := bt kE hb6 (Nat.le_refl _); refine hK.out _ _ hB6 (fun hSx => ?_); clear hK K hSx
    refine tkD 6 35 (v := ?_) rfl (by kernel_rfl) (fun _ _ _ h => h) rfl (by rfl) (by assumption) ?_ ?_; rotate_left; (intro w hSw; (try dsimp only at hSw); go_simp; try (with_reducible rfl)); simp only [List.setIfInBounds_toArray, List.set_cons_zero, List.set_cons_succ]; refine tkD 7 36 (v := ?_) rfl (by kernel_rfl) (fun _ _ _ h => h) rfl (by rfl) (by assumption) ?_ ?_; rotate_left; (intro w hSw; (try dsimp only at hSw); go_simp; try (with_reducible rfl)); simp only [List.setIfInBounds_toArray, List.set_cons_zero, List.set_cons_succ]; refine wpAnyH_takeD (i := 8) (d := 37) (v := undef) rfl (by kernel_rfl) (by kernel_rfl) (by kernel_rfl) (fun _ _ _ h => h) rfl (Or.inr ⟨by rfl, rfl⟩) (by assumption) ?_; (simp only [List.setIfInBounds_toArray, List.set_cons_zero, List.set_cons_succ]); refine wpAnyH_takeD (i := 9) (d := 38) (v := undef) rfl (by kernel_rfl) (by kernel_rfl) (by kernel_rfl) (fun _ _ _ h => h) rfl (Or.inr ⟨by rfl, rfl⟩) (by assumption) ?_; (simp only [List.setIfInBounds_toArray, List.set_cons_zero, List.set_cons_succ]); refine wpAnyH_takeD (i := 10) (d := 39) (v := undef) rfl (by kernel_rfl) (by kernel_rfl) (by kernel_rfl) (fun _ _ _ h => h) rfl (Or.inr ⟨by rfl, rfl⟩) (by assumption) ?_; (simp only [List.setIfInBounds_toArray, List.set_cons_zero, List.set_cons_succ]); refine wpAnyH_takeD (i := 11) (d := 40) (v := undef) rfl (by kernel_rfl) (by kernel_rfl) (by kernel_rfl) (fun _ _ _ h => h) rfl (Or.inr ⟨by rfl, rfl⟩) (by assumption) ?_; (simp only [List.setIfInBounds_toArray, List.set_cons_zero, List.set_cons_succ]); refine wpAnyH_takeD (i := 12) (d := 41) (v := undef) rfl (by kernel_rfl) (by kernel_rfl) (by kernel_rfl) (fun _ _ _ h => h) rfl (Or.inr ⟨by rfl, rfl⟩) (by assumption) ?_; (simp only [List.setIfInBounds_toArray, List.set_cons_zero, List.set_cons_succ]); refine wpAnyH_takeD (i := 13) (d := 42) (v := undef) rfl (by kernel_rfl) (by kernel_rfl) (by kernel_rfl) (fun _ _ _ h => h) rfl (Or.inr ⟨by rfl, rfl⟩) (by assumption) ?_; (simp only [List.setIfInBounds_toArray, List.set_cons_zero, List.set_cons_succ]); refine wpAnyH_takeD (i := 14) (d := 43) (v := undef) rfl (by kernel_rfl) (by kernel_rfl) (by kernel_rfl) (fun _ _ _ h => h) rfl (Or.inr ⟨by rfl, rfl⟩) (by assumption) ?_; (simp only [List.setIfInBounds_toArray, List.set_cons_zero, List.set_cons_succ]); refine wpAnyH_takeD (i := 15) (d := 44) (v := undef) rfl (by kernel_rfl) (by kernel_rfl) (by kernel_rfl) (fun _ _ _ h => h) rfl (Or.inr ⟨by rfl, rfl⟩) (by assumption) ?_; (simp only [List.setIfInBounds_toArray, List.set_cons_zero, List.set_cons_succ]); refine wpAnyH_takeD (i := 16) (d := 45) (v := undef) rfl (by kernel_rfl) (by kernel_rfl) (by kernel_rfl) (fun _ _ _ h => h) rfl (Or.inr ⟨by rfl, rfl⟩) (by assumption) ?_; (simp only [List.setIfInBounds_toArray, List.set_cons_zero, List.set_cons_succ]); refine wpAnyH_takeD (i := 17) (d := 46) (v := undef) rfl (by kernel_rfl) (by kernel_rfl) (by kernel_rfl) (fun _ _ _ h => h) rfl (Or.inr ⟨by rfl, rfl⟩) (by assumption) ?_; (simp only [List.setIfInBounds_toArray, List.set_cons_zero, List.set_cons_succ]); refine wpAnyH_takeD (i := 18) (d := 47) (v := undef) rfl (by kernel_rfl) (by kernel_rfl) (by kernel_rfl) (fun _ _ _ h => h) rfl (Or.inr ⟨by rfl, rfl⟩) (by assumption) ?_; (simp only [List.setIfInBounds_toArray, List.set_cons_zero, List.set_cons_succ]); refine wpAnyH_takeD (i := 19) (d := 48) (v := undef) rfl (by kernel_rfl) (by kernel_rfl) (by kernel_rfl) (fun _ _ _ h => h) rfl (Or.inr ⟨by rfl, rfl⟩) (by assumption) ?_; (simp only [List.setIfInBounds_toArray, List.set_cons_zero, List.set_cons_succ]); refine wpAnyH_takeD (i := 20) (d := 49) (v := undef) rfl (by kernel_rfl) (by kernel_rfl) (by kernel_rfl) (fun _ _ _ h => h) rfl (Or.inr ⟨by rfl, rfl⟩) (by assumption) ?_; (simp only [List.setIfInBounds_toArray, List.set_cons_zero, List.set_cons_succ]); refine wpAnyH_takeD (i := 21) (d := 50) (v := undef) rfl (by kernel_rfl) (by kernel_rfl) (by kernel_rfl) (fun _ _ _ h => h) rfl (Or.inr ⟨by rfl, rfl⟩) (by assumption) ?_; (simp only [List.setIfInBounds_toArray, List.set_cons_zero, List.set_cons_succ]); refine wpAnyH_takeD (i := 22) (d := 51) (v := undef) rfl (by kernel_rfl) (by kernel_rfl) (by kernel_rfl) (fun _ _ _ h => h) rfl (Or.inr ⟨by rfl, rfl⟩) (by assumption) ?_; (simp only [List.setIfInBounds_toArray, List.set_cons_zero, List.set_cons_succ]); refine tkD 23 52 (v := ?_) rfl (by kernel_rfl) (fun _ _ _ h => h) rfl (by rfl) (by assumption) ?_ ?_; rotate_left; (intro w hSw; (try dsimp only at hSw); go_simp; try (with_reducible rfl)); simp only [List.setIfInBounds_toArray, List.set_cons_zero, List.set_cons_succ]; refine wpAnyH_done (by kernel_rfl) ?_ _
    go_wp2
    go_ret
    exact HEND.out _ hB6

end Go.Proofs.YtipnamoocemeeaaGreat

/-
The contract of the reference identification's Feed where the reply can continue it.
-/
namespace Go.Proofs.YtipnamoocemeeaaGreat
open Go.RowKit

set_option maxRecDepth 100000 in
set_option maxHeartbeats 6400000 in
theorem rifeed_g {W0 w : World} {g : Nat} {x : Idn} {v : Value} {cs : List Value} (h : RiAt W0 w g x v cs) (hst : x.st = 0) (hk : x.ok) (O : Oc) (da : Option Addr) (dc : Nat) (oa : Option Addr) (oc : Nat) (HI : RpIs W0 O.reply da dc oa oc) (hO : O.fit) (hb : Below W0.heap.size W0 w) (hg : W0.heap.size ≤ g) (hA : ¬ (O.verdict = 2 ∧ O.reply.exc = 1 ∧ x.cnt = 0)) (hvg : v.ownBlock ≠ some g) (hbad : x.bad O = false)
    (y : Idn) (hy : y = ⟨if O.reply.more then (if x.cnt + 1 = 32 then 4 else 0) else 2, O.reply.level, x.objs ++ O.reply.objs, O.reply.next, x.cnt + 1⟩) :
    Calls Tryz.prog 94 #[.pointer (some ⟨g, 0, none⟩), .agg #[.int .i64 O.verdict, .int .i64 O.reply.fn, .int .i64 O.reply.exc, .slice da O.reply.data.length dc, .int .i64 O.reply.code, .int .i64 O.reply.level, .bool O.reply.more, .int .i64 O.reply.next, .slice oa O.reply.objs.length oc]] w (RiFed W0 w g y) := by
  obtain ⟨V, hV⟩ : ∃ V, goodB x.next O = V := ⟨_, rfl⟩
  obtain ⟨c, hcn⟩ : ∃ c : Int, (x.cnt : Int) = c := ⟨_, rfl⟩; obtain ⟨c1, hc1⟩ : ∃ c1 : Int, c + 1 = c1 := ⟨_, rfl⟩; obtain ⟨WB, hWB⟩ : ∃ W, w.alloc (.cells #[.int .i64 O.verdict, .int .i64 O.reply.fn, .int .i64 O.reply.exc, .slice da O.reply.data.length dc, .int .i64 O.reply.code, .int .i64 O.reply.level, .bool O.reply.more, .int .i64 O.reply.next, .slice oa O.reply.objs.length oc] 55) = W := ⟨_, rfl⟩; have hbB : Below w.heap.size w WB := (by rw [← hWB]; exact bal' w _); have pB : WB.heap[w.heap.size]? = some (.cells #[.int .i64 O.verdict, .int .i64 O.reply.fn, .int .i64 O.reply.exc, .slice da O.reply.data.length dc, .int .i64 O.reply.code, .int .i64 O.reply.level, .bool O.reply.more, .int .i64 O.reply.next, .slice oa O.reply.objs.length oc] 55) := (by rw [← hWB]; exact hpNew w _); have lB := hpKeep h.at_ hbB; rw [hst, hcn] at lB; have hgl : g < w.heap.size := hpLt h.at_; have a0 : WB.cell? ⟨g, 0, none⟩ = some (.int .i64 0) := hpCell lB 0; have a4 : WB.cell? ⟨g, 4, none⟩ = some (.int .i64 c) := hpCell lB 4; have e4 : WB.frozen? ⟨g, 4, none⟩ = false := hpFree lB 4; have s1 : IntKind.i64.wrap (c + 1) = c1 := (by rw [IntWalk.i64_in _ (by have := hk.cn; omega)]; exact hc1)
  obtain ⟨W1, hW1⟩ : ∃ W, WB.setCell ⟨g, 4, none⟩ (.int .i64 c1) = W := ⟨_, rfl⟩; have hk1 : Keeps (· = g) WB W1 := (by rw [← hW1]; exact ks1 (Keeps.refl _ _) _ _); have p1 : W1.heap[w.heap.size]? = some (.cells #[.int .i64 O.verdict, .int .i64 O.reply.fn, .int .i64 O.reply.exc, .slice da O.reply.data.length dc, .int .i64 O.reply.code, .int .i64 O.reply.level, .bool O.reply.more, .int .i64 O.reply.next, .slice oa O.reply.objs.length oc] 55) := hpKeeps pB hk1 (fun e => by omega); have l1 : RiC W1 g 0 x.level v x.next c1 := (by rw [← hW1]; exact hpSetP lB rfl); have HKW : Hid (Keeps (· = g) w W1) := (Keeps.of_below hbB).trans hk1 (fun _ _ e => e); have HWB := hid hWB; have HW1 := hid hW1; have P1 := hid p1; have L1 := hid l1; have HCN := hid hcn; have HC1 := hid hc1; clear hWB hW1 pB lB p1 l1 hk1 hbB hcn hc1
  have HB0 : Hid (Below W0.heap.size W0 w) := hb
  have HW01 : Hid (Below W0.heap.size W0 W1) := hb.trans (HKW.out.below hb.size (fun j hj e => by omega))
  have HGD : Hid (∀ X, Below W1.heap.size W1 X → Calls Tryz.prog 135 #[.agg #[.int .i64 O.verdict, .int .i64 O.reply.fn, .int .i64 O.reply.exc, .slice da O.reply.data.length dc, .int .i64 O.reply.code, .int .i64 O.reply.level, .bool O.reply.more, .int .i64 O.reply.next, .slice oa O.reply.objs.length oc], .int .i64 x.next] X (BoolPost X V)) := fun X hX => good_any O da oa dc oc x.next X (HI.o.keep (bt HW01.out hX (Nat.le_refl _))) V hV
  have k0 : Below W1.heap.size W1 W1 := Below.refl _ _; have kD : Below W1.heap.size W1 W1.drew := (Below.refl _ _).drew; have g0 : ∀ X, Below W1.heap.size W1 X → X.cell? ⟨g, 0, none⟩ = some (.int .i64 0) := (fun X h => hpCell (hpKeep L1.out h) 0); have g1 : ∀ X, Below W1.heap.size W1 X → X.cell? ⟨g, 1, none⟩ = some (.int .i64 x.level) := (fun X h => hpCell (hpKeep L1.out h) 1); have g2 : ∀ X, Below W1.heap.size W1 X → X.cell? ⟨g, 2, none⟩ = some v := (fun X h => hpCell (hpKeep L1.out h) 2); have g3 : ∀ X, Below W1.heap.size W1 X → X.cell? ⟨g, 3, none⟩ = some (.int .i64 x.next) := (fun X h => hpCell (hpKeep L1.out h) 3); have g4 : ∀ X, Below W1.heap.size W1 X → X.cell? ⟨g, 4, none⟩ = some (.int .i64 c1) := (fun X h => hpCell (hpKeep L1.out h) 4); have f0 : ∀ X, Below W1.heap.size W1 X → X.frozen? ⟨g, 0, none⟩ = false := (fun X h => hpFree (hpKeep L1.out h) 0); have f1 : ∀ X, Below W1.heap.size W1 X → X.frozen? ⟨g, 1, none⟩ = false := (fun X h => hpFree (hpKeep L1.out h) 1); have f2 : ∀ X, Below W1.heap.size W1 X → X.frozen? ⟨g, 2, none⟩ = false := (fun X h => hpFree (hpKeep L1.out h) 2)
  have o0 : ∀ X, Below W1.heap.size W1 X → X.cell? ⟨w.heap.size, 0, none⟩ = some (.int .i64 O.verdict) := (fun X h => hpCell (hpKeep P1.out h) 0); have o1 : ∀ X, Below W1.heap.size W1 X → X.cell? ⟨w.heap.size, 1, none⟩ = some (.int .i64 O.reply.fn) := (fun X h => hpCell (hpKeep P1.out h) 1); have o2 : ∀ X, Below W1.heap.size W1 X → X.cell? ⟨w.heap.size, 2, none⟩ = some (.int .i64 O.reply.exc) := (fun X h => hpCell (hpKeep P1.out h) 2); have o3 : ∀ X, Below W1.heap.size W1 X → X.cell? ⟨w.heap.size, 3, none⟩ = some (.slice da O.reply.data.length dc) := (fun X h => hpCell (hpKeep P1.out h) 3); have o4 : ∀ X, Below W1.heap.size W1 X → X.cell? ⟨w.heap.size, 4, none⟩ = some (.int .i64 O.reply.code) := (fun X h => hpCell (hpKeep P1.out h) 4); have o5 : ∀ X, Below W1.heap.size W1 X → X.cell? ⟨w.heap.size, 5, none⟩ = some (.int .i64 O.reply.level) := (fun X h => hpCell (hpKeep P1.out h) 5); have o6 : ∀ X, Below W1.heap.size W1 X → X.cell? ⟨w.heap.size, 6, none⟩ = some (.bool O.reply.more) := (fun X h => hpCell (hpKeep P1.out h) 6); have o7 : ∀ X, Below W1.heap.size W1 X → X.cell? ⟨w.heap.size, 7, none⟩ = some (.int .i64 O.reply.next) := (fun X h => hpCell (hpKeep P1.out h) 7); have o8 : ∀ X, Below W1.heap.size W1 X → X.cell? ⟨w.heap.size, 8, none⟩ = some (.slice oa O.reply.objs.length oc) := (fun X h => hpCell (hpKeep P1.out h) 8); obtain ⟨R1, hR1⟩ : ∃ b, refB O.verdict O.reply.exc 1 = b := ⟨_, rfl⟩; have HRF : Hid (∀ X, Calls Tryz.prog 134 #[.agg #[.int .i64 O.verdict, .int .i64 O.reply.fn, .int .i64 O.reply.exc, .slice da O.reply.data.length dc, .int .i64 O.reply.code, .int .i64 O.reply.level, .bool O.reply.more, .int .i64 O.reply.next, .slice oa O.reply.objs.length oc], .int .i64 1] X (BoolPost X R1)) := (fun X => by rw [← hR1]; exact refused_any _ _ _ _ _ _ _ _ _ _ X); have HR1 := hid hR1; clear hR1
  have f3 : ∀ X, Below W1.heap.size W1 X → X.frozen? ⟨g, 3, none⟩ = false := fun X h => hpFree (hpKeep L1.out h) 3
  have HY := hid hy
  have hcc : (c1 = 1 ∧ R1 = false) ∨ ((c1 == 1) = false ∧ decide (1 < c1) = true ∧ (O.reply.level != x.level) = false) := by
    rw [bad_good, hV] at hbad
    simp only [Bool.or_eq_false_iff, Bool.and_eq_false_iff, decide_eq_false_iff_not] at hbad
    by_cases e : c1 = 1
    · refine .inl ⟨e, ?_⟩
      rw [← HR1.out]
      cases hx : refB O.verdict O.reply.exc 1 with
      | false => rfl
      | true =>
        exfalso
        unfold refB at hx
        simp only [Bool.and_eq_true, beq_iff_eq] at hx
        exact hA ⟨hx.1, hx.2, by have := HCN.out; have := HC1.out; omega⟩
    · refine .inr ⟨b0 e, decide_eq_true (by have := HCN.out; have := HC1.out; omega), ?_⟩
      rcases hbad.2 with h1 | h1
      · exact absurd (by have := HCN.out; have := HC1.out; omega) h1
      · exact h1
  obtain rfl : V = true := by
    rw [bad_good, hV] at hbad
    simp only [Bool.or_eq_false_iff] at hbad
    cases V with
    | true => rfl
    | false => exact absurd hbad.1 (by decide)
  have HOWN := hid h.own
  obtain ⟨cs2, hcs2⟩ := HI.o.cls
  have HCS2 := hid hcs2
  have HVG : Hid (∀ k, v.ownBlock = some k → k ≠ g) := fun k hk e => by
    subst e
    exact hvg hk
  have HONE1 : Hid (∀ u ∈ cs, u.oneCell' = true) := CsL.one ObQ_one _ _ h.obs
  have HONE2 : Hid (∀ u ∈ cs2, u.oneCell' = true) := CsL.one ObQ_one _ _ hcs2.1
  have HOBS := hid h.obs
  have HKO := hid hk
  have HFO := hid hO
  have HII := hid HI
  have HGG := hid hg
  have hbs := hb.size
  clear h hy hA hst hk hV hbad HI hb hO hg hcs2 hvg
  rcases hcc with ⟨rfl, rfl⟩ | ⟨d1, d2, d3⟩
  · go_enter Tryz.func94, Tryz.ntmps94; go_upto_region 1 with (fail); rw [HWB.out]; go_upto_region 4 with (fail); rw [HW1.out]
    go_upto_region 7 with (go_at_call 134; (with_reducible refine (HRF.out _).mono ?_); rintro r w5 ⟨rfl, hb5⟩)
    have kE := hb5.drew
    refine wp_region_held_drew (S := fun V => Below W1.heap.size W1 V) (by kernel_rfl) kE (fun hH => ?_); refine tkD 0 29 (v := ?_) rfl (by kernel_rfl) (fun _ _ _ h => h) rfl (by rfl) (by assumption) ?_ ?_; rotate_left; (intro w hSw; (try dsimp only at hSw); go_simp; try (with_reducible rfl)); simp only [List.setIfInBounds_toArray, List.set_cons_zero, List.set_cons_succ]; refine tkD 1 30 (v := ?_) rfl (by kernel_rfl) (fun _ _ _ h => h) rfl (by rfl) (by assumption) ?_ ?_; rotate_left; (intro w hSw; (try dsimp only at hSw); go_simp; try (with_reducible rfl)); simp only [List.setIfInBounds_toArray, List.set_cons_zero, List.set_cons_succ]; refine tkD 2 31 (v := ?_) rfl (by kernel_rfl) (fun _ _ _ h => h) rfl (by rfl) (by assumption) ?_ ?_; rotate_left; (intro w hSw; (try dsimp only at hSw); go_simp; try (with_reducible rfl)); simp only [List.setIfInBounds_toArray, List.set_cons_zero, List.set_cons_succ]; refine tkD 3 32 (v := ?_) rfl (by kernel_rfl) (fun _ _ _ h => h) rfl (by rfl) (by assumption) ?_ ?_; rotate_left; (intro w hSw; (try dsimp only at hSw); go_simp; try (with_reducible rfl)); simp only [List.setIfInBounds_toArray, List.set_cons_zero, List.set_cons_succ]; refine tkD 4 33 (v := ?_) rfl (by kernel_rfl) (fun _ _ _ h => h) rfl (by rfl) (by assumption) ?_ ?_; rotate_left; (intro w hSw; (try dsimp only at hSw); go_simp; try (with_reducible rfl)); simp only [List.setIfInBounds_toArray, List.set_cons_zero, List.set_cons_succ]; clear hH; refine wpAnyH_ready (rs := [5]) (by kernel_rfl) (by simp) ?_; refine AllReadyH.cons rfl (fun K hK => ?_) AllReadyH.nil; go_simp
    refine (HGD.out _ kE).mono ?_; rintro r w6 ⟨rfl, hb6⟩; have hB6 := bt kE hb6 (Nat.le_refl _); refine hK.out _ _ hB6 (fun hSx => ?_); clear hK K hSx
    refine tkD 6 35 (v := ?_) rfl (by kernel_rfl) (fun _ _ _ h => h) rfl (by rfl) (by assumption) ?_ ?_; rotate_left; (intro w hSw; (try dsimp only at hSw); go_simp; try (with_reducible rfl)); simp only [List.setIfInBounds_toArray, List.set_cons_zero, List.set_cons_succ]; refine tkD 7 36 (v := ?_) rfl (by kernel_rfl) (fun _ _ _ h => h) rfl (by rfl) (by assumption) ?_ ?_; rotate_left; (intro w hSw; (try dsimp only at hSw); go_simp; try (with_reducible rfl)); simp only [List.setIfInBounds_toArray, List.set_cons_zero, List.set_cons_succ]; refine tkD 8 37 (v := ?_) rfl (by kernel_rfl) (fun _ _ _ h => h) rfl (by rfl) (by assumption) ?_ ?_; rotate_left; (intro w hSw; (try dsimp only at hSw); go_simp; try (with_reducible rfl)); simp only [List.setIfInBounds_toArray, List.set_cons_zero, List.set_cons_succ]; refine tkD 9 38 (v := ?_) rfl (by kernel_rfl) (fun _ _ _ h => h) rfl (by rfl) (by assumption) ?_ ?_; rotate_left; (intro w hSw; (try dsimp only at hSw); go_simp; try (with_reducible rfl)); simp only [List.setIfInBounds_toArray, List.set_cons_zero, List.set_cons_succ]; refine tkD 10 39 (v := ?_) rfl (by kernel_rfl) (fun _ _ _ h => h) rfl (by rfl) (by assumption) ?_ ?_; rotate_left; (intro w hSw; (try dsimp only at hSw); go_simp; try (with_reducible rfl)); simp only [List.setIfInBounds_toArray, List.set_cons_zero, List.set_cons_succ]; refine tkD 11 40 (v := ?_) rfl (by kernel_rfl) (fun _ _ _ h => h) rfl (by rfl) (by assumption) ?_ ?_; rotate_left; (intro w hSw; (try dsimp only at hSw); go_simp; try (with_reducible rfl)); simp only [List.setIfInBounds_toArray, List.set_cons_zero, List.set_cons_succ]; refine tkD 12 41 (v := ?_) rfl (by kernel_rfl) (fun _ _ _ h => h) rfl (by rfl) (by assumption) ?_ ?_; rotate_left; (intro w hSw; (try dsimp only at hSw); go_simp; try (with_reducible rfl)); simp only [List.setIfInBounds_toArray, List.set_cons_zero, List.set_cons_succ]; refine tkD 13 42 (v := ?_) rfl (by kernel_rfl) (fun _ _ _ h => h) rfl (by rfl) (by assumption) ?_ ?_; rotate_left; (intro w hSw; (try dsimp only at hSw); go_simp; try (with_reducible rfl)); simp only [List.setIfInBounds_toArray, List.set_cons_zero, List.set_cons_succ]; refine wpAnyH_takeD (i := 14) (d := 43) (v := undef) rfl (by kernel_rfl) (by kernel_rfl) (by kernel_rfl) (fun _ _ _ h => h) rfl (Or.inr ⟨by rfl, rfl⟩) (by assumption) ?_; (simp only [List.setIfInBounds_toArray, List.set_cons_zero, List.set_cons_succ]); refine wpAnyH_takeD (i := 15) (d := 44) (v := undef) rfl (by kernel_rfl) (by kernel_rfl) (by kernel_rfl) (fun _ _ _ h => h) rfl (Or.inr ⟨by rfl, rfl⟩) (by assumption) ?_; (simp only [List.setIfInBounds_toArray, List.set_cons_zero, List.set_cons_succ]); refine wpAnyH_takeD (i := 16) (d := 45) (v := undef) rfl (by kernel_rfl) (by kernel_rfl) (by kernel_rfl) (fun _ _ _ h => h) rfl (Or.inr ⟨by rfl, rfl⟩) (by assumption) ?_; (simp only [List.setIfInBounds_toArray, List.set_cons_zero, List.set_cons_succ]); refine wpAnyH_takeD (i := 17) (d := 46) (v := undef) rfl (by kernel_rfl) (by kernel_rfl) (by kernel_rfl) (fun _ _ _ h => h) rfl (Or.inr ⟨by rfl, rfl⟩) (by assumption) ?_; (simp only [List.setIfInBounds_toArray, List.set_cons_zero, List.set_cons_succ]); refine wpAnyH_takeD (i := 18) (d := 47) (v := undef) rfl (by kernel_rfl) (by kernel_rfl) (by kernel_rfl) (fun _ _ _ h => h) rfl (Or.inr ⟨by rfl, rfl⟩) (by assumption) ?_; (simp only [List.setIfInBounds_toArray, List.set_cons_zero, List.set_cons_succ]); refine wpAnyH_takeD (i := 19) (d := 48) (v := undef) rfl (by kernel_rfl) (by kernel_rfl) (by kernel_rfl) (fun _ _ _ h => h) rfl (Or.inr ⟨by rfl, rfl⟩) (by assumption) ?_; (simp only [List.setIfInBounds_toArray, List.set_cons_zero, List.set_cons_succ]); refine wpAnyH_takeD (i := 20) (d := 49) (v := undef) rfl (by kernel_rfl) (by kernel_rfl) (by kernel_rfl) (fun _ _ _ h => h) rfl (Or.inr ⟨by rfl, rfl⟩) (by assumption) ?_; (simp only [List.setIfInBounds_toArray, List.set_cons_zero, List.set_cons_succ]); refine wpAnyH_takeD (i := 21) (d := 50) (v := undef) rfl (by kernel_rfl) (by kernel_rfl) (by kernel_rfl) (fun _ _ _ h => h) rfl (Or.inr ⟨by rfl, rfl⟩) (by assumption) ?_; (simp only [List.setIfInBounds_toArray, List.set_cons_zero, List.set_cons_succ]); refine tkD 22 51 (v := ?_) rfl (by kernel_rfl) (fun _ _ _ h => h) rfl (by rfl) (by assumption) ?_ ?_; rotate_left; (intro w hSw; (try dsimp only at hSw); go_simp; try (with_reducible rfl)); simp only [List.setIfInBounds_toArray, List.set_cons_zero, List.set_cons_succ]; refine tkD 23 52 (v := ?_) rfl (by kernel_rfl) (fun _ _ _ h => h) rfl (by rfl) (by assumption) ?_ ?_; rotate_left; (intro w hSw; (try dsimp only at hSw); go_simp; try (with_reducible rfl)); simp only [List.setIfInBounds_toArray, List.set_cons_zero, List.set_cons_succ]; refine wpAnyH_done (by kernel_rfl) ?_ _
    go_upto_region 10 with (fail)
    go_region
    go_upto_region 11 with (fail)
    obtain ⟨W2, hW2⟩ : ∃ W, ((w6.setCell ⟨g, 1, none⟩ (.int .i64 O.reply.level)).setCell ⟨g, 3, none⟩ (.int .i64 O.reply.next)).drew = W := ⟨_, rfl⟩
    have hk2 : Keeps (· = g) w6 W2 := by rw [← hW2]; exact (ks1 (ks1 (Keeps.refl _ _) _ _) _ _).trans (Keeps.of_below (F := fun _ => False) (Below.refl _ _).drew) (fun _ _ e => e.elim)
    have l2 : RiC W2 g 0 O.reply.level v O.reply.next 1 := by rw [← hW2]; exact hpSetP (hpSetP (hpKeep L1.out hB6) rfl) rfl
    have p2 : W2.heap[w.heap.size]? = some (.cells #[.int .i64 O.verdict, .int .i64 O.reply.fn, .int .i64 O.reply.exc, .slice da O.reply.data.length dc, .int .i64 O.reply.code, .int .i64 O.reply.level, .bool O.reply.more, .int .i64 O.reply.next, .slice oa O.reply.objs.length oc] 55) := hpKeeps (hpKeep P1.out hB6) hk2 (fun e => by omega)
    rw [hW2]
    have hkW : Keeps (· = g) w W2 := (HKW.out.trans (Keeps.of_below hB6) (fun _ _ (e : False) => e.elim)).trans hk2 (fun _ _ e => e)
    have HB2 : Hid (Below W0.heap.size W0 W2) := HB0.out.trans (hkW.below hbs (fun j hj e => by have := HGG.out; omega))
    have HKW2 := hid hkW
    have own2 : W2.ownsRow W0.heap.size 156 2 v x.objs.length cs := own_keeps HOWN.out hkW (fun k hk e => HVG.out k hk e)
    have HRA : Hid (∀ X, Below W2.heap.size W2 X → RowR X 2 v x.objs.length cs) := fun X hX => (RowR.own own2).keep hX
    have HRB : Hid (∀ X, Below W2.heap.size W2 X → RowR X 2 (.slice oa O.reply.objs.length oc) O.reply.objs.length cs2) := fun X hX => (HCS2.out.2.keep HB2.out).keep hX
    have m0 : ∀ X, Below W2.heap.size W2 X → X.cell? ⟨g, 0, none⟩ = some (.int .i64 0) := fun X h => hpCell (hpKeep l2 h) 0
    have m2 : ∀ X, Below W2.heap.size W2 X → X.cell? ⟨g, 2, none⟩ = some v := fun X h => hpCell (hpKeep l2 h) 2
    have n2 : ∀ X, Below W2.heap.size W2 X → X.frozen? ⟨g, 2, none⟩ = false := fun X h => hpFree (hpKeep l2 h) 2
    have m8 : ∀ X, Below W2.heap.size W2 X → X.cell? ⟨w.heap.size, 8, none⟩ = some (.slice oa O.reply.objs.length oc) := fun X h => hpCell (hpKeep p2 h) 8
    have kD2 : Below W2.heap.size W2 W2.drew := (Below.refl _ _).drew
    have HL2 := hid l2
    have HP2 := hid p2
    clear g0 g1 g2 g3 g4 f0 f1 f2 f3 o0 o1 o2 o3 o4 o5 o6 o7 o8 hW2 hk2 l2 p2 hkW own2 k0 kD
    have q1 : x.objs.length ≤ 1280 := by have := HKO.out.ob; have := HKO.out.cn; omega
    have q2 : O.reply.objs.length ≤ 40 := HFO.out.objs
    obtain ⟨iO, hiO, hzO0, hzO1, hzO2⟩ := info_parts infoOb
    go_region_law (first
      | (refine step_appR rfl (.const (.slice none 0 0)) (.tmp 78) 51 rfl W2.heap.size 156 iO _ 2 32 Tryz.underlying51 hiO hzO0 hzO1 hzO2 rfl (by decide) (.slice none 0 0) 0 [] rfl (World.ownsRow_nil _ _ _ _) v x.objs.length cs rfl (HRA.out _ kD2) HONE1.out (by unfold maxLen; omega) (by omega) kD2.size ?_; intro v7 w7 hown7 hgr7 hnew7; rw [Nat.zero_add, List.nil_append] at hown7; obtain ⟨a7, k7, rfl⟩ := own_slice hown7; have hB7 : Below W2.heap.size W2 w7 := kD2.grown hgr7 kD2.size (fun k hk => nomatch hk))
      | (refine step_appR rfl (.tmp 79) (.tmp 82) 51 rfl W2.heap.size 156 iO _ 2 32 Tryz.underlying51 hiO hzO0 hzO1 hzO2 rfl (by decide) (.slice a7 x.objs.length k7) x.objs.length cs rfl hown7 (.slice oa O.reply.objs.length oc) O.reply.objs.length cs2 rfl (HRB.out _ hB7) HONE2.out (by unfold maxLen; omega) (by omega) hB7.size ?_; intro v8 w8 hown8 hgr8 hnew8; obtain ⟨a8, k8, rfl⟩ := own_slice hown8; have hB8 : Below W2.heap.size W2 w8 := hB7.grown hgr8 hB7.size (fun k hk => (hown7.lt k hk).1)))
    all_goals
      go_upto_region 12 with (fail)
      have HB8 := hid hB8
      have HOWN8 := hid hown8
      clear hown7 hgr7 hnew7 hown8 hgr8 hnew8 hB7 hB8 m0 m2 n2 m8 kD2 HRA HRB
      obtain ⟨W3, hW3⟩ : ∃ W, w8.setCell ⟨g, 2, none⟩ (.slice a8 (x.objs.length + O.reply.objs.length) k8) = W := ⟨_, rfl⟩
      have hk3 : Keeps (· = g) w8 W3 := by rw [← hW3]; exact ks1 (Keeps.refl _ _) _ _
      have l3 : RiC W3 g 0 O.reply.level (.slice a8 (x.objs.length + O.reply.objs.length) k8) O.reply.next 1 := by rw [← hW3]; exact hpSetP (hpKeep HL2.out HB8.out) rfl
      have p3 : W3.heap[w.heap.size]? = some (.cells #[.int .i64 O.verdict, .int .i64 O.reply.fn, .int .i64 O.reply.exc, .slice da O.reply.data.length dc, .int .i64 O.reply.code, .int .i64 O.reply.level, .bool O.reply.more, .int .i64 O.reply.next, .slice oa O.reply.objs.length oc] 55) := hpKeeps (hpKeep HP2.out HB8.out) hk3 (fun e => by omega)
      have o6 : W3.cell? ⟨w.heap.size, 6, none⟩ = some (.bool O.reply.more) := hpCell p3 6
      have g0 : W3.cell? ⟨g, 0, none⟩ = some (.int .i64 0) := hpCell l3 0
      have g1 : W3.cell? ⟨g, 1, none⟩ = some (.int .i64 O.reply.level) := hpCell l3 1
      have g2 : W3.cell? ⟨g, 2, none⟩ = some (.slice a8 (x.objs.length + O.reply.objs.length) k8) := hpCell l3 2
      have g4 : W3.cell? ⟨g, 4, none⟩ = some (.int .i64 1) := hpCell l3 4
      have f0 : W3.frozen? ⟨g, 0, none⟩ = false := hpFree l3 0
      have f1 : W3.frozen? ⟨g, 1, none⟩ = false := hpFree l3 1
      have f2 : W3.frozen? ⟨g, 2, none⟩ = false := hpFree l3 2
      have hne : ∀ k, (Value.slice a8 (x.objs.length + O.reply.objs.length) k8).ownBlock = some k → k ≠ g := fun k hk e => by
        have := (HOWN8.out.lt k hk).1
        have := HKW2.out.size
        omega
      have own3 : W3.ownsRow w.heap.size 156 2 (.slice a8 (x.objs.length + O.reply.objs.length) k8) (x.objs.length + O.reply.objs.length) (cs ++ cs2) := own_lower (own_keeps HOWN8.out hk3 hne) HKW2.out.size
      have hkw3 : Keeps (· = g) w W3 := (HKW2.out.trans (Keeps.of_below HB8.out) (fun _ _ (e : False) => e.elim)).trans hk3 (fun _ _ e => e)
      have HEND : Hid (∀ (e : Int) (st : Int), y.st = st → (∀ X, Keeps (· = g) W3 X → RiC X g st O.reply.level (.slice a8 (x.objs.length + O.reply.objs.length) k8) O.reply.next 1 → RiFed W0 w g y (.returned (.int .i64 0)) X)) := fun e st hst X hX hC => by
        refine ⟨rfl, ⟨O.reply.level, .slice a8 (x.objs.length + O.reply.objs.length) k8, O.reply.next, 1, cs ++ cs2, by rw [hst]; exact hC, fun _ => ⟨by rw [HY.out], ?_⟩, fun _ => ⟨by rw [HY.out], ?_, ?_⟩⟩, hkw3.trans hX (fun _ _ e => e)⟩
        · rw [HY.out]
          show _ = ((x.cnt + 1 : Nat) : Int)
          have := HCN.out
          have := HC1.out
          omega
        · have := own_keeps own3 hX hne
          rw [HY.out]
          show X.ownsRow w.heap.size _ 2 _ (x.objs ++ O.reply.objs).length _
          rw [List.length_append]
          exact this
        · rw [HY.out]
          exact CsL.app _ _ HOBS.out _ _ HCS2.out.1
      have L3 := hid l3
      have HC32 : Hid ((1 : Int) = 32 ↔ x.cnt + 1 = 32) := by
        show _ ↔ _
        have := HCN.out
        have := HC1.out
        omega
      rw [hW3]
      clear hW3 hk3 l3 p3 hne own3
      cases hmo : O.reply.more with
      | false =>
        rw [hmo] at o6
        have hys : y.st = 2 := by rw [HY.out, hmo]; rfl
        have HYS := hid hys
        clear hys hmo g1 g2 g4 f1 f2
        go_wp2
        go_ret
        exact HEND.out 0 2 HYS.out _ (ks1 (Keeps.refl _ _) _ _) (hpSetP L3.out rfl)
      | true =>
        rw [hmo] at o6
        have h32 : ¬ (1 : Int) = 32 := by decide
        have d32 : ((1 : Int) == 32) = false := rfl
        have hys : y.st = 0 := by rw [HY.out, hmo, if_pos rfl, if_neg (fun e => h32 (HC32.out.2 e))]
        have HYS := hid hys
        clear hys hmo h32
        go_wp2
        go_ret
        exact HEND.out 0 0 HYS.out _ (Keeps.refl _ _) L3.out
  · go_enter Tryz.func94, Tryz.ntmps94; go_upto_region 1 with (fail); rw [HWB.out]; go_upto_region 4 with (fail); rw [HW1.out]
    go_upto_region 7 with (fail)
    refine wp_region_held_drew (S := fun V => Below W1.heap.size W1 V) (by kernel_rfl) kD (fun hH => ?_); refine tkD 0 29 (v := ?_) rfl (by kernel_rfl) (fun _ _ _ h => h) rfl (by rfl) (by assumption) ?_ ?_; rotate_left; (intro w hSw; (try dsimp only at hSw); go_simp; try (with_reducible rfl)); simp only [List.setIfInBounds_toArray, List.set_cons_zero, List.set_cons_succ]; refine tkD 1 30 (v := ?_) rfl (by kernel_rfl) (fun _ _ _ h => h) rfl (by rfl) (by assumption) ?_ ?_; rotate_left; (intro w hSw; (try dsimp only at hSw); go_simp; try (with_reducible rfl)); simp only [List.setIfInBounds_toArray, List.set_cons_zero, List.set_cons_succ]; refine tkD 2 31 (v := ?_) rfl (by kernel_rfl) (fun _ _ _ h => h) rfl (by rfl) (by assumption) ?_ ?_; rotate_left; (intro w hSw; (try dsimp only at hSw); go_simp; try (with_reducible rfl)); simp only [List.setIfInBounds_toArray, List.set_cons_zero, List.set_cons_succ]; refine tkD 3 32 (v := ?_) rfl (by kernel_rfl) (fun _ _ _ h => h) rfl (by rfl) (by assumption) ?_ ?_; rotate_left; (intro w hSw; (try dsimp only at hSw); go_simp; try (with_reducible rfl)); simp only [List.setIfInBounds_toArray, List.set_cons_zero, List.set_cons_succ]; refine tkD 4 33 (v := ?_) rfl (by kernel_rfl) (fun _ _ _ h => h) rfl (by rfl) (by assumption) ?_ ?_; rotate_left; (intro w hSw; (try dsimp only at hSw); go_simp; try (with_reducible rfl)); simp only [List.setIfInBounds_toArray, List.set_cons_zero, List.set_cons_succ]; clear hH; refine wpAnyH_ready (rs := [5]) (by kernel_rfl) (by simp) ?_; refine AllReadyH.cons rfl (fun K hK => ?_) AllReadyH.nil; go_simp
    refine (HGD.out _ kD).mono ?_; rintro r w6 ⟨rfl, hb6⟩; have hB6 := bt kD hb6 (Nat.le_refl _); refine hK.out _ _ hB6 (fun hSx => ?_); clear hK K hSx
    refine tkD 6 35 (v := ?_) rfl (by kernel_rfl) (fun _ _ _ h => h) rfl (by rfl) (by assumption) ?_ ?_; rotate_left; (intro w hSw; (try dsimp only at hSw); go_simp; try (with_reducible rfl)); simp only [List.setIfInBounds_toArray, List.set_cons_zero, List.set_cons_succ]; refine tkD 7 36 (v := ?_) rfl (by kernel_rfl) (fun _ _ _ h => h) rfl (by rfl) (by assumption) ?_ ?_; rotate_left; (intro w hSw; (try dsimp only at hSw); go_simp; try (with_reducible rfl)); simp only [List.setIfInBounds_toArray, List.set_cons_zero, List.set_cons_succ]; refine tkD 8 37 (v := ?_) rfl (by kernel_rfl) (fun _ _ _ h => h) rfl (by rfl) (by assumption) ?_ ?_; rotate_left; (intro w hSw; (try dsimp only at hSw); go_simp; try (with_reducible rfl)); simp only [List.setIfInBounds_toArray, List.set_cons_zero, List.set_cons_succ]; refine tkD 9 38 (v := ?_) rfl (by kernel_rfl) (fun _ _ _ h => h) rfl (by rfl) (by assumption) ?_ ?_; rotate_left; (intro w hSw; (try dsimp only at hSw); go_simp; try (with_reducible rfl)); simp only [List.setIfInBounds_toArray, List.set_cons_zero, List.set_cons_succ]; refine tkD 10 39 (v := ?_) rfl (by kernel_rfl) (fun _ _ _ h => h) rfl (by rfl) (by assumption) ?_ ?_; rotate_left; (intro w hSw; (try dsimp only at hSw); go_simp; try (with_reducible rfl)); simp only [List.setIfInBounds_toArray, List.set_cons_zero, List.set_cons_succ]; refine tkD 11 40 (v := ?_) rfl (by kernel_rfl) (fun _ _ _ h => h) rfl (by rfl) (by assumption) ?_ ?_; rotate_left; (intro w hSw; (try dsimp only at hSw); go_simp; try (with_reducible rfl)); simp only [List.setIfInBounds_toArray, List.set_cons_zero, List.set_cons_succ]; refine tkD 12 41 (v := ?_) rfl (by kernel_rfl) (fun _ _ _ h => h) rfl (by rfl) (by assumption) ?_ ?_; rotate_left; (intro w hSw; (try dsimp only at hSw); go_simp; try (with_reducible rfl)); simp only [List.setIfInBounds_toArray, List.set_cons_zero, List.set_cons_succ]; refine tkD 13 42 (v := ?_) rfl (by kernel_rfl) (fun _ _ _ h => h) rfl (by rfl) (by assumption) ?_ ?_; rotate_left; (intro w hSw; (try dsimp only at hSw); go_simp; try (with_reducible rfl)); simp only [List.setIfInBounds_toArray, List.set_cons_zero, List.set_cons_succ]; refine tkD 14 43 (v := ?_) rfl (by kernel_rfl) (fun _ _ _ h => h) rfl (by rfl) (by assumption) ?_ ?_; rotate_left; (intro w hSw; (try dsimp only at hSw); go_simp; try (with_reducible rfl)); simp only [List.setIfInBounds_toArray, List.set_cons_zero, List.set_cons_succ]; refine tkD 15 44 (v := ?_) rfl (by kernel_rfl) (fun _ _ _ h => h) rfl (by rfl) (by assumption) ?_ ?_; rotate_left; (intro w hSw; (try dsimp only at hSw); go_simp; try (with_reducible rfl)); simp only [List.setIfInBounds_toArray, List.set_cons_zero, List.set_cons_succ]; refine tkD 16 45 (v := ?_) rfl (by kernel_rfl) (fun _ _ _ h => h) rfl (by rfl) (by assumption) ?_ ?_; rotate_left; (intro w hSw; (try dsimp only at hSw); go_simp; try (with_reducible rfl)); simp only [List.setIfInBounds_toArray, List.set_cons_zero, List.set_cons_succ]; refine tkD 17 46 (v := ?_) rfl (by kernel_rfl) (fun _ _ _ h => h) rfl (by rfl) (by assumption) ?_ ?_; rotate_left; (intro w hSw; (try dsimp only at hSw); go_simp; try (with_reducible rfl)); simp only [List.setIfInBounds_toArray, List.set_cons_zero, List.set_cons_succ]; refine tkD 18 47 (v := ?_) rfl (by kernel_rfl) (fun _ _ _ h => h) rfl (by rfl) (by assumption) ?_ ?_; rotate_left; (intro w hSw; (try dsimp only at hSw); go_simp; try (with_reducible rfl)); simp only [List.setIfInBounds_toArray, List.set_cons_zero, List.set_cons_succ]; refine tkD 19 48 (v := ?_) rfl (by kernel_rfl) (fun _ _ _ h => h) rfl (by rfl) (by assumption) ?_ ?_; rotate_left; (intro w hSw; (try dsimp only at hSw); go_simp; try (with_reducible rfl)); simp only [List.setIfInBounds_toArray, List.set_cons_zero, List.set_cons_succ]; refine tkD 20 49 (v := ?_) rfl (by kernel_rfl) (fun _ _ _ h => h) rfl (by rfl) (by assumption) ?_ ?_; rotate_left; (intro w hSw; (try dsimp only at hSw); go_simp; try (with_reducible rfl)); simp only [List.setIfInBounds_toArray, List.set_cons_zero, List.set_cons_succ]; refine tkD 21 50 (v := ?_) rfl (by kernel_rfl) (fun _ _ _ h => h) rfl (by rfl) (by assumption) ?_ ?_; rotate_left; (intro w hSw; (try dsimp only at hSw); go_simp; try (with_reducible rfl)); simp only [List.setIfInBounds_toArray, List.set_cons_zero, List.set_cons_succ]; refine tkD 22 51 (v := ?_) rfl (by kernel_rfl) (fun _ _ _ h => h) rfl (by rfl) (by assumption) ?_ ?_; rotate_left; (intro w hSw; (try dsimp only at hSw); go_simp; try (with_reducible rfl)); simp only [List.setIfInBounds_toArray, List.set_cons_zero, List.set_cons_succ]; refine tkD 23 52 (v := ?_) rfl (by kernel_rfl) (fun _ _ _ h => h) rfl (by rfl) (by assumption) ?_ ?_; rotate_left; (intro w hSw; (try dsimp only at hSw); go_simp; try (with_reducible rfl)); simp only [List.setIfInBounds_toArray, List.set_cons_zero, List.set_cons_succ]; refine wpAnyH_done (by kernel_rfl) ?_ _
    go_upto_region 10 with (fail)
    go_region
    go_upto_region 11 with (fail)
    obtain ⟨W2, hW2⟩ : ∃ W, ((w6.setCell ⟨g, 1, none⟩ (.int .i64 O.reply.level)).setCell ⟨g, 3, none⟩ (.int .i64 O.reply.next)).drew = W := ⟨_, rfl⟩
    have hk2 : Keeps (· = g) w6 W2 := by rw [← hW2]; exact (ks1 (ks1 (Keeps.refl _ _) _ _) _ _).trans (Keeps.of_below (F := fun _ => False) (Below.refl _ _).drew) (fun _ _ e => e.elim)
    have l2 : RiC W2 g 0 O.reply.level v O.reply.next c1 := by rw [← hW2]; exact hpSetP (hpSetP (hpKeep L1.out hB6) rfl) rfl
    have p2 : W2.heap[w.heap.size]? = some (.cells #[.int .i64 O.verdict, .int .i64 O.reply.fn, .int .i64 O.reply.exc, .slice da O.reply.data.length dc, .int .i64 O.reply.code, .int .i64 O.reply.level, .bool O.reply.more, .int .i64 O.reply.next, .slice oa O.reply.objs.length oc] 55) := hpKeeps (hpKeep P1.out hB6) hk2 (fun e => by omega)
    rw [hW2]
    have hkW : Keeps (· = g) w W2 := (HKW.out.trans (Keeps.of_below hB6) (fun _ _ (e : False) => e.elim)).trans hk2 (fun _ _ e => e)
    have HB2 : Hid (Below W0.heap.size W0 W2) := HB0.out.trans (hkW.below hbs (fun j hj e => by have := HGG.out; omega))
    have HKW2 := hid hkW
    have own2 : W2.ownsRow W0.heap.size 156 2 v x.objs.length cs := own_keeps HOWN.out hkW (fun k hk e => HVG.out k hk e)
    have HRA : Hid (∀ X, Below W2.heap.size W2 X → RowR X 2 v x.objs.length cs) := fun X hX => (RowR.own own2).keep hX
    have HRB : Hid (∀ X, Below W2.heap.size W2 X → RowR X 2 (.slice oa O.reply.objs.length oc) O.reply.objs.length cs2) := fun X hX => (HCS2.out.2.keep HB2.out).keep hX
    have m0 : ∀ X, Below W2.heap.size W2 X → X.cell? ⟨g, 0, none⟩ = some (.int .i64 0) := fun X h => hpCell (hpKeep l2 h) 0
    have m2 : ∀ X, Below W2.heap.size W2 X → X.cell? ⟨g, 2, none⟩ = some v := fun X h => hpCell (hpKeep l2 h) 2
    have n2 : ∀ X, Below W2.heap.size W2 X → X.frozen? ⟨g, 2, none⟩ = false := fun X h => hpFree (hpKeep l2 h) 2
    have m8 : ∀ X, Below W2.heap.size W2 X → X.cell? ⟨w.heap.size, 8, none⟩ = some (.slice oa O.reply.objs.length oc) := fun X h => hpCell (hpKeep p2 h) 8
    have kD2 : Below W2.heap.size W2 W2.drew := (Below.refl _ _).drew
    have HL2 := hid l2
    have HP2 := hid p2
    clear g0 g1 g2 g3 g4 f0 f1 f2 f3 o0 o1 o2 o3 o4 o5 o6 o7 o8 hW2 hk2 l2 p2 hkW own2 k0 kD
    have q1 : x.objs.length ≤ 1280 := by have := HKO.out.ob; have := HKO.out.cn; omega
    have q2 : O.reply.objs.length ≤ 40 := HFO.out.objs
    obtain ⟨iO, hiO, hzO0, hzO1, hzO2⟩ := info_parts infoOb
    go_region_law (first
      | (refine step_appR rfl (.const (.slice none 0 0)) (.tmp 78) 51 rfl W2.heap.size 156 iO _ 2 32 Tryz.underlying51 hiO hzO0 hzO1 hzO2 rfl (by decide) (.slice none 0 0) 0 [] rfl (World.ownsRow_nil _ _ _ _) v x.objs.length cs rfl (HRA.out _ kD2) HONE1.out (by unfold maxLen; omega) (by omega) kD2.size ?_; intro v7 w7 hown7 hgr7 hnew7; rw [Nat.zero_add, List.nil_append] at hown7; obtain ⟨a7, k7, rfl⟩ := own_slice hown7; have hB7 : Below W2.heap.size W2 w7 := kD2.grown hgr7 kD2.size (fun k hk => nomatch hk))
      | (refine step_appR rfl (.tmp 79) (.tmp 82) 51 rfl W2.heap.size 156 iO _ 2 32 Tryz.underlying51 hiO hzO0 hzO1 hzO2 rfl (by decide) (.slice a7 x.objs.length k7) x.objs.length cs rfl hown7 (.slice oa O.reply.objs.length oc) O.reply.objs.length cs2 rfl (HRB.out _ hB7) HONE2.out (by unfold maxLen; omega) (by omega) hB7.size ?_; intro v8 w8 hown8 hgr8 hnew8; obtain ⟨a8, k8, rfl⟩ := own_slice hown8; have hB8 : Below W2.heap.size W2 w8 := hB7.grown hgr8 hB7.size (fun k hk => (hown7.lt k hk).1)))
    all_goals
      go_upto_region 12 with (fail)
      have HB8 := hid hB8
      have HOWN8 := hid hown8
      clear hown7 hgr7 hnew7 hown8 hgr8 hnew8 hB7 hB8 m0 m2 n2 m8 kD2 HRA HRB
      obtain ⟨W3, hW3⟩ : ∃ W, w8.setCell ⟨g, 2, none⟩ (.slice a8 (x.objs.length + O.reply.objs.length) k8) = W := ⟨_, rfl⟩
      have hk3 : Keeps (· = g) w8 W3 := by rw [← hW3]; exact ks1 (Keeps.refl _ _) _ _
      have l3 : RiC W3 g 0 O.reply.level (.slice a8 (x.objs.length + O.reply.objs.length) k8) O.reply.next c1 := by rw [← hW3]; exact hpSetP (hpKeep HL2.out HB8.out) rfl
      have p3 : W3.heap[w.heap.size]? = some (.cells #[.int .i64 O.verdict, .int .i64 O.reply.fn, .int .i64 O.reply.exc, .slice da O.reply.data.length dc, .int .i64 O.reply.code, .int .i64 O.reply.level, .bool O.reply.more, .int .i64 O.reply.next, .slice oa O.reply.objs.length oc] 55) := hpKeeps (hpKeep HP2.out HB8.out) hk3 (fun e => by omega)
      have o6 : W3.cell? ⟨w.heap.size, 6, none⟩ = some (.bool O.reply.more) := hpCell p3 6
      have g0 : W3.cell? ⟨g, 0, none⟩ = some (.int .i64 0) := hpCell l3 0
      have g1 : W3.cell? ⟨g, 1, none⟩ = some (.int .i64 O.reply.level) := hpCell l3 1
      have g2 : W3.cell? ⟨g, 2, none⟩ = some (.slice a8 (x.objs.length + O.reply.objs.length) k8) := hpCell l3 2
      have g4 : W3.cell? ⟨g, 4, none⟩ = some (.int .i64 c1) := hpCell l3 4
      have f0 : W3.frozen? ⟨g, 0, none⟩ = false := hpFree l3 0
      have f1 : W3.frozen? ⟨g, 1, none⟩ = false := hpFree l3 1
      have f2 : W3.frozen? ⟨g, 2, none⟩ = false := hpFree l3 2
      have hne : ∀ k, (Value.slice a8 (x.objs.length + O.reply.objs.length) k8).ownBlock = some k → k ≠ g := fun k hk e => by
        have := (HOWN8.out.lt k hk).1
        have := HKW2.out.size
        omega
      have own3 : W3.ownsRow w.heap.size 156 2 (.slice a8 (x.objs.length + O.reply.objs.length) k8) (x.objs.length + O.reply.objs.length) (cs ++ cs2) := own_lower (own_keeps HOWN8.out hk3 hne) HKW2.out.size
      have hkw3 : Keeps (· = g) w W3 := (HKW2.out.trans (Keeps.of_below HB8.out) (fun _ _ (e : False) => e.elim)).trans hk3 (fun _ _ e => e)
      have HEND : Hid (∀ (e : Int) (st : Int), y.st = st → (∀ X, Keeps (· = g) W3 X → RiC X g st O.reply.level (.slice a8 (x.objs.length + O.reply.objs.length) k8) O.reply.next c1 → RiFed W0 w g y (.returned (.int .i64 0)) X)) := fun e st hst X hX hC => by
        refine ⟨rfl, ⟨O.reply.level, .slice a8 (x.objs.length + O.reply.objs.length) k8, O.reply.next, c1, cs ++ cs2, by rw [hst]; exact hC, fun _ => ⟨by rw [HY.out], ?_⟩, fun _ => ⟨by rw [HY.out], ?_, ?_⟩⟩, hkw3.trans hX (fun _ _ e => e)⟩
        · rw [HY.out]
          show _ = ((x.cnt + 1 : Nat) : Int)
          have := HCN.out
          have := HC1.out
          omega
        · have := own_keeps own3 hX hne
          rw [HY.out]
          show X.ownsRow w.heap.size _ 2 _ (x.objs ++ O.reply.objs).length _
          rw [List.length_append]
          exact this
        · rw [HY.out]
          exact CsL.app _ _ HOBS.out _ _ HCS2.out.1
      have L3 := hid l3
      have HC32 : Hid (c1 = 32 ↔ x.cnt + 1 = 32) := by
        show _ ↔ _
        have := HCN.out
        have := HC1.out
        omega
      rw [hW3]
      clear hW3 hk3 l3 p3 hne own3
      cases hmo : O.reply.more with
      | false =>
        rw [hmo] at o6
        have hys : y.st = 2 := by rw [HY.out, hmo]; rfl
        have HYS := hid hys
        clear hys hmo g1 g2 g4 f1 f2
        go_wp2
        go_ret
        exact HEND.out 0 2 HYS.out _ (ks1 (Keeps.refl _ _) _ _) (hpSetP L3.out rfl)
      | true =>
        rw [hmo] at o6
        by_cases h32 : c1 = 32
        · have d32 := b1 h32
          have hys : y.st = 4 := by rw [HY.out, hmo, if_pos rfl, if_pos (HC32.out.1 h32)]
          have HYS := hid hys
          have HKW3 := hid hkw3
          clear hys hmo h32 hkw3
          go_wp2
          go_ret
          exact RiFed.bad (hpSetP (hpSetP (hpSetP L3.out rfl) rfl) rfl) (HKW3.out.trans (ks1 (ks1 (ks1 (Keeps.refl _ _) _ _) _ _) _ _) (fun _ _ e => e)) HYS.out (by decide) (by decide)
        · have d32 := b0 h32
          have hys : y.st = 0 := by rw [HY.out, hmo, if_pos rfl, if_neg (fun e => h32 (HC32.out.2 e))]
          have HYS := hid hys
          clear hys hmo h32
          go_wp2
          go_ret
          exact HEND.out 0 0 HYS.out _ (Keeps.refl _ _) L3.out

end Go.Proofs.YtipnamoocemeeaaGreat

/-
The reference's identification (Feed whole, Result), Server, and its search: Next, Result.
-/
namespace Go.Proofs.YtipnamoocemeeaaGreat
open Go.RowKit

theorem rifeed_any {W0 w : World} {g : Nat} {x : Idn} {v : Value} {cs : List Value} (h : RiAt W0 w g x v cs) (hst : x.st = 0) (hk : x.ok) (O : Oc) (da : Option Addr) (dc : Nat) (oa : Option Addr) (oc : Nat) (HI : RpIs W0 O.reply da dc oa oc) (hO : O.fit) (hb : Below W0.heap.size W0 w) (hg : W0.heap.size ≤ g) (hvg : v.ownBlock ≠ some g) :
    Calls Tryz.prog 94 #[.pointer (some ⟨g, 0, none⟩), .agg #[.int .i64 O.verdict, .int .i64 O.reply.fn, .int .i64 O.reply.exc, .slice da O.reply.data.length dc, .int .i64 O.reply.code, .int .i64 O.reply.level, .bool O.reply.more, .int .i64 O.reply.next, .slice oa O.reply.objs.length oc]] w (RiFed W0 w g (x.feed O)) := by
  unfold Idn.feed
  by_cases hA : O.verdict = 2 ∧ O.reply.exc = 1 ∧ x.cnt = 0
  · rw [if_pos hA]
    exact rifeed_a h hst hk O da dc oa oc hA _ rfl
  · rw [if_neg hA]
    cases hbd : x.bad O with
    | true =>
      rw [if_pos rfl]
      exact rifeed_b h hst hk O da dc oa oc HI hb hg hA hbd _ rfl
    | false =>
      rw [if_neg (by decide)]
      exact rifeed_g h hst hk O da dc oa oc HI hO hb hg hA hvg hbd _ rfl

set_option maxRecDepth 100000 in
set_option maxHeartbeats 1600000 in
theorem riresult_any (g : Nat) (st lv : Int) (v : Value) (nx cn : Int) (w : World) (h : RiC w g st lv v nx cn) (L : Int) (R : Value) (hL : Hid (L = if st = 2 then lv else 0)) (hR : Hid (R = if st = 2 then v else .slice none 0 0)) :
    Calls Tryz.prog 95 #[.pointer (some ⟨g, 0, none⟩)] w fun r w' => r = .returned (.tuple #[.int .i64 st, .int .i64 L, R]) ∧ Below w.heap.size w w' := by
  have c0 : w.cell? ⟨g, 0, none⟩ = some (.int .i64 st) := hpCell h 0
  have c1 : w.cell? ⟨g, 1, none⟩ = some (.int .i64 lv) := hpCell h 1
  have c2 : w.cell? ⟨g, 2, none⟩ = some v := hpCell h 2
  clear h
  by_cases h2 : st = 2
  · have d2 : (st != 2) = false := by rw [bne_eq_false_iff_eq]; exact h2
    obtain rfl : L = lv := by rw [hL.out, if_pos h2]
    obtain rfl : R = v := by rw [hR.out, if_pos h2]
    clear h2 hL hR
    go_enter Tryz.func95, Tryz.ntmps95
    go_wp2_with (fail)
    go_quiet (fail)
    go_wp2
    refine bodyPost_ret (v := .tuple #[.int .i64 st, .int .i64 L, R]) (by simp [results, Tryz.results95, go_sem]) rfl ?_
    exact ⟨rfl, below_drewN (Below.refl _ _) _⟩
  · have d2 : (st != 2) = true := by rw [bne_iff_ne]; exact h2
    obtain rfl : L = 0 := by rw [hL.out, if_neg h2]
    obtain rfl : R = .slice none 0 0 := by rw [hR.out, if_neg h2]
    clear h2 hL hR
    go_enter Tryz.func95, Tryz.ntmps95
    go_wp2
    refine bodyPost_ret (v := .tuple #[.int .i64 st, .int .i64 0, .slice none 0 0]) (by simp [results, Tryz.results95, go_sem]) rfl ?_
    exact ⟨rfl, Below.refl _ _⟩

set_option maxRecDepth 100000 in
set_option maxHeartbeats 1600000 in
theorem rserver_any (O : Oc) (da : Option Addr) (dc : Nat) (oa : Option Addr) (oc : Nat) (hO : O.reply.data.length ≤ 300) (w : World) (HI : Bs w (.slice da O.reply.data.length dc) O.reply.data) (s : Int) (D : List UInt8) (hs : Hid (srvSt O = s)) (hD : Hid (srvData O = D)) :
    Calls Tryz.prog 96 #[.agg #[.int .i64 O.verdict, .int .i64 O.reply.fn, .int .i64 O.reply.exc, .slice da O.reply.data.length dc, .int .i64 O.reply.code, .int .i64 O.reply.level, .bool O.reply.more, .int .i64 O.reply.next, .slice oa O.reply.objs.length oc]] w (SrvPost w s D) := by
  obtain ⟨W0, hW0⟩ : ∃ W, w.alloc (.cells #[.int .i64 O.verdict, .int .i64 O.reply.fn, .int .i64 O.reply.exc, .slice da O.reply.data.length dc, .int .i64 O.reply.code, .int .i64 O.reply.level, .bool O.reply.more, .int .i64 O.reply.next, .slice oa O.reply.objs.length oc] 55) = W := ⟨_, rfl⟩
  have hb0 : Below w.heap.size w W0 := by rw [← hW0]; exact bal' w _
  have p0 : W0.heap[w.heap.size]? = some (.cells #[.int .i64 O.verdict, .int .i64 O.reply.fn, .int .i64 O.reply.exc, .slice da O.reply.data.length dc, .int .i64 O.reply.code, .int .i64 O.reply.level, .bool O.reply.more, .int .i64 O.reply.next, .slice oa O.reply.objs.length oc] 55) := by rw [← hW0]; exact hpNew w _
  have c0 : W0.cell? ⟨w.heap.size, 0, none⟩ = some (.int .i64 O.verdict) := hpCell p0 0
  have c1 : W0.cell? ⟨w.heap.size, 1, none⟩ = some (.int .i64 O.reply.fn) := hpCell p0 1
  have c2 : W0.cell? ⟨w.heap.size, 2, none⟩ = some (.int .i64 O.reply.exc) := hpCell p0 2
  have c3 : W0.cell? ⟨w.heap.size, 3, none⟩ = some (.slice da O.reply.data.length dc) := hpCell p0 3
  have HBI := hid (HI.keep hb0)
  have HW0 := hid hW0
  have HB0 := hid hb0
  have P0 := hid p0
  clear hW0 hb0 p0 HI
  by_cases hA : O.verdict = 1 ∧ O.reply.fn = 17 ∧ 0 < O.reply.data.length
  · have HE : Hid (s = 2) := by show _ = _; rw [← hs.out]; unfold srvSt; rw [if_pos hA]
    obtain rfl : D = O.reply.data := by rw [← hD.out]; unfold srvData; rw [if_pos hA]
    have d1 := b1 hA.1
    have d2 := b1 hA.2.1
    have d3 : 0 < O.reply.data.length := hA.2.2
    have HO := hid hO
    clear hA hs hD hO
    obtain ⟨n, hN⟩ : ∃ n, O.reply.data.length = n := ⟨_, rfl⟩
    have HN := hid hN
    obtain ⟨i5, hi, hz0, hz1, hz2⟩ := info_parts infoB
    rw [hN] at c3 d3 HBI HW0 ⊢
    clear hN
    go_enter Tryz.func96, Tryz.ntmps96
    go_upto_region 1 with (fail)
    rw [HW0.out]
    go_wp2_with (at_builtin; refine wpList_appB rfl (.const (.slice none 0 0)) (.tmp 22) 50 rfl w.heap.size 5 i5 Tryz.underlying50 hi hz0 hz1 hz2 (.slice none 0 0) [] rfl (World.ownsRow_nil _ _ _ _) (.slice da n dc) O.reply.data rfl HBI.out (by simp only [List.length_nil]; have := HO.out; omega) HB0.out.size ?_; intro v2 w2 hown2 hgr2 hnew2; rw [List.nil_append, List.length_nil, Nat.zero_add] at hown2; rw [HN.out] at hown2; obtain ⟨a2, k2, rfl⟩ := own_slice hown2)
    refine bodyPost_ret (v := .tuple #[.int .i64 2, .slice a2 n k2]) (by simp [results, Tryz.results96, go_sem]) rfl ?_
    exact ⟨a2, k2, by rw [HE.out, HN.out], by rw [HN.out]; exact hown2, HB0.out.grown hgr2 HB0.out.size (fun k hk => nomatch hk)⟩
  · obtain rfl : D = [] := by rw [← hD.out]; unfold srvData; rw [if_neg hA]
    have hd : (O.verdict == 1) = false ∨ ((O.verdict == 1) = true ∧ (O.reply.fn == 17) = false) ∨ ((O.verdict == 1) = true ∧ (O.reply.fn == 17) = true ∧ ¬ 0 < O.reply.data.length) := by
      by_cases h1 : O.verdict = 1
      · by_cases h2 : O.reply.fn = 17
        · exact .inr (.inr ⟨b1 h1, b1 h2, fun h3 => hA ⟨h1, h2, h3⟩⟩)
        · exact .inr (.inl ⟨b1 h1, b0 h2⟩)
      · exact .inl (b0 h1)
    have hS : Hid (s = if O.verdict = 2 ∧ O.reply.exc = 1 then 5 else 4) := by show _ = _; rw [← hs.out]; unfold srvSt; rw [if_neg hA]
    obtain ⟨R1, hR1⟩ : ∃ b, refB O.verdict O.reply.exc 1 = b := ⟨_, rfl⟩
    have HRF : Hid (∀ X, Calls Tryz.prog 134 #[.agg #[.int .i64 O.verdict, .int .i64 O.reply.fn, .int .i64 O.reply.exc, .slice da O.reply.data.length dc, .int .i64 O.reply.code, .int .i64 O.reply.level, .bool O.reply.more, .int .i64 O.reply.next, .slice oa O.reply.objs.length oc], .int .i64 1] X (BoolPost X R1)) := fun X => by rw [← hR1]; exact refused_any _ _ _ _ _ _ _ _ _ _ X
    have he : (R1 = true ∧ s = 5) ∨ (R1 = false ∧ s = 4) := by
      rw [hS.out, ← hR1]
      unfold refB
      by_cases h1 : O.verdict = 2 ∧ O.reply.exc = 1
      · exact .inl ⟨by rw [h1.1, h1.2]; rfl, if_pos h1⟩
      · refine .inr ⟨?_, if_neg h1⟩
        cases hx : (O.verdict == 2 && O.reply.exc == 1) with
        | false => rfl
        | true => simp only [Bool.and_eq_true, beq_iff_eq] at hx; exact absurd hx h1
    have c4 : W0.cell? ⟨w.heap.size, 4, none⟩ = some (.int .i64 O.reply.code) := hpCell P0.out 4
    have c5 : W0.cell? ⟨w.heap.size, 5, none⟩ = some (.int .i64 O.reply.level) := hpCell P0.out 5
    have c6 : W0.cell? ⟨w.heap.size, 6, none⟩ = some (.bool O.reply.more) := hpCell P0.out 6
    have c7 : W0.cell? ⟨w.heap.size, 7, none⟩ = some (.int .i64 O.reply.next) := hpCell P0.out 7
    have c8 : W0.cell? ⟨w.heap.size, 8, none⟩ = some (.slice oa O.reply.objs.length oc) := hpCell P0.out 8
    clear hA hs hD hO hS hR1 HBI
    obtain ⟨n, hN⟩ : ∃ n, O.reply.data.length = n := ⟨_, rfl⟩
    rw [hN] at c3 hd HW0 HRF ⊢
    clear hN
    rcases hd with d1 | ⟨d1, d2⟩ | ⟨d1, d2, d3⟩
    all_goals
      rcases he with ⟨rfl, e3⟩ | ⟨rfl, e3⟩
      all_goals
        have HE := hid e3
        clear e3
        go_enter Tryz.func96, Tryz.ntmps96
        go_upto_region 1 with (fail)
        rw [HW0.out]
        go_wp2_with (go_at_call 134; (with_reducible refine (HRF.out _).mono ?_); rintro r w5 ⟨rfl, hb5⟩)
        go_ret2
        exact ⟨none, 0, by rw [HE.out]; rfl, World.ownsRow_nil _ _ _ _, bt HB0.out hb5 (Nat.le_refl _)⟩

set_option maxRecDepth 100000 in
set_option maxHeartbeats 1600000 in
theorem rsnext_any (g : Nat) (s : Sr) (hs : s.ok) (w : World) (hl : SqAt w g s) :
    Calls Tryz.prog 88 #[.pointer (some ⟨g, 0, none⟩)] w (AskPost w s.ask (decide (s.st = 0))) := by
  obtain ⟨W0, hW0⟩ : ∃ W, w.alloc (.cells #[.int .i64 0, .int .i64 0, .int .i64 0, .int .i64 0, .int .i64 0] 39) = W := ⟨_, rfl⟩
  have hb0 : Below w.heap.size w W0 := by rw [← hW0]; exact bal' w _
  have p0 : W0.heap[w.heap.size]? = some (.cells #[.int .i64 0, .int .i64 0, .int .i64 0, .int .i64 0, .int .i64 0] 39) := by rw [← hW0]; exact hpNew w _
  have l0 := hl.keep hb0
  obtain ⟨Q, hQ⟩ : ∃ Q, s.qty = Q := ⟨_, rfl⟩
  have c0 : W0.cell? ⟨g, 0, none⟩ = some (.int .i64 s.tb) := l0.cell 0
  have c1 : W0.cell? ⟨g, 1, none⟩ = some (.int .i64 s.lo) := l0.cell 1
  have c2 : W0.cell? ⟨g, 2, none⟩ = some (.int .i64 s.hi) := l0.cell 2
  have c3 : W0.cell? ⟨g, 3, none⟩ = some (.int .i64 s.cnt) := l0.cell 3
  have c4 : W0.cell? ⟨g, 4, none⟩ = some (.int .i64 s.st) := l0.cell 4
  have z0 : W0.cell? ⟨w.heap.size, 0, none⟩ = some (.int .i64 0) := hpCell p0 0
  have z1 : W0.cell? ⟨w.heap.size, 1, none⟩ = some (.int .i64 0) := hpCell p0 1
  have z2 : W0.cell? ⟨w.heap.size, 2, none⟩ = some (.int .i64 0) := hpCell p0 2
  have z3 : W0.cell? ⟨w.heap.size, 3, none⟩ = some (.int .i64 0) := hpCell p0 3
  have z4 : W0.cell? ⟨w.heap.size, 4, none⟩ = some (.int .i64 0) := hpCell p0 4
  have y0 : W0.frozen? ⟨w.heap.size, 0, none⟩ = false := hpFree p0 0
  have y1 : W0.frozen? ⟨w.heap.size, 1, none⟩ = false := hpFree p0 1
  have y2 : W0.frozen? ⟨w.heap.size, 2, none⟩ = false := hpFree p0 2
  have y3 : W0.frozen? ⟨w.heap.size, 3, none⟩ = false := hpFree p0 3
  have y4 : W0.frozen? ⟨w.heap.size, 4, none⟩ = false := hpFree p0 4
  have h1 := hs.lo0
  have h2 := hs.lo1
  have h3 := hs.hi0
  have h4 := hs.hi1
  have s1 : IntKind.i64.wrap (s.lo + s.hi) = s.lo + s.hi := IntWalk.i64_in _ (by omega)
  have s2 : IntKind.i64.wrap ((s.lo + s.hi).tdiv 2) = (s.lo + s.hi) / 2 := by rw [Int.tdiv_eq_ediv_of_nonneg (by omega)]; exact IntWalk.i64_in _ (by omega)
  have HW0 := hid hW0
  have HB0 := hid hb0
  have HQ := hid hQ
  clear hW0 hb0 p0 l0 hQ h1 h2 h3 h4
  by_cases h0 : s.st = 0
  · have d : (s.st != 0) = false := by rw [bne_eq_false_iff_eq]; exact h0
    have HE : Hid (s.ask = ⟨s.tb, 0, Q, 0, 0⟩ ∧ decide (s.st = 0) = true) := ⟨by unfold Sr.ask; rw [if_pos h0, HQ.out], decide_eq_true h0⟩
    have hcc : ((s.cnt == 0) = true ∧ Q = 1) ∨ ((s.cnt == 0) = false ∧ Q = (s.lo + s.hi) / 2) := by
      rw [← HQ.out]
      unfold Sr.qty
      by_cases hc : s.cnt = 0
      · exact .inl ⟨b1 hc, if_pos hc⟩
      · exact .inr ⟨b0 hc, if_neg hc⟩
    clear h0
    rcases hcc with ⟨dc, hq⟩ | ⟨dc, hq⟩
    · have HQ2 := hid hq
      clear hq
      go_enter Tryz.func88, Tryz.ntmps88
      go_upto_region 1 with (fail)
      rw [HW0.out]
      go_upto_region 3 with (fail)
      go_quiet (fail)
      go_wp2
      refine bodyPost_ret (v := .tuple #[.agg #[.int .i64 s.tb, .int .i64 0, .int .i64 1, .int .i64 0, .int .i64 0], .bool true]) (by simp [results, Tryz.results88, go_sem, z0, z1, z2, z3, z4]) rfl ⟨by rw [HE.out.1, HE.out.2, HQ2.out], ?_⟩
      exact (((((bt HB0.out (below_drewN (Below.refl _ _) _) (Nat.le_refl _)).setCell (p := ⟨w.heap.size, 0, none⟩) (Nat.le_refl _) _).setCell (p := ⟨w.heap.size, 1, none⟩) (Nat.le_refl _) _).setCell (p := ⟨w.heap.size, 2, none⟩) (Nat.le_refl _) _).setCell (p := ⟨w.heap.size, 3, none⟩) (Nat.le_refl _) _).setCell (p := ⟨w.heap.size, 4, none⟩) (Nat.le_refl _) _
    · have HQ2 := hid hq
      clear hq
      go_enter Tryz.func88, Tryz.ntmps88
      go_upto_region 1 with (fail)
      rw [HW0.out]
      go_upto_region 3 with (fail)
      go_quiet (fail)
      go_wp2
      refine bodyPost_ret (v := .tuple #[.agg #[.int .i64 s.tb, .int .i64 0, .int .i64 ((s.lo + s.hi) / 2), .int .i64 0, .int .i64 0], .bool true]) (by simp [results, Tryz.results88, go_sem, z0, z1, z2, z3, z4]) rfl ⟨by rw [HE.out.1, HE.out.2, HQ2.out], ?_⟩
      exact (((((bt HB0.out (below_drewN (Below.refl _ _) _) (Nat.le_refl _)).setCell (p := ⟨w.heap.size, 0, none⟩) (Nat.le_refl _) _).setCell (p := ⟨w.heap.size, 1, none⟩) (Nat.le_refl _) _).setCell (p := ⟨w.heap.size, 2, none⟩) (Nat.le_refl _) _).setCell (p := ⟨w.heap.size, 3, none⟩) (Nat.le_refl _) _).setCell (p := ⟨w.heap.size, 4, none⟩) (Nat.le_refl _) _
  · have d : (s.st != 0) = true := by rw [bne_iff_ne]; exact h0
    have HE : Hid (s.ask = ⟨0, 0, 0, 0, 0⟩ ∧ decide (s.st = 0) = false) := ⟨by unfold Sr.ask; rw [if_neg h0], decide_eq_false h0⟩
    clear h0
    go_enter Tryz.func88, Tryz.ntmps88
    go_upto_region 1 with (fail)
    rw [HW0.out]
    go_wp2
    refine bodyPost_ret (v := .tuple #[.agg #[.int .i64 0, .int .i64 0, .int .i64 0, .int .i64 0, .int .i64 0], .bool false]) (by simp [results, Tryz.results88, go_sem, z0, z1, z2, z3, z4]) rfl ⟨by rw [HE.out.1, HE.out.2], ?_⟩
    exact ((((HB0.out.setCell (p := ⟨w.heap.size, 0, none⟩) (Nat.le_refl _) _).setCell (p := ⟨w.heap.size, 1, none⟩) (Nat.le_refl _) _).setCell (p := ⟨w.heap.size, 2, none⟩) (Nat.le_refl _) _).setCell (p := ⟨w.heap.size, 3, none⟩) (Nat.le_refl _) _).setCell (p := ⟨w.heap.size, 4, none⟩) (Nat.le_refl _) _

set_option maxRecDepth 100000 in
set_option maxHeartbeats 1600000 in
theorem rsresult_any (g : Nat) (s : Sr) (w : World) (hl : SqAt w g s) :
    Calls Tryz.prog 98 #[.pointer (some ⟨g, 0, none⟩)] w fun r w' => r = .returned (.tuple #[.int .i64 s.st, .int .i64 s.most]) ∧ Below w.heap.size w w' := by
  have c1 : w.cell? ⟨g, 1, none⟩ = some (.int .i64 s.lo) := hl.cell 1
  have c4 : w.cell? ⟨g, 4, none⟩ = some (.int .i64 s.st) := hl.cell 4
  by_cases h2 : s.st = 2
  · have d := b1 h2
    have HE : Hid (s.most = s.lo) := by show _ = _; unfold Sr.most; rw [if_pos h2]
    clear h2 hl
    go_enter Tryz.func98, Tryz.ntmps98
    go_wp2_with (fail)
    go_quiet (fail)
    go_wp2
    refine bodyPost_ret (v := .tuple #[.int .i64 s.st, .int .i64 s.lo]) (by simp [results, Tryz.results98, go_sem]) rfl ?_
    exact ⟨by rw [HE.out], below_drewN (Below.refl _ _) _⟩
  · have d := b0 h2
    have HE : Hid (s.most = 0) := by show _ = _; unfold Sr.most; rw [if_neg h2]
    clear h2 hl
    go_enter Tryz.func98, Tryz.ntmps98
    go_wp2
    refine bodyPost_ret (v := .tuple #[.int .i64 s.st, .int .i64 0]) (by simp [results, Tryz.results98, go_sem]) rfl ?_
    exact ⟨by rw [HE.out], Below.refl _ _⟩

end Go.Proofs.YtipnamoocemeeaaGreat

/-
The reference's search: Feed.
-/
namespace Go.Proofs.YtipnamoocemeeaaGreat
open Go.RowKit
def SqFed (w : World) (g : Nat) (y : Sr) (r : Ending) (w' : World) : Prop := r = .returned (.int .i64 0) ∧ SqAt w' g y ∧ Keeps (· = g) w w'
def Sr.took' (s : Sr) (F A R1 R3 : Bool) (Q : Int) : Sr := if (F && R1) = true then { s with cnt := s.cnt + 1, st := 5 } else if A = true then { s with cnt := s.cnt + 1, lo := Q } else if (!F && R3) = true then { s with cnt := s.cnt + 1, hi := Q } else { s with cnt := s.cnt + 1, st := 4 }
theorem Sr.took_eq (s : Sr) (v x : Int) : s.took v x = s.took' (s.cnt == 0) (v == 1 || refB v x 2) (refB v x 1) (refB v x 3) s.qty := by
  unfold Sr.took Sr.took' refB
  by_cases h1 : v = 1
  · subst h1
    simp
  · by_cases h2 : v = 2
    · subst h2
      by_cases hc : s.cnt = 0
      · by_cases x1 : x = 1
        · subst x1; simp [hc]
        · by_cases x2 : x = 2
          · subst x2; simp
          · simp [hc, x1, x2]
      · by_cases x2 : x = 2
        · subst x2; simp
        · by_cases x3 : x = 3
          · subst x3; simp [hc]
          · simp [hc, x2, x3]
    · simp [h1, h2]

set_option maxRecDepth 100000 in
set_option maxHeartbeats 6400000 in
theorem rsfeed_any (g : Nat) (s : Sr) (hs : s.ok) (hst : s.st = 0) (v x : Int) (f d c l m n ob : Value) (w : World) (hl : SqAt w g s) :
    Calls Tryz.prog 97 #[.pointer (some ⟨g, 0, none⟩), .agg #[.int .i64 v, f, .int .i64 x, d, c, l, m, n, ob]] w (SqFed w g (s.feed v x)) := by
  obtain ⟨R1, hR1⟩ : ∃ b, refB v x 1 = b := ⟨_, rfl⟩
  obtain ⟨R2, hR2⟩ : ∃ b, refB v x 2 = b := ⟨_, rfl⟩
  obtain ⟨R3, hR3⟩ : ∃ b, refB v x 3 = b := ⟨_, rfl⟩
  obtain ⟨F, hF⟩ : ∃ b, (s.cnt == 0) = b := ⟨_, rfl⟩
  obtain ⟨A, hA⟩ : ∃ b, (v == 1 || R2) = b := ⟨_, rfl⟩
  obtain ⟨Q, hQ⟩ : ∃ Q, s.qty = Q := ⟨_, rfl⟩
  have HRF1 : Hid (∀ X, Calls Tryz.prog 134 #[.agg #[.int .i64 v, f, .int .i64 x, d, c, l, m, n, ob], .int .i64 1] X (BoolPost X R1)) := fun X => by rw [← hR1]; exact refused_any _ _ _ _ _ _ _ _ _ _ X
  have HRF2 : Hid (∀ X, Calls Tryz.prog 134 #[.agg #[.int .i64 v, f, .int .i64 x, d, c, l, m, n, ob], .int .i64 2] X (BoolPost X R2)) := fun X => by rw [← hR2]; exact refused_any _ _ _ _ _ _ _ _ _ _ X
  have HRF3 : Hid (∀ X, Calls Tryz.prog 134 #[.agg #[.int .i64 v, f, .int .i64 x, d, c, l, m, n, ob], .int .i64 3] X (BoolPost X R3)) := fun X => by rw [← hR3]; exact refused_any _ _ _ _ _ _ _ _ _ _ X
  obtain ⟨y0, hy0⟩ : ∃ y, s.took v x = y := ⟨_, rfl⟩
  have HY0 : Hid (y0 = s.took' F A R1 R3 Q) := by show _ = _; rw [← hy0, Sr.took_eq, hF, hR1, hR2, hR3, hA, hQ]
  obtain ⟨rq, hrq⟩ : ∃ q, s.ask = q := ⟨_, rfl⟩
  have HRQ : Hid (rq.qty = Q) := by show _ = _; rw [← hrq, ← hQ]; unfold Sr.ask; rw [if_pos hst]
  have hYB : 0 ≤ y0.lo ∧ y0.lo ≤ 2001 := by
    have h1 := hs.lo0
    have h2 := hs.lo1
    have h3 := s.qty_bd hs
    rw [← hy0]
    unfold Sr.took
    repeat' split
    all_goals exact ⟨by first | exact h1 | exact h3.1, by first | exact h2 | exact h3.2⟩
  obtain ⟨WB, hWB⟩ : ∃ W, w.alloc (.cells #[.int .i64 v, f, .int .i64 x, d, c, l, m, n, ob] 55) = W := ⟨_, rfl⟩
  have hbB : Below w.heap.size w WB := by rw [← hWB]; exact bal' w _
  have pB : WB.heap[w.heap.size]? = some (.cells #[.int .i64 v, f, .int .i64 x, d, c, l, m, n, ob] 55) := by rw [← hWB]; exact hpNew w _
  have lB := hl.keep hbB
  have hgl := hl.lt
  have HNX : Hid (Calls Tryz.prog 88 #[.pointer (some ⟨g, 0, none⟩)] WB (AskPost WB rq true)) := by
    have := rsnext_any g s hs WB lB
    rw [hrq, decide_eq_true hst] at this
    exact this
  have HWB := hid hWB
  have HBB := hid hbB
  have PB := hid pB
  have LB := hid lB
  have HS := hid hs
  have HST := hid hst
  have HYY : Hid (s.feed v x = y0.met) := by show _ = _; rw [← hy0]; rfl
  rw [HYY.out]
  clear hWB hbB pB lB hs hst hl hR1 hR2 hR3 hy0 hrq hQ
  go_enter Tryz.func97, Tryz.ntmps97
  go_upto_region 1 with (fail)
  rw [HWB.out]
  go_upto_region 2 with (go_at_call 88; (with_reducible refine HNX.out.mono ?_); rintro r w2 ⟨rfl, hb2⟩)
  obtain ⟨WC, hWC⟩ : ∃ W, w2.alloc (.cells #[.int .i64 rq.fn, .int .i64 rq.addr, .int .i64 rq.qty, .int .i64 rq.code, .int .i64 rq.obj] 39) = W := ⟨_, rfl⟩
  have hbC : Below WB.heap.size WB WC := by rw [← hWC]; exact bta hb2 (Nat.le_refl _) _
  have pC : WC.heap[w2.heap.size]? = some (.cells #[.int .i64 rq.fn, .int .i64 rq.addr, .int .i64 rq.qty, .int .i64 rq.code, .int .i64 rq.obj] 39) := by rw [← hWC]; exact hpNew _ _
  have lC := LB.out.keep hbC
  have oC := hpKeep PB.out hbC
  have c3 : WC.cell? ⟨g, 3, none⟩ = some (.int .i64 s.cnt) := lC.cell 3
  have f3 : WC.frozen? ⟨g, 3, none⟩ = false := lC.free 3
  have s1 : IntKind.i64.wrap (s.cnt + 1) = s.cnt + 1 := IntWalk.i64_in _ (by have := HS.out.cnt0; have := HS.out.cnt1; omega)
  have hzB : WB.heap.size = w.heap.size + 1 := by rw [← HWB.out]; simp
  have hz2 := hb2.size
  rw [hWC]
  generalize w2.heap.size = qb at *
  obtain ⟨W1, hW1⟩ : ∃ W, WC.setCell ⟨g, 3, none⟩ (.int .i64 (s.cnt + 1)) = W := ⟨_, rfl⟩
  have hk1 : Keeps (· = g) WC W1 := by rw [← hW1]; exact ks1 (Keeps.refl _ _) _ _
  have p1 : W1.heap[qb]? = some (.cells #[.int .i64 rq.fn, .int .i64 rq.addr, .int .i64 rq.qty, .int .i64 rq.code, .int .i64 rq.obj] 39) := hpKeeps pC hk1 (fun e => by omega)
  have o1 : W1.heap[w.heap.size]? = some (.cells #[.int .i64 v, f, .int .i64 x, d, c, l, m, n, ob] 55) := hpKeeps oC hk1 (fun e => by omega)
  have l1 : SqAt W1 g { s with cnt := s.cnt + 1 } := by rw [← hW1]; exact hpSetP lC rfl
  go_upto_region 6 with (fail)
  have kW : Keeps (· = g) w W1 := ((Keeps.of_below HBB.out).trans (Keeps.of_below hbC) (fun _ _ (e : False) => e.elim)).trans hk1 (fun _ _ e => e)
  have HKW := hid kW
  have L1 := hid l1
  have P1 := hid p1
  clear hWC hbC pC lC oC c3 f3 s1 hzB hz2 hW1 hk1 p1 l1 kW hb2 hF
  have e0 : ∀ X, Below W1.heap.size W1 X → X.cell? ⟨w.heap.size, 0, none⟩ = some (.int .i64 v) := fun X h => hpCell (hpKeep o1 h) 0
  have e1 : ∀ X, Below W1.heap.size W1 X → X.cell? ⟨w.heap.size, 1, none⟩ = some f := fun X h => hpCell (hpKeep o1 h) 1
  have e2 : ∀ X, Below W1.heap.size W1 X → X.cell? ⟨w.heap.size, 2, none⟩ = some (.int .i64 x) := fun X h => hpCell (hpKeep o1 h) 2
  have e3 : ∀ X, Below W1.heap.size W1 X → X.cell? ⟨w.heap.size, 3, none⟩ = some d := fun X h => hpCell (hpKeep o1 h) 3
  have e4 : ∀ X, Below W1.heap.size W1 X → X.cell? ⟨w.heap.size, 4, none⟩ = some c := fun X h => hpCell (hpKeep o1 h) 4
  have e5 : ∀ X, Below W1.heap.size W1 X → X.cell? ⟨w.heap.size, 5, none⟩ = some l := fun X h => hpCell (hpKeep o1 h) 5
  have e6 : ∀ X, Below W1.heap.size W1 X → X.cell? ⟨w.heap.size, 6, none⟩ = some m := fun X h => hpCell (hpKeep o1 h) 6
  have e7 : ∀ X, Below W1.heap.size W1 X → X.cell? ⟨w.heap.size, 7, none⟩ = some n := fun X h => hpCell (hpKeep o1 h) 7
  have e8 : ∀ X, Below W1.heap.size W1 X → X.cell? ⟨w.heap.size, 8, none⟩ = some ob := fun X h => hpCell (hpKeep o1 h) 8
  have k0 : Below W1.heap.size W1 W1 := Below.refl _ _
  go_cut [8] from 28 to 34 (fun s8 wc => s8 = .bool A ∧ Below W1.heap.size W1 wc)
  case first =>
    cases hv : (v == 1) with
    | true =>
      rw [hv] at hA
      have HA := hid hA
      clear hA
      go_wp2
      go_meet
      case rel => exact ⟨by rw [← HA.out]; rfl, k0⟩
    | false =>
      rw [hv] at hA
      have HA := hid hA
      clear hA
      go_wp2_with (go_at_call 134; (with_reducible refine (HRF2.out _).mono ?_); rintro r w5 ⟨rfl, hb5⟩)
      go_meet
      case rel => exact ⟨by rw [← HA.out]; rfl, hb5⟩
  case rest =>
    obtain ⟨rfl, hbc⟩ := hcut
    clear hA
    go_upto_block 0 with (fail)
    have kc := hbc
    have HBC := hid hbc
    have q2 : ∀ X, Below W1.heap.size W1 X → X.cell? ⟨qb, 2, none⟩ = some (.int .i64 Q) := fun X h => by rw [hpCell (hpKeep P1.out h)]; show some (Value.int .i64 rq.qty) = _; rw [HRQ.out]
    have g1 : ∀ X, Below W1.heap.size W1 X → X.cell? ⟨g, 1, none⟩ = some (.int .i64 s.lo) := fun X h => (L1.out.keep h).cell 1
    have g2 : ∀ X, Below W1.heap.size W1 X → X.cell? ⟨g, 2, none⟩ = some (.int .i64 s.hi) := fun X h => (L1.out.keep h).cell 2
    have g4 : ∀ X, Below W1.heap.size W1 X → X.cell? ⟨g, 4, none⟩ = some (.int .i64 s.st) := fun X h => (L1.out.keep h).cell 4
    have f1 : ∀ X, Below W1.heap.size W1 X → X.frozen? ⟨g, 1, none⟩ = false := fun X h => (L1.out.keep h).free 1
    have f2 : ∀ X, Below W1.heap.size W1 X → X.frozen? ⟨g, 2, none⟩ = false := fun X h => (L1.out.keep h).free 2
    have f4 : ∀ X, Below W1.heap.size W1 X → X.frozen? ⟨g, 4, none⟩ = false := fun X h => (L1.out.keep h).free 4
    have HEN : Hid (∀ X X' y, Below W1.heap.size W1 X → SqAt X' g y → Keeps (· = g) X X' → y = y0 → SqAt X' g y0 ∧ Keeps (· = g) w X') := fun X X' y h1 h2 h3 h4 => by
      subst h4
      exact ⟨h2, (HKW.out.trans (Keeps.of_below h1) (fun _ _ (e : False) => e.elim)).trans h3 (fun _ _ e => e)⟩
    go_cut [] from 35 to 65 (fun wd => Hid (SqAt wd g y0 ∧ Keeps (· = g) w wd))
    case first =>
      cases F with
      | true =>
        cases R1 with
        | true =>
          have HE : Hid (y0 = { s with cnt := s.cnt + 1, st := 5 }) := HY0.out
          clear HY0 HRF2 HRF3
          go_wp2_with (go_at_call 134; (with_reducible refine (HRF1.out _).mono ?_); rintro r w5 ⟨rfl, hb5⟩; have hB5 := bt HBC.out hb5 (Nat.le_refl _))
          go_meet
          case rel => exact HEN.out _ _ _ hB5 (hpSetP (L1.out.keep hB5) rfl) (ks1 (Keeps.refl _ _) _ _) HE.out.symm
        | false =>
          cases A with
          | true =>
            have HE : Hid (y0 = { s with cnt := s.cnt + 1, lo := Q }) := HY0.out
            clear HY0 HRF2 HRF3
            go_wp2_with (go_at_call 134; (with_reducible refine (HRF1.out _).mono ?_); rintro r w5 ⟨rfl, hb5⟩; have hB5 := bt HBC.out hb5 (Nat.le_refl _))
            go_meet
            case rel => exact HEN.out _ _ _ hB5 (hpSetP (L1.out.keep hB5) rfl) (ks1 (Keeps.refl _ _) _ _) HE.out.symm
          | false =>
            have HE : Hid (y0 = { s with cnt := s.cnt + 1, st := 4 }) := by show _ = _; rw [HY0.out]; cases R3 <;> rfl
            clear HY0 HRF2 HRF3
            go_wp2_with (go_at_call 134; (with_reducible refine (HRF1.out _).mono ?_); rintro r w5 ⟨rfl, hb5⟩; have hB5 := bt HBC.out hb5 (Nat.le_refl _))
            go_meet
            case rel => exact HEN.out _ _ _ hB5 (hpSetP (L1.out.keep hB5) rfl) (ks1 (Keeps.refl _ _) _ _) HE.out.symm
      | false =>
        cases A with
        | true =>
          have HE : Hid (y0 = { s with cnt := s.cnt + 1, lo := Q }) := by show _ = _; rw [HY0.out]; cases R1 <;> rfl
          clear HY0 HRF2 HRF3 HRF1
          go_wp2
          go_meet
          case rel => exact HEN.out _ _ _ HBC.out (hpSetP (L1.out.keep HBC.out) rfl) (ks1 (Keeps.refl _ _) _ _) HE.out.symm
        | false =>
          cases R3 with
          | true =>
            have HE : Hid (y0 = { s with cnt := s.cnt + 1, hi := Q }) := by show _ = _; rw [HY0.out]; cases R1 <;> rfl
            clear HY0 HRF2 HRF1
            go_wp2_with (go_at_call 134; (with_reducible refine (HRF3.out _).mono ?_); rintro r w5 ⟨rfl, hb5⟩; have hB5 := bt HBC.out hb5 (Nat.le_refl _))
            go_meet
            case rel => exact HEN.out _ _ _ hB5 (hpSetP (L1.out.keep hB5) rfl) (ks1 (Keeps.refl _ _) _ _) HE.out.symm
          | false =>
            have HE : Hid (y0 = { s with cnt := s.cnt + 1, st := 4 }) := by show _ = _; rw [HY0.out]; cases R1 <;> rfl
            clear HY0 HRF2 HRF1
            go_wp2_with (go_at_call 134; (with_reducible refine (HRF3.out _).mono ?_); rintro r w5 ⟨rfl, hb5⟩; have hB5 := bt HBC.out hb5 (Nat.le_refl _))
            go_meet
            case rel => exact HEN.out _ _ _ hB5 (hpSetP (L1.out.keep hB5) rfl) (ks1 (Keeps.refl _ _) _ _) HE.out.symm
    case rest =>
      obtain ⟨hSQ, hKQ⟩ := hcut.out
      clear e0 e1 e2 e3 e4 e5 e6 e7 e8 g1 g2 g4 f1 f2 f4 q2 hcut HEN HRF1 HRF2 HRF3 HY0 k0 kc
      have c1 : wc.cell? ⟨g, 1, none⟩ = some (.int .i64 y0.lo) := hSQ.cell 1
      have c2 : wc.cell? ⟨g, 2, none⟩ = some (.int .i64 y0.hi) := hSQ.cell 2
      have c4 : wc.cell? ⟨g, 4, none⟩ = some (.int .i64 y0.st) := hSQ.cell 4
      have f4 : wc.frozen? ⟨g, 4, none⟩ = false := hSQ.free 4
      have s1 : IntKind.i64.wrap (y0.lo + 1) = y0.lo + 1 := IntWalk.i64_in _ (by omega)
      obtain ⟨lo1, hlo1⟩ : ∃ z, y0.lo + 1 = z := ⟨_, rfl⟩
      replace s1 : IntKind.i64.wrap (y0.lo + 1) = lo1 := s1.trans hlo1
      have HSQ := hid hSQ
      have HKQ := hid hKQ
      have hcc : ((y0.st == 0) = true ∧ (y0.hi == lo1) = true ∧ y0.met = { y0 with st := 2 }) ∨ ((y0.st == 0) = true ∧ (y0.hi == lo1) = false ∧ y0.met = y0) ∨ ((y0.st == 0) = false ∧ y0.met = y0) := by
        unfold Sr.met
        rw [hlo1]
        by_cases h1 : y0.st = 0
        · by_cases h2 : y0.hi = lo1
          · exact .inl ⟨b1 h1, b1 h2, if_pos ⟨h1, h2⟩⟩
          · exact .inr (.inl ⟨b1 h1, b0 h2, if_neg (fun e => h2 e.2)⟩)
        · exact .inr (.inr ⟨b0 h1, if_neg (fun e => h1 e.1)⟩)
      clear hSQ hKQ hlo1 hYB
      rcases hcc with ⟨d1, d2, hm⟩ | ⟨d1, d2, hm⟩ | ⟨d1, hm⟩
      · have HM := hid hm
        clear hm
        go_upto_region 14 with (fail)
        go_quiet (fail)
        go_wp2
        go_ret
        exact ⟨rfl, by rw [HM.out]; exact hpSetP (HSQ.out.keep (below_drewN (Below.refl _ _) _)) rfl, ks1 (HKQ.out.trans (Keeps.of_below (F := fun _ => False) (below_drewN (Below.refl _ _) _)) (fun _ _ e => e.elim)) _ _⟩
      · have HM := hid hm
        clear hm
        go_upto_region 14 with (fail)
        go_quiet (fail)
        go_wp2
        go_ret
        exact ⟨rfl, by rw [HM.out]; exact HSQ.out.keep (below_drewN (Below.refl _ _) _), HKQ.out.trans (Keeps.of_below (F := fun _ => False) (below_drewN (Below.refl _ _) _)) (fun _ _ e => e.elim)⟩
      · have HM := hid hm
        clear hm
        go_upto_region 14 with (fail)
        go_quiet (fail)
        go_wp2
        go_ret
        exact ⟨rfl, by rw [HM.out]; exact HSQ.out.keep (below_drewN (Below.refl _ _) _), HKQ.out.trans (Keeps.of_below (F := fun _ => False) (below_drewN (Below.refl _ _) _)) (fun _ _ e => e.elim)⟩

end Go.Proofs.YtipnamoocemeeaaGreat
