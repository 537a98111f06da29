/-
  Texts 54 of the claim.
-/
import Derived.Test.YtipnamoocemeeaaGreatB52
import Derived.Test.YtipnamoocemeeaaGreatB53
import Derived.Test.YtipnamoocemeeaaGreatB48
import Derived.Test.YtipnamoocemeeaaGreatB46
/-
  The walk of the law SweepReplay.
-/
namespace Go.Proofs.YtipnamoocemeeaaGreat
open Go.RowKit
theorem infoRp8 : (Tryz.prog.info? 53).map (·.size) = some 8 := by kernel_rfl
/-- The outcome that is journaled, in its box. -/
def SyBox (w wr : World) (b : Nat) (wc : World) : Prop :=
  ∃ (O : Oc) (da : Option Addr) (dc : Nat) (oa : Option Addr) (oc : Nat), wc.heap[b]? = some (.cells #[.int .i64 O.verdict, .int .i64 O.reply.fn, .int .i64 O.reply.exc, .slice da O.reply.data.length dc, .int .i64 O.reply.code, .int .i64 O.reply.level, .bool O.reply.more, .int .i64 O.reply.next, .slice oa O.reply.objs.length oc] 55) ∧ (∀ W, Below w.heap.size w W → RpIs W O.reply da dc oa oc) ∧ O.fit ∧ Below wr.heap.size wr wc
set_option maxRecDepth 100000 in
set_option maxHeartbeats 12800000 in
theorem Walk.sweepReplay {w : World} (cs : Array Value) (hr : Rd Tryz.prog w 27 cs.toList) (lv : Value) (hlr : Rd Tryz.prog w 28 [lv]) (cut : Int) (hcw : (Lit.int .i64 cut).wf = true) :
    Calls Tryz.prog 4 #[.agg cs, lv, .int .i64 cut] w fun r w' => r = .returned (.bool true) ∧ Below w.heap.size w w' := by
  obtain ⟨c, sv, rfl, hst, -⟩ := cf_rd hr
  obtain ⟨sa, sc, rfl⟩ := hst.slc
  obtain ⟨l, hl, hnx⟩ := ocsx_rd hlr
  obtain ⟨la, lc, rfl, -⟩ := id hl
  obtain ⟨C, hC⟩ : ∃ C, CfC c (.slice sa c.sets.length sc) = C := ⟨_, rfl⟩
  have hi : (Tryz.prog.info? 27).map (·.size) = some C.size := by rw [← hC]; exact infoCf
  obtain ⟨W0, hW0⟩ : ∃ W, w.alloc (.cells C 27) = W := ⟨_, rfl⟩
  have hb0 : Below w.heap.size w W0 := by rw [← hW0]; exact bal' w _
  have p0 : W0.heap[w.heap.size]? = some (.cells C 27) := by rw [← hW0]; exact hpNew w _
  have HAW : Hid (∀ X, Calls Tryz.prog 8 #[] X (BoolPost X true)) := fun X => awake33_any X
  obtain ⟨V1, hV1, hVL⟩ := mvalid_any c
  obtain ⟨V, hV⟩ : ∃ V, smallOcs l 60 = V := ⟨_, rfl⟩
  have HVL : Hid (Calls Tryz.prog 20 #[.agg C] W0 (BoolPost W0 V1)) := by rw [← hC]; exact hVL W0 _ (hst.keep hb0)
  have HMO : Hid (∀ X, Below W0.heap.size W0 X → Calls Tryz.prog 7 #[.slice la l.length lc, .int .i64 60] X (BoolPost X V)) := fun X hX => mocs_any _ l 60 X (hl.keep (bt hb0 hX (Nat.le_refl _))) V hV
  have HW0 := hid hW0
  have HB0 := hid hb0
  have HL := hid hl
  have P0 := hid p0
  have HST := hid hst
  have HC := hid hC
  rw [hC]
  obtain ⟨ln, hln⟩ : ∃ n, l.length = n := ⟨_, rfl⟩
  have HLM : Hid (V = true → ln ≤ 60) := fun h => by
    rw [h] at hV
    simp only [smallOcs, Bool.and_eq_true, decide_eq_true_eq] at hV
    have := hV.2
    omega
  rw [hln] at HMO HL ⊢
  have HLN := hid hln
  have HFT : Hid (V = true → ∀ (i : Nat) (x : Oc), l[i]? = some x → x.fit) := fun h i x hx => small_fit (h ▸ hV) hnx hx
  have HCE := hid hV1
  have HCW := hid hcw
  clear hr hlr hW0 hb0 hl p0 hst hC hln hV hnx hV1 hVL hcw
  cases V1 with
  | false =>
    go_enter Tryz.func4, Tryz.ntmps4
    go_upto_region 1 with (fail)
    rw [HW0.out]
    go_wp2_with (first
      | (refine wpList_load_row rfl 27 (.tmp 3) rfl w.heap.size rfl 27 C (0, 0) _ P0.out Tryz.underlying27 rfl hi ?_)
      | (go_at_call 20; (with_reducible refine HVL.out.mono ?_); rintro r w1 ⟨rfl, hb1⟩)
      | (go_at_call 8; (with_reducible refine (HAW.out _).mono ?_); rintro r w2 ⟨rfl, hb2⟩))
    go_ret
    exact ⟨rfl, bt (bt HB0.out hb1 (Nat.le_refl _)) hb2 (Nat.le_refl _)⟩
  | true =>
  cases V with
  | false =>
    go_enter Tryz.func4, Tryz.ntmps4
    go_upto_region 1 with (fail)
    rw [HW0.out]
    go_wp2_with (first
      | (refine wpList_load_row rfl 27 (.tmp 3) rfl w.heap.size rfl 27 C (0, 0) _ P0.out Tryz.underlying27 rfl hi ?_)
      | (go_at_call 20; (with_reducible refine HVL.out.mono ?_); rintro r w1 ⟨rfl, hb1⟩)
      | (go_at_call 7; (with_reducible refine (HMO.out _ hb1).mono ?_); rintro r w3 ⟨rfl, hb3⟩)
      | (go_at_call 8; (with_reducible refine (HAW.out _).mono ?_); rintro r w2 ⟨rfl, hb2⟩))
    go_ret
    exact ⟨rfl, bt (bt (bt HB0.out hb1 (Nat.le_refl _)) hb3 (Nat.le_refl _)) hb2 (Nat.le_refl _)⟩
  | true =>
    have HM60 := hid (HLM.out rfl)
    have HFI := hid (HFT.out rfl)
    have HE := hid (HCE.out rfl)
    have HOK := hid (Cf.ok_of HE.out)
    clear HLM HFT HCE
    go_enter Tryz.func4, Tryz.ntmps4
    go_upto_region 1 with (fail)
    rw [HW0.out]
    go_upto_region 3 with (first
      | (refine wpList_load_row rfl 27 (.tmp 3) rfl w.heap.size rfl 27 C (0, 0) _ P0.out Tryz.underlying27 rfl hi ?_)
      | (go_at_call 20; (with_reducible refine HVL.out.mono ?_); rintro r w0 ⟨rfl, hb1⟩)
      | (go_at_call 7; (with_reducible refine (HMO.out _ hb1).mono ?_); rintro r w1 ⟨rfl, hb3⟩))
    have hb01 : Below W0.heap.size W0 w1 := bt hb1 hb3 (Nat.le_refl _)
    have P1 := hid (hpKeep P0.out hb01)
    have HB1 := hid (bt HB0.out hb01 (Nat.le_refl _))
    have HNA : Hid (Calls Tryz.prog 9 #[.agg C] w1 fun r w' => ∃ g : Nat, r = .returned (.tuple #[.pointer (some ⟨g, 0, none⟩), .int .i64 0]) ∧ SwAt (Grw (fun _ => False) w1 w') w' g c Sp.ini ∧ Below w1.heap.size w1 w') := by
      rw [← HC.out]
      refine (swnew_any c _ w1 (HST.out.keep HB1.out) (by have := HOK.out.s6; omega) 0 HE.out).mono fun r w' h => ?_
      obtain ⟨h1 | ⟨-, g, h1, h2⟩, h3⟩ := h
      · exact absurd rfl h1.1
      · exact ⟨g, h1, h2, h3⟩
    have HL0 : Hid (∀ X, Below W0.heap.size W0 X → Below w.heap.size w X) := fun X hX => bt HB0.out hX (Nat.le_refl _)
    have HB01 := hid hb01
    clear hb1 hb3 hb01 HMO HVL HW0
    go_upto_region 7 with (first
      | (refine wpList_load_row rfl 27 (.tmp 3) rfl w.heap.size rfl 27 C (0, 0) _ P1.out Tryz.underlying27 rfl hi ?_)
      | (go_at_call 9; (with_reducible refine HNA.out.mono ?_); rintro r w2 ⟨g, rfl, hsa, hb2⟩))
    have HR2 : Hid (RyRel W0 (Grw (fun _ => False) w1 w2) w2 g c Sp.ini [] (.slice none 0 0) []) := ⟨hsa, fun j hj => by
      rcases hj with hj | hj
      · exact hj.elim
      · have := HB01.out.size; omega, World.ownsRow_nil _ _ _ _, fun j hj => (by cases hj), rfl, bt HB01.out hb2 (Nat.le_refl _), rfl, SpGd.ini c, fun O hO => (by cases hO)⟩
    clear hsa hb2 HNA P1 HB1 HB01
    go_upto_block 0 with (fail)
    go_cut [9, 10, 11, 12, 13, 14, 15, 16, 17, 18, 19] from 57 to 117 (fun s9 s10 s11 s12 s13 s14 s15 s16 s17 s18 s19 wc => ∃ (P : Nat → Prop) (x : Sp) (dl : List Oc) (a : Option Addr) (n cc : Nat) (cs : List Value), s9 = .slice a n cc ∧ dl.length = n ∧ n ≤ 60 ∧ Hid (RyRel W0 P wc g c x dl (.slice a n cc) cs))
    case first =>
      go_wp2_with fail
      go_loopw [9, 10] (fun dv iv wr => ∃ (k : Nat) (P : Nat → Prop) (x : Sp) (dl : List Oc) (a : Option Addr) (n cc : Nat) (cs : List Value), iv = .int .i64 (k : Int) ∧ dv = .slice a n cc ∧ k ≤ ln ∧ n ≤ k ∧ Hid (dl.length = n) ∧ Hid (RyRel W0 P wr g c x dl (.slice a n cc) cs)) (fun _ iv _ => ln - (intOf iv).toNat)
      case atStart => exact ⟨0, _, Sp.ini, [], none, 0, 0, [], rfl, rfl, Nat.zero_le _, Nat.le_refl _, rfl, HR2.out⟩
      case round =>
        clear HR2
        obtain ⟨k, P, x, dl, a9, n9, c9, cs9, rfl, rfl, hk, hnk, hdl, hr⟩ := hrel
        have hk60 := HM60.out
        have hki : (0 : Int) ≤ (k : Int) := Int.natCast_nonneg _
        by_cases hlt : k < ln
        · obtain ⟨y, hy⟩ := get_some HLN.out hlt
          obtain ⟨-, -, -, hel⟩ := HL.out.get
          obtain ⟨b, o, da, dc, oa, oc, rfl, ⟨y0, y1, y2, y3, y4, y5, y6, y7, y8⟩, hxd, hxo, hxl1, hxl2⟩ := hel k y hy
          have hfit := HFI.out k y hy
          have hkl : (k : Int) < (ln : Int) := by omega
          have hrpx : Hid (∀ W', Below W0.heap.size W0 W' → RpIs W' y.reply da dc oa oc) := fun W' hW => ⟨hxd.keep (HL0.out _ hW), hxo.keep (HL0.out _ hW), hxl1, hxl2⟩
          have z0 : ∀ X, Below W0.heap.size W0 X → X.cell? _ = some _ := fun X h => cell_keep (HL0.out X h) y0
          have z1 : ∀ X, Below W0.heap.size W0 X → X.cell? _ = some _ := fun X h => cell_keep (HL0.out X h) y1
          have z2 : ∀ X, Below W0.heap.size W0 X → X.cell? _ = some _ := fun X h => cell_keep (HL0.out X h) y2
          have z3 : ∀ X, Below W0.heap.size W0 X → X.cell? _ = some _ := fun X h => cell_keep (HL0.out X h) y3
          have z4 : ∀ X, Below W0.heap.size W0 X → X.cell? _ = some _ := fun X h => cell_keep (HL0.out X h) y4
          have z5 : ∀ X, Below W0.heap.size W0 X → X.cell? _ = some _ := fun X h => cell_keep (HL0.out X h) y5
          have z6 : ∀ X, Below W0.heap.size W0 X → X.cell? _ = some _ := fun X h => cell_keep (HL0.out X h) y6
          have z7 : ∀ X, Below W0.heap.size W0 X → X.cell? _ = some _ := fun X h => cell_keep (HL0.out X h) y7
          have z8 : ∀ X, Below W0.heap.size W0 X → X.cell? _ = some _ := fun X h => cell_keep (HL0.out X h) y8
          have ha : x.at_ ≤ 1000000 := by have := hr.out.gd.at1; have := HOK.out.units_bd.2.1; omega
          have hbr : Below W0.heap.size W0 wr := hr.out.bel
          have HNX := hid (snext_sw HE.out hr.out.a (fun _ => ⟨hr.out.gd.ok, hr.out.gd.nd⟩) ha)
          have HFT := hid hfit
          clear hel hy hxd hxo hxl1 hxl2 y0 y1 y2 y3 y4 y5 y6 y7 y8 ha hfit
          by_cases hd : x.at_ < c.units
          · have HNX2 : Hid (Calls Tryz.prog 12 #[.pointer (some ⟨g, 0, none⟩)] wr fun r w' => r = .returned (.tuple #[.int .i64 (c.pSet x.at_), .int .i64 (c.pUnit x.at_), .agg #[.int .i64 x.pb.ph.ask.fn, .int .i64 x.pb.ph.ask.addr, .int .i64 x.pb.ph.ask.qty, .int .i64 x.pb.ph.ask.code, .int .i64 x.pb.ph.ask.obj], .bool true]) ∧ Below wr.heap.size wr w') := HNX.out.mono fun r w' h => by
              obtain ⟨h1, h2⟩ := h
              rw [if_pos hd] at h1
              exact ⟨h1, h2⟩
            obtain ⟨rq, hrq⟩ : ∃ q, x.pb.ph.ask = q := ⟨_, rfl⟩
            rw [hrq] at HNX2
            have HST1 : Hid (∀ X, Calls Tryz.prog 21 #[.agg #[.int .i64 y.verdict, .int .i64 y.reply.fn, .int .i64 y.reply.exc, .slice da y.reply.data.length dc, .int .i64 y.reply.code, .int .i64 y.reply.level, .bool y.reply.more, .int .i64 y.reply.next, .slice oa y.reply.objs.length oc]] X (RsOne X y da dc oa oc)) := fun X => rstrip_own y da dc oa oc X
            have HND : Hid (x.done c = false) := by show _ = _; unfold Sp.done; rw [decide_eq_false_iff_not]; omega
            have HRX := hid (fun X (hX : Below wr.heap.size wr X) => bt hbr hX (Nat.le_refl _))
            clear hrq HNX hd
            go_upto_region 13 with (first
              | (go_at_call 12; (with_reducible refine HNX2.out.mono ?_); rintro r x5 ⟨rfl, hb5⟩; have hbx := HRX.out _ (bta hb5 (Nat.le_refl _) (.cells #[.int .i64 rq.fn, .int .i64 rq.addr, .int .i64 rq.qty, .int .i64 rq.code, .int .i64 rq.obj] 39)))
              | (go_at_call 21; (with_reducible refine (HST1.out _).mono ?_); rintro r x6 ⟨d1, n1, d2, n2, rfl, hrp, hb6⟩))
            obtain ⟨O1, hO1⟩ : ∃ O, y.strip = O := ⟨_, rfl⟩
            have hfit1 : O1.fit := by rw [← hO1]; exact HFT.out.strip
            rw [hO1] at hrp ⊢
            obtain ⟨W7, hW7⟩ : ∃ W, x6.alloc (.cells #[.int .i64 O1.verdict, .int .i64 O1.reply.fn, .int .i64 O1.reply.exc, .slice d1 O1.reply.data.length n1, .int .i64 O1.reply.code, .int .i64 O1.reply.level, .bool O1.reply.more, .int .i64 O1.reply.next, .slice d2 O1.reply.objs.length n2] 55) = W := ⟨_, rfl⟩
            have hb57 : Below (x5.alloc (.cells #[.int .i64 rq.fn, .int .i64 rq.addr, .int .i64 rq.qty, .int .i64 rq.code, .int .i64 rq.obj] 39)).heap.size (x5.alloc (.cells #[.int .i64 rq.fn, .int .i64 rq.addr, .int .i64 rq.qty, .int .i64 rq.code, .int .i64 rq.obj] 39)) W7 := by rw [← hW7]; exact bta hb6 (Nat.le_refl _) _
            have hb7 : Below wr.heap.size wr W7 := bt (bta hb5 (Nat.le_refl _) _) hb57 (Nat.le_refl _)
            have pQ : W7.heap[x5.heap.size]? = some (.cells #[.int .i64 rq.fn, .int .i64 rq.addr, .int .i64 rq.qty, .int .i64 rq.code, .int .i64 rq.obj] 39) := hpKeep (hpNew x5 _) hb57
            have pO : W7.heap[x6.heap.size]? = some (.cells #[.int .i64 O1.verdict, .int .i64 O1.reply.fn, .int .i64 O1.reply.exc, .slice d1 O1.reply.data.length n1, .int .i64 O1.reply.code, .int .i64 O1.reply.level, .bool O1.reply.more, .int .i64 O1.reply.next, .slice d2 O1.reply.objs.length n2] 55) := by rw [← hW7]; exact hpNew x6 _
            have h15 : wr.heap.size ≤ x6.heap.size := by
              have e1 := hb5.size
              have e2 := hb6.size
              have e3 : (x5.alloc (.cells #[.int .i64 rq.fn, .int .i64 rq.addr, .int .i64 rq.qty, .int .i64 rq.code, .int .i64 rq.obj] 39)).heap.size = x5.heap.size + 1 := by simp
              omega
            have HRP1 : Hid (∀ W, Below W0.heap.size W0 W → RpIs W O1.reply d1 n1 d2 n2) := fun W hW => hrp W (hrpx.out W hW)
            have HF1 := hid hfit1
            rw [hW7]
            have HB7 := hid hb7
            have HO7 := hid pO
            have H15 := hid h15
            clear hW7 hb5 hb6 hb57 hb7 hbx hrp hrpx hfit1 hO1 h15 HST1 HNX2 HFT z0 z1 z2 z3 z4 z5 z6 z7 z8
            generalize x5.heap.size = q13 at *
            generalize x6.heap.size = q15 at *
            have a0 : W7.cell? ⟨q13, 0, none⟩ = some (.int .i64 rq.fn) := hpCell pQ 0
            have c0 : W7.cell? ⟨q15, 0, none⟩ = some (.int .i64 O1.verdict) := hpCell pO 0
            obtain ⟨vv, hvv⟩ : ∃ v, O1.verdict = v := ⟨_, rfl⟩
            obtain ⟨qf, hqf⟩ : ∃ v, rq.fn = v := ⟨_, rfl⟩
            rw [hvv] at c0
            rw [hqf] at a0
            have HQF := hid hqf
            have HQ7 := hid pQ
            clear hvv hqf
            go_cut [84] from 77 to 84 (fun s84 wd => ∃ T : Bool, s84 = .bool T ∧ wd = W7)
            case first =>
              by_cases h1 : vv = 1
              · by_cases h2 : qf ≤ 4
                · have g2 : decide (qf ≤ 4) = true := by rw [decide_eq_true_eq]; exact h2
                  subst h1
                  clear h2
                  go_wp2
                  go_meet
                  case rel => exact ⟨_, rfl, rfl⟩
                · have g2 : decide (qf ≤ 4) = false := by rw [decide_eq_false_iff_not]; exact h2
                  subst h1
                  clear h2
                  go_wp2
                  go_meet
                  case rel => exact ⟨_, rfl, rfl⟩
              · have g1 : (vv == 1) = false := by rw [beq_eq_false_iff_ne]; exact h1
                clear h1
                go_wp2
                go_meet
                case rel => exact ⟨_, rfl, rfl⟩
            case rest =>
            obtain ⟨T, rfl, rfl⟩ := hcut
            go_upto_if 84 with (fail)
            go_cut [] from 85 to 88 (fun wd => Hid (SyBox W0 wr q15 wd))
            case first =>
              cases T with
              | true =>
                clear c0
                go_wp2_with (refine wpList_storeW rfl 53 (.tmp 88) (.tmp 87) rfl q15 1 _ 55 #[.int .i64 qf, .int .i64 0, .slice none 0 0, .int .i64 0, .int .i64 0, .bool false, .int .i64 0, .slice none 0 0] rfl rfl HO7.out (by simp) infoRp8 rfl ?_; intro w8 g8 hk8 hz8)
                go_meet
                case rel =>
                  have g8' : w8.heap[q15]? = some (.cells #[.int .i64 (⟨O1.verdict, ⟨qf, 0, [], 0, 0, false, 0, []⟩⟩ : Oc).verdict, .int .i64 (⟨O1.verdict, ⟨qf, 0, [], 0, 0, false, 0, []⟩⟩ : Oc).reply.fn, .int .i64 (⟨O1.verdict, ⟨qf, 0, [], 0, 0, false, 0, []⟩⟩ : Oc).reply.exc, .slice none (⟨O1.verdict, ⟨qf, 0, [], 0, 0, false, 0, []⟩⟩ : Oc).reply.data.length 0, .int .i64 (⟨O1.verdict, ⟨qf, 0, [], 0, 0, false, 0, []⟩⟩ : Oc).reply.code, .int .i64 (⟨O1.verdict, ⟨qf, 0, [], 0, 0, false, 0, []⟩⟩ : Oc).reply.level, .bool (⟨O1.verdict, ⟨qf, 0, [], 0, 0, false, 0, []⟩⟩ : Oc).reply.more, .int .i64 (⟨O1.verdict, ⟨qf, 0, [], 0, 0, false, 0, []⟩⟩ : Oc).reply.next, .slice none (⟨O1.verdict, ⟨qf, 0, [], 0, 0, false, 0, []⟩⟩ : Oc).reply.objs.length 0] 55) := g8
                  exact ⟨⟨O1.verdict, ⟨qf, 0, [], 0, 0, false, 0, []⟩⟩, none, 0, none, 0, g8', fun W _ => RpIs.short W qf 0, ⟨by show 0 ≤ 40; decide, fun y hy => (by cases hy), by show 0 ≤ 300; decide, by show (0 : Int) ≤ _; decide⟩, HB7.out.trans (hk8.below HB7.out.size (fun j hj e => by have := H15.out; omega))⟩
              | false =>
                clear c0 a0
                go_wp2
                go_meet
                case rel => exact ⟨O1, d1, n1, d2, n2, HO7.out, HRP1.out, HF1.out, HB7.out⟩
            case rest =>
              obtain ⟨W8, hW8⟩ : ∃ W, W = wc := ⟨_, rfl⟩
              subst hW8
              obtain ⟨O2, da2, dc2, oa2, oc2, hbx2, hrp2, hf2, hb8⟩ := hcut.out
              have e0 : ∀ X, Below W8.heap.size W8 X → X.cell? ⟨q15, 0, none⟩ = some (.int .i64 O2.verdict) := fun X h => hpCell (hpKeep hbx2 h) 0
              have e1 : ∀ X, Below W8.heap.size W8 X → X.cell? ⟨q15, 1, none⟩ = some (.int .i64 O2.reply.fn) := fun X h => hpCell (hpKeep hbx2 h) 1
              have e2 : ∀ X, Below W8.heap.size W8 X → X.cell? ⟨q15, 2, none⟩ = some (.int .i64 O2.reply.exc) := fun X h => hpCell (hpKeep hbx2 h) 2
              have e3 : ∀ X, Below W8.heap.size W8 X → X.cell? ⟨q15, 3, none⟩ = some (.slice da2 O2.reply.data.length dc2) := fun X h => hpCell (hpKeep hbx2 h) 3
              have e4 : ∀ X, Below W8.heap.size W8 X → X.cell? ⟨q15, 4, none⟩ = some (.int .i64 O2.reply.code) := fun X h => hpCell (hpKeep hbx2 h) 4
              have e5 : ∀ X, Below W8.heap.size W8 X → X.cell? ⟨q15, 5, none⟩ = some (.int .i64 O2.reply.level) := fun X h => hpCell (hpKeep hbx2 h) 5
              have e6 : ∀ X, Below W8.heap.size W8 X → X.cell? ⟨q15, 6, none⟩ = some (.bool O2.reply.more) := fun X h => hpCell (hpKeep hbx2 h) 6
              have e7 : ∀ X, Below W8.heap.size W8 X → X.cell? ⟨q15, 7, none⟩ = some (.int .i64 O2.reply.next) := fun X h => hpCell (hpKeep hbx2 h) 7
              have e8 : ∀ X, Below W8.heap.size W8 X → X.cell? ⟨q15, 8, none⟩ = some (.slice oa2 O2.reply.objs.length oc2) := fun X h => hpCell (hpKeep hbx2 h) 8
              have hb08 : Below W0.heap.size W0 W8 := bt hbr hb8 (Nat.le_refl _)
              have HR8 := hid (hr.out.keep hb8)
              have HRP2 := hid hrp2
              have HF2 := hid hf2
              have HB08 := hid hb08
              have HB8 := hid hb8
              obtain ⟨V, hV⟩ : ∃ V, O2.ok = V := ⟨_, rfl⟩
              have HVA : Hid (∀ X, Below W8.heap.size W8 X → Calls Tryz.prog 22 #[.agg #[.int .i64 O2.verdict, .int .i64 O2.reply.fn, .int .i64 O2.reply.exc, .slice da2 O2.reply.data.length dc2, .int .i64 O2.reply.code, .int .i64 O2.reply.level, .bool O2.reply.more, .int .i64 O2.reply.next, .slice oa2 O2.reply.objs.length oc2]] X (BoolPost X V)) := fun X hX => rvalidOc_any O2.verdict O2.reply.fn O2.reply.exc _ O2.reply.code O2.reply.level O2.reply.more O2.reply.next _ O2.reply.data O2.reply.objs X (HRP2.out X (bt HB08.out hX (Nat.le_refl _))).d (HRP2.out X (bt HB08.out hX (Nat.le_refl _))).o V hV
              have r8 : Below W8.heap.size W8 W8 := Below.refl _ _
              have HV := hid hV
              clear hcut hbx2 hrp2 hf2 hb8 hb08 hV pO HB7 HO7 HRP1 HF1
              cases V with
              | false =>
                go_wp2_with (go_at_call 22; (with_reducible refine (HVA.out _ r8).mono ?_); rintro r w9 ⟨rfl, hb9⟩)
                go_roundw
                case rel => exact ⟨k + 1, P, x, dl, a9, n9, c9, cs9, by go_num, rfl, by omega, by omega, hdl.out, HR8.out.keep hb9⟩
                case measure => simp [intOf]; omega
              | true =>
                obtain ⟨iO, hiO, hzO0, hzO1, hzO2⟩ := info_parts infoOc
                have HOK2 : Hid (okL [O2] = true) := by show _ = _; simp [okL, HV.out]
                obtain ⟨bs, hbs⟩ : ∃ b, encL [O2] = b := ⟨_, rfl⟩
                obtain ⟨bn, hbn⟩ : ∃ n, bs.length = n := ⟨_, rfl⟩
                have HEN : Hid (∀ X v, Ocs X v [O2] → Calls Tryz.prog 23 #[v] X fun r w' => ∃ a cc, r = .returned (.tuple #[.slice a bn cc, .int .i64 0]) ∧ Bs w' (.slice a bn cc) bs ∧ bn ≤ 20000 ∧ Below X.heap.size X w') := fun X v h => (refEncode_own v [O2] X h).mono fun r w' hp => by
                  obtain ⟨a, cc, h1, h2, h3, h4⟩ := hp.1 HOK2.out
                  rw [hbs, hbn] at h1 h2
                  rw [hbs, hbn] at h3
                  refine ⟨a, cc, h1, ?_, h3, h4⟩
                  have h5 : w'.ownsRow X.heap.size 5 1 (.slice a bn cc) bs.length (u8s bs) := by rw [hbn]; exact h2
                  exact Bs.own h5
                have HDE : Hid (∀ a cc X, Bs X (.slice a bn cc) bs → bn ≤ 20000 → Calls Tryz.prog 24 #[.slice a bn cc] X fun r w' => ∃ a2 c2 cs2, r = .returned (.tuple #[.slice a2 1 c2, .int .i64 0]) ∧ w'.ownsRow X.heap.size 55 9 (.slice a2 1 c2) 1 cs2 ∧ CsL 9 (OcH (DevF X.heap.size (.slice a2 1 c2)) w') cs2 [O2] ∧ Below X.heap.size X w') := fun a cc X h hn => (rdecode_own a bn cc bs X h (by omega) (hid fun a n c b w h => xdec_any a n c b w h)).mono fun r w' hp => by
                  rcases hp with ⟨l2, v2, cs2, h1, h2, h3, h4, h5⟩ | ⟨h1, -⟩
                  · rw [← hbs, decL_enc HOK2.out] at h1
                    obtain rfl : [O2] = l2 := by injection h1
                    obtain ⟨a2, c2, rfl⟩ := own_slice h3
                    exact ⟨a2, c2, cs2, h2, h3, h4, h5⟩
                  · rw [← hbs, decL_enc HOK2.out] at h1
                    cases h1
                obtain ⟨x', hx'⟩ : ∃ x', x.feed c O2 = x' := ⟨_, rfl⟩
                have HFE : Hid (∀ X, Below W8.heap.size W8 X → Calls Tryz.prog 18 #[.pointer (some ⟨g, 0, none⟩), .agg #[.int .i64 O2.verdict, .int .i64 O2.reply.fn, .int .i64 O2.reply.exc, .slice da2 O2.reply.data.length dc2, .int .i64 O2.reply.code, .int .i64 O2.reply.level, .bool O2.reply.more, .int .i64 O2.reply.next, .slice oa2 O2.reply.objs.length oc2]] X (SfPost P X g c x' 0)) := fun X hX => by
                  rw [← hx']
                  have hrX := HR8.out.keep hX
                  exact swfeed_any HE.out hrX.a hrX.gd (by have := hdl.out; omega) O2 da2 dc2 oa2 oc2 (fun W hW => HRP2.out W (hrX.bel.trans (hW.below hrX.bel.size (fun j hj e => by have := (hrX.lo j e).1; omega)))) HF2.out 0 (by show (0 : Int) = _; rw [HND.out]; rfl)
                have HX' := hid hx'
                have hn60 : n9 ≤ 60 := by omega
                clear hbs hbn hx'
                go_upto_region 20 with (first
                  | (go_at_call 22; (with_reducible refine (HVA.out _ r8).mono ?_); rintro r w9 ⟨rfl, hb9⟩; have hoc9 := Ocs.one (hpNew w9 (.cells #[.int .i64 O2.verdict, .int .i64 O2.reply.fn, .int .i64 O2.reply.exc, .slice da2 O2.reply.data.length dc2, .int .i64 O2.reply.code, .int .i64 O2.reply.level, .bool O2.reply.more, .int .i64 O2.reply.next, .slice oa2 O2.reply.objs.length oc2] 55)) (HRP2.out _ (bt HB08.out (bta hb9 (Nat.le_refl _) _) (Nat.le_refl _))))
                  | (go_at_call 23; (with_reducible refine (HEN.out _ _ hoc9).mono ?_); rintro r w10 ⟨a10, c10, rfl, hB10, hn10, hb10⟩; have hb810 := bt (bta hb9 (Nat.le_refl _) _) hb10 (Nat.le_refl _))
                  | (go_at_call 24; (with_reducible refine (HDE.out _ _ _ hB10 hn10).mono ?_); rintro r w11 ⟨a2, c2, cs2, rfl, hw2, hc2, hb11⟩; have hb811 := bt hb810 hb11 (Nat.le_refl _))
                  | (go_at_call 18; (with_reducible refine (HFE.out _ hb811).mono ?_); rintro r w12 ⟨rfl, h12, hk12⟩))
                have hrP : ∀ j, P j → j < w10.heap.size := fun j e => by have e1 := (HR8.out.lo j e).2; have e2 := hb810.size; omega
                have hw12 := own_keeps hw2 hk12 (fun j e hP => by have e1 := (hw2.lt j e).1; have e2 := hrP j hP; omega)
                obtain ⟨-, b2, rfl, hcl2⟩ := own_cells hw12 (by decide)
                have hr11 := HR8.out.keep hb811
                have hown12 : w12.ownsRow W0.heap.size 55 9 (.slice a9 n9 c9) n9 cs9 := by
                  have h := hr11.own
                  rw [hdl.out] at h
                  exact own_keeps h hk12 (fun j e hP => hr11.dn j e hP)
                have hlen : cs2.length = 1 * 9 := CsL.len _ _ hc2
                have hone : ∀ u ∈ cs2, u.oneCell' = true := CsL.one (fun r x h => OcH.one r x h) _ _ hc2
                have hz12 : W0.heap.size ≤ w12.heap.size := by have e1 := hr11.bel.size; have e2 := hk12.size; omega
                go_wp2_with (at_builtin; refine wpList_appN rfl (.tmp 115) (.tmp 116) 28 rfl W0.heap.size 55 iO _ 9 104 Tryz.underlying28 hiO hzO0 hzO1 hzO2 rfl (by decide) (.slice a9 n9 c9) n9 cs9 rfl hown12 ⟨b2, 0, none⟩ 1 c2 cs2 rfl hlen hcl2 hone (by unfold maxLen; omega) (by omega) hz12 ?_; intro v13 w13 hown13 hgr13 hnew13; obtain ⟨a13, c13, rfl⟩ := own_slice hown13)
                have hst : RyRel W0 (Grw P w11 w12) w13 g c x' (dl ++ [O2]) (.slice a13 (n9 + 1) c13) (cs9 ++ cs2) := RyRel.step HR8.out hb810 hb11 hc2 h12 hk12 hgr13 hnew13 (by rw [hdl.out]; exact hown13) HND.out HX'.out HOK.out.win HF2.out
                go_roundw
                case rel => exact ⟨k + 1, _, x', dl ++ [O2], a13, n9 + 1, c13, _, by go_num, rfl, by omega, by omega, by show _ = _; rw [List.length_append, hdl.out]; rfl, hst⟩
                case measure => simp [intOf]; omega
          · have HNX2 : Hid (Calls Tryz.prog 12 #[.pointer (some ⟨g, 0, none⟩)] wr fun r w' => r = .returned (.tuple #[.int .i64 0, .int .i64 0, .agg #[.int .i64 0, .int .i64 0, .int .i64 0, .int .i64 0, .int .i64 0], .bool false]) ∧ Below wr.heap.size wr w') := HNX.out.mono fun r w' h => by
              obtain ⟨h1, h2⟩ := h
              rw [if_neg hd] at h1
              exact ⟨h1, h2⟩
            clear hd HNX z0 z1 z2 z3 z4 z5 z6 z7 z8 hrpx HFT
            go_wp2_with (go_at_call 12; (with_reducible refine HNX2.out.mono ?_); rintro r x5 ⟨rfl, hb5⟩)
            go_meet
            case rel => exact ⟨P, x, dl, a9, n9, c9, cs9, rfl, hdl.out, by omega, hr.out.keep (bta hb5 (Nat.le_refl _) _)⟩
        · have hkl : ¬ (k : Int) < (ln : Int) := by omega
          go_wp2
          go_meet
          case rel => exact ⟨P, x, dl, a9, n9, c9, cs9, rfl, hdl.out, by omega, hr.out⟩
    case rest =>
      obtain ⟨P, x, dl, a9, n9, c9, cs9, rfl, hdl, hn60, hr⟩ := hcut
      obtain ⟨wL, hwL⟩ : ∃ W, W = wc := ⟨_, rfl⟩
      subst hwL
      have HR := hid hr.out
      have P2 := hid (hpKeep P0.out hr.out.bel)
      have HRG : Hid (∀ X l' v', Below W0.heap.size W0 X → Ocs X v' l' → (∀ O ∈ l', O.fit) → l'.length ≤ 60 → Calls Tryz.prog 25 #[.agg C, v'] X (RyPost X c l')) := fun X l' v' hX hO hf hn => by
        rw [← HC.out]
        exact swreplay_any c HE.out _ v' l' X (HST.out.keep (HL0.out X hX)) hO hf (by omega)
      have HRY1 : Hid (Calls Tryz.prog 25 #[.agg C, .slice a9 n9 c9] wL fun r w' => ∃ g2, r = .returned (.tuple #[.pointer (some ⟨g2, 0, none⟩), .int .i64 0]) ∧ SwAt (Grw (fun _ => False) wL w') w' g2 c x ∧ Below wL.heap.size wL w') := (HRG.out wL dl _ HR.out.bel HR.out.ocs HR.out.fit (by omega)).mono fun r w' hp => by
        obtain ⟨⟨y, g2, h1, h2, h3, -⟩ | ⟨h1, -⟩, h5⟩ := hp
        · rw [HR.out.run] at h1
          obtain rfl : x = y := by injection h1
          exact ⟨g2, h2, h3, h5⟩
        · rw [HR.out.run] at h1
          cases h1
      obtain ⟨na, nb, rq, D, hone⟩ := nx_one c x
      have ha : x.at_ ≤ 1000000 := by have := HR.out.gd.at1; have := HOK.out.units_bd.2.1; omega
      have hfl : x.fd.length ≤ 1000000 := by have := HR.out.gd.fl; omega
      have HXG : Hid (∀ Q X g', SwAt Q X g' c x → Calls Tryz.prog 12 #[.pointer (some ⟨g', 0, none⟩)] X fun r w' => r = .returned (.tuple #[.int .i64 na, .int .i64 nb, .agg #[.int .i64 rq.fn, .int .i64 rq.addr, .int .i64 rq.qty, .int .i64 rq.code, .int .i64 rq.obj], .bool D]) ∧ Below X.heap.size X w') := fun Q X g' h => (snext_sw HE.out h (fun _ => ⟨HR.out.gd.ok, HR.out.gd.nd⟩) ha).mono fun r w' h => hone _ _ _ h
      have HPG : Hid (∀ Q X g', SwAt Q X g' c x → Calls Tryz.prog 14 #[.pointer (some ⟨g', 0, none⟩)] X (IntPost X (x.at_ : Int))) := fun Q X g' h => splace_any h
      have HQG : Hid (∀ Q X g', SwAt Q X g' c x → Calls Tryz.prog 15 #[.pointer (some ⟨g', 0, none⟩)] X (IntPost X x.cnt)) := fun Q X g' h => squeries_any h
      have HDG : Hid (∀ Q X g', SwAt Q X g' c x → Calls Tryz.prog 17 #[.pointer (some ⟨g', 0, none⟩)] X (FdsPost X x.fd)) := fun Q X g' h => swdevs_any h HR.out.gd.fs hfl
      have HSD : Hid (∀ va vb X, Fds X va x.fd → Fds X vb x.fd → Calls Tryz.prog 16 #[va, vb] X (BoolPost X true)) := fun va vb X h1 h2 => samefds_eq va vb x.fd X h1 h2 HR.out.gd.fs hfl
      have HDL := hid hdl
      have HHA := hid ha
      clear hr hdl hone ha hfl
      go_upto_region 26 with (first
        | (refine wpList_load_row rfl 27 (.tmp 3) rfl w.heap.size rfl 27 C (0, 0) _ P2.out Tryz.underlying27 rfl hi ?_)
        | (go_at_call 25; (with_reducible refine HRY1.out.mono ?_); rintro r w3 ⟨g2, rfl, ht3, hb3⟩; have hs3 := (HR.out.keep hb3).a)
        | (go_at_call 12; (with_reducible refine (HXG.out _ _ _ hs3).mono ?_); rintro r x5 ⟨rfl, hb5⟩; have ht5 := ht3.keep (F := fun _ => False) (Keeps.of_below (bta hb5 (Nat.le_refl _) (.cells #[.int .i64 rq.fn, .int .i64 rq.addr, .int .i64 rq.qty, .int .i64 rq.code, .int .i64 rq.obj] 39))) (fun _ _ e => e.elim))
        | (go_at_call 12; (with_reducible refine (HXG.out _ _ _ ht5).mono ?_); rintro r x6 ⟨rfl, hb6⟩))
      obtain ⟨W7, hW7⟩ : ∃ W, x6.alloc (.cells #[.int .i64 rq.fn, .int .i64 rq.addr, .int .i64 rq.qty, .int .i64 rq.code, .int .i64 rq.obj] 39) = W := ⟨_, rfl⟩
      have hb37 : Below w3.heap.size w3 W7 := by rw [← hW7]; exact bta (bt (bta hb5 (Nat.le_refl _) _) hb6 (Nat.le_refl _)) (Nat.le_refl _) _
      have pA : W7.heap[x5.heap.size]? = some (.cells #[.int .i64 rq.fn, .int .i64 rq.addr, .int .i64 rq.qty, .int .i64 rq.code, .int .i64 rq.obj] 39) := by rw [← hW7]; exact hpKeep (hpKeep (hpNew x5 _) hb6) (bal' _ _)
      have pB : W7.heap[x6.heap.size]? = some (.cells #[.int .i64 rq.fn, .int .i64 rq.addr, .int .i64 rq.qty, .int .i64 rq.code, .int .i64 rq.obj] 39) := by rw [← hW7]; exact hpNew _ _
      rw [hW7]
      have hs7 := hs3.keep (F := fun _ => False) (Keeps.of_below hb37) (fun _ _ e => e.elim)
      have ht7 := ht3.keep (F := fun _ => False) (Keeps.of_below hb37) (fun _ _ e => e.elim)
      have HB7 := hid (bt hb3 hb37 (Nat.le_refl _))
      clear hW7 hb5 hb6 hb3 hb37 hs3 ht3 ht5 HRY1
      generalize x5.heap.size = qa at *
      generalize x6.heap.size = qb at *
      have a0 : ∀ X, Below W7.heap.size W7 X → X.cell? ⟨qa, 0, none⟩ = some (.int .i64 rq.fn) := fun X h => hpCell (hpKeep pA h) 0
      have a1 : ∀ X, Below W7.heap.size W7 X → X.cell? ⟨qa, 1, none⟩ = some (.int .i64 rq.addr) := fun X h => hpCell (hpKeep pA h) 1
      have a2 : ∀ X, Below W7.heap.size W7 X → X.cell? ⟨qa, 2, none⟩ = some (.int .i64 rq.qty) := fun X h => hpCell (hpKeep pA h) 2
      have a3 : ∀ X, Below W7.heap.size W7 X → X.cell? ⟨qa, 3, none⟩ = some (.int .i64 rq.code) := fun X h => hpCell (hpKeep pA h) 3
      have a4 : ∀ X, Below W7.heap.size W7 X → X.cell? ⟨qa, 4, none⟩ = some (.int .i64 rq.obj) := fun X h => hpCell (hpKeep pA h) 4
      have n0 : ∀ X, Below W7.heap.size W7 X → X.cell? ⟨qb, 0, none⟩ = some (.int .i64 rq.fn) := fun X h => hpCell (hpKeep pB h) 0
      have n1 : ∀ X, Below W7.heap.size W7 X → X.cell? ⟨qb, 1, none⟩ = some (.int .i64 rq.addr) := fun X h => hpCell (hpKeep pB h) 1
      have n2 : ∀ X, Below W7.heap.size W7 X → X.cell? ⟨qb, 2, none⟩ = some (.int .i64 rq.qty) := fun X h => hpCell (hpKeep pB h) 2
      have n3 : ∀ X, Below W7.heap.size W7 X → X.cell? ⟨qb, 3, none⟩ = some (.int .i64 rq.code) := fun X h => hpCell (hpKeep pB h) 3
      have n4 : ∀ X, Below W7.heap.size W7 X → X.cell? ⟨qb, 4, none⟩ = some (.int .i64 rq.obj) := fun X h => hpCell (hpKeep pB h) 4
      have PA := hid pA
      have r7 : Below W7.heap.size W7 W7 := Below.refl _ _
      have HS7 := hid hs7
      have HPs : Hid (∀ X, Below W7.heap.size W7 X → Calls Tryz.prog 14 #[.pointer (some ⟨g, 0, none⟩)] X (IntPost X (x.at_ : Int))) := fun X hX => HPG.out _ _ _ (hs7.keep (F := fun _ => False) (Keeps.of_below hX) (fun _ _ e => e.elim))
      have HPt : Hid (∀ X, Below W7.heap.size W7 X → Calls Tryz.prog 14 #[.pointer (some ⟨g2, 0, none⟩)] X (IntPost X (x.at_ : Int))) := fun X hX => HPG.out _ _ _ (ht7.keep (F := fun _ => False) (Keeps.of_below hX) (fun _ _ e => e.elim))
      have HQs : Hid (∀ X, Below W7.heap.size W7 X → Calls Tryz.prog 15 #[.pointer (some ⟨g, 0, none⟩)] X (IntPost X x.cnt)) := fun X hX => HQG.out _ _ _ (hs7.keep (F := fun _ => False) (Keeps.of_below hX) (fun _ _ e => e.elim))
      have HQt : Hid (∀ X, Below W7.heap.size W7 X → Calls Tryz.prog 15 #[.pointer (some ⟨g2, 0, none⟩)] X (IntPost X x.cnt)) := fun X hX => HQG.out _ _ _ (ht7.keep (F := fun _ => False) (Keeps.of_below hX) (fun _ _ e => e.elim))
      have HDs : Hid (∀ X, Below W7.heap.size W7 X → Calls Tryz.prog 17 #[.pointer (some ⟨g, 0, none⟩)] X (FdsPost X x.fd)) := fun X hX => HDG.out _ _ _ (hs7.keep (F := fun _ => False) (Keeps.of_below hX) (fun _ _ e => e.elim))
      have HDt : Hid (∀ X, Below W7.heap.size W7 X → Calls Tryz.prog 17 #[.pointer (some ⟨g2, 0, none⟩)] X (FdsPost X x.fd)) := fun X hX => HDG.out _ _ _ (ht7.keep (F := fun _ => False) (Keeps.of_below hX) (fun _ _ e => e.elim))
      clear hs7 ht7 pA pB
      go_upto_region 28 with (first
        | (go_at_call 14; (with_reducible refine (HPs.out _ r7).mono ?_); rintro r y1 ⟨rfl, hy1⟩)
        | (go_at_call 14; (with_reducible refine (HPt.out _ hy1).mono ?_); rintro r y2 ⟨rfl, hy2⟩; have hY2 := bt hy1 hy2 (Nat.le_refl _))
        | (go_at_call 15; (with_reducible refine (HQs.out _ hY2).mono ?_); rintro r y3 ⟨rfl, hy3⟩; have hY3 := bt hY2 hy3 (Nat.le_refl _))
        | (go_at_call 15; (with_reducible refine (HQt.out _ hY3).mono ?_); rintro r y4 ⟨rfl, hy4⟩; have hY4 := bt hY3 hy4 (Nat.le_refl _))
        | (go_at_call 17; (with_reducible refine (HDs.out _ hY4).mono ?_); rintro r y5 ⟨dv1, rfl, hd1, hy5⟩; have hY5 := bt hY4 hy5 (Nat.le_refl _); have HD1 := hid hd1; clear hd1)
        | (go_at_call 17; (with_reducible refine (HDt.out _ hY5).mono ?_); rintro r y6 ⟨dv2, rfl, hd2, hy6⟩; have hY6 := bt hY5 hy6 (Nat.le_refl _); have hf1 := (HD1.out y5 (Agree.refl _ _)).fds.keep hy6; have hf2 := (hd2 y6 (Agree.refl _ _)).fds; clear hd2)
        | (go_at_call 16; (with_reducible refine (HSD.out _ _ _ hf1 hf2).mono ?_); rintro r y7 ⟨rfl, hy7⟩; have hY7 := bt hY6 hy7 (Nat.le_refl _)))
      have HY7 := hid hY7
      clear hy1 hy2 hY2 hy3 hY3 hy4 hY4 hy5 hY5 hy6 hY6 hf1 hf2 hy7 hY7 HPs HPt HQs HQt HDs HDt HD1 a0 a1 a2 a3 a4 n0 n1 n2 n3 n4 r7
      obtain ⟨m, hm⟩ := Int.eq_ofNat_of_zero_le (Int.emod_nonneg cut (show ((n9 : Int) + 1) ≠ 0 by omega))
      have hmn : m ≤ n9 := by have := Int.emod_lt_of_pos cut (show 0 < ((n9 : Int) + 1) by omega); omega
      have HMO2 : Hid (∀ X, Calls Tryz.prog 26 #[.int .i64 cut, .int .i64 ((n9 : Int) + 1)] X fun r w' => r = .returned (.int .i64 (m : Int)) ∧ X = w') := fun X => by
        rw [← hm]
        exact mod_any cut _ (by omega) (by omega) HCW.out X
      clear hm
      go_upto_region 29 with (go_at_call 26; (with_reducible refine (HMO2.out _).mono ?_); rintro r y8 ⟨rfl, rfl⟩)
      obtain ⟨xm, hxm1, hxm2⟩ := feedsE_take HR.out.run m
      have hBL : Below wL.heap.size wL y7 := bt HB7.out HY7.out (Nat.le_refl _)
      have HRL := hid (HR.out.keep hBL)
      have P7 := hid (hpKeep P0.out HRL.out.bel)
      have HRWc : Hid (∀ X, Below y7.heap.size y7 X → ∀ j v, C.toList[j]? = some v → X.cell? ((⟨w.heap.size, 0, none⟩ : Addr).add j) = some v) := fun X hX => hpRowAt2 (hpKeep P7.out hX)
      obtain ⟨iO, hiO, hzO0, hzO1, hzO2⟩ := info_parts infoOc
      have hcap : n9 ≤ c9 := by obtain ⟨_, _, hv, h1, _⟩ := HRL.out.ocs; cases hv; have := HDL.out; omega
      have hsl : ∀ W, (Instr.slice 28 (.slice a9 n9 c9) none (some (.int .i64 m)) none).run Tryz.prog W = .ok (.slice a9 m c9) W := fun W => run_take Tryz.underlying28 hiO a9 n9 c9 m (by omega) W
      have HRY2 : Hid (∀ X, Below y7.heap.size y7 X → Calls Tryz.prog 25 #[.agg C, .slice a9 m c9] X fun r w' => ∃ g3, r = .returned (.tuple #[.pointer (some ⟨g3, 0, none⟩), .int .i64 0]) ∧ SwAt (Grw (fun _ => False) X w') w' g3 c xm ∧ SpGd c xm m ∧ Below X.heap.size X w') := fun X hX => by
        have hr8 := HRL.out.keep hX
        have hlt : (dl.take m).length = m := by rw [List.length_take]; have := HDL.out; omega
        refine (HRG.out X (dl.take m) _ hr8.bel (hr8.ocs.take (by have := HDL.out; omega)) (fun O hO => hr8.fit O (List.mem_of_mem_take hO)) (by omega)).mono fun r w' hp => ?_
        obtain ⟨⟨y, g3, h1, h2, h3, h4⟩ | ⟨h1, -⟩, h5⟩ := hp
        · rw [hxm1] at h1
          obtain rfl : xm = y := by injection h1
          rw [hlt] at h4
          exact ⟨g3, h2, h3, h4, h5⟩
        · rw [hxm1] at h1
          cases h1
      have HXM := hid hxm1
      have kD : Below y7.heap.size y7 y7.drew := (Below.refl _ _).drew
      clear hxm1 hxm2 hBL HMO2 hcap
      refine wp_region_held_drew (S := fun V => Below y7.heap.size y7 V) (by kernel_rfl) kD (fun hH => ?_)
      clear hH
      refine tkD 0 190 (v := .agg C) rfl (by kernel_rfl) (fun _ _ _ h => h) rfl (by rfl) (by assumption) (fun X hX => run_load_rowS 27 (.tmp 3) rfl ⟨w.heap.size, 0, none⟩ rfl C _ (HRWc.out X hX) Tryz.underlying27 rfl hi) ?_; simp only [List.setIfInBounds_toArray, List.set_cons_zero, List.set_cons_succ]
      refine tkD 1 191 (v := ?_) rfl (by kernel_rfl) (fun _ _ _ h => h) rfl (by rfl) (by assumption) ?_ ?_; rotate_left; (intro w hSw; (try dsimp only at hSw); go_simp; try (with_reducible rfl)); simp only [List.setIfInBounds_toArray, List.set_cons_zero, List.set_cons_succ]
      refine tkD 2 192 (v := ?_) rfl (by kernel_rfl) (fun _ _ _ h => h) rfl (by rfl) (by assumption) ?_ ?_; rotate_left; (intro w hSw; (try dsimp only at hSw); go_simp; try (with_reducible rfl)); simp only [List.setIfInBounds_toArray, List.set_cons_zero, List.set_cons_succ]
      refine tkD 3 193 (v := ?_) rfl (by kernel_rfl) (fun _ _ _ h => h) rfl (by rfl) (by assumption) ?_ ?_; rotate_left; (intro w hSw; (try dsimp only at hSw); go_simp; try (with_reducible rfl)); simp only [List.setIfInBounds_toArray, List.set_cons_zero, List.set_cons_succ]
      refine wpAnyH_ready (rs := [4]) (by kernel_rfl) (by simp) ?_; refine AllReadyH.cons rfl (fun K hK => ?_) AllReadyH.nil; go_simp
      refine (HRY2.out _ kD).mono ?_
      rintro r y9 ⟨g3, rfl, hu9, hgm, hb9⟩
      have hB9 := bt kD hb9 (Nat.le_refl _)
      refine hK.out _ _ hB9 (fun hSx => ?_); clear hK K hSx
      refine tkD 5 189 (v := ?_) rfl (by kernel_rfl) (fun _ _ _ h => h) rfl (by rfl) (by assumption) ?_ ?_; rotate_left; (intro w hSw; (try dsimp only at hSw); go_simp; try (with_reducible rfl)); simp only [List.setIfInBounds_toArray, List.set_cons_zero, List.set_cons_succ]
      refine tkD 6 195 (v := ?_) rfl (by kernel_rfl) (fun _ _ _ h => h) rfl (by rfl) (by assumption) ?_ ?_; rotate_left; (intro w hSw; (try dsimp only at hSw); go_simp; try (with_reducible rfl)); simp only [List.setIfInBounds_toArray, List.set_cons_zero, List.set_cons_succ]
      refine tkD 7 196 (v := ?_) rfl (by kernel_rfl) (fun _ _ _ h => h) rfl (by rfl) (by assumption) ?_ ?_; rotate_left; (intro w hSw; (try dsimp only at hSw); go_simp; try (with_reducible rfl)); simp only [List.setIfInBounds_toArray, List.set_cons_zero, List.set_cons_succ]
      refine tkD 8 30 (v := ?_) rfl (by kernel_rfl) (fun _ _ _ h => h) rfl (by rfl) (by assumption) ?_ ?_; rotate_left; (intro w hSw; (try dsimp only at hSw); go_simp; try (with_reducible rfl)); simp only [List.setIfInBounds_toArray, List.set_cons_zero, List.set_cons_succ]
      refine tkD 9 31 (v := ?_) rfl (by kernel_rfl) (fun _ _ _ h => h) rfl (by rfl) (by assumption) ?_ ?_; rotate_left; (intro w hSw; (try dsimp only at hSw); go_simp; try (with_reducible rfl)); simp only [List.setIfInBounds_toArray, List.set_cons_zero, List.set_cons_succ]
      refine wpAnyH_done (by kernel_rfl) ?_ _
      have HU9 := hid hu9
      have HGM := hid hgm
      clear hu9 hgm hb9 hsl kD HRY2 HRWc
      go_wp2_with fail
      go_loopw [32] (fun iv wr => ∃ (j : Nat) (z : Sp), iv = .int .i64 (j : Int) ∧ m ≤ j ∧ j ≤ n9 ∧ Hid (feedsE c Sp.ini (dl.take j) = some z) ∧ Hid (SpGd c z j) ∧ Hid (SwAt (Grw (fun _ => False) y7 wr) wr g3 c z) ∧ Below y7.heap.size y7 wr) (fun iv _ => n9 - (intOf iv).toNat)
      case atStart => exact ⟨m, xm, rfl, Nat.le_refl _, hmn, HXM.out, HGM.out, HU9.out, hB9⟩
      case round =>
        clear HU9 HGM HXM hB9 hmn
        obtain ⟨j, z, rfl, hmj, hjn, hfe, hgz, hsu, hbr⟩ := hrel
        by_cases hlt : j < n9
        · obtain ⟨y, hy⟩ := get_some HDL.out hlt
          obtain ⟨-, -, -, hel⟩ := HRL.out.ocs.get
          obtain ⟨b, o, da, dc, oa, oc, rfl, ⟨y0, y1, y2, y3, y4, y5, y6, y7', y8⟩, hxd, hxo, hxl1, hxl2⟩ := hel j y hy
          have hfit := HR.out.fit y (List.mem_of_getElem? hy)
          have hkl : (j : Int) < (n9 : Int) := by omega
          have hki : (0 : Int) ≤ (j : Int) := Int.natCast_nonneg _
          have hnd : z.done c = false := by
            obtain ⟨z', e1, e2⟩ := feedsE_take HR.out.run j
            rw [hfe.out] at e1
            obtain rfl : z = z' := by injection e1
            rw [List.drop_eq_getElem_cons (by rw [HDL.out]; exact hlt)] at e2
            cases e : z.done c with
            | false => rfl
            | true =>
              have e3 : feedsE c z (dl[j]'(by rw [HDL.out]; exact hlt) :: dl.drop (j + 1)) = none := by show (if z.done c = true then none else _) = none; rw [if_pos e]
              rw [e3] at e2
              cases e2
          have hrpx : ∀ W', Below y7.heap.size y7 W' → RpIs W' y.reply da dc oa oc := fun W' hW => ⟨hxd.keep hW, hxo.keep hW, hxl1, hxl2⟩
          have z0 : ∀ X, Below y7.heap.size y7 X → X.cell? _ = some _ := fun X h => cell_keep h y0
          have z1 : ∀ X, Below y7.heap.size y7 X → X.cell? _ = some _ := fun X h => cell_keep h y1
          have z2 : ∀ X, Below y7.heap.size y7 X → X.cell? _ = some _ := fun X h => cell_keep h y2
          have z3 : ∀ X, Below y7.heap.size y7 X → X.cell? _ = some _ := fun X h => cell_keep h y3
          have z4 : ∀ X, Below y7.heap.size y7 X → X.cell? _ = some _ := fun X h => cell_keep h y4
          have z5 : ∀ X, Below y7.heap.size y7 X → X.cell? _ = some _ := fun X h => cell_keep h y5
          have z6 : ∀ X, Below y7.heap.size y7 X → X.cell? _ = some _ := fun X h => cell_keep h y6
          have z7 : ∀ X, Below y7.heap.size y7 X → X.cell? _ = some _ := fun X h => cell_keep h y7'
          have z8 : ∀ X, Below y7.heap.size y7 X → X.cell? _ = some _ := fun X h => cell_keep h y8
          obtain ⟨z', hz'⟩ : ∃ z', z.feed c y = z' := ⟨_, rfl⟩
          have HFE : Hid (Calls Tryz.prog 18 #[.pointer (some ⟨g3, 0, none⟩), .agg #[.int .i64 y.verdict, .int .i64 y.reply.fn, .int .i64 y.reply.exc, .slice da y.reply.data.length dc, .int .i64 y.reply.code, .int .i64 y.reply.level, .bool y.reply.more, .int .i64 y.reply.next, .slice oa y.reply.objs.length oc]] wr (SfPost (Grw (fun _ => False) y7 wr) wr g3 c z' 0)) := by
            rw [← hz']
            exact swfeed_any HE.out hsu.out hgz.out (by omega) y da dc oa oc (fun W' hW => hrpx W' (hbr.trans (hW.below hbr.size (fun i hi e => by
              rcases e with e | e
              · exact e
              · omega)))) hfit 0 (by show (0 : Int) = _; rw [hnd]; rfl)
          have HX' : Hid (feedsE c Sp.ini (dl.take (j + 1)) = some z') := by
            show _ = _
            rw [take_succ_snoc hy, feedsE_snoc hfe.out, if_neg (by rw [hnd]; decide), hz']
          have HG' : Hid (SpGd c z' (j + 1)) := by
            show SpGd _ _ _
            rw [← hz']
            exact hgz.out.feed HOK.out.win hfit
          clear hel hy hxd hxo hxl1 hxl2 hrpx y0 y1 y2 y3 y4 y5 y6 y7' y8 hnd hz' hfit hfe hgz
          go_wp2_with (go_at_call 18; (with_reducible refine HFE.out.mono ?_); rintro r w5 ⟨rfl, h5, hk5⟩)
          have hz5 := hk5.size
          have hb5 : Below y7.heap.size y7 w5 := hbr.trans (hk5.below hbr.size (fun i hi e => by
            rcases e with e | e
            · exact e
            · omega))
          have H5 : Hid (SwAt (Grw (fun _ => False) y7 w5) w5 g3 c z') := h5.wide (fun i e => by
            rcases e with (e | e) | e
            · exact e.elim
            · exact .inr ⟨e.1, by omega⟩
            · exact .inr ⟨by have := hbr.size; omega, e.2⟩) (fun i e => by
            rcases e with e | e
            · exact e.elim
            · exact e.2)
          clear h5 hk5 hz5 z0 z1 z2 z3 z4 z5 z6 z7 z8
          go_roundw
          case rel => exact ⟨j + 1, z', by go_num, by omega, by omega, HX'.out, HG'.out, H5.out, hb5⟩
          case measure => simp [intOf]; omega
        · obtain rfl : j = n9 := by omega
          have hzx : z = x := by
            have h := hfe.out
            rw [List.take_of_length_le (by rw [HDL.out]; exact Nat.le_refl _), HR.out.run] at h
            injection h with h
            exact h.symm
          subst hzx
          have hss : SwAt P wr g c z := ((HS7.out.keep (F := fun _ => False) (Keeps.of_below HY7.out) (fun _ _ e => e.elim))).keep (F := fun _ => False) (Keeps.of_below hbr) (fun _ _ e => e.elim)
          have hpA := hpKeep (hpKeep PA.out HY7.out) hbr
          have hBw : Below w.heap.size w wr := HL0.out _ (bt (bt (bt HR.out.bel HB7.out (Nat.le_refl _)) HY7.out (Nat.le_refl _)) hbr (Nat.le_refl _))
          have HBW := hid hBw
          have HSU := hid hsu.out
          have HSS := hid hss
          have HPA := hid hpA
          clear hfe hgz hsu hbr hss hpA hBw hmj hjn hlt
          go_upto_region 38 with (go_at_call 12; (with_reducible refine (HXG.out _ _ _ HSU.out).mono ?_); rintro r x5 ⟨rfl, hb5⟩)
          obtain ⟨W8, hW8⟩ : ∃ W, x5.alloc (.cells #[.int .i64 rq.fn, .int .i64 rq.addr, .int .i64 rq.qty, .int .i64 rq.code, .int .i64 rq.obj] 39) = W := ⟨_, rfl⟩
          have hb8 : Below wr.heap.size wr W8 := by rw [← hW8]; exact bta hb5 (Nat.le_refl _) _
          have pB : W8.heap[x5.heap.size]? = some (.cells #[.int .i64 rq.fn, .int .i64 rq.addr, .int .i64 rq.qty, .int .i64 rq.code, .int .i64 rq.obj] 39) := by rw [← hW8]; exact hpNew _ _
          have pA := hpKeep HPA.out hb8
          rw [hW8]
          have a0 : ∀ X, Below W8.heap.size W8 X → X.cell? ⟨qa, 0, none⟩ = some (.int .i64 rq.fn) := fun X h => hpCell (hpKeep pA h) 0
          have a1 : ∀ X, Below W8.heap.size W8 X → X.cell? ⟨qa, 1, none⟩ = some (.int .i64 rq.addr) := fun X h => hpCell (hpKeep pA h) 1
          have a2 : ∀ X, Below W8.heap.size W8 X → X.cell? ⟨qa, 2, none⟩ = some (.int .i64 rq.qty) := fun X h => hpCell (hpKeep pA h) 2
          have a3 : ∀ X, Below W8.heap.size W8 X → X.cell? ⟨qa, 3, none⟩ = some (.int .i64 rq.code) := fun X h => hpCell (hpKeep pA h) 3
          have a4 : ∀ X, Below W8.heap.size W8 X → X.cell? ⟨qa, 4, none⟩ = some (.int .i64 rq.obj) := fun X h => hpCell (hpKeep pA h) 4
          have n0 : ∀ X, Below W8.heap.size W8 X → X.cell? ⟨x5.heap.size, 0, none⟩ = some (.int .i64 rq.fn) := fun X h => hpCell (hpKeep pB h) 0
          have n1 : ∀ X, Below W8.heap.size W8 X → X.cell? ⟨x5.heap.size, 1, none⟩ = some (.int .i64 rq.addr) := fun X h => hpCell (hpKeep pB h) 1
          have n2 : ∀ X, Below W8.heap.size W8 X → X.cell? ⟨x5.heap.size, 2, none⟩ = some (.int .i64 rq.qty) := fun X h => hpCell (hpKeep pB h) 2
          have n3 : ∀ X, Below W8.heap.size W8 X → X.cell? ⟨x5.heap.size, 3, none⟩ = some (.int .i64 rq.code) := fun X h => hpCell (hpKeep pB h) 3
          have n4 : ∀ X, Below W8.heap.size W8 X → X.cell? ⟨x5.heap.size, 4, none⟩ = some (.int .i64 rq.obj) := fun X h => hpCell (hpKeep pB h) 4
          have HDu : Hid (∀ X, Below W8.heap.size W8 X → Calls Tryz.prog 17 #[.pointer (some ⟨g3, 0, none⟩)] X (FdsPost X z.fd)) := fun X hX => HDG.out _ _ _ ((HSU.out.keep (F := fun _ => False) (Keeps.of_below hb8) (fun _ _ e => e.elim)).keep (F := fun _ => False) (Keeps.of_below hX) (fun _ _ e => e.elim))
          have HDs : Hid (∀ X, Below W8.heap.size W8 X → Calls Tryz.prog 17 #[.pointer (some ⟨g, 0, none⟩)] X (FdsPost X z.fd)) := fun X hX => HDG.out _ _ _ ((HSS.out.keep (F := fun _ => False) (Keeps.of_below hb8) (fun _ _ e => e.elim)).keep (F := fun _ => False) (Keeps.of_below hX) (fun _ _ e => e.elim))
          have HBW8 := hid (bt HBW.out hb8 (Nat.le_refl _))
          clear hW8 hb5 hb8 pA pB
          go_wp2_with (first
            | (go_at_call 8; (with_reducible refine (HAW.out _).mono ?_); rintro r t1 ⟨rfl, ht1⟩)
            | (go_at_call 17; (with_reducible refine (HDu.out _ ht1).mono ?_); rintro r t2 ⟨dv1, rfl, hd1, ht2⟩; have hT2 := bt ht1 ht2 (Nat.le_refl _); have HD1 := hid hd1; clear hd1)
            | (go_at_call 17; (with_reducible refine (HDs.out _ hT2).mono ?_); rintro r t3 ⟨dv2, rfl, hd2, ht3⟩; have hT3 := bt hT2 ht3 (Nat.le_refl _); have hf1 := (HD1.out t2 (Agree.refl _ _)).fds.keep ht3; have hf2 := (hd2 t3 (Agree.refl _ _)).fds; clear hd2)
            | (go_at_call 16; (with_reducible refine (HSD.out _ _ _ hf1 hf2).mono ?_); rintro r t4 ⟨rfl, ht4⟩; have hT4 := bt hT3 ht4 (Nat.le_refl _)))
          go_ret
          exact ⟨rfl, bt HBW8.out hT4 (Nat.le_refl _)⟩

end Go.Proofs.YtipnamoocemeeaaGreat
