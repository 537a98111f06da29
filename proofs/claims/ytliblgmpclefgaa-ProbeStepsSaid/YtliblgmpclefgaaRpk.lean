/-
  The walk of the law ProbeSteps.
-/
import Derived.Test.YtliblgmpclefgaaPby
import Derived.Test.YtliblgmpclefgaaMwr
import Derived.Test.YtliblgmpclefgaaPbr
import Derived.Test.YtliblgmpclefgaaPbt
import Derived.Test.YtliblgmpclefgaaPbp
import Derived.Test.YtliblgmpclefgaaRfo
import Derived.Test.YtliblgmpclefgaaHn
import Derived.Deep.CutRange
import Derived.Deep.RegionHeldLaw
namespace Go.Proofs.Ytliblgmpclefgaa
open Go.RowKit

/-- The load of a row, as a step by hand. -/
theorem run_load_rowE {P : Program} {ev : Operand → Value} {o : Oper} {w : World} (ty : TypeId) (x : Operand) (ho : o.op = .load ty x)
    (ad : Addr) (hx : ev x = .pointer (some ad)) (cs : Array Value) (d : TypeDesc) (hc : ∀ j v, cs.toList[j]? = some v → w.cell? (ad.add j) = some v)
    (hu : P.underlying ty = some d) (hd : (match d with | .struct _ | .array _ _ => true | _ => false) = true) (hi : (P.info? ty).map (·.size) = some cs.size) :
    (execOp ev o).run P w = .ok (.value (.agg cs)) w := by
  unfold execOp
  simp only [ho, hx, Instr.loadAt, Instr.sureAddr, Sem.run_bind, Sem.run_pure, Result.andThen_ok, run_loadVar_at w ad ty cs d hc hu hd hi]

theorem RqC_dev (win : Nat → Int × Int) (st : Int) (iV sV mV : Value) (d : Dv) (ov sv : Value) (mv : Nat → Value) (q : Int) (j : Nat) (v : Value) (h : (DvC d ov sv mv).toList[j]? = some v) : (RqC win st iV sV mV d ov sv mv q)[12 + j]? = some v := by
  have e : (RqC win st iV sV mV d ov sv mv q).toList.drop 12 = (DvC d ov sv mv).toList ++ [.int .i64 q] := rfl
  have h2 : ((RqC win st iV sV mV d ov sv mv q).toList.drop 12)[j]? = some v := by
    rw [e, List.getElem?_append_left (List.getElem?_eq_some_iff.1 h).1]
    exact h
  rw [List.getElem?_drop] at h2
  simpa using h2

/-- The program's probe and the reference's, that lie apart. -/
structure PsRel (w : World) (ga gb : Nat) (wn : Nat → Int × Int) (A R : Nat → Prop) (pa pb : Pb) (W : World) : Prop where
  a : PbAt A W ga wn pa
  b : RqAt R w W gb wn pb
  la : ∀ j, A j → w.heap.size ≤ j ∧ j < W.heap.size
  lb : ∀ j, R j → j < W.heap.size
  ab : ∀ j, A j → ¬ R j
  bel : Below w.heap.size w W
theorem PsRel.keep {w : World} {ga gb : Nat} {wn : Nat → Int × Int} {A R : Nat → Prop} {pa pb : Pb} {W W' : World} (h : PsRel w ga gb wn A R pa pb W) (hb : Below W.heap.size W W') : PsRel w ga gb wn A R pa pb W' :=
  ⟨h.a.keep (F := fun _ => False) (Keeps.of_below hb) (fun _ _ e => e.elim), h.b.keep (F := fun _ => False) (Keeps.of_below hb) (fun _ _ e => e.elim),
   fun j hj => ⟨(h.la j hj).1, Nat.lt_of_lt_of_le (h.la j hj).2 hb.size⟩, fun j hj => Nat.lt_of_lt_of_le (h.lb j hj) hb.size, h.ab, bt h.bel hb (Nat.le_refl _)⟩
theorem PsRel.fedA {w : World} {ga gb : Nat} {wn : Nat → Int × Int} {A R : Nat → Prop} {pa pb pa' : Pb} {W W' : World} (h : PsRel w ga gb wn A R pa pb W) (hf : PbFd A W ga wn pa' W') : ∃ A', PsRel w ga gb wn A' R pa' pb W' := by
  obtain ⟨A', h1, h2, h3⟩ := hf
  have hs := h3.size
  have hsz := h.bel.size
  refine ⟨A', ⟨h2, h.b.keep h3 (fun j _ hj => h.ab j hj), fun j hj => ?_, fun j hj => by have := h.lb j hj; omega, fun j hj hB => ?_, h.bel.trans (h3.below hsz (fun j hj hA => by have := (h.la j hA).1; omega))⟩⟩
  · rcases h1 j hj with e | e
    · have := h.la j e; omega
    · omega
  · rcases h1 j hj with e | e
    · exact h.ab j e hB
    · have := h.lb j hB; omega
theorem PsRel.fedB {w : World} {ga gb : Nat} {wn : Nat → Int × Int} {A R : Nat → Prop} {pa pb pb' : Pb} {W W' : World} {E : Int} {r : Ending} (h : PsRel w ga gb wn A R pa pb W) (hf : RqFed R w W gb wn pb' E r W') : PsRel w ga gb wn A (Grw R W W') pa pb' W' := by
  obtain ⟨-, h2, h3⟩ := hf
  have hs := h3.size
  have hsz := h.bel.size
  refine ⟨h.a.keep h3 (fun j _ hj hA => h.ab j hA hj.1), h2, fun j hj => ⟨(h.la j hj).1, by have := (h.la j hj).2; omega⟩, fun j hj => ?_, fun j hj hB => ?_, h.bel.trans (h3.below hsz (fun j hj hA => by have := hA.2; omega))⟩
  · rcases hj with e | e
    · have := h.lb j e; omega
    · omega
  · rcases hB with e | e
    · exact h.ab j hj e
    · have := (h.la j hj).2; omega
theorem RqAt.count {P : Nat → Prop} {W0 W : World} {g : Nat} {win : Nat → Int × Int} {p : Pb} (h : RqAt P W0 W g win p) : W.cell? ⟨g, 33, none⟩ = some (.int .i64 p.q) := by
  obtain ⟨-, -, Q, st, iV, sV, mV, ov, sv, mv, hQ, hi, -⟩ := h
  exact hpCell hi 33
theorem RqAt.dev {P : Nat → Prop} {W0 W : World} {g : Nat} {win : Nat → Int × Int} {p : Pb} (h : RqAt P W0 W g win p) : ∃ ov sv mv, (∀ X, Below W.heap.size W X → ∀ j v, (DvC p.d ov sv mv).toList[j]? = some v → X.cell? ⟨g, 12 + j, none⟩ = some v) ∧ DvRd W p.d ov sv mv := by
  obtain ⟨-, -, Q, st, iV, sV, mV, ov, sv, mv, hQ, hi, hd, -⟩ := h
  refine ⟨ov, sv, mv, fun X hX j v hj => ?_, hd W (Keeps.refl _ _)⟩
  rw [hpCell (hpKeep hi hX)]
  exact RqC_dev _ _ _ _ _ _ _ _ _ _ _ _ hj

theorem add_at (b o j : Nat) : (⟨b, o, none⟩ : Addr).add j = ⟨b, o + j, none⟩ := by unfold Addr.add; split <;> simp_all
theorem row_cells {w : World} {b : Nat} {C : Array Value} {t : TypeId} (h : w.heap[b]? = some (.cells C t)) (j : Nat) (v : Value) (hj : C.toList[j]? = some v) : w.cell? ((⟨b, 0, none⟩ : Addr).add j) = some v := by
  rw [add_at, hpCell h]
  simpa using hj
/-- A good state of the probes that have been fed at most k times. -/
structure PsGd (wn : Nat → Int × Int) (p : Pb) (k : Nat) : Prop where
  ok : p.ph.ok wn
  small : p.d.small
  tidy : p.tidy
  q0 : 0 ≤ p.q
  q1 : p.q ≤ k

set_option maxRecDepth 100000 in
set_option maxHeartbeats 12800000 in
theorem Walk.probeSteps {w : World} (cs : Array Value) (hr : Rd Try.prog w 24 cs.toList) (raw : Bool) (lv : Value) (hlr : Rd Try.prog w 25 [lv]) :
    Calls Try.prog 3 #[.agg cs, .bool raw, lv] w fun r w' => r = .returned (.bool true) ∧ Below w.heap.size w w' := by
  obtain ⟨win, rfl, hwf⟩ := win_rd hr
  obtain ⟨l, hl, hnx⟩ := ocsx_rd hlr
  obtain ⟨la, lc, rfl, -⟩ := id hl
  obtain ⟨W0, hW0⟩ : ∃ W, w.alloc (.cells (#[.int .i64 (win 0).1, .int .i64 (win 0).2, .int .i64 (win 1).1, .int .i64 (win 1).2, .int .i64 (win 2).1, .int .i64 (win 2).2, .int .i64 (win 3).1, .int .i64 (win 3).2]) 24) = W := ⟨_, rfl⟩
  have hb0 : Below w.heap.size w W0 := by rw [← hW0]; exact bal' w _
  have p0 : WgI W0 w.heap.size win := by rw [← hW0]; exact hpNew w _
  have HAW : Hid (∀ X, Calls Try.prog 7 #[] X (BoolPost X true)) := fun X => awake26_any X
  obtain ⟨V, hV⟩ : ∃ V, smallOcs l 100 = V := ⟨_, rfl⟩
  have HMO : Hid (Calls Try.prog 6 #[.slice la l.length lc, .int .i64 100] W0 (BoolPost W0 V)) := mocs_any _ l 100 W0 (hl.keep hb0) V hV
  have HW0 := hid hW0
  have HB0 := hid hb0
  have HL := hid hl
  have P0 := hid p0
  clear hr hlr hW0 hb0 hl p0
  show Calls _ _ #[.agg (#[.int .i64 (win 0).1, .int .i64 (win 0).2, .int .i64 (win 1).1, .int .i64 (win 1).2, .int .i64 (win 2).1, .int .i64 (win 2).2, .int .i64 (win 3).1, .int .i64 (win 3).2]), _, _] w _
  obtain ⟨ln, hln⟩ : ∃ n, l.length = n := ⟨_, rfl⟩
  have HLM : Hid (V = true → ln ≤ 100) := fun h => by
    rw [h] at hV
    simp only [smallOcs, Bool.and_eq_true, decide_eq_true_eq] at hV
    have := hV.2
    omega
  rw [hln] at HMO HL ⊢
  have HLN := hid hln
  clear hln
  cases V with
  | false =>
    clear hV hnx hwf
    go_enter Try.func3, Try.ntmps3
    go_upto_region 1 with (fail)
    rw [HW0.out]
    go_wp2_with (first
      | (go_at_call 6; (with_reducible refine HMO.out.mono ?_); rintro r w1 ⟨rfl, hb1⟩)
      | (go_at_call 7; (with_reducible refine (HAW.out _).mono ?_); rintro r w2 ⟨rfl, hb2⟩))
    go_ret
    exact ⟨rfl, bt (bt HB0.out hb1 (Nat.le_refl _)) hb2 (Nat.le_refl _)⟩
  | true =>
    have HFT : Hid (∀ (i : Nat) (x : Oc), l[i]? = some x → x.fit) := fun i x h => small_fit hV hnx h
    have HWD : Hid (∀ X, Calls Try.prog 8 #[.agg (#[.int .i64 (win 0).1, .int .i64 (win 0).2, .int .i64 (win 1).1, .int .i64 (win 1).2, .int .i64 (win 2).1, .int .i64 (win 2).2, .int .i64 (win 3).1, .int .i64 (win 3).2])] X (WdPost X)) := fun X => windows_any win hwf X
    have HM100 := hid (HLM.out rfl)
    clear hV hnx hwf HLM
    obtain ⟨R, hR⟩ : ∃ R, (!raw) = R := ⟨_, rfl⟩
    go_enter Try.func3, Try.ntmps3
    go_upto_region 1 with (fail)
    rw [HW0.out]
    go_upto_region 3 with (go_at_call 6; (with_reducible refine HMO.out.mono ?_); rintro r w1 ⟨rfl, hb1⟩)
    have P1 := hid (hpKeep P0.out hb1)
    have HB1 := hid (bt HB0.out hb1 (Nat.le_refl _))
    clear P0 HB0 HMO HW0 hb1
    go_upto_if 21 with (fail)
    clear hR
    go_cut [] from 20 to 23 (fun wc => Hid (∃ wn, WgI wc w.heap.size wn ∧ Below w.heap.size w wc))
    case first =>
      cases R with
      | false =>
        go_wp2
        go_meet
        case rel => exact ⟨win, P1.out, HB1.out⟩
      | true =>
        go_wp2_with (first
          | (refine wpList_load_row rfl 24 (.tmp 3) rfl w.heap.size rfl 24 (#[.int .i64 (win 0).1, .int .i64 (win 0).2, .int .i64 (win 1).1, .int .i64 (win 1).2, .int .i64 (win 2).1, .int .i64 (win 2).2, .int .i64 (win 3).1, .int .i64 (win 3).2]) (0, 0) _ P1.out Try.underlying24 rfl infoW ?_)
          | (go_at_call 8; (with_reducible refine (HWD.out _).mono ?_); rintro r w2 ⟨wn, rfl, hw12, hb2⟩; have P2 := hid (hpKeep P1.out hb2))
          | (refine wpList_storeW rfl 24 (.tmp 3) (.tmp 23) rfl w.heap.size 0 _ 24 (WgC wn) rfl rfl P2.out (by simp [WgC]) infoW rfl ?_; intro w3 g3 hk3 hz3))
        go_meet
        case rel =>
          have hB2 : Below w.heap.size w w2 := bt HB1.out hb2 (Nat.le_refl _)
          exact ⟨wn, g3, hB2.trans (hk3.below hB2.size (fun j hj e => by omega))⟩
    case rest =>
      obtain ⟨w3, hw3⟩ : ∃ W, W = wc := ⟨_, rfl⟩
      subst hw3
      obtain ⟨wn, g3, hB3⟩ := hcut.out
      have HB3 := hid hB3
      have y0 : ∀ X, Below w3.heap.size w3 X → X.cell? ⟨w.heap.size, 0, none⟩ = some (.int .i64 (wn 0).1) := fun X h => hpCell (hpKeep g3 h) 0
      have y1 : ∀ X, Below w3.heap.size w3 X → X.cell? ⟨w.heap.size, 1, none⟩ = some (.int .i64 (wn 0).2) := fun X h => hpCell (hpKeep g3 h) 1
      have y2 : ∀ X, Below w3.heap.size w3 X → X.cell? ⟨w.heap.size, 2, none⟩ = some (.int .i64 (wn 1).1) := fun X h => hpCell (hpKeep g3 h) 2
      have y3 : ∀ X, Below w3.heap.size w3 X → X.cell? ⟨w.heap.size, 3, none⟩ = some (.int .i64 (wn 1).2) := fun X h => hpCell (hpKeep g3 h) 3
      have y4 : ∀ X, Below w3.heap.size w3 X → X.cell? ⟨w.heap.size, 4, none⟩ = some (.int .i64 (wn 2).1) := fun X h => hpCell (hpKeep g3 h) 4
      have y5 : ∀ X, Below w3.heap.size w3 X → X.cell? ⟨w.heap.size, 5, none⟩ = some (.int .i64 (wn 2).2) := fun X h => hpCell (hpKeep g3 h) 5
      have y6 : ∀ X, Below w3.heap.size w3 X → X.cell? ⟨w.heap.size, 6, none⟩ = some (.int .i64 (wn 3).1) := fun X h => hpCell (hpKeep g3 h) 6
      have y7 : ∀ X, Below w3.heap.size w3 X → X.cell? ⟨w.heap.size, 7, none⟩ = some (.int .i64 (wn 3).2) := fun X h => hpCell (hpKeep g3 h) 7
      have kD : Below w3.heap.size w3 w3.drew := (Below.refl _ _).drew
      clear g3 hB3 P1 HWD HB1 hcut
      by_cases hwo : WinOk wn
      · have HWO := hid hwo
        have HNA : Hid (∀ X, Calls Try.prog 9 #[.agg (#[.int .i64 (wn 0).1, .int .i64 (wn 0).2, .int .i64 (wn 1).1, .int .i64 (wn 1).2, .int .i64 (wn 2).1, .int .i64 (wn 2).2, .int .i64 (wn 3).1, .int .i64 (wn 3).2])] X fun r w' => ∃ g : Nat, r = .returned (.pointer (some ⟨g, 0, none⟩)) ∧ X.heap.size ≤ g ∧ PbAt (Grw (fun _ => False) X w') w' g wn ⟨.test, Dv.zero, 0⟩ ∧ Below X.heap.size X w') := fun X => pnew_ok wn hwo X
        have HNB : Hid (∀ X, Below w3.heap.size w3 X → Calls Try.prog 10 #[.agg (#[.int .i64 (wn 0).1, .int .i64 (wn 0).2, .int .i64 (wn 1).1, .int .i64 (wn 1).2, .int .i64 (wn 2).1, .int .i64 (wn 2).2, .int .i64 (wn 3).1, .int .i64 (wn 3).2])] X fun r w' => ∃ g : Nat, r = .returned (.pointer (some ⟨g, 0, none⟩)) ∧ X.heap.size ≤ g ∧ RqAt (fun j => j < w.heap.size ∨ (X.heap.size ≤ j ∧ j < w'.heap.size)) w w' g wn ⟨.test, Dv.zero, 0⟩ ∧ Below X.heap.size X w') := fun X hX => rpnew_ok wn hwo w X (bt HB3.out hX (Nat.le_refl _))
        clear hwo
        go_upto_region 5 with (fail)
        go_cut [7, 8] from 24 to 27 (fun s7 s8 wc => ∃ ga gb, s7 = .pointer (some ⟨ga, 0, none⟩) ∧ s8 = .pointer (some ⟨gb, 0, none⟩) ∧ Hid (∃ A R, PsRel w ga gb wn A R ⟨.test, Dv.zero, 0⟩ ⟨.test, Dv.zero, 0⟩ wc))
        case first =>
          refine wp_region_held_drew (S := fun V => Below w3.heap.size w3 V) (by kernel_rfl) kD (fun hH => ?_)
          refine tkD 0 24 (v := ?_) rfl (by kernel_rfl) (fun _ _ _ h => h) rfl (by rfl) (by assumption) ?_ ?_; rotate_left; (intro w hSw; (try dsimp only at hSw); go_simp; try (with_reducible rfl)); simp only [List.setIfInBounds_toArray, List.set_cons_zero, List.set_cons_succ]
          refine tkD 2 26 (v := ?_) rfl (by kernel_rfl) (fun _ _ _ h => h) rfl (by rfl) (by assumption) ?_ ?_; rotate_left; (intro w hSw; (try dsimp only at hSw); go_simp; try (with_reducible rfl)); simp only [List.setIfInBounds_toArray, List.set_cons_zero, List.set_cons_succ]
          clear hH
          refine wpAnyH_ready (rs := [1]) (by kernel_rfl) (by simp) ?_; refine AllReadyH.cons rfl (fun K hK => ?_) AllReadyH.nil; go_simp
          refine (HNA.out _).mono ?_
          rintro r w4 ⟨ga, rfl, hga, hpa, hb4⟩
          have hB4 := bt kD hb4 (Nat.le_refl _)
          refine hK.out _ _ hB4 (fun hSx => ?_); clear hK K hSx
          refine wpAnyH_ready (rs := [3]) (by kernel_rfl) (by simp) ?_; refine AllReadyH.cons rfl (fun K hK => ?_) AllReadyH.nil; go_simp
          refine (HNB.out _ hB4).mono ?_
          rintro r w5 ⟨gb, rfl, hgb, hpb, hb5⟩
          have hB5 := bt hB4 hb5 (Nat.le_refl _)
          refine hK.out _ _ hB5 (fun hSx => ?_); clear hK K hSx
          refine tkD 4 7 (v := ?_) rfl (by kernel_rfl) (fun _ _ _ h => h) rfl (by rfl) (by assumption) ?_ ?_; rotate_left; (intro w hSw; (try dsimp only at hSw); go_simp; try (with_reducible rfl)); simp only [List.setIfInBounds_toArray, List.set_cons_zero, List.set_cons_succ]
          refine tkD 5 8 (v := ?_) rfl (by kernel_rfl) (fun _ _ _ h => h) rfl (by rfl) (by assumption) ?_ ?_; rotate_left; (intro w hSw; (try dsimp only at hSw); go_simp; try (with_reducible rfl)); simp only [List.setIfInBounds_toArray, List.set_cons_zero, List.set_cons_succ]
          refine wpAnyH_done (by kernel_rfl) ?_ _
          clear y0 y1 y2 y3 y4 y5 y6 y7
          go_wp2
          go_meet
          case rel =>
            have h3 : w.heap.size ≤ w3.drew.heap.size := HB3.out.size
            have h4 := hB4.size
            have h5 := hb5.size
            refine ⟨ga, gb, rfl, rfl, Grw (fun _ => False) w3.drew w4, _, hpa.keep (F := fun _ => False) (Keeps.of_below hb5) (fun _ _ e => e.elim), hpb, fun j hj => ?_, fun j hj => ?_, fun j hj e => ?_, bt HB3.out hB5 (Nat.le_refl _)⟩
            · rcases hj with hj | hj
              · exact hj.elim
              · omega
            · have h34 : w3.heap.size ≤ w4.heap.size := h4
              have h03 : w.heap.size ≤ w3.heap.size := h3
              rcases hj with hj | hj <;> omega
            · rcases hj with hj | hj
              · exact hj.elim
              · rcases e with e | e <;> omega
        case rest =>
          obtain ⟨ga, gb, rfl, rfl, hst⟩ := hcut
          clear y0 y1 y2 y3 y4 y5 y6 y7 kD HNA HNB
          have HST := hid hst.out
          clear hst
          go_wp2_with fail
          go_loopw [9] (fun iv wr => ∃ (k : Nat) (pb : Pb), iv = .int .i64 (k : Int) ∧ k ≤ ln + 1 ∧ Hid (PsGd wn pb k) ∧ Hid (∃ A R, PsRel w ga gb wn A R pb pb wr)) (fun iv _ => ln + 1 - (intOf iv).toNat)
          case atStart => exact ⟨0, ⟨.test, Dv.zero, 0⟩, rfl, Nat.zero_le _, ⟨trivial, Dv.zero_small, fun _ _ => rfl, Int.le_refl _, Int.le_refl _⟩, HST.out⟩
          case round =>
            clear HST
            obtain ⟨k, pb, rfl, hk, hgd, hrl⟩ := hrel
            obtain ⟨A, RR, hrr⟩ := hrl.out
            have HR := hid hrr
            clear hrr hrl
            have hk100 := HM100.out
            have hki : (0 : Int) ≤ (k : Int) := Int.natCast_nonneg _
            by_cases hlt : k ≤ ln
            · obtain ⟨rq, hrq⟩ : ∃ q, pb.ph.ask = q := ⟨_, rfl⟩
              obtain ⟨V, hV⟩ : ∃ b, pb.ph.isDone = b := ⟨_, rfl⟩
              obtain ⟨D, hD⟩ : ∃ D, (!pb.ph.isDone) = D := ⟨_, rfl⟩
              have HDV : Hid ((V = true ∧ D = false) ∨ (V = false ∧ D = true)) := by
                show _ ∨ _
                rw [← hD, hV]
                cases V <;> simp
              obtain ⟨dd, hdd⟩ : ∃ d, (if pb.ph.isDone then pb.d else Dv.zero) = d := ⟨_, rfl⟩
              have hsm : dd.small := by
                rw [← hdd]
                split
                · exact hgd.out.small
                · exact Dv.zero_small
              have HNA : Hid (Calls Try.prog 11 #[.pointer (some ⟨ga, 0, none⟩)] wr (AskPost wr rq D)) := pnext_any HR.out.a hgd.out.ok rq D hrq hD
              have HNB : Hid (∀ X, Below wr.heap.size wr X → Calls Try.prog 12 #[.pointer (some ⟨gb, 0, none⟩)] X (AskPost X rq D)) := fun X hX => rpnext_any (HR.out.keep hX).b hgd.out.ok rq D hrq hD
              have HRA := hid (fun X (hX : Below wr.heap.size wr X) => presult_any (HR.out.keep hX).a hgd.out.small dd V hV hdd.symm)
              have HQR : Hid (∀ X, Below wr.heap.size wr X → Calls Try.prog 14 #[.pointer (some ⟨ga, 0, none⟩)] X (IntPost X pb.q)) := fun X hX => pqueries_any (HR.out.keep hX).a pb.q rfl
              have HSM := hid hsm
              have HDD : Hid ((V = true → dd = pb.d) ∧ (V = false → dd = Dv.zero)) := ⟨fun e => by rw [← hdd, hV, e]; rfl, fun e => by rw [← hdd, hV, e]; rfl⟩
              have HVD := hid hV
              have hkl : (k : Int) ≤ (ln : Int) := by omega
              clear hrq hD hV hdd hsm
              go_upto_region 15 with (first
                | (go_at_call 11; (with_reducible refine HNA.out.mono ?_); rintro r x5 ⟨rfl, hb5⟩)
                | (go_at_call 12; (with_reducible refine (HNB.out _ (bta hb5 (Nat.le_refl _) _)).mono ?_); rintro r x6 ⟨rfl, hb6⟩))
              obtain ⟨W7, hW7⟩ : ∃ W, x6.alloc (.cells #[.int .i64 rq.fn, .int .i64 rq.addr, .int .i64 rq.qty, .int .i64 rq.code, .int .i64 rq.obj] 34) = W := ⟨_, rfl⟩
              have hb7 : Below wr.heap.size wr W7 := by rw [← hW7]; exact bta (bt (bta hb5 (Nat.le_refl _) _) hb6 (Nat.le_refl _)) (Nat.le_refl _) _
              have pA : W7.heap[x5.heap.size]? = some (.cells #[.int .i64 rq.fn, .int .i64 rq.addr, .int .i64 rq.qty, .int .i64 rq.code, .int .i64 rq.obj] 34) := by rw [← hW7]; exact hpKeep (hpKeep (hpNew x5 _) hb6) (bal' _ _)
              have pB : W7.heap[x6.heap.size]? = some (.cells #[.int .i64 rq.fn, .int .i64 rq.addr, .int .i64 rq.qty, .int .i64 rq.code, .int .i64 rq.obj] 34) := by rw [← hW7]; exact hpNew _ _
              rw [hW7]
              have HB7 := hid hb7
              clear hW7 hb5 hb6 HNA HNB hb7
              generalize x5.heap.size = qa at *
              generalize x6.heap.size = qb at *
              go_upto_region 16 with (first
                | (go_at_call 13; (with_reducible refine (HRA.out _ HB7.out).mono ?_); rintro r x8 ⟨ov, sv, mv, rfl, hr8, hc8⟩; have h14 := DvC_one (hr8 x8 (Agree.refl _ _)); have HR8 := hid hr8; clear hr8)
                | (refine wpList_storeW rfl 44 (.tmp 14) (.tmp 56) rfl x8.heap.size 0 _ 44 (DvC dd ov sv mv) rfl rfl (hpNew x8 (.cells #[.int .i64 0, .int .i64 0, .int .i64 0, .int .i64 0, .int .i64 0, .slice none 0 0, .int .i64 0, .slice none 0 0, .int .i64 0, .int .i64 0, .slice none 0 0, .int .i64 0, .int .i64 0, .slice none 0 0, .int .i64 0, .int .i64 0, .slice none 0 0, .int .i64 0, .int .i64 0, .slice none 0 0, .string ⟨#[]⟩] 44)) (by simp [DvC]) info21 h14 ?_; intro x9 g9 hk9 hz9))
              have g9' : x9.heap[x8.heap.size]? = some (.cells (DvC dd ov sv mv) 44) := g9
              have hb89 : Below x8.heap.size x8 x9 := (bal' x8 (.cells #[.int .i64 0, .int .i64 0, .int .i64 0, .int .i64 0, .int .i64 0, .slice none 0 0, .int .i64 0, .slice none 0 0, .int .i64 0, .int .i64 0, .slice none 0 0, .int .i64 0, .int .i64 0, .slice none 0 0, .int .i64 0, .int .i64 0, .slice none 0 0, .int .i64 0, .int .i64 0, .slice none 0 0, .string ⟨#[]⟩] 44)).trans (hk9.below (by simp) (fun j hj e => by omega))
              have hb79 : Below W7.heap.size W7 x9 := bt hc8 hb89 (Nat.le_refl _)
              have hb9 : Below wr.heap.size wr x9 := bt HB7.out hb79 (Nat.le_refl _)
              have hg9 : DvRd x9 dd ov sv mv := HR8.out x9 ⟨hb89.size, fun j _ hl => by rw [hk9.block j (by simp; omega) (by omega)]; exact (bal' x8 _).block j hl⟩
              have pA9 := hpKeep pA hb79
              have pB9 := hpKeep pB hb79
              have HG9 := hid hg9
              have HP9 := hid g9'
              have HB9 := hid hb9
              clear g9 g9' hk9 hz9 hb89 hg9 hb9 h14 HR8 hc8 HRA pA pB hb79
              generalize x8.heap.size = pd at *
              have a0 : ∀ X, Below x9.heap.size x9 X → X.cell? ⟨qa, 0, none⟩ = some (.int .i64 rq.fn) := fun X h => hpCell (hpKeep pA9 h) 0
              have a1 : ∀ X, Below x9.heap.size x9 X → X.cell? ⟨qa, 1, none⟩ = some (.int .i64 rq.addr) := fun X h => hpCell (hpKeep pA9 h) 1
              have a2 : ∀ X, Below x9.heap.size x9 X → X.cell? ⟨qa, 2, none⟩ = some (.int .i64 rq.qty) := fun X h => hpCell (hpKeep pA9 h) 2
              have a3 : ∀ X, Below x9.heap.size x9 X → X.cell? ⟨qa, 3, none⟩ = some (.int .i64 rq.code) := fun X h => hpCell (hpKeep pA9 h) 3
              have a4 : ∀ X, Below x9.heap.size x9 X → X.cell? ⟨qa, 4, none⟩ = some (.int .i64 rq.obj) := fun X h => hpCell (hpKeep pA9 h) 4
              have n0 : ∀ X, Below x9.heap.size x9 X → X.cell? ⟨qb, 0, none⟩ = some (.int .i64 rq.fn) := fun X h => hpCell (hpKeep pB9 h) 0
              have n1 : ∀ X, Below x9.heap.size x9 X → X.cell? ⟨qb, 1, none⟩ = some (.int .i64 rq.addr) := fun X h => hpCell (hpKeep pB9 h) 1
              have n2 : ∀ X, Below x9.heap.size x9 X → X.cell? ⟨qb, 2, none⟩ = some (.int .i64 rq.qty) := fun X h => hpCell (hpKeep pB9 h) 2
              have n3 : ∀ X, Below x9.heap.size x9 X → X.cell? ⟨qb, 3, none⟩ = some (.int .i64 rq.code) := fun X h => hpCell (hpKeep pB9 h) 3
              have n4 : ∀ X, Below x9.heap.size x9 X → X.cell? ⟨qb, 4, none⟩ = some (.int .i64 rq.obj) := fun X h => hpCell (hpKeep pB9 h) 4
              have n33 : ∀ X, Below x9.heap.size x9 X → X.cell? ⟨gb, 33, none⟩ = some (.int .i64 pb.q) := fun X h => (HR.out.keep (bt HB9.out h (Nat.le_refl _))).b.count
              have kD : Below x9.heap.size x9 x9.drew := (Below.refl _ _).drew
              go_cut [79] from 58 to 79 (fun s79 wc => s79 = .bool false ∧ Below x9.heap.size x9 wc)
              case first =>
                rcases HDV.out with ⟨rfl, rfl⟩ | ⟨rfl, rfl⟩
                all_goals
                  refine wp_region_held_drew (S := fun V => Below x9.heap.size x9 V) (by kernel_rfl) kD (fun hH => ?_)
                  refine tkD 0 58 (v := ?_) rfl (by kernel_rfl) (fun _ _ _ h => h) rfl (by rfl) (by assumption) ?_ ?_; rotate_left; (intro w hSw; (try dsimp only at hSw); go_simp; try (with_reducible rfl)); simp only [List.setIfInBounds_toArray, List.set_cons_zero, List.set_cons_succ]
                  refine tkD 1 59 (v := ?_) rfl (by kernel_rfl) (fun _ _ _ h => h) rfl (by rfl) (by assumption) ?_ ?_; rotate_left; (intro w hSw; (try dsimp only at hSw); go_simp; try (with_reducible rfl)); simp only [List.setIfInBounds_toArray, List.set_cons_zero, List.set_cons_succ]
                  refine tkD 2 60 (v := ?_) rfl (by kernel_rfl) (fun _ _ _ h => h) rfl (by rfl) (by assumption) ?_ ?_; rotate_left; (intro w hSw; (try dsimp only at hSw); go_simp; try (with_reducible rfl)); simp only [List.setIfInBounds_toArray, List.set_cons_zero, List.set_cons_succ]
                  refine tkD 3 61 (v := ?_) rfl (by kernel_rfl) (fun _ _ _ h => h) rfl (by rfl) (by assumption) ?_ ?_; rotate_left; (intro w hSw; (try dsimp only at hSw); go_simp; try (with_reducible rfl)); simp only [List.setIfInBounds_toArray, List.set_cons_zero, List.set_cons_succ]
                  refine tkD 4 62 (v := ?_) rfl (by kernel_rfl) (fun _ _ _ h => h) rfl (by rfl) (by assumption) ?_ ?_; rotate_left; (intro w hSw; (try dsimp only at hSw); go_simp; try (with_reducible rfl)); simp only [List.setIfInBounds_toArray, List.set_cons_zero, List.set_cons_succ]
                  refine tkD 5 63 (v := ?_) rfl (by kernel_rfl) (fun _ _ _ h => h) rfl (by rfl) (by assumption) ?_ ?_; rotate_left; (intro w hSw; (try dsimp only at hSw); go_simp; try (with_reducible rfl)); simp only [List.setIfInBounds_toArray, List.set_cons_zero, List.set_cons_succ]
                  refine tkD 6 64 (v := ?_) rfl (by kernel_rfl) (fun _ _ _ h => h) rfl (by rfl) (by assumption) ?_ ?_; rotate_left; (intro w hSw; (try dsimp only at hSw); go_simp; try (with_reducible rfl)); simp only [List.setIfInBounds_toArray, List.set_cons_zero, List.set_cons_succ]
                  refine tkD 7 65 (v := ?_) rfl (by kernel_rfl) (fun _ _ _ h => h) rfl (by rfl) (by assumption) ?_ ?_; rotate_left; (intro w hSw; (try dsimp only at hSw); go_simp; try (with_reducible rfl)); simp only [List.setIfInBounds_toArray, List.set_cons_zero, List.set_cons_succ]
                  refine tkD 8 66 (v := ?_) rfl (by kernel_rfl) (fun _ _ _ h => h) rfl (by rfl) (by assumption) ?_ ?_; rotate_left; (intro w hSw; (try dsimp only at hSw); go_simp; try (with_reducible rfl)); simp only [List.setIfInBounds_toArray, List.set_cons_zero, List.set_cons_succ]
                  refine tkD 9 67 (v := ?_) rfl (by kernel_rfl) (fun _ _ _ h => h) rfl (by rfl) (by assumption) ?_ ?_; rotate_left; (intro w hSw; (try dsimp only at hSw); go_simp; try (with_reducible rfl)); simp only [List.setIfInBounds_toArray, List.set_cons_zero, List.set_cons_succ]
                  refine tkD 10 68 (v := ?_) rfl (by kernel_rfl) (fun _ _ _ h => h) rfl (by rfl) (by assumption) ?_ ?_; rotate_left; (intro w hSw; (try dsimp only at hSw); go_simp; try (with_reducible rfl)); simp only [List.setIfInBounds_toArray, List.set_cons_zero, List.set_cons_succ]
                  refine tkD 11 69 (v := ?_) rfl (by kernel_rfl) (fun _ _ _ h => h) rfl (by rfl) (by assumption) ?_ ?_; rotate_left; (intro w hSw; (try dsimp only at hSw); go_simp; try (with_reducible rfl)); simp only [List.setIfInBounds_toArray, List.set_cons_zero, List.set_cons_succ]
                  refine tkD 12 70 (v := ?_) rfl (by kernel_rfl) (fun _ _ _ h => h) rfl (by rfl) (by assumption) ?_ ?_; rotate_left; (intro w hSw; (try dsimp only at hSw); go_simp; try (with_reducible rfl)); simp only [List.setIfInBounds_toArray, List.set_cons_zero, List.set_cons_succ]
                  refine tkD 13 71 (v := ?_) rfl (by kernel_rfl) (fun _ _ _ h => h) rfl (by rfl) (by assumption) ?_ ?_; rotate_left; (intro w hSw; (try dsimp only at hSw); go_simp; try (with_reducible rfl)); simp only [List.setIfInBounds_toArray, List.set_cons_zero, List.set_cons_succ]
                  refine tkD 14 72 (v := ?_) rfl (by kernel_rfl) (fun _ _ _ h => h) rfl (by rfl) (by assumption) ?_ ?_; rotate_left; (intro w hSw; (try dsimp only at hSw); go_simp; try (with_reducible rfl)); simp only [List.setIfInBounds_toArray, List.set_cons_zero, List.set_cons_succ]
                  refine tkD 16 74 (v := ?_) rfl (by kernel_rfl) (fun _ _ _ h => h) rfl (by rfl) (by assumption) ?_ ?_; rotate_left; (intro w hSw; (try dsimp only at hSw); go_simp; try (with_reducible rfl)); simp only [List.setIfInBounds_toArray, List.set_cons_zero, List.set_cons_succ]
                  refine tkD 17 75 (v := ?_) rfl (by kernel_rfl) (fun _ _ _ h => h) rfl (by rfl) (by assumption) ?_ ?_; rotate_left; (intro w hSw; (try dsimp only at hSw); go_simp; try (with_reducible rfl)); simp only [List.setIfInBounds_toArray, List.set_cons_zero, List.set_cons_succ]
                  refine tkD 18 76 (v := ?_) rfl (by kernel_rfl) (fun _ _ _ h => h) rfl (by rfl) (by assumption) ?_ ?_; rotate_left; (intro w hSw; (try dsimp only at hSw); go_simp; try (with_reducible rfl)); simp only [List.setIfInBounds_toArray, List.set_cons_zero, List.set_cons_succ]
                  refine tkD 19 77 (v := ?_) rfl (by kernel_rfl) (fun _ _ _ h => h) rfl (by rfl) (by assumption) ?_ ?_; rotate_left; (intro w hSw; (try dsimp only at hSw); go_simp; try (with_reducible rfl)); simp only [List.setIfInBounds_toArray, List.set_cons_zero, List.set_cons_succ]
                  clear hH
                  refine wpAnyH_ready (rs := [15]) (by kernel_rfl) (by simp) ?_; refine AllReadyH.cons rfl (fun K hK => ?_) AllReadyH.nil; go_simp
                  refine (HQR.out _ (bt HB9.out kD (Nat.le_refl _))).mono ?_
                  rintro r x10 ⟨rfl, hb10⟩
                  have hB10 := bt kD hb10 (Nat.le_refl _)
                  refine hK.out _ _ hB10 (fun hSx => ?_); clear hK K hSx
                  refine tkD 20 78 (v := ?_) rfl (by kernel_rfl) (fun _ _ _ h => h) rfl (by rfl) (by assumption) ?_ ?_; rotate_left; (intro w hSw; (try dsimp only at hSw); go_simp; try (with_reducible rfl)); simp only [List.setIfInBounds_toArray, List.set_cons_zero, List.set_cons_succ]
                  refine tkD 21 79 (v := ?_) rfl (by kernel_rfl) (fun _ _ _ h => h) rfl (by rfl) (by assumption) ?_ ?_; rotate_left; (intro w hSw; (try dsimp only at hSw); go_simp; try (with_reducible rfl)); simp only [List.setIfInBounds_toArray, List.set_cons_zero, List.set_cons_succ]
                  refine wpAnyH_done (by kernel_rfl) ?_ _
                  clear a0 a1 a2 a3 a4 n0 n1 n2 n3 n4 n33
                  go_wp2
                  go_meet
                  case rel => exact ⟨rfl, hB10⟩
              case rest =>
                obtain ⟨W10, hW10⟩ : ∃ W, W = wc := ⟨_, rfl⟩
                subst hW10
                obtain ⟨rfl, hb10⟩ := hcut
                clear a0 a1 a2 a3 a4 n0 n1 n2 n3 n4 n33 kD pA9 pB9 HQR
                have HB10 : Hid (Below wr.heap.size wr W10) := bt HB9.out hb10 (Nat.le_refl _)
                have HP10 := hid (hpKeep HP9.out hb10)
                have HG10 : Hid (DvRd W10 dd ov sv mv) := ⟨HG9.out.1.keep hb10, HG9.out.2.1.keep hb10, fun k hk => (HG9.out.2.2 k hk).keep hb10⟩
                clear hb10 HP9 HG9 HB9
                go_upto_region 18 with (fail)
                have hi1 : (Try.prog.info? 44).map (·.size) = some (DvC dd ov sv mv).size := info21
                have HGA := hid (fun X (hX : Below W10.heap.size W10 X) => row_cells (hpKeep HP10.out hX))
                have kD : Below W10.heap.size W10 W10.drew := (Below.refl _ _).drew
                go_cut [99] from 80 to 99 (fun s99 wd => s99 = .bool false ∧ Below W10.heap.size W10 wd)
                case first =>
                  rcases HDV.out with ⟨rfl, rfl⟩ | ⟨rfl, rfl⟩
                  · obtain rfl := HDD.out.1 rfl
                    obtain ⟨ov2, sv2, mv2, hcl2, hrd2⟩ := (HR.out.keep HB10.out).b.dev
                    have HSD : Hid (∀ X, Below W10.heap.size W10 X → Calls Try.prog 15 #[.agg (DvC pb.d ov sv mv), .agg (DvC pb.d ov2 sv2 mv2)] X (BoolPost X true)) := fun X hX =>
                      samedev_eq pb.d HSM.out ov sv mv ov2 sv2 mv2 X ⟨HG10.out.1.keep hX, HG10.out.2.1.keep hX, fun k hk => (HG10.out.2.2 k hk).keep hX⟩ ⟨hrd2.1.keep hX, hrd2.2.1.keep hX, fun k hk => (hrd2.2.2 k hk).keep hX⟩
                    have hi2 : (Try.prog.info? 44).map (·.size) = some (DvC pb.d ov2 sv2 mv2).size := info21
                    have HGB : Hid (∀ X, Below W10.heap.size W10 X → ∀ j v, (DvC pb.d ov2 sv2 mv2).toList[j]? = some v → X.cell? ((⟨gb, 12, none⟩ : Addr).add j) = some v) := fun X hX j v hj => by rw [add_at]; exact hcl2 X hX j v hj
                    clear hcl2 hrd2
                    generalize DvC pb.d ov sv mv = C1 at *
                    generalize DvC pb.d ov2 sv2 mv2 = C2 at *
                    refine wp_region_held_drew (S := fun V => Below W10.heap.size W10 V) (by kernel_rfl) kD (fun hH => ?_)
                    refine tkD 0 80 (v := ?_) rfl (by kernel_rfl) (fun _ _ _ h => h) rfl (by rfl) (by assumption) ?_ ?_; rotate_left; (intro w hSw; (try dsimp only at hSw); go_simp; try (with_reducible rfl)); simp only [List.setIfInBounds_toArray, List.set_cons_zero, List.set_cons_succ]
                    refine tkD 1 81 (v := ?_) rfl (by kernel_rfl) (fun _ _ _ h => h) rfl (by rfl) (by assumption) ?_ ?_; rotate_left; (intro w hSw; (try dsimp only at hSw); go_simp; try (with_reducible rfl)); simp only [List.setIfInBounds_toArray, List.set_cons_zero, List.set_cons_succ]
                    refine tkD 2 82 (v := .agg C1) rfl (by kernel_rfl) (fun _ _ _ h => h) rfl (by rfl) (by assumption) (fun X hX => run_load_rowE 44 (.tmp 14) rfl ⟨pd, 0, none⟩ rfl C1 _ (HGA.out X hX) Try.underlying44 rfl hi1) ?_; simp only [List.setIfInBounds_toArray, List.set_cons_zero, List.set_cons_succ]
                    refine tkD 3 83 (v := ?_) rfl (by kernel_rfl) (fun _ _ _ h => h) rfl (by rfl) (by assumption) ?_ ?_; rotate_left; (intro w hSw; (try dsimp only at hSw); go_simp; try (with_reducible rfl)); simp only [List.setIfInBounds_toArray, List.set_cons_zero, List.set_cons_succ]
                    refine tkD 4 84 (v := ?_) rfl (by kernel_rfl) (fun _ _ _ h => h) rfl (by rfl) (by assumption) ?_ ?_; rotate_left; (intro w hSw; (try dsimp only at hSw); go_simp; try (with_reducible rfl)); simp only [List.setIfInBounds_toArray, List.set_cons_zero, List.set_cons_succ]
                    refine tkD 5 85 (v := ?_) rfl (by kernel_rfl) (fun _ _ _ h => h) rfl (by rfl) (by assumption) ?_ ?_; rotate_left; (intro w hSw; (try dsimp only at hSw); go_simp; try (with_reducible rfl)); simp only [List.setIfInBounds_toArray, List.set_cons_zero, List.set_cons_succ]
                    refine tkD 6 86 (v := .agg C2) rfl (by kernel_rfl) (fun _ _ _ h => h) rfl (by rfl) (by assumption) (fun X hX => run_load_rowE 44 (.tmp 85) rfl ⟨gb, 12, none⟩ rfl C2 _ (HGB.out X hX) Try.underlying44 rfl hi2) ?_; simp only [List.setIfInBounds_toArray, List.set_cons_zero, List.set_cons_succ]
                    clear hH
                    refine wpAnyH_ready (rs := [7]) (by kernel_rfl) (by simp) ?_; refine AllReadyH.cons rfl (fun K hK => ?_) AllReadyH.nil; go_simp
                    refine (HSD.out _ kD).mono ?_
                    rintro r x11 ⟨rfl, hb11⟩
                    have hB11 := bt kD hb11 (Nat.le_refl _)
                    refine hK.out _ _ hB11 (fun hSx => ?_); clear hK K hSx
                    refine tkD 8 88 (v := ?_) rfl (by kernel_rfl) (fun _ _ _ h => h) rfl (by rfl) (by assumption) ?_ ?_; rotate_left; (intro w hSw; (try dsimp only at hSw); go_simp; try (with_reducible rfl)); simp only [List.setIfInBounds_toArray, List.set_cons_zero, List.set_cons_succ]
                    refine tkD 9 89 (v := ?_) rfl (by kernel_rfl) (fun _ _ _ h => h) rfl (by rfl) (by assumption) ?_ ?_; rotate_left; (intro w hSw; (try dsimp only at hSw); go_simp; try (with_reducible rfl)); simp only [List.setIfInBounds_toArray, List.set_cons_zero, List.set_cons_succ]
                    refine tkD 10 90 (v := ?_) rfl (by kernel_rfl) (fun _ _ _ h => h) rfl (by rfl) (by assumption) ?_ ?_; rotate_left; (intro w hSw; (try dsimp only at hSw); go_simp; try (with_reducible rfl)); simp only [List.setIfInBounds_toArray, List.set_cons_zero, List.set_cons_succ]
                    refine tkD 11 91 (v := ?_) rfl (by kernel_rfl) (fun _ _ _ h => h) rfl (by rfl) (by assumption) ?_ ?_; rotate_left; (intro w hSw; (try dsimp only at hSw); go_simp; try (with_reducible rfl)); simp only [List.setIfInBounds_toArray, List.set_cons_zero, List.set_cons_succ]
                    refine tkD 12 92 (v := ?_) rfl (by kernel_rfl) (fun _ _ _ h => h) rfl (by rfl) (by assumption) ?_ ?_; rotate_left; (intro w hSw; (try dsimp only at hSw); go_simp; try (with_reducible rfl)); simp only [List.setIfInBounds_toArray, List.set_cons_zero, List.set_cons_succ]
                    refine tkD 13 93 (v := ?_) rfl (by kernel_rfl) (fun _ _ _ h => h) rfl (by rfl) (by assumption) ?_ ?_; rotate_left; (intro w hSw; (try dsimp only at hSw); go_simp; try (with_reducible rfl)); simp only [List.setIfInBounds_toArray, List.set_cons_zero, List.set_cons_succ]
                    refine wpAnyH_takeD (i := 14) (d := 94) (v := undef) rfl (by kernel_rfl) (by kernel_rfl) (by kernel_rfl) (fun _ _ _ h => h) rfl (Or.inr ⟨by rfl, rfl⟩) (by assumption) ?_; (simp only [List.setIfInBounds_toArray, List.set_cons_zero, List.set_cons_succ])
                    refine wpAnyH_takeD (i := 15) (d := 95) (v := undef) rfl (by kernel_rfl) (by kernel_rfl) (by kernel_rfl) (fun _ _ _ h => h) rfl (Or.inr ⟨by rfl, rfl⟩) (by assumption) ?_; (simp only [List.setIfInBounds_toArray, List.set_cons_zero, List.set_cons_succ])
                    refine wpAnyH_takeD (i := 16) (d := 96) (v := undef) rfl (by kernel_rfl) (by kernel_rfl) (by kernel_rfl) (fun _ _ _ h => h) rfl (Or.inr ⟨by rfl, rfl⟩) (by assumption) ?_; (simp only [List.setIfInBounds_toArray, List.set_cons_zero, List.set_cons_succ])
                    refine wpAnyH_takeD (i := 17) (d := 97) (v := undef) rfl (by kernel_rfl) (by kernel_rfl) (by kernel_rfl) (fun _ _ _ h => h) rfl (Or.inr ⟨by rfl, rfl⟩) (by assumption) ?_; (simp only [List.setIfInBounds_toArray, List.set_cons_zero, List.set_cons_succ])
                    refine tkD 18 98 (v := ?_) rfl (by kernel_rfl) (fun _ _ _ h => h) rfl (by rfl) (by assumption) ?_ ?_; rotate_left; (intro w hSw; (try dsimp only at hSw); go_simp; try (with_reducible rfl)); simp only [List.setIfInBounds_toArray, List.set_cons_zero, List.set_cons_succ]
                    refine tkD 19 99 (v := ?_) rfl (by kernel_rfl) (fun _ _ _ h => h) rfl (by rfl) (by assumption) ?_ ?_; rotate_left; (intro w hSw; (try dsimp only at hSw); go_simp; try (with_reducible rfl)); simp only [List.setIfInBounds_toArray, List.set_cons_zero, List.set_cons_succ]
                    refine wpAnyH_done (by kernel_rfl) ?_ _
                    go_wp2
                    go_meet
                    case rel => exact ⟨rfl, hB11⟩
                  · obtain rfl := HDD.out.2 rfl
                    have HSD : Hid (∀ X, Below W10.heap.size W10 X → Calls Try.prog 15 #[.agg (DvC Dv.zero ov sv mv), .agg #[.int .i64 0, .int .i64 0, .int .i64 0, .int .i64 0, .int .i64 0, .slice none 0 0, .int .i64 0, .slice none 0 0, .int .i64 0, .int .i64 0, .slice none 0 0, .int .i64 0, .int .i64 0, .slice none 0 0, .int .i64 0, .int .i64 0, .slice none 0 0, .int .i64 0, .int .i64 0, .slice none 0 0, .string ⟨#[]⟩]] X (BoolPost X true)) := fun X hX =>
                      samedev_eq Dv.zero HSM.out ov sv mv (.slice none 0 0) (.slice none 0 0) (fun _ => .slice none 0 0) X ⟨HG10.out.1.keep hX, HG10.out.2.1.keep hX, fun k hk => (HG10.out.2.2 k hk).keep hX⟩ ⟨Obs.nil _, Bs.nil _, fun _ _ => Spn.nil _ _⟩
                    generalize DvC Dv.zero ov sv mv = C1 at *
                    refine wp_region_held_drew (S := fun V => Below W10.heap.size W10 V) (by kernel_rfl) kD (fun hH => ?_)
                    refine tkD 0 80 (v := ?_) rfl (by kernel_rfl) (fun _ _ _ h => h) rfl (by rfl) (by assumption) ?_ ?_; rotate_left; (intro w hSw; (try dsimp only at hSw); go_simp; try (with_reducible rfl)); simp only [List.setIfInBounds_toArray, List.set_cons_zero, List.set_cons_succ]
                    refine tkD 1 81 (v := ?_) rfl (by kernel_rfl) (fun _ _ _ h => h) rfl (by rfl) (by assumption) ?_ ?_; rotate_left; (intro w hSw; (try dsimp only at hSw); go_simp; try (with_reducible rfl)); simp only [List.setIfInBounds_toArray, List.set_cons_zero, List.set_cons_succ]
                    refine wpAnyH_takeD (i := 2) (d := 82) (v := undef) rfl (by kernel_rfl) (by kernel_rfl) (by kernel_rfl) (fun _ _ _ h => h) rfl (Or.inr ⟨by rfl, rfl⟩) (by assumption) ?_; (simp only [List.setIfInBounds_toArray, List.set_cons_zero, List.set_cons_succ])
                    refine wpAnyH_takeD (i := 3) (d := 83) (v := undef) rfl (by kernel_rfl) (by kernel_rfl) (by kernel_rfl) (fun _ _ _ h => h) rfl (Or.inr ⟨by rfl, rfl⟩) (by assumption) ?_; (simp only [List.setIfInBounds_toArray, List.set_cons_zero, List.set_cons_succ])
                    refine wpAnyH_takeD (i := 4) (d := 84) (v := undef) rfl (by kernel_rfl) (by kernel_rfl) (by kernel_rfl) (fun _ _ _ h => h) rfl (Or.inr ⟨by rfl, rfl⟩) (by assumption) ?_; (simp only [List.setIfInBounds_toArray, List.set_cons_zero, List.set_cons_succ])
                    refine wpAnyH_takeD (i := 5) (d := 85) (v := undef) rfl (by kernel_rfl) (by kernel_rfl) (by kernel_rfl) (fun _ _ _ h => h) rfl (Or.inr ⟨by rfl, rfl⟩) (by assumption) ?_; (simp only [List.setIfInBounds_toArray, List.set_cons_zero, List.set_cons_succ])
                    refine wpAnyH_takeD (i := 6) (d := 86) (v := undef) rfl (by kernel_rfl) (by kernel_rfl) (by kernel_rfl) (fun _ _ _ h => h) rfl (Or.inr ⟨by rfl, rfl⟩) (by assumption) ?_; (simp only [List.setIfInBounds_toArray, List.set_cons_zero, List.set_cons_succ])
                    refine wpAnyH_takeD (i := 7) (d := 87) (v := undef) rfl (by kernel_rfl) (by kernel_rfl) (by kernel_rfl) (fun _ _ _ h => h) rfl (Or.inr ⟨by rfl, rfl⟩) (by assumption) ?_; (simp only [List.setIfInBounds_toArray, List.set_cons_zero, List.set_cons_succ])
                    refine wpAnyH_takeD (i := 8) (d := 88) (v := undef) rfl (by kernel_rfl) (by kernel_rfl) (by kernel_rfl) (fun _ _ _ h => h) rfl (Or.inr ⟨by rfl, rfl⟩) (by assumption) ?_; (simp only [List.setIfInBounds_toArray, List.set_cons_zero, List.set_cons_succ])
                    refine tkD 9 89 (v := ?_) rfl (by kernel_rfl) (fun _ _ _ h => h) rfl (by rfl) (by assumption) ?_ ?_; rotate_left; (intro w hSw; (try dsimp only at hSw); go_simp; try (with_reducible rfl)); simp only [List.setIfInBounds_toArray, List.set_cons_zero, List.set_cons_succ]
                    refine tkD 10 90 (v := ?_) rfl (by kernel_rfl) (fun _ _ _ h => h) rfl (by rfl) (by assumption) ?_ ?_; rotate_left; (intro w hSw; (try dsimp only at hSw); go_simp; try (with_reducible rfl)); simp only [List.setIfInBounds_toArray, List.set_cons_zero, List.set_cons_succ]
                    refine tkD 11 91 (v := ?_) rfl (by kernel_rfl) (fun _ _ _ h => h) rfl (by rfl) (by assumption) ?_ ?_; rotate_left; (intro w hSw; (try dsimp only at hSw); go_simp; try (with_reducible rfl)); simp only [List.setIfInBounds_toArray, List.set_cons_zero, List.set_cons_succ]
                    refine tkD 12 92 (v := ?_) rfl (by kernel_rfl) (fun _ _ _ h => h) rfl (by rfl) (by assumption) ?_ ?_; rotate_left; (intro w hSw; (try dsimp only at hSw); go_simp; try (with_reducible rfl)); simp only [List.setIfInBounds_toArray, List.set_cons_zero, List.set_cons_succ]
                    refine tkD 13 93 (v := ?_) rfl (by kernel_rfl) (fun _ _ _ h => h) rfl (by rfl) (by assumption) ?_ ?_; rotate_left; (intro w hSw; (try dsimp only at hSw); go_simp; try (with_reducible rfl)); simp only [List.setIfInBounds_toArray, List.set_cons_zero, List.set_cons_succ]
                    refine tkD 14 94 (v := .agg C1) rfl (by kernel_rfl) (fun _ _ _ h => h) rfl (by rfl) (by assumption) (fun X hX => run_load_rowE 44 (.tmp 14) rfl ⟨pd, 0, none⟩ rfl C1 _ (HGA.out X hX) Try.underlying44 rfl hi1) ?_; simp only [List.setIfInBounds_toArray, List.set_cons_zero, List.set_cons_succ]
                    refine tkD 15 95 (v := .agg #[.int .i64 0, .int .i64 0, .int .i64 0, .int .i64 0, .int .i64 0, .slice none 0 0, .int .i64 0, .slice none 0 0, .int .i64 0, .int .i64 0, .slice none 0 0, .int .i64 0, .int .i64 0, .slice none 0 0, .int .i64 0, .int .i64 0, .slice none 0 0, .int .i64 0, .int .i64 0, .slice none 0 0, .string ⟨#[]⟩]) rfl (by kernel_rfl) (fun _ _ _ h => h) rfl (by rfl) (by assumption) (fun X _ => by kernel_rfl) ?_; simp only [List.setIfInBounds_toArray, List.set_cons_zero, List.set_cons_succ]
                    clear hH
                    refine wpAnyH_ready (rs := [16]) (by kernel_rfl) (by simp) ?_; refine AllReadyH.cons rfl (fun K hK => ?_) AllReadyH.nil; go_simp
                    refine (HSD.out _ kD).mono ?_
                    rintro r x11 ⟨rfl, hb11⟩
                    have hB11 := bt kD hb11 (Nat.le_refl _)
                    refine hK.out _ _ hB11 (fun hSx => ?_); clear hK K hSx
                    refine tkD 17 97 (v := ?_) rfl (by kernel_rfl) (fun _ _ _ h => h) rfl (by rfl) (by assumption) ?_ ?_; rotate_left; (intro w hSw; (try dsimp only at hSw); go_simp; try (with_reducible rfl)); simp only [List.setIfInBounds_toArray, List.set_cons_zero, List.set_cons_succ]
                    refine tkD 18 98 (v := ?_) rfl (by kernel_rfl) (fun _ _ _ h => h) rfl (by rfl) (by assumption) ?_ ?_; rotate_left; (intro w hSw; (try dsimp only at hSw); go_simp; try (with_reducible rfl)); simp only [List.setIfInBounds_toArray, List.set_cons_zero, List.set_cons_succ]
                    refine tkD 19 99 (v := ?_) rfl (by kernel_rfl) (fun _ _ _ h => h) rfl (by rfl) (by assumption) ?_ ?_; rotate_left; (intro w hSw; (try dsimp only at hSw); go_simp; try (with_reducible rfl)); simp only [List.setIfInBounds_toArray, List.set_cons_zero, List.set_cons_succ]
                    refine wpAnyH_done (by kernel_rfl) ?_ _
                    go_wp2
                    go_meet
                    case rel => exact ⟨rfl, hB11⟩
                case rest =>
                  obtain ⟨W11, hW11⟩ : ∃ W, W = wc := ⟨_, rfl⟩
                  subst hW11
                  obtain ⟨rfl, hb11⟩ := hcut
                  have HB11 : Hid (Below wr.heap.size wr W11) := bt HB10.out hb11 (Nat.le_refl _)
                  clear hb11 HP10 HG10 HB10 kD HGA hi1 HSM HDD HDV
                  go_upto_region 20 with (fail)
                  go_cut [118] from 100 to 118 (fun s118 wd => s118 = .bool false ∧ Hid (∃ p' : Pb, PsGd wn p' (k + 1) ∧ ∃ A R, PsRel w ga gb wn A R p' p' wd))
                  case first =>
                    by_cases hkn : k < ln
                    · obtain ⟨x, hx⟩ := get_some HLN.out hkn
                      obtain ⟨-, -, -, hel⟩ := HL.out.get
                      obtain ⟨b, o, da, dc, oa, oc, rfl, ⟨y0, y1, y2, y3, y4, y5, y6, y7, y8⟩, hxd, hxo, hxl1, hxl2⟩ := hel k x hx
                      have hfit := HFT.out k x hx
                      have hkl2 : (k : Int) < (ln : Int) := by omega
                      have hrpx : ∀ W', Below w.heap.size w W' → RpIs W' x.reply da dc oa oc := fun W' hW => ⟨hxd.keep hW, hxo.keep hW, hxl1, hxl2⟩
                      have z0 : ∀ X, Below w.heap.size w X → X.cell? _ = some _ := fun X h => cell_keep h y0
                      have z1 : ∀ X, Below w.heap.size w X → X.cell? _ = some _ := fun X h => cell_keep h y1
                      have z2 : ∀ X, Below w.heap.size w X → X.cell? _ = some _ := fun X h => cell_keep h y2
                      have z3 : ∀ X, Below w.heap.size w X → X.cell? _ = some _ := fun X h => cell_keep h y3
                      have z4 : ∀ X, Below w.heap.size w X → X.cell? _ = some _ := fun X h => cell_keep h y4
                      have z5 : ∀ X, Below w.heap.size w X → X.cell? _ = some _ := fun X h => cell_keep h y5
                      have z6 : ∀ X, Below w.heap.size w X → X.cell? _ = some _ := fun X h => cell_keep h y6
                      have z7 : ∀ X, Below w.heap.size w X → X.cell? _ = some _ := fun X h => cell_keep h y7
                      have z8 : ∀ X, Below w.heap.size w X → X.cell? _ = some _ := fun X h => cell_keep h y8
                      obtain ⟨p', hp'⟩ : ∃ p', (if pb.ph.isDone then pb else pb.feed wn x) = p' := ⟨_, rfl⟩
                      obtain ⟨E, hE⟩ : ∃ e : Int, (if pb.ph.isDone then 12 else 0) = e := ⟨_, rfl⟩
                      have HPA : Hid (p' = if pb.ph.isDone then pb else pb.feed wn x) := hp'.symm
                      have HE : Hid (E = if pb.ph.isDone then 12 else 0) := hE.symm
                      have hgn := pfed_good HWO.out hgd.out.ok hgd.out.small hgd.out.q0 hfit HPA.out
                      have HGN : Hid (PsGd wn p' (k + 1)) := by
                        obtain ⟨h1, h2, h3, h4⟩ := hgn
                        refine ⟨h1, h2, ?_, h3, by have := hgd.out.q1; omega⟩
                        rw [HPA.out]
                        split
                        · exact hgd.out.tidy
                        · exact Pb.step_tidy hgd.out.ok hgd.out.tidy x
                      have hr0 := (HR.out.keep HB11.out).keep (Below.refl W11.heap.size W11).drew
                      have HR0 := hid hr0
                      have kD : Below w.heap.size w W11.drew := hr0.bel
                      have HFA := hid (pfed_any HWO.out hr0.a hgd.out.ok hgd.out.q0 (by have := hgd.out.q1; omega) x da dc oa oc (fun W hK => hrpx W (hr0.bel.trans (hK.below hr0.bel.size (fun j hj e => by have := (hr0.la j e).1; omega)))) hfit p' E HPA HE)
                      have HRX := hid (hrpx w (Below.refl _ _))
                      have HFI := hid hfit
                      clear hel hx hxd hxo hxl1 hxl2 hrpx y0 y1 y2 y3 y4 y5 y6 y7 y8 hp' hE hgn hr0 hfit
                      refine wp_region_held_drew (S := fun V => Below w.heap.size w V) (by kernel_rfl) kD (fun hH => ?_)
                      refine tkD 0 100 (v := ?_) rfl (by kernel_rfl) (fun _ _ _ h => h) rfl (by rfl) (by assumption) ?_ ?_; rotate_left; (intro w hSw; (try dsimp only at hSw); go_simp; try (with_reducible rfl)); simp only [List.setIfInBounds_toArray, List.set_cons_zero, List.set_cons_succ]
                      refine tkD 1 101 (v := ?_) rfl (by kernel_rfl) (fun _ _ _ h => h) rfl (by rfl) (by assumption) ?_ ?_; rotate_left; (intro w hSw; (try dsimp only at hSw); go_simp; try (with_reducible rfl)); simp only [List.setIfInBounds_toArray, List.set_cons_zero, List.set_cons_succ]
                      refine tkD 2 102 (v := ?_) rfl (by kernel_rfl) (fun _ _ _ h => h) rfl (by rfl) (by assumption) ?_ ?_; rotate_left; (intro w hSw; (try dsimp only at hSw); go_simp; try (with_reducible rfl)); simp only [List.setIfInBounds_toArray, List.set_cons_zero, List.set_cons_succ]
                      refine tkD 3 103 (v := ?_) rfl (by kernel_rfl) (fun _ _ _ h => h) rfl (by rfl) (by assumption) ?_ ?_; rotate_left; (intro w hSw; (try dsimp only at hSw); go_simp; try (with_reducible rfl)); simp only [List.setIfInBounds_toArray, List.set_cons_zero, List.set_cons_succ]
                      refine tkD 4 104 (v := ?_) rfl (by kernel_rfl) (fun _ _ _ h => h) rfl (by rfl) (by assumption) ?_ ?_; rotate_left; (intro w hSw; (try dsimp only at hSw); go_simp; try (with_reducible rfl)); simp only [List.setIfInBounds_toArray, List.set_cons_zero, List.set_cons_succ]
                      refine tkD 5 105 (v := ?_) rfl (by kernel_rfl) (fun _ _ _ h => h) rfl (by rfl) (by assumption) ?_ ?_; rotate_left; (intro w hSw; (try dsimp only at hSw); go_simp; try (with_reducible rfl)); simp only [List.setIfInBounds_toArray, List.set_cons_zero, List.set_cons_succ]
                      refine tkD 6 106 (v := ?_) rfl (by kernel_rfl) (fun _ _ _ h => h) rfl (by rfl) (by assumption) ?_ ?_; rotate_left; (intro w hSw; (try dsimp only at hSw); go_simp; try (with_reducible rfl)); simp only [List.setIfInBounds_toArray, List.set_cons_zero, List.set_cons_succ]
                      refine tkD 7 107 (v := ?_) rfl (by kernel_rfl) (fun _ _ _ h => h) rfl (by rfl) (by assumption) ?_ ?_; rotate_left; (intro w hSw; (try dsimp only at hSw); go_simp; try (with_reducible rfl)); simp only [List.setIfInBounds_toArray, List.set_cons_zero, List.set_cons_succ]
                      refine tkD 8 108 (v := ?_) rfl (by kernel_rfl) (fun _ _ _ h => h) rfl (by rfl) (by assumption) ?_ ?_; rotate_left; (intro w hSw; (try dsimp only at hSw); go_simp; try (with_reducible rfl)); simp only [List.setIfInBounds_toArray, List.set_cons_zero, List.set_cons_succ]
                      refine tkD 9 109 (v := ?_) rfl (by kernel_rfl) (fun _ _ _ h => h) rfl (by rfl) (by assumption) ?_ ?_; rotate_left; (intro w hSw; (try dsimp only at hSw); go_simp; try (with_reducible rfl)); simp only [List.setIfInBounds_toArray, List.set_cons_zero, List.set_cons_succ]
                      refine tkD 11 111 (v := ?_) rfl (by kernel_rfl) (fun _ _ _ h => h) rfl (by rfl) (by assumption) ?_ ?_; rotate_left; (intro w hSw; (try dsimp only at hSw); go_simp; try (with_reducible rfl)); simp only [List.setIfInBounds_toArray, List.set_cons_zero, List.set_cons_succ]
                      refine tkD 12 112 (v := ?_) rfl (by kernel_rfl) (fun _ _ _ h => h) rfl (by rfl) (by assumption) ?_ ?_; rotate_left; (intro w hSw; (try dsimp only at hSw); go_simp; try (with_reducible rfl)); simp only [List.setIfInBounds_toArray, List.set_cons_zero, List.set_cons_succ]
                      refine tkD 13 113 (v := ?_) rfl (by kernel_rfl) (fun _ _ _ h => h) rfl (by rfl) (by assumption) ?_ ?_; rotate_left; (intro w hSw; (try dsimp only at hSw); go_simp; try (with_reducible rfl)); simp only [List.setIfInBounds_toArray, List.set_cons_zero, List.set_cons_succ]
                      refine tkD 14 114 (v := ?_) rfl (by kernel_rfl) (fun _ _ _ h => h) rfl (by rfl) (by assumption) ?_ ?_; rotate_left; (intro w hSw; (try dsimp only at hSw); go_simp; try (with_reducible rfl)); simp only [List.setIfInBounds_toArray, List.set_cons_zero, List.set_cons_succ]
                      refine tkD 15 115 (v := ?_) rfl (by kernel_rfl) (fun _ _ _ h => h) rfl (by rfl) (by assumption) ?_ ?_; rotate_left; (intro w hSw; (try dsimp only at hSw); go_simp; try (with_reducible rfl)); simp only [List.setIfInBounds_toArray, List.set_cons_zero, List.set_cons_succ]
                      clear hH z0 z1 z2 z3 z4 z5 z6 z7 z8
                      refine wpAnyH_ready (rs := [10]) (by kernel_rfl) (by simp) ?_; refine AllReadyH.cons rfl (fun K hK => ?_) AllReadyH.nil; go_simp
                      refine HFA.out.mono ?_
                      rintro r x1 ⟨rfl, hfa⟩
                      obtain ⟨A', hr1⟩ := HR0.out.fedA hfa
                      have hB1 := hr1.bel
                      have HR1 := hid hr1
                      refine hK.out _ _ hB1 (fun hSx => ?_); clear hK K hSx
                      refine wpAnyH_ready (rs := [16]) (by kernel_rfl) (by simp) ?_; refine AllReadyH.cons rfl (fun K hK => ?_) AllReadyH.nil; go_simp
                      refine (rpfed_any HWO.out HR1.out.b hgd.out.ok hgd.out.tidy hgd.out.q0 (by have := hgd.out.q1; omega) x da dc oa oc HRX.out HFI.out p' E HPA HE).mono ?_
                      rintro r x2 hfb
                      have hr2 := HR1.out.fedB hfb
                      obtain ⟨rfl, -⟩ := hfb
                      have hB2 := hr2.bel
                      have HR2 := hid hr2
                      refine hK.out _ _ hB2 (fun hSx => ?_); clear hK K hSx
                      refine tkD 17 117 (v := ?_) rfl (by kernel_rfl) (fun _ _ _ h => h) rfl (by rfl) (by assumption) ?_ ?_; rotate_left; (intro w hSw; (try dsimp only at hSw); go_simp; try (with_reducible rfl)); simp only [List.setIfInBounds_toArray, List.set_cons_zero, List.set_cons_succ]
                      refine tkD 18 118 (v := ?_) rfl (by kernel_rfl) (fun _ _ _ h => h) rfl (by rfl) (by assumption) ?_ ?_; rotate_left; (intro w hSw; (try dsimp only at hSw); go_simp; try (with_reducible rfl)); simp only [List.setIfInBounds_toArray, List.set_cons_zero, List.set_cons_succ]
                      refine wpAnyH_done (by kernel_rfl) ?_ _
                      go_wp2
                      go_meet
                      case rel => exact ⟨rfl, p', HGN.out, _, _, HR2.out⟩
                    · have dk : decide (k < ln) = false := decide_eq_false hkn
                      have hr0 := HR.out.keep HB11.out
                      have HEX : Hid (∀ n, ∃ p' : Pb, PsGd wn p' (k + 1) ∧ ∃ A R, PsRel w ga gb wn A R p' p' (W11.drewN n)) := fun n => ⟨pb, ⟨hgd.out.ok, hgd.out.small, hgd.out.tidy, hgd.out.q0, by have := hgd.out.q1; omega⟩, A, RR, hr0.keep (below_drewN (Below.refl _ _) _)⟩
                      clear hkn hr0
                      go_quiet (fail)
                      go_wp2
                      go_meet
                      case rel => exact ⟨rfl, HEX.out _⟩
                  case rest =>
                    obtain ⟨rfl, hex⟩ := hcut
                    have HEX := hid hex.out
                    clear hex
                    go_wp2
                    go_roundw
                    case rel =>
                      obtain ⟨p', h1, h2⟩ := HEX.out
                      exact ⟨k + 1, p', by go_num, by omega, h1, h2⟩
                    case measure => simp [intOf]; omega
            · obtain ⟨-, -, -, -, hbel⟩ : True ∧ True ∧ True ∧ True ∧ Below w.heap.size w wr := ⟨trivial, trivial, trivial, trivial, HR.out.bel⟩
              have hkl : ¬ (k : Int) ≤ (ln : Int) := by omega
              clear hk
              go_wp2_with (go_at_call 7; (with_reducible refine (HAW.out _).mono ?_); rintro r w2 ⟨rfl, hb2⟩)
              go_ret
              exact ⟨rfl, bt hbel hb2 (Nat.le_refl _)⟩
      · have HNA : Hid (∀ X, Calls Try.prog 9 #[.agg (#[.int .i64 (wn 0).1, .int .i64 (wn 0).2, .int .i64 (wn 1).1, .int .i64 (wn 1).2, .int .i64 (wn 2).1, .int .i64 (wn 2).2, .int .i64 (wn 3).1, .int .i64 (wn 3).2])] X fun r w' => r = .returned (.pointer none) ∧ Below X.heap.size X w') := fun X => pnew_bad wn hwo X
        have HNB : Hid (∀ X, Calls Try.prog 10 #[.agg (#[.int .i64 (wn 0).1, .int .i64 (wn 0).2, .int .i64 (wn 1).1, .int .i64 (wn 1).2, .int .i64 (wn 2).1, .int .i64 (wn 2).2, .int .i64 (wn 3).1, .int .i64 (wn 3).2])] X fun r w' => r = .returned (.pointer none) ∧ Below X.heap.size X w') := fun X => rpnew_bad wn hwo X
        clear hwo
        go_upto_region 5 with (fail)
        go_cut [7, 8] from 24 to 27 (fun s7 s8 wc => s7 = .pointer none ∧ s8 = .pointer none ∧ Below w.heap.size w wc)
        case first =>
          refine wp_region_held_drew (S := fun V => Below w3.heap.size w3 V) (by kernel_rfl) kD (fun hH => ?_)
          refine tkD 0 24 (v := ?_) rfl (by kernel_rfl) (fun _ _ _ h => h) rfl (by rfl) (by assumption) ?_ ?_; rotate_left; (intro w hSw; (try dsimp only at hSw); go_simp; try (with_reducible rfl)); simp only [List.setIfInBounds_toArray, List.set_cons_zero, List.set_cons_succ]
          refine tkD 2 26 (v := ?_) rfl (by kernel_rfl) (fun _ _ _ h => h) rfl (by rfl) (by assumption) ?_ ?_; rotate_left; (intro w hSw; (try dsimp only at hSw); go_simp; try (with_reducible rfl)); simp only [List.setIfInBounds_toArray, List.set_cons_zero, List.set_cons_succ]
          clear hH
          refine wpAnyH_ready (rs := [1]) (by kernel_rfl) (by simp) ?_; refine AllReadyH.cons rfl (fun K hK => ?_) AllReadyH.nil; go_simp
          refine (HNA.out _).mono ?_
          rintro r w4 ⟨rfl, hb4⟩
          have hB4 := bt kD hb4 (Nat.le_refl _)
          refine hK.out _ _ hB4 (fun hSx => ?_); clear hK K hSx
          refine wpAnyH_ready (rs := [3]) (by kernel_rfl) (by simp) ?_; refine AllReadyH.cons rfl (fun K hK => ?_) AllReadyH.nil; go_simp
          refine (HNB.out _).mono ?_
          rintro r w5 ⟨rfl, hb5⟩
          have hB5 := bt hB4 hb5 (Nat.le_refl _)
          refine hK.out _ _ hB5 (fun hSx => ?_); clear hK K hSx
          refine tkD 4 7 (v := ?_) rfl (by kernel_rfl) (fun _ _ _ h => h) rfl (by rfl) (by assumption) ?_ ?_; rotate_left; (intro w hSw; (try dsimp only at hSw); go_simp; try (with_reducible rfl)); simp only [List.setIfInBounds_toArray, List.set_cons_zero, List.set_cons_succ]
          refine tkD 5 8 (v := ?_) rfl (by kernel_rfl) (fun _ _ _ h => h) rfl (by rfl) (by assumption) ?_ ?_; rotate_left; (intro w hSw; (try dsimp only at hSw); go_simp; try (with_reducible rfl)); simp only [List.setIfInBounds_toArray, List.set_cons_zero, List.set_cons_succ]
          refine wpAnyH_done (by kernel_rfl) ?_ _
          clear y0 y1 y2 y3 y4 y5 y6 y7
          go_wp2
          go_meet
          case rel => exact ⟨rfl, rfl, bt HB3.out hB5 (Nat.le_refl _)⟩
        case rest =>
          obtain ⟨rfl, rfl, hbc⟩ := hcut
          clear y0 y1 y2 y3 y4 y5 y6 y7 kD HNA HNB
          go_wp2_with (go_at_call 7; (with_reducible refine (HAW.out _).mono ?_); rintro r w2 ⟨rfl, hb2⟩)
          go_ret
          exact ⟨rfl, bt hbc hb2 (Nat.le_refl _)⟩

end Go.Proofs.Ytliblgmpclefgaa
