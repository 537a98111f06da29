/-
  Texts 54 of the claim.
-/
import Derived.Test.YtipnamoocemeeaaGreatA49
import Derived.Test.YtipnamoocemeeaaGreatA53
import Derived.Test.YtipnamoocemeeaaGreatA22
import Derived.Test.YtipnamoocemeeaaGreatA24
import Derived.Deep.CutRange
import Derived.Deep.RegionHeldLaw
/-
  The walk of the law SweepSteps.
-/
namespace Go.Proofs.YtipnamoocemeeaaGreat
open Go.RowKit
/-- The program's sweep and the reference's, that lie apart. -/
structure WsRel (w : World) (ga gb : Nat) (c : Cf) (A R : Nat → Prop) (x : Sp) (y : Sp) (W : World) : Prop where
  a : SwAt A W ga c x
  b : RsAt R w W gb c y
  la : ∀ j, A j → w.heap.size ≤ j ∧ j < W.heap.size
  lb : ∀ j, R j → j < W.heap.size
  ab : ∀ j, A j → ¬ R j
  bel : Below w.heap.size w W
theorem WsRel.keep {w : World} {ga gb : Nat} {c : Cf} {A R : Nat → Prop} {x y : Sp} {W W' : World} (h : WsRel w ga gb c A R x y W) (hb : Below W.heap.size W W') : WsRel w ga gb c A R x y W' :=
  ⟨h.a.keep (F := fun _ => False) (Keeps.of_below hb) (fun _ _ e => e.elim), h.b.keep (F := fun _ => False) (Keeps.of_below hb) (fun _ _ e => e.elim),
   fun j hj => ⟨(h.la j hj).1, Nat.lt_of_lt_of_le (h.la j hj).2 hb.size⟩, fun j hj => Nat.lt_of_lt_of_le (h.lb j hj) hb.size, h.ab, bt h.bel hb (Nat.le_refl _)⟩
theorem WsRel.fedA {w : World} {ga gb : Nat} {c : Cf} {A R : Nat → Prop} {x y x' : Sp} {W W' : World} {E : Int} {r : Ending} (h : WsRel w ga gb c A R x y W) (hf : SfPost A W ga c x' E r W') : WsRel w ga gb c (Grw A W W') R x' y W' := by
  obtain ⟨-, h2, h3⟩ := hf
  have hs := h3.size
  have hsz := h.bel.size
  refine ⟨h2, h.b.keep h3 (fun j _ hj => h.ab j hj), fun j hj => ?_, fun j hj => by have := h.lb j hj; omega, fun j hj hB => ?_, h.bel.trans (h3.below hsz (fun j hj hA => by have := (h.la j hA).1; omega))⟩
  · rcases hj with e | e
    · have := h.la j e; omega
    · omega
  · rcases hj with e | e
    · exact h.ab j e hB
    · have := h.lb j hB; omega
theorem WsRel.fedB {w : World} {ga gb : Nat} {c : Cf} {A R : Nat → Prop} {x y y' : Sp} {W W' : World} {E : Int} {r : Ending} (h : WsRel w ga gb c A R x y W) (hf : RsfPost R w W gb c y' E r W') : WsRel w ga gb c A (Grw R W W') x y' W' := by
  obtain ⟨-, h2, h3⟩ := hf
  have hs := h3.size
  have hsz := h.bel.size
  refine ⟨h.a.keep h3 (fun j _ hj hA => h.ab j hA hj.1), h2, fun j hj => ⟨(h.la j hj).1, by have := (h.la j hj).2; omega⟩, fun j hj => ?_, fun j hj hB => ?_, h.bel.trans (h3.below hsz (fun j hj hA => by have := hA.2; omega))⟩
  · rcases hj with e | e
    · have := h.lb j e; omega
    · omega
  · rcases hB with e | e
    · exact h.ab j hj e
    · have := (h.la j hj).2; omega
/-- The cells of the reference's sweep that the law reads. -/
theorem RsAt.cells {P : Nat → Prop} {W0 W : World} {g : Nat} {c : Cf} {x : Sp} (h : RsAt P W0 W g c x) : ∃ fa fc, (∀ X, Below W.heap.size W X → X.cell? ⟨g, 16, none⟩ = some (.int .i64 x.at_) ∧ X.cell? ⟨g, 19, none⟩ = some (.int .i64 x.cnt) ∧ X.cell? ⟨g, 18, none⟩ = some (.slice fa x.fd.length fc)) ∧ Fds W (.slice fa x.fd.length fc) x.fd := by
  obtain ⟨M, Q, sv, gp, fa, fc, cs, hs, -⟩ := h
  refine ⟨fa, fc, fun X hX => ?_, hs.fds⟩
  have hI : RsI X g c sv (.pointer (some ⟨gp, 0, none⟩)) (.slice fa x.fd.length fc) x.at_ x.cnt := hpKeep hs.at_ hX
  exact ⟨hpCell hI 16, hpCell hI 19, hpCell hI 18⟩
/-- What Next answers, in one form. -/
theorem nx_one (c : Cf) (x : Sp) : ∃ (a b : Int) (q : Rq) (D : Bool), ∀ w r w', NxPost w c x r w' → r = .returned (.tuple #[.int .i64 a, .int .i64 b, .agg #[.int .i64 q.fn, .int .i64 q.addr, .int .i64 q.qty, .int .i64 q.code, .int .i64 q.obj], .bool D]) ∧ Below w.heap.size w w' := by
  by_cases h : x.at_ < c.units
  · refine ⟨c.pSet x.at_, c.pUnit x.at_, x.pb.ph.ask, true, fun w r w' hp => ?_⟩
    obtain ⟨h1, h2⟩ := hp
    rw [if_pos h] at h1
    exact ⟨h1, h2⟩
  · refine ⟨0, 0, ⟨0, 0, 0, 0, 0⟩, false, fun w r w' hp => ?_⟩
    obtain ⟨h1, h2⟩ := hp
    rw [if_neg h] at h1
    exact ⟨h1, h2⟩

set_option maxRecDepth 100000 in
set_option maxHeartbeats 12800000 in
theorem Walk.sweepSteps {w : World} (cs : Array Value) (hr : Rd Tryz.prog w 27 cs.toList) (lv : Value) (hlr : Rd Tryz.prog w 28 [lv]) :
    Calls Tryz.prog 3 #[.agg cs, lv] w fun r w' => r = .returned (.bool true) ∧ Below w.heap.size w w' := by
  obtain ⟨c, sv, rfl, hst, -⟩ := cf_rd hr
  obtain ⟨sa, sc, rfl⟩ := hst.slc
  obtain ⟨l, hl, hnx⟩ := ocsx_rd hlr
  obtain ⟨la, lc, rfl, -⟩ := id hl
  obtain ⟨sn, hsn⟩ : ∃ n, c.sets.length = n := ⟨_, rfl⟩
  obtain ⟨C, hC⟩ : ∃ C, CfC c (.slice sa c.sets.length sc) = C := ⟨_, rfl⟩
  have hi : (Tryz.prog.info? 27).map (·.size) = some C.size := by rw [← hC]; exact infoCf
  obtain ⟨W0, hW0⟩ : ∃ W, w.alloc (.cells C 27) = W := ⟨_, rfl⟩
  have hb0 : Below w.heap.size w W0 := by rw [← hW0]; exact bal' w _
  have p0 : W0.heap[w.heap.size]? = some (.cells C 27) := by rw [← hW0]; exact hpNew w _
  have c0 : W0.cell? ⟨w.heap.size, 0, none⟩ = some (.slice sa sn sc) := by rw [hpCell p0, ← hC, ← hsn]; rfl
  have HAW : Hid (∀ X, Calls Tryz.prog 8 #[] X (BoolPost X true)) := fun X => awake33_any X
  obtain ⟨V, hV⟩ : ∃ V, smallOcs l 100 = V := ⟨_, rfl⟩
  have HMO : Hid (Calls Tryz.prog 7 #[.slice la l.length lc, .int .i64 100] W0 (BoolPost W0 V)) := mocs_any _ l 100 W0 (hl.keep hb0) V hV
  have HW0 := hid hW0
  have HB0 := hid hb0
  have HL := hid hl
  have P0 := hid p0
  have HST := hid hst
  have HC := hid hC
  have HSN := hid hsn
  rw [hC]
  obtain ⟨ln, hln⟩ : ∃ n, l.length = n := ⟨_, rfl⟩
  have HLM : Hid (V = true → ln ≤ 100) := fun h => by
    rw [h] at hV
    simp only [smallOcs, Bool.and_eq_true, decide_eq_true_eq] at hV
    have := hV.2
    omega
  rw [hln] at HMO HL ⊢
  have HLN := hid hln
  have HFT : Hid (V = true → ∀ (i : Nat) (x : Oc), l[i]? = some x → x.fit) := fun h i x hx => small_fit (h ▸ hV) hnx hx
  clear hr hlr hW0 hb0 hl p0 hst hC hsn hln hV hnx
  by_cases h8 : 8 < sn
  · have h8i : (8 : Int) < (sn : Int) := by omega
    clear h8
    go_enter Tryz.func3, Tryz.ntmps3
    go_upto_region 1 with (fail)
    rw [HW0.out]
    go_wp2_with (go_at_call 8; (with_reducible refine (HAW.out _).mono ?_); rintro r w2 ⟨rfl, hb2⟩)
    go_ret
    exact ⟨rfl, bt HB0.out hb2 (Nat.le_refl _)⟩
  have h8i : ¬ (8 : Int) < (sn : Int) := by omega
  have HS8 : Hid (c.sets.length ≤ 8) := by show _ ≤ _; have := HSN.out; omega
  clear h8
  cases V with
  | false =>
    go_enter Tryz.func3, Tryz.ntmps3
    go_upto_region 1 with (fail)
    rw [HW0.out]
    go_wp2_with (first
      | (go_at_call 7; (with_reducible refine HMO.out.mono ?_); rintro r w1 ⟨rfl, hb1⟩)
      | (go_at_call 8; (with_reducible refine (HAW.out _).mono ?_); rintro r w2 ⟨rfl, hb2⟩))
    go_ret
    exact ⟨rfl, bt (bt HB0.out hb1 (Nat.le_refl _)) hb2 (Nat.le_refl _)⟩
  | true =>
    have HM100 := hid (HLM.out rfl)
    have HFI := hid (HFT.out rfl)
    clear HLM HFT
    go_enter Tryz.func3, Tryz.ntmps3
    go_upto_region 1 with (fail)
    rw [HW0.out]
    go_upto_region 3 with (go_at_call 7; (with_reducible refine HMO.out.mono ?_); rintro r w1 ⟨rfl, hb1⟩)
    clear c0 h8i
    have P1 := hid (hpKeep P0.out hb1)
    have hB1 : Below w.heap.size w w1 := bt HB0.out hb1 (Nat.le_refl _)
    have HB1 := hid hB1
    clear hb1 hB1 P0 HB0 HMO HW0
    obtain ⟨E, hE⟩ : ∃ E, chkE c = E := ⟨_, rfl⟩
    have HCK : Hid (∀ X, Below w1.heap.size w1 X → Calls Tryz.prog 10 #[.agg C] X (IntPost X E)) := fun X hX => by
      rw [← HC.out]
      exact rcheck_any c _ X (HST.out.keep (bt HB1.out hX (Nat.le_refl _))) E hE
    have HNA : Hid (Calls Tryz.prog 9 #[.agg C] w1 (SnPost w1 c E)) := by
      rw [← HC.out]
      exact swnew_any c _ w1 (HST.out.keep HB1.out) (by have := HS8.out; omega) E hE
    have HE := hid hE
    clear hE
    by_cases he : E = 0
    · subst he
      have hok := Cf.ok_of HE.out
      have HOK := hid hok
      have HNA2 : Hid (Calls Tryz.prog 9 #[.agg C] w1 fun r w' => ∃ g : Nat, r = .returned (.tuple #[.pointer (some ⟨g, 0, none⟩), .int .i64 0]) ∧ SwAt (Grw (fun _ => False) w1 w') w' g c Sp.ini ∧ Below w1.heap.size w1 w') := HNA.out.mono fun r w' h => by
        obtain ⟨h1 | ⟨-, g, h1, h2⟩, h3⟩ := h
        · exact absurd rfl h1.1
        · exact ⟨g, h1, h2, h3⟩
      have HNB : Hid (∀ X, Below w1.heap.size w1 X → Calls Tryz.prog 11 #[.agg C] X fun r w' => ∃ g, r = .returned (.pointer (some ⟨g, 0, none⟩)) ∧ RsAt (RsQ w (RsN X w')) w w' g c Sp.ini ∧ Below X.heap.size X w') := fun X hX => by
        rw [← HC.out]
        exact rsnew_s c _ w X (bt HB1.out hX (Nat.le_refl _)) HST.out HOK.out.win
      clear hok HNA
      go_upto_region 9 with (first
        | (refine wpList_load_row rfl 27 (.tmp 2) rfl w.heap.size rfl 27 C (0, 0) _ P1.out Tryz.underlying27 rfl hi ?_)
        | (refine wpList_load_row rfl 27 (.tmp 2) rfl w.heap.size rfl 27 C (0, 0) _ P2.out Tryz.underlying27 rfl hi ?_)
        | (refine wpList_load_row rfl 27 (.tmp 2) rfl w.heap.size rfl 27 C (0, 0) _ P3.out Tryz.underlying27 rfl hi ?_)
        | (go_at_call 9; (with_reducible refine HNA2.out.mono ?_); rintro r w2 ⟨ga, rfl, hsa, hb2⟩; have P2 := hid (hpKeep P1.out hb2))
        | (go_at_call 10; (with_reducible refine (HCK.out _ hb2).mono ?_); rintro r w3 ⟨rfl, hb3⟩; have P3 := hid (hpKeep P2.out hb3))
        | (go_at_call 11; (with_reducible refine (HNB.out _ (bt hb2 hb3 (Nat.le_refl _))).mono ?_); rintro r w4 ⟨gb, rfl, hsb, hb4⟩))
      have hrel : WsRel w ga gb c (Grw (fun _ => False) w1 w2) (RsQ w (RsN w3 w4)) Sp.ini Sp.ini w4 := by
        have z1 := HB1.out.size
        have z2 := hb2.size
        have z3 := hb3.size
        have z4 := hb4.size
        refine ⟨(hsa.keep (F := fun _ => False) (Keeps.of_below hb3) (fun _ _ e => e.elim)).keep (F := fun _ => False) (Keeps.of_below hb4) (fun _ _ e => e.elim), hsb, fun j hj => ?_, fun j hj => ?_, fun j hj e => ?_, bt (bt (bt HB1.out hb2 (Nat.le_refl _)) hb3 (Nat.le_refl _)) hb4 (Nat.le_refl _)⟩
        · rcases hj with hj | hj
          · exact hj.elim
          · omega
        · rcases hj with hj | hj
          · omega
          · exact hj.2
        · rcases hj with hj | hj
          · exact hj.elim
          · rcases e with e | e
            · omega
            · have := e.1; omega
      have HST0 := hid hrel
      clear hsa hsb hb2 hb3 hb4 hrel HNA2 HNB HCK P1 P2 P3
      go_wp2_with fail
      go_loopw [8] (fun iv wr => ∃ (k : Nat) (x : Sp), iv = .int .i64 (k : Int) ∧ k ≤ ln + 1 ∧ Hid (SpGd c x k) ∧ Hid (∃ A R, WsRel w ga gb c A R x x wr)) (fun iv _ => ln + 1 - (intOf iv).toNat)
      case atStart => exact ⟨0, Sp.ini, rfl, Nat.zero_le _, SpGd.ini c, _, _, HST0.out⟩
      case round =>
        clear HST0
        obtain ⟨k, x, rfl, hk, hgd, hrl⟩ := hrel
        obtain ⟨A, RR, hrr⟩ := hrl.out
        have HR := hid hrr
        clear hrr hrl
        have hk100 := HM100.out
        have hki : (0 : Int) ≤ (k : Int) := Int.natCast_nonneg _
        have hu := HOK.out.units_bd.2.1
        have ha : x.at_ ≤ 1000000 := by have := hgd.out.at1; omega
        by_cases hlt : k ≤ ln
        · obtain ⟨na, nb, rq, D, hone⟩ := nx_one c x
          have HXA : Hid (Calls Tryz.prog 12 #[.pointer (some ⟨ga, 0, none⟩)] wr fun r w' => r = .returned (.tuple #[.int .i64 na, .int .i64 nb, .agg #[.int .i64 rq.fn, .int .i64 rq.addr, .int .i64 rq.qty, .int .i64 rq.code, .int .i64 rq.obj], .bool D]) ∧ Below wr.heap.size wr w') := (snext_sw HE.out HR.out.a (fun _ => ⟨hgd.out.ok, hgd.out.nd⟩) ha).mono fun r w' h => hone _ _ _ h
          have HXB : Hid (∀ X, Below wr.heap.size wr X → Calls Tryz.prog 13 #[.pointer (some ⟨gb, 0, none⟩)] X fun r w' => r = .returned (.tuple #[.int .i64 na, .int .i64 nb, .agg #[.int .i64 rq.fn, .int .i64 rq.addr, .int .i64 rq.qty, .int .i64 rq.code, .int .i64 rq.obj], .bool D]) ∧ Below X.heap.size X w') := fun X hX => (rsnext_s HE.out (HR.out.keep hX).b hgd.out.ok hgd.out.nd ha).mono fun r w' h => hone _ _ _ h
          have HPL : Hid (∀ X, Below wr.heap.size wr X → Calls Tryz.prog 14 #[.pointer (some ⟨ga, 0, none⟩)] X (IntPost X (x.at_ : Int))) := fun X hX => splace_any (HR.out.keep hX).a
          have HQU : Hid (∀ X, Below wr.heap.size wr X → Calls Tryz.prog 15 #[.pointer (some ⟨ga, 0, none⟩)] X (IntPost X x.cnt)) := fun X hX => squeries_any (HR.out.keep hX).a
          have hfl : x.fd.length ≤ 1000000 := by have := hgd.out.fl; omega
          have HDV : Hid (∀ X, Below wr.heap.size wr X → Calls Tryz.prog 17 #[.pointer (some ⟨ga, 0, none⟩)] X (FdsPost X x.fd)) := fun X hX => swdevs_any (HR.out.keep hX).a hgd.out.fs hfl
          have HSD : Hid (∀ va vb X, Fds X va x.fd → Fds X vb x.fd → Calls Tryz.prog 16 #[va, vb] X (BoolPost X true)) := fun va vb X h1 h2 => samefds_eq va vb x.fd X h1 h2 hgd.out.fs hfl
          have hkl : (k : Int) ≤ (ln : Int) := by omega
          clear hone hfl ha hu
          go_upto_region 14 with (first
            | (go_at_call 12; (with_reducible refine HXA.out.mono ?_); rintro r x5 ⟨rfl, hb5⟩)
            | (go_at_call 13; (with_reducible refine (HXB.out _ (bta hb5 (Nat.le_refl _) _)).mono ?_); rintro r x6 ⟨rfl, hb6⟩))
          obtain ⟨W7, hW7⟩ : ∃ W, x6.alloc (.cells #[.int .i64 rq.fn, .int .i64 rq.addr, .int .i64 rq.qty, .int .i64 rq.code, .int .i64 rq.obj] 39) = W := ⟨_, rfl⟩
          have hb7 : Below wr.heap.size wr W7 := by rw [← hW7]; exact bta (bt (bta hb5 (Nat.le_refl _) _) hb6 (Nat.le_refl _)) (Nat.le_refl _) _
          have pA : W7.heap[x5.heap.size]? = some (.cells #[.int .i64 rq.fn, .int .i64 rq.addr, .int .i64 rq.qty, .int .i64 rq.code, .int .i64 rq.obj] 39) := by rw [← hW7]; exact hpKeep (hpKeep (hpNew x5 _) hb6) (bal' _ _)
          have pB : W7.heap[x6.heap.size]? = some (.cells #[.int .i64 rq.fn, .int .i64 rq.addr, .int .i64 rq.qty, .int .i64 rq.code, .int .i64 rq.obj] 39) := by rw [← hW7]; exact hpNew _ _
          rw [hW7]
          have HB7 := hid hb7
          clear hW7 hb5 hb6 HXA HXB hb7
          generalize x5.heap.size = qa at *
          generalize x6.heap.size = qb at *
          obtain ⟨fa, fc, hcl, hfds⟩ := (HR.out.keep HB7.out).b.cells
          obtain ⟨n, hn⟩ : ∃ n, x.fd.length = n := ⟨_, rfl⟩
          rw [hn] at hcl hfds
          have a0 : ∀ X, Below W7.heap.size W7 X → X.cell? ⟨qa, 0, none⟩ = some (.int .i64 rq.fn) := fun X h => hpCell (hpKeep pA h) 0
          have a1 : ∀ X, Below W7.heap.size W7 X → X.cell? ⟨qa, 1, none⟩ = some (.int .i64 rq.addr) := fun X h => hpCell (hpKeep pA h) 1
          have a2 : ∀ X, Below W7.heap.size W7 X → X.cell? ⟨qa, 2, none⟩ = some (.int .i64 rq.qty) := fun X h => hpCell (hpKeep pA h) 2
          have a3 : ∀ X, Below W7.heap.size W7 X → X.cell? ⟨qa, 3, none⟩ = some (.int .i64 rq.code) := fun X h => hpCell (hpKeep pA h) 3
          have a4 : ∀ X, Below W7.heap.size W7 X → X.cell? ⟨qa, 4, none⟩ = some (.int .i64 rq.obj) := fun X h => hpCell (hpKeep pA h) 4
          have n0 : ∀ X, Below W7.heap.size W7 X → X.cell? ⟨qb, 0, none⟩ = some (.int .i64 rq.fn) := fun X h => hpCell (hpKeep pB h) 0
          have n1 : ∀ X, Below W7.heap.size W7 X → X.cell? ⟨qb, 1, none⟩ = some (.int .i64 rq.addr) := fun X h => hpCell (hpKeep pB h) 1
          have n2 : ∀ X, Below W7.heap.size W7 X → X.cell? ⟨qb, 2, none⟩ = some (.int .i64 rq.qty) := fun X h => hpCell (hpKeep pB h) 2
          have n3 : ∀ X, Below W7.heap.size W7 X → X.cell? ⟨qb, 3, none⟩ = some (.int .i64 rq.code) := fun X h => hpCell (hpKeep pB h) 3
          have n4 : ∀ X, Below W7.heap.size W7 X → X.cell? ⟨qb, 4, none⟩ = some (.int .i64 rq.obj) := fun X h => hpCell (hpKeep pB h) 4
          have m16 : ∀ X, Below W7.heap.size W7 X → X.cell? ⟨gb, 16, none⟩ = some (.int .i64 x.at_) := fun X h => (hcl X h).1
          have m19 : ∀ X, Below W7.heap.size W7 X → X.cell? ⟨gb, 19, none⟩ = some (.int .i64 x.cnt) := fun X h => (hcl X h).2.1
          have m18 : ∀ X, Below W7.heap.size W7 X → X.cell? ⟨gb, 18, none⟩ = some (.slice fa n fc) := fun X h => (hcl X h).2.2
          have HFB := hid hfds
          have kD : Below W7.heap.size W7 W7.drew := (Below.refl _ _).drew
          clear hcl hfds hn pA pB
          go_cut [119] from 74 to 119 (fun s119 wc => s119 = .bool false ∧ Below W7.heap.size W7 wc)
          case first =>
            refine wp_region_held_drew (S := fun V => Below W7.heap.size W7 V) (by kernel_rfl) kD (fun hH => ?_)
            refine tkD 0 74 (v := ?_) rfl (by kernel_rfl) (fun _ _ _ h => h) rfl (by rfl) (by assumption) ?_ ?_; rotate_left; (intro w hSw; (try dsimp only at hSw); go_simp; try (with_reducible rfl)); simp only [List.setIfInBounds_toArray, List.set_cons_zero, List.set_cons_succ]
            refine tkD 1 75 (v := ?_) rfl (by kernel_rfl) (fun _ _ _ h => h) rfl (by rfl) (by assumption) ?_ ?_; rotate_left; (intro w hSw; (try dsimp only at hSw); go_simp; try (with_reducible rfl)); simp only [List.setIfInBounds_toArray, List.set_cons_zero, List.set_cons_succ]
            refine tkD 2 76 (v := ?_) rfl (by kernel_rfl) (fun _ _ _ h => h) rfl (by rfl) (by assumption) ?_ ?_; rotate_left; (intro w hSw; (try dsimp only at hSw); go_simp; try (with_reducible rfl)); simp only [List.setIfInBounds_toArray, List.set_cons_zero, List.set_cons_succ]
            refine tkD 3 77 (v := ?_) rfl (by kernel_rfl) (fun _ _ _ h => h) rfl (by rfl) (by assumption) ?_ ?_; rotate_left; (intro w hSw; (try dsimp only at hSw); go_simp; try (with_reducible rfl)); simp only [List.setIfInBounds_toArray, List.set_cons_zero, List.set_cons_succ]
            refine tkD 4 78 (v := ?_) rfl (by kernel_rfl) (fun _ _ _ h => h) rfl (by rfl) (by assumption) ?_ ?_; rotate_left; (intro w hSw; (try dsimp only at hSw); go_simp; try (with_reducible rfl)); simp only [List.setIfInBounds_toArray, List.set_cons_zero, List.set_cons_succ]
            refine tkD 5 79 (v := ?_) rfl (by kernel_rfl) (fun _ _ _ h => h) rfl (by rfl) (by assumption) ?_ ?_; rotate_left; (intro w hSw; (try dsimp only at hSw); go_simp; try (with_reducible rfl)); simp only [List.setIfInBounds_toArray, List.set_cons_zero, List.set_cons_succ]
            refine tkD 6 80 (v := ?_) rfl (by kernel_rfl) (fun _ _ _ h => h) rfl (by rfl) (by assumption) ?_ ?_; rotate_left; (intro w hSw; (try dsimp only at hSw); go_simp; try (with_reducible rfl)); simp only [List.setIfInBounds_toArray, List.set_cons_zero, List.set_cons_succ]
            refine tkD 7 81 (v := ?_) rfl (by kernel_rfl) (fun _ _ _ h => h) rfl (by rfl) (by assumption) ?_ ?_; rotate_left; (intro w hSw; (try dsimp only at hSw); go_simp; try (with_reducible rfl)); simp only [List.setIfInBounds_toArray, List.set_cons_zero, List.set_cons_succ]
            refine tkD 8 82 (v := ?_) rfl (by kernel_rfl) (fun _ _ _ h => h) rfl (by rfl) (by assumption) ?_ ?_; rotate_left; (intro w hSw; (try dsimp only at hSw); go_simp; try (with_reducible rfl)); simp only [List.setIfInBounds_toArray, List.set_cons_zero, List.set_cons_succ]
            refine tkD 9 83 (v := ?_) rfl (by kernel_rfl) (fun _ _ _ h => h) rfl (by rfl) (by assumption) ?_ ?_; rotate_left; (intro w hSw; (try dsimp only at hSw); go_simp; try (with_reducible rfl)); simp only [List.setIfInBounds_toArray, List.set_cons_zero, List.set_cons_succ]
            refine tkD 10 84 (v := ?_) rfl (by kernel_rfl) (fun _ _ _ h => h) rfl (by rfl) (by assumption) ?_ ?_; rotate_left; (intro w hSw; (try dsimp only at hSw); go_simp; try (with_reducible rfl)); simp only [List.setIfInBounds_toArray, List.set_cons_zero, List.set_cons_succ]
            refine tkD 11 85 (v := ?_) rfl (by kernel_rfl) (fun _ _ _ h => h) rfl (by rfl) (by assumption) ?_ ?_; rotate_left; (intro w hSw; (try dsimp only at hSw); go_simp; try (with_reducible rfl)); simp only [List.setIfInBounds_toArray, List.set_cons_zero, List.set_cons_succ]
            refine tkD 12 86 (v := ?_) rfl (by kernel_rfl) (fun _ _ _ h => h) rfl (by rfl) (by assumption) ?_ ?_; rotate_left; (intro w hSw; (try dsimp only at hSw); go_simp; try (with_reducible rfl)); simp only [List.setIfInBounds_toArray, List.set_cons_zero, List.set_cons_succ]
            refine tkD 13 87 (v := ?_) rfl (by kernel_rfl) (fun _ _ _ h => h) rfl (by rfl) (by assumption) ?_ ?_; rotate_left; (intro w hSw; (try dsimp only at hSw); go_simp; try (with_reducible rfl)); simp only [List.setIfInBounds_toArray, List.set_cons_zero, List.set_cons_succ]
            refine tkD 14 88 (v := ?_) rfl (by kernel_rfl) (fun _ _ _ h => h) rfl (by rfl) (by assumption) ?_ ?_; rotate_left; (intro w hSw; (try dsimp only at hSw); go_simp; try (with_reducible rfl)); simp only [List.setIfInBounds_toArray, List.set_cons_zero, List.set_cons_succ]
            refine tkD 15 89 (v := ?_) rfl (by kernel_rfl) (fun _ _ _ h => h) rfl (by rfl) (by assumption) ?_ ?_; rotate_left; (intro w hSw; (try dsimp only at hSw); go_simp; try (with_reducible rfl)); simp only [List.setIfInBounds_toArray, List.set_cons_zero, List.set_cons_succ]
            refine tkD 16 90 (v := ?_) rfl (by kernel_rfl) (fun _ _ _ h => h) rfl (by rfl) (by assumption) ?_ ?_; rotate_left; (intro w hSw; (try dsimp only at hSw); go_simp; try (with_reducible rfl)); simp only [List.setIfInBounds_toArray, List.set_cons_zero, List.set_cons_succ]
            refine tkD 17 91 (v := ?_) rfl (by kernel_rfl) (fun _ _ _ h => h) rfl (by rfl) (by assumption) ?_ ?_; rotate_left; (intro w hSw; (try dsimp only at hSw); go_simp; try (with_reducible rfl)); simp only [List.setIfInBounds_toArray, List.set_cons_zero, List.set_cons_succ]
            refine tkD 18 92 (v := ?_) rfl (by kernel_rfl) (fun _ _ _ h => h) rfl (by rfl) (by assumption) ?_ ?_; rotate_left; (intro w hSw; (try dsimp only at hSw); go_simp; try (with_reducible rfl)); simp only [List.setIfInBounds_toArray, List.set_cons_zero, List.set_cons_succ]
            refine tkD 19 93 (v := ?_) rfl (by kernel_rfl) (fun _ _ _ h => h) rfl (by rfl) (by assumption) ?_ ?_; rotate_left; (intro w hSw; (try dsimp only at hSw); go_simp; try (with_reducible rfl)); simp only [List.setIfInBounds_toArray, List.set_cons_zero, List.set_cons_succ]
            refine tkD 21 95 (v := ?_) rfl (by kernel_rfl) (fun _ _ _ h => h) rfl (by rfl) (by assumption) ?_ ?_; rotate_left; (intro w hSw; (try dsimp only at hSw); go_simp; try (with_reducible rfl)); simp only [List.setIfInBounds_toArray, List.set_cons_zero, List.set_cons_succ]
            refine tkD 22 96 (v := ?_) rfl (by kernel_rfl) (fun _ _ _ h => h) rfl (by rfl) (by assumption) ?_ ?_; rotate_left; (intro w hSw; (try dsimp only at hSw); go_simp; try (with_reducible rfl)); simp only [List.setIfInBounds_toArray, List.set_cons_zero, List.set_cons_succ]
            refine tkD 23 97 (v := ?_) rfl (by kernel_rfl) (fun _ _ _ h => h) rfl (by rfl) (by assumption) ?_ ?_; rotate_left; (intro w hSw; (try dsimp only at hSw); go_simp; try (with_reducible rfl)); simp only [List.setIfInBounds_toArray, List.set_cons_zero, List.set_cons_succ]
            refine tkD 24 98 (v := ?_) rfl (by kernel_rfl) (fun _ _ _ h => h) rfl (by rfl) (by assumption) ?_ ?_; rotate_left; (intro w hSw; (try dsimp only at hSw); go_simp; try (with_reducible rfl)); simp only [List.setIfInBounds_toArray, List.set_cons_zero, List.set_cons_succ]
            clear hH a0 a1 a2 a3 a4 n0 n1 n2 n3 n4 m16
            refine wpAnyH_ready (rs := [20]) (by kernel_rfl) (by simp) ?_; refine AllReadyH.cons rfl (fun K hK => ?_) AllReadyH.nil; go_simp
            refine (HPL.out _ (bt HB7.out kD (Nat.le_refl _))).mono ?_
            rintro r x10 ⟨rfl, hb10⟩
            have hB10 := bt kD hb10 (Nat.le_refl _)
            refine hK.out _ _ hB10 (fun hSx => ?_); clear hK K hSx
            refine tkD 25 99 (v := ?_) rfl (by kernel_rfl) (fun _ _ _ h => h) rfl (by rfl) (by assumption) ?_ ?_; rotate_left; (intro w hSw; (try dsimp only at hSw); go_simp; try (with_reducible rfl)); simp only [List.setIfInBounds_toArray, List.set_cons_zero, List.set_cons_succ]
            refine tkD 26 100 (v := ?_) rfl (by kernel_rfl) (fun _ _ _ h => h) rfl (by rfl) (by assumption) ?_ ?_; rotate_left; (intro w hSw; (try dsimp only at hSw); go_simp; try (with_reducible rfl)); simp only [List.setIfInBounds_toArray, List.set_cons_zero, List.set_cons_succ]
            refine tkD 27 101 (v := ?_) rfl (by kernel_rfl) (fun _ _ _ h => h) rfl (by rfl) (by assumption) ?_ ?_; rotate_left; (intro w hSw; (try dsimp only at hSw); go_simp; try (with_reducible rfl)); simp only [List.setIfInBounds_toArray, List.set_cons_zero, List.set_cons_succ]
            refine tkD 28 102 (v := ?_) rfl (by kernel_rfl) (fun _ _ _ h => h) rfl (by rfl) (by assumption) ?_ ?_; rotate_left; (intro w hSw; (try dsimp only at hSw); go_simp; try (with_reducible rfl)); simp only [List.setIfInBounds_toArray, List.set_cons_zero, List.set_cons_succ]
            refine tkD 30 104 (v := ?_) rfl (by kernel_rfl) (fun _ _ _ h => h) rfl (by rfl) (by assumption) ?_ ?_; rotate_left; (intro w hSw; (try dsimp only at hSw); go_simp; try (with_reducible rfl)); simp only [List.setIfInBounds_toArray, List.set_cons_zero, List.set_cons_succ]
            refine tkD 31 105 (v := ?_) rfl (by kernel_rfl) (fun _ _ _ h => h) rfl (by rfl) (by assumption) ?_ ?_; rotate_left; (intro w hSw; (try dsimp only at hSw); go_simp; try (with_reducible rfl)); simp only [List.setIfInBounds_toArray, List.set_cons_zero, List.set_cons_succ]
            refine tkD 32 106 (v := ?_) rfl (by kernel_rfl) (fun _ _ _ h => h) rfl (by rfl) (by assumption) ?_ ?_; rotate_left; (intro w hSw; (try dsimp only at hSw); go_simp; try (with_reducible rfl)); simp only [List.setIfInBounds_toArray, List.set_cons_zero, List.set_cons_succ]
            refine tkD 33 107 (v := ?_) rfl (by kernel_rfl) (fun _ _ _ h => h) rfl (by rfl) (by assumption) ?_ ?_; rotate_left; (intro w hSw; (try dsimp only at hSw); go_simp; try (with_reducible rfl)); simp only [List.setIfInBounds_toArray, List.set_cons_zero, List.set_cons_succ]
            clear m19
            refine wpAnyH_ready (rs := [29]) (by kernel_rfl) (by simp) ?_; refine AllReadyH.cons rfl (fun K hK => ?_) AllReadyH.nil; go_simp
            refine (HQU.out _ (bt HB7.out hB10 (Nat.le_refl _))).mono ?_
            rintro r x11 ⟨rfl, hb11⟩
            have hB11 := bt hB10 hb11 (Nat.le_refl _)
            refine hK.out _ _ hB11 (fun hSx => ?_); clear hK K hSx
            refine tkD 34 108 (v := ?_) rfl (by kernel_rfl) (fun _ _ _ h => h) rfl (by rfl) (by assumption) ?_ ?_; rotate_left; (intro w hSw; (try dsimp only at hSw); go_simp; try (with_reducible rfl)); simp only [List.setIfInBounds_toArray, List.set_cons_zero, List.set_cons_succ]
            refine tkD 35 109 (v := ?_) rfl (by kernel_rfl) (fun _ _ _ h => h) rfl (by rfl) (by assumption) ?_ ?_; rotate_left; (intro w hSw; (try dsimp only at hSw); go_simp; try (with_reducible rfl)); simp only [List.setIfInBounds_toArray, List.set_cons_zero, List.set_cons_succ]
            refine tkD 36 110 (v := ?_) rfl (by kernel_rfl) (fun _ _ _ h => h) rfl (by rfl) (by assumption) ?_ ?_; rotate_left; (intro w hSw; (try dsimp only at hSw); go_simp; try (with_reducible rfl)); simp only [List.setIfInBounds_toArray, List.set_cons_zero, List.set_cons_succ]
            refine tkD 37 111 (v := ?_) rfl (by kernel_rfl) (fun _ _ _ h => h) rfl (by rfl) (by assumption) ?_ ?_; rotate_left; (intro w hSw; (try dsimp only at hSw); go_simp; try (with_reducible rfl)); simp only [List.setIfInBounds_toArray, List.set_cons_zero, List.set_cons_succ]
            refine tkD 39 113 (v := ?_) rfl (by kernel_rfl) (fun _ _ _ h => h) rfl (by rfl) (by assumption) ?_ ?_; rotate_left; (intro w hSw; (try dsimp only at hSw); go_simp; try (with_reducible rfl)); simp only [List.setIfInBounds_toArray, List.set_cons_zero, List.set_cons_succ]
            refine tkD 40 114 (v := ?_) rfl (by kernel_rfl) (fun _ _ _ h => h) rfl (by rfl) (by assumption) ?_ ?_; rotate_left; (intro w hSw; (try dsimp only at hSw); go_simp; try (with_reducible rfl)); simp only [List.setIfInBounds_toArray, List.set_cons_zero, List.set_cons_succ]
            refine tkD 41 115 (v := ?_) rfl (by kernel_rfl) (fun _ _ _ h => h) rfl (by rfl) (by assumption) ?_ ?_; rotate_left; (intro w hSw; (try dsimp only at hSw); go_simp; try (with_reducible rfl)); simp only [List.setIfInBounds_toArray, List.set_cons_zero, List.set_cons_succ]
            refine tkD 42 116 (v := ?_) rfl (by kernel_rfl) (fun _ _ _ h => h) rfl (by rfl) (by assumption) ?_ ?_; rotate_left; (intro w hSw; (try dsimp only at hSw); go_simp; try (with_reducible rfl)); simp only [List.setIfInBounds_toArray, List.set_cons_zero, List.set_cons_succ]
            clear m18
            refine wpAnyH_ready (rs := [38]) (by kernel_rfl) (by simp) ?_; refine AllReadyH.cons rfl (fun K hK => ?_) AllReadyH.nil; go_simp
            refine (HDV.out _ (bt HB7.out hB11 (Nat.le_refl _))).mono ?_
            rintro r x12 ⟨dv, rfl, hdv, hb12⟩
            have hB12 := bt hB11 hb12 (Nat.le_refl _)
            have HDO := hid (hdv x12 (Agree.refl _ _)).fds
            clear hdv
            refine hK.out _ _ hB12 (fun hSx => ?_); clear hK K hSx
            refine wpAnyH_ready (rs := [43]) (by kernel_rfl) (by simp) ?_; refine AllReadyH.cons rfl (fun K hK => ?_) AllReadyH.nil; go_simp
            refine (HSD.out _ _ _ HDO.out (HFB.out.keep hB12)).mono ?_
            rintro r x13 ⟨rfl, hb13⟩
            have hB13 := bt hB12 hb13 (Nat.le_refl _)
            refine hK.out _ _ hB13 (fun hSx => ?_); clear hK K hSx
            refine tkD 44 118 (v := ?_) rfl (by kernel_rfl) (fun _ _ _ h => h) rfl (by rfl) (by assumption) ?_ ?_; rotate_left; (intro w hSw; (try dsimp only at hSw); go_simp; try (with_reducible rfl)); simp only [List.setIfInBounds_toArray, List.set_cons_zero, List.set_cons_succ]
            refine tkD 45 119 (v := ?_) rfl (by kernel_rfl) (fun _ _ _ h => h) rfl (by rfl) (by assumption) ?_ ?_; rotate_left; (intro w hSw; (try dsimp only at hSw); go_simp; try (with_reducible rfl)); simp only [List.setIfInBounds_toArray, List.set_cons_zero, List.set_cons_succ]
            refine wpAnyH_done (by kernel_rfl) ?_ _
            go_wp2
            go_meet
            case rel => exact ⟨rfl, hB13⟩
          case rest =>
            obtain ⟨W11, hW11⟩ : ∃ W, W = wc := ⟨_, rfl⟩
            subst hW11
            obtain ⟨rfl, hb11⟩ := hcut
            have HB11 : Hid (Below wr.heap.size wr W11) := bt HB7.out hb11 (Nat.le_refl _)
            clear hb11 HB7 kD HPL HQU HDV HSD a0 a1 a2 a3 a4 n0 n1 n2 n3 n4 m16 m18 m19 HFB
            go_upto_region 16 with (fail)
            go_cut [138] from 120 to 138 (fun s138 wd => s138 = .bool false ∧ Hid (∃ x' : Sp, SpGd c x' (k + 1) ∧ ∃ A R, WsRel w ga gb c A R x' x' wd))
            case first =>
              by_cases hkn : k < ln
              · obtain ⟨y, hy⟩ := get_some HLN.out hkn
                obtain ⟨-, -, -, hel⟩ := HL.out.get
                obtain ⟨b, o, da, dc, oa, oc, rfl, ⟨y0, y1, y2, y3, y4, y5, y6, y7, y8⟩, hxd, hxo, hxl1, hxl2⟩ := hel k y hy
                have hfit := HFI.out k y hy
                have hkl2 : (k : Int) < (ln : Int) := by omega
                have hrpx : ∀ W', Below w.heap.size w W' → RpIs W' y.reply da dc oa oc := fun W' hW => ⟨hxd.keep hW, hxo.keep hW, hxl1, hxl2⟩
                have z0 : ∀ X, Below w.heap.size w X → X.cell? _ = some _ := fun X h => cell_keep h y0
                have z1 : ∀ X, Below w.heap.size w X → X.cell? _ = some _ := fun X h => cell_keep h y1
                have z2 : ∀ X, Below w.heap.size w X → X.cell? _ = some _ := fun X h => cell_keep h y2
                have z3 : ∀ X, Below w.heap.size w X → X.cell? _ = some _ := fun X h => cell_keep h y3
                have z4 : ∀ X, Below w.heap.size w X → X.cell? _ = some _ := fun X h => cell_keep h y4
                have z5 : ∀ X, Below w.heap.size w X → X.cell? _ = some _ := fun X h => cell_keep h y5
                have z6 : ∀ X, Below w.heap.size w X → X.cell? _ = some _ := fun X h => cell_keep h y6
                have z7 : ∀ X, Below w.heap.size w X → X.cell? _ = some _ := fun X h => cell_keep h y7
                have z8 : ∀ X, Below w.heap.size w X → X.cell? _ = some _ := fun X h => cell_keep h y8
                obtain ⟨x', hx'⟩ : ∃ x', x.feed c y = x' := ⟨_, rfl⟩
                obtain ⟨E2, hE2⟩ : ∃ e : Int, (if x.done c then 12 else 0) = e := ⟨_, rfl⟩
                have HE2 : Hid (E2 = if x.done c then 12 else 0) := hE2.symm
                have HGN : Hid (SpGd c x' (k + 1)) := by
                  show SpGd _ _ _
                  rw [← hx']
                  exact hgd.out.feed HOK.out.win hfit
                have hr0 := (HR.out.keep HB11.out).keep (Below.refl W11.heap.size W11).drew
                have HR0 := hid hr0
                have kD : Below w.heap.size w W11.drew := hr0.bel
                have hfa := swfeed_any HE.out hr0.a hgd.out (by omega) y da dc oa oc (fun W hK => hrpx W (hr0.bel.trans (hK.below hr0.bel.size (fun j hj e => by have := (hr0.la j e).1; omega)))) hfit E2 HE2
                rw [hx'] at hfa
                have HFA := hid hfa
                have HFB : Hid (∀ X R', RsAt R' w X gb c x → Calls Tryz.prog 19 #[.pointer (some ⟨gb, 0, none⟩), .agg #[.int .i64 y.verdict, .int .i64 y.reply.fn, .int .i64 y.reply.exc, .slice da y.reply.data.length dc, .int .i64 y.reply.code, .int .i64 y.reply.level, .bool y.reply.more, .int .i64 y.reply.next, .slice oa y.reply.objs.length oc]] X (RsfPost R' w X gb c x' E2)) := fun X R' hX => by
                  rw [← hx']
                  exact rsfeed_s HE.out hX hgd.out (by omega) y da dc oa oc (hrpx w (Below.refl _ _)) hfit E2 HE2
                clear hel hy hxd hxo hxl1 hxl2 hrpx y0 y1 y2 y3 y4 y5 y6 y7 y8 hx' hE2 hr0 hfit hfa
                refine wp_region_held_drew (S := fun V => Below w.heap.size w V) (by kernel_rfl) kD (fun hH => ?_)
                refine tkD 0 120 (v := ?_) rfl (by kernel_rfl) (fun _ _ _ h => h) rfl (by rfl) (by assumption) ?_ ?_; rotate_left; (intro w hSw; (try dsimp only at hSw); go_simp; try (with_reducible rfl)); simp only [List.setIfInBounds_toArray, List.set_cons_zero, List.set_cons_succ]
                refine tkD 1 121 (v := ?_) rfl (by kernel_rfl) (fun _ _ _ h => h) rfl (by rfl) (by assumption) ?_ ?_; rotate_left; (intro w hSw; (try dsimp only at hSw); go_simp; try (with_reducible rfl)); simp only [List.setIfInBounds_toArray, List.set_cons_zero, List.set_cons_succ]
                refine tkD 2 122 (v := ?_) rfl (by kernel_rfl) (fun _ _ _ h => h) rfl (by rfl) (by assumption) ?_ ?_; rotate_left; (intro w hSw; (try dsimp only at hSw); go_simp; try (with_reducible rfl)); simp only [List.setIfInBounds_toArray, List.set_cons_zero, List.set_cons_succ]
                refine tkD 3 123 (v := ?_) rfl (by kernel_rfl) (fun _ _ _ h => h) rfl (by rfl) (by assumption) ?_ ?_; rotate_left; (intro w hSw; (try dsimp only at hSw); go_simp; try (with_reducible rfl)); simp only [List.setIfInBounds_toArray, List.set_cons_zero, List.set_cons_succ]
                refine tkD 4 124 (v := ?_) rfl (by kernel_rfl) (fun _ _ _ h => h) rfl (by rfl) (by assumption) ?_ ?_; rotate_left; (intro w hSw; (try dsimp only at hSw); go_simp; try (with_reducible rfl)); simp only [List.setIfInBounds_toArray, List.set_cons_zero, List.set_cons_succ]
                refine tkD 5 125 (v := ?_) rfl (by kernel_rfl) (fun _ _ _ h => h) rfl (by rfl) (by assumption) ?_ ?_; rotate_left; (intro w hSw; (try dsimp only at hSw); go_simp; try (with_reducible rfl)); simp only [List.setIfInBounds_toArray, List.set_cons_zero, List.set_cons_succ]
                refine tkD 6 126 (v := ?_) rfl (by kernel_rfl) (fun _ _ _ h => h) rfl (by rfl) (by assumption) ?_ ?_; rotate_left; (intro w hSw; (try dsimp only at hSw); go_simp; try (with_reducible rfl)); simp only [List.setIfInBounds_toArray, List.set_cons_zero, List.set_cons_succ]
                refine tkD 7 127 (v := ?_) rfl (by kernel_rfl) (fun _ _ _ h => h) rfl (by rfl) (by assumption) ?_ ?_; rotate_left; (intro w hSw; (try dsimp only at hSw); go_simp; try (with_reducible rfl)); simp only [List.setIfInBounds_toArray, List.set_cons_zero, List.set_cons_succ]
                refine tkD 8 128 (v := ?_) rfl (by kernel_rfl) (fun _ _ _ h => h) rfl (by rfl) (by assumption) ?_ ?_; rotate_left; (intro w hSw; (try dsimp only at hSw); go_simp; try (with_reducible rfl)); simp only [List.setIfInBounds_toArray, List.set_cons_zero, List.set_cons_succ]
                refine tkD 9 129 (v := ?_) rfl (by kernel_rfl) (fun _ _ _ h => h) rfl (by rfl) (by assumption) ?_ ?_; rotate_left; (intro w hSw; (try dsimp only at hSw); go_simp; try (with_reducible rfl)); simp only [List.setIfInBounds_toArray, List.set_cons_zero, List.set_cons_succ]
                refine tkD 11 131 (v := ?_) rfl (by kernel_rfl) (fun _ _ _ h => h) rfl (by rfl) (by assumption) ?_ ?_; rotate_left; (intro w hSw; (try dsimp only at hSw); go_simp; try (with_reducible rfl)); simp only [List.setIfInBounds_toArray, List.set_cons_zero, List.set_cons_succ]
                refine tkD 12 132 (v := ?_) rfl (by kernel_rfl) (fun _ _ _ h => h) rfl (by rfl) (by assumption) ?_ ?_; rotate_left; (intro w hSw; (try dsimp only at hSw); go_simp; try (with_reducible rfl)); simp only [List.setIfInBounds_toArray, List.set_cons_zero, List.set_cons_succ]
                refine tkD 13 133 (v := ?_) rfl (by kernel_rfl) (fun _ _ _ h => h) rfl (by rfl) (by assumption) ?_ ?_; rotate_left; (intro w hSw; (try dsimp only at hSw); go_simp; try (with_reducible rfl)); simp only [List.setIfInBounds_toArray, List.set_cons_zero, List.set_cons_succ]
                refine tkD 14 134 (v := ?_) rfl (by kernel_rfl) (fun _ _ _ h => h) rfl (by rfl) (by assumption) ?_ ?_; rotate_left; (intro w hSw; (try dsimp only at hSw); go_simp; try (with_reducible rfl)); simp only [List.setIfInBounds_toArray, List.set_cons_zero, List.set_cons_succ]
                refine tkD 15 135 (v := ?_) rfl (by kernel_rfl) (fun _ _ _ h => h) rfl (by rfl) (by assumption) ?_ ?_; rotate_left; (intro w hSw; (try dsimp only at hSw); go_simp; try (with_reducible rfl)); simp only [List.setIfInBounds_toArray, List.set_cons_zero, List.set_cons_succ]
                clear hH z0 z1 z2 z3 z4 z5 z6 z7 z8
                refine wpAnyH_ready (rs := [10]) (by kernel_rfl) (by simp) ?_; refine AllReadyH.cons rfl (fun K hK => ?_) AllReadyH.nil; go_simp
                refine HFA.out.mono ?_
                rintro r x1 hfa
                have hr1 := HR0.out.fedA hfa
                obtain ⟨rfl, -⟩ := hfa
                have hB1 := hr1.bel
                have HR1 := hid hr1
                refine hK.out _ _ hB1 (fun hSx => ?_); clear hK K hSx
                refine wpAnyH_ready (rs := [16]) (by kernel_rfl) (by simp) ?_; refine AllReadyH.cons rfl (fun K hK => ?_) AllReadyH.nil; go_simp
                refine (HFB.out _ _ HR1.out.b).mono ?_
                rintro r x2 hfb
                have hr2 := HR1.out.fedB hfb
                obtain ⟨rfl, -⟩ := hfb
                have hB2 := hr2.bel
                have HR2 := hid hr2
                refine hK.out _ _ hB2 (fun hSx => ?_); clear hK K hSx
                refine tkD 17 137 (v := ?_) rfl (by kernel_rfl) (fun _ _ _ h => h) rfl (by rfl) (by assumption) ?_ ?_; rotate_left; (intro w hSw; (try dsimp only at hSw); go_simp; try (with_reducible rfl)); simp only [List.setIfInBounds_toArray, List.set_cons_zero, List.set_cons_succ]
                refine tkD 18 138 (v := ?_) rfl (by kernel_rfl) (fun _ _ _ h => h) rfl (by rfl) (by assumption) ?_ ?_; rotate_left; (intro w hSw; (try dsimp only at hSw); go_simp; try (with_reducible rfl)); simp only [List.setIfInBounds_toArray, List.set_cons_zero, List.set_cons_succ]
                refine wpAnyH_done (by kernel_rfl) ?_ _
                go_wp2
                go_meet
                case rel => exact ⟨rfl, x', HGN.out, _, _, HR2.out⟩
              · have dk : decide (k < ln) = false := decide_eq_false hkn
                have hr0 := HR.out.keep HB11.out
                have HEX : Hid (∀ n, ∃ x' : Sp, SpGd c x' (k + 1) ∧ ∃ A R, WsRel w ga gb c A R x' x' (W11.drewN n)) := fun n => ⟨x, hgd.out.up (Nat.le_succ _), A, RR, hr0.keep (below_drewN (Below.refl _ _) _)⟩
                clear hkn hr0
                go_quiet (fail)
                go_wp2
                go_meet
                case rel => exact ⟨rfl, HEX.out _⟩
            case rest =>
              obtain ⟨rfl, hex⟩ := hcut
              have HEX := hid hex.out
              clear hex
              go_wp2
              go_roundw
              case rel =>
                obtain ⟨x', h1, h2⟩ := HEX.out
                exact ⟨k + 1, x', by go_num, by omega, h1, h2⟩
              case measure => simp [intOf]; omega
        · have hbel := HR.out.bel
          have hkl : ¬ (k : Int) ≤ (ln : Int) := by omega
          clear hk
          go_wp2_with (go_at_call 8; (with_reducible refine (HAW.out _).mono ?_); rintro r w2 ⟨rfl, hb2⟩)
          go_ret
          exact ⟨rfl, bt hbel hb2 (Nat.le_refl _)⟩
    · have HNA2 : Hid (Calls Tryz.prog 9 #[.agg C] w1 fun r w' => r = .returned (.tuple #[.pointer none, .int .i64 E]) ∧ Below w1.heap.size w1 w') := HNA.out.mono fun r w' h => by
        obtain ⟨⟨-, h1⟩ | ⟨h1, -⟩, h3⟩ := h
        · exact ⟨h1, h3⟩
        · exact absurd h1 he
      have g1 : (E != 0) = true := by rw [bne_iff_ne]; exact he
      clear he HNA
      have y0 : ∀ X, Below w1.heap.size w1 X → X.cell? ⟨w.heap.size, 0, none⟩ = some (.slice sa c.sets.length sc) := fun X hX => by rw [hpCell (hpKeep P1.out hX), ← HC.out]; rfl
      have y1 : ∀ X, Below w1.heap.size w1 X → X.cell? ⟨w.heap.size, 1, none⟩ = some (.int .i64 c.fi) := fun X hX => by rw [hpCell (hpKeep P1.out hX), ← HC.out]; rfl
      have y2 : ∀ X, Below w1.heap.size w1 X → X.cell? ⟨w.heap.size, 2, none⟩ = some (.int .i64 c.la) := fun X hX => by rw [hpCell (hpKeep P1.out hX), ← HC.out]; rfl
      have y3 : ∀ X, Below w1.heap.size w1 X → X.cell? ⟨w.heap.size, 3, none⟩ = some (.int .i64 c.re) := fun X hX => by rw [hpCell (hpKeep P1.out hX), ← HC.out]; rfl
      have y4 : ∀ X, Below w1.heap.size w1 X → X.cell? ⟨w.heap.size, 4, none⟩ = some (.int .i64 c.ti) := fun X hX => by rw [hpCell (hpKeep P1.out hX), ← HC.out]; rfl
      have y5 : ∀ X, Below w1.heap.size w1 X → X.cell? ⟨w.heap.size, 5, none⟩ = some (.int .i64 c.de) := fun X hX => by rw [hpCell (hpKeep P1.out hX), ← HC.out]; rfl
      have y6 : ∀ X, Below w1.heap.size w1 X → X.cell? ⟨w.heap.size, 6, none⟩ = some (.int .i64 (c.win 0).1) := fun X hX => by rw [hpCell (hpKeep P1.out hX), ← HC.out]; rfl
      have y7 : ∀ X, Below w1.heap.size w1 X → X.cell? ⟨w.heap.size, 7, none⟩ = some (.int .i64 (c.win 0).2) := fun X hX => by rw [hpCell (hpKeep P1.out hX), ← HC.out]; rfl
      have y8 : ∀ X, Below w1.heap.size w1 X → X.cell? ⟨w.heap.size, 8, none⟩ = some (.int .i64 (c.win 1).1) := fun X hX => by rw [hpCell (hpKeep P1.out hX), ← HC.out]; rfl
      have y9 : ∀ X, Below w1.heap.size w1 X → X.cell? ⟨w.heap.size, 9, none⟩ = some (.int .i64 (c.win 1).2) := fun X hX => by rw [hpCell (hpKeep P1.out hX), ← HC.out]; rfl
      have y10 : ∀ X, Below w1.heap.size w1 X → X.cell? ⟨w.heap.size, 10, none⟩ = some (.int .i64 (c.win 2).1) := fun X hX => by rw [hpCell (hpKeep P1.out hX), ← HC.out]; rfl
      have y11 : ∀ X, Below w1.heap.size w1 X → X.cell? ⟨w.heap.size, 11, none⟩ = some (.int .i64 (c.win 2).2) := fun X hX => by rw [hpCell (hpKeep P1.out hX), ← HC.out]; rfl
      have y12 : ∀ X, Below w1.heap.size w1 X → X.cell? ⟨w.heap.size, 12, none⟩ = some (.int .i64 (c.win 3).1) := fun X hX => by rw [hpCell (hpKeep P1.out hX), ← HC.out]; rfl
      have y13 : ∀ X, Below w1.heap.size w1 X → X.cell? ⟨w.heap.size, 13, none⟩ = some (.int .i64 (c.win 3).2) := fun X hX => by rw [hpCell (hpKeep P1.out hX), ← HC.out]; rfl
      have y14 : ∀ X, Below w1.heap.size w1 X → X.cell? ⟨w.heap.size, 14, none⟩ = some (.int .i64 c.ev) := fun X hX => by rw [hpCell (hpKeep P1.out hX), ← HC.out]; rfl
      have y15 : ∀ X, Below w1.heap.size w1 X → X.cell? ⟨w.heap.size, 15, none⟩ = some (.int .i64 c.st) := fun X hX => by rw [hpCell (hpKeep P1.out hX), ← HC.out]; rfl
      have HCX : Hid (∀ X, Below w1.heap.size w1 X → Calls Tryz.prog 10 #[.agg #[.slice sa c.sets.length sc, .int .i64 c.fi, .int .i64 c.la, .int .i64 c.re, .int .i64 c.ti, .int .i64 c.de, .int .i64 (c.win 0).1, .int .i64 (c.win 0).2, .int .i64 (c.win 1).1, .int .i64 (c.win 1).2, .int .i64 (c.win 2).1, .int .i64 (c.win 2).2, .int .i64 (c.win 3).1, .int .i64 (c.win 3).2, .int .i64 c.ev, .int .i64 c.st]] X (IntPost X E)) := fun X hX => by
        have h := HCK.out X hX
        rw [← HC.out] at h
        exact h
      go_wp2_with (first
        | (refine wpList_load_row rfl 27 (.tmp 2) rfl w.heap.size rfl 27 C (0, 0) _ P1.out Tryz.underlying27 rfl hi ?_)
        | (refine wpList_load_row rfl 27 (.tmp 2) rfl w.heap.size rfl 27 C (0, 0) _ P2.out Tryz.underlying27 rfl hi ?_)
        | (refine wpList_load_row rfl 27 (.tmp 2) rfl w.heap.size rfl 27 C (0, 0) _ P4.out Tryz.underlying27 rfl hi ?_)
        | (go_at_call 9; (with_reducible refine HNA2.out.mono ?_); rintro r w2 ⟨rfl, hb2⟩; have P2 := hid (hpKeep P1.out hb2))
        | (go_at_call 10; (with_reducible refine (HCK.out _ hb2).mono ?_); rintro r w3 ⟨rfl, hb3⟩)
        | (go_at_call 8; (with_reducible refine (HAW.out _).mono ?_); rintro r w4 ⟨rfl, hb4⟩; have hB4 := bt (bt hb2 hb3 (Nat.le_refl _)) hb4 (Nat.le_refl _); have P4 := hid (hpKeep P1.out hB4))
        | (go_at_call 10; (with_reducible refine (HCX.out _ hB4).mono ?_); rintro r w5 ⟨rfl, hb5⟩))
      go_ret
      exact ⟨rfl, bt (bt HB1.out hB4 (Nat.le_refl _)) hb5 (Nat.le_refl _)⟩

end Go.Proofs.YtipnamoocemeeaaGreat
