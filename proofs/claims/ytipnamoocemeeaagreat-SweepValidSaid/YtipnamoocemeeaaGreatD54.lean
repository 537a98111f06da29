/-
  Texts 54 of the claim.
-/
import Derived.Test.YtipnamoocemeeaaGreatD46
import Derived.Test.YtipnamoocemeeaaGreatD53
import Derived.Deep.CutRange
namespace Go.Proofs.YtipnamoocemeeaaGreat
open Go.RowKit
structure SvCtx (C : Array Value) (c : Cf) (l : List Sl) (lv : Value) (U : Int) (cb : Nat) (W1 : World) : Prop where
  chk : chkE c = 0
  w12 : ∀ k, k < 4 → (c.win k).2 ≤ 12
  bus : BusP l
  pc : W1.heap[cb]? = some (.cells C 27)
  un : ∀ X, Below W1.heap.size W1 X → Calls Tryz.prog 35 #[.agg C] X (IntPost X (c.units : Int))
  bu : ∀ X, Below W1.heap.size W1 X → Calls Tryz.prog 36 #[.agg C] X (IntPost X U)
  nw : ∀ X, Below W1.heap.size W1 X → Calls Tryz.prog 9 #[.agg C] X fun r w' => ∃ g : Nat, r = .returned (.tuple #[.pointer (some ⟨g, 0, none⟩), .int .i64 0]) ∧ SwAt (Grw (fun _ => False) X w') w' g c Sp.ini ∧ Below X.heap.size X w'
  an : ∀ X (bd pa un : Int) (q : Rq) (ms : List Nat), Below W1.heap.size W1 X → wfI bd → wfI pa → q.ok = true → memb l bd pa un l.length = ms → (∀ j s, ms = [j] → l[j]? = some s → q.fn = 43 → q.code = 3 ∧ (0 < s.lv → fromO q.obj s.objs ≠ [])) →
    Calls Tryz.prog 37 #[lv, .agg #[.int .i64 bd, .int .i64 pa], .int .i64 un, .agg #[.int .i64 q.fn, .int .i64 q.addr, .int .i64 q.qty, .int .i64 q.code, .int .i64 q.obj]] X (AwPost X l ms q)
structure SvpRel (W1 : World) (l : List Sl) (U : Int) (g : Nat) (c : Cf) (P : Nat → Prop) (x : Sp) (k qb : Nat) (rq : Rq) (wr : World) : Prop where
  sv : SvS c l U x k
  a : SwAt P wr g c x
  lo : ∀ j, P j → W1.heap.size ≤ j ∧ j < wr.heap.size
  q : wr.heap[qb]? = some (.cells #[.int .i64 rq.fn, .int .i64 rq.addr, .int .i64 rq.qty, .int .i64 rq.code, .int .i64 rq.obj] 39)
  qn : ¬ P qb
  ql : W1.heap.size ≤ qb
  bel : Below W1.heap.size W1 wr
theorem SvpRel.keep {W1 : World} {l : List Sl} {U : Int} {g : Nat} {c : Cf} {P : Nat → Prop} {x : Sp} {k qb : Nat} {rq : Rq} {wr W : World} (h : SvpRel W1 l U g c P x k qb rq wr) (hb : Below wr.heap.size wr W) : SvpRel W1 l U g c P x k qb rq W :=
  ⟨h.sv, h.a.keep (F := fun _ => False) (Keeps.of_below hb) (fun _ _ e => e.elim), fun j hj => ⟨(h.lo j hj).1, Nat.lt_of_lt_of_le (h.lo j hj).2 hb.size⟩, hpKeep h.q hb, h.qn, h.ql, bt h.bel hb (Nat.le_refl _)⟩
def SvMid (W2 : World) (l : List Sl) (ms : List Nat) (ob : Nat) (wc : World) : Prop :=
  ∃ (O : Oc) (da : Option Addr) (dc : Nat) (oa : Option Addr) (oc : Nat), wc.heap[ob]? = some (.cells #[.int .i64 O.verdict, .int .i64 O.reply.fn, .int .i64 O.reply.exc, .slice da O.reply.data.length dc, .int .i64 O.reply.code, .int .i64 O.reply.level, .bool O.reply.more, .int .i64 O.reply.next, .slice oa O.reply.objs.length oc] 55) ∧ W2.heap.size ≤ ob ∧ O.jr ∧ (O.verdict = 1 → ∃ j s, ms = [j] ∧ l[j]? = some s ∧ RpJ s O.reply) ∧ (∀ W, Agree W2.heap.size wc W → RpIs W O.reply da dc oa oc) ∧ Below W2.heap.size W2 wc
theorem SvMid.mk {W2 y y3 y5 : World} {l : List Sl} {ms : List Nat} {q : Rq} {ob : Nat} {O : Oc} {da : Option Addr} {dc : Nat} {oa : Option Addr} {oc : Nat} (e1 : W2.heap.size ≤ y.heap.size) (e2 : ∀ W, Agree y.heap.size y3 W → RpIs W O.reply da dc oa oc) (e3 : ob < y.heap.size ∨ y3.heap.size ≤ ob)
    (e4 : W2.heap.size ≤ ob) (e5 : Keeps (· = ob) y3 y5) (e6 : O.jr) (e7 : O.verdict = 1 → ∃ j s, ms = [j] ∧ l[j]? = some s ∧ Ans s q O ∧ RpJ s O.reply) (e8 : y5.heap[ob]? = some (.cells #[.int .i64 O.verdict, .int .i64 O.reply.fn, .int .i64 O.reply.exc, .slice da O.reply.data.length dc, .int .i64 O.reply.code, .int .i64 O.reply.level, .bool O.reply.more, .int .i64 O.reply.next, .slice oa O.reply.objs.length oc] 55)) (e9 : Below W2.heap.size W2 y5) : SvMid W2 l ms ob y5 :=
  ⟨O, da, dc, oa, oc, e8, e4, e6, fun h => by obtain ⟨j, s, h1, h2, -, h3⟩ := e7 h; exact ⟨j, s, h1, h2, h3⟩, fun W hW => e2 W (Agree.of_out e5 e3 e1 hW), e9⟩
def NxEq (c : Cf) (x : Sp) (a b : Int) (rq : Rq) (D : Bool) : Prop := (x.at_ < c.units → a = c.pSet x.at_ ∧ b = c.pUnit x.at_ ∧ rq = x.pb.ph.ask ∧ D = true) ∧ (¬ x.at_ < c.units → D = false)
theorem nx_two (c : Cf) (x : Sp) : ∃ (a b : Int) (q : Rq) (D : Bool), NxEq c x a b q D ∧ ∀ w r w', NxPost w c x r w' → r = .returned (.tuple #[.int .i64 a, .int .i64 b, .agg #[.int .i64 q.fn, .int .i64 q.addr, .int .i64 q.qty, .int .i64 q.code, .int .i64 q.obj], .bool D]) ∧ Below w.heap.size w w' := by
  by_cases h : x.at_ < c.units
  · refine ⟨c.pSet x.at_, c.pUnit x.at_, x.pb.ph.ask, true, ⟨fun _ => ⟨rfl, rfl, rfl, rfl⟩, fun e => absurd h e⟩, fun w r w' hp => ?_⟩
    obtain ⟨h1, h2⟩ := hp
    rw [if_pos h] at h1
    exact ⟨h1, h2⟩
  · refine ⟨0, 0, ⟨0, 0, 0, 0, 0⟩, false, ⟨fun e => absurd e h, fun _ => rfl⟩, fun w r w' hp => ?_⟩
    obtain ⟨h1, h2⟩ := hp
    rw [if_neg h] at h1
    exact ⟨h1, h2⟩
set_option maxRecDepth 100000 in
set_option maxHeartbeats 12800000 in
theorem Walk.sweepValid {w : World} (cs : Array Value) (hr : Rd Tryz.prog w 27 cs.toList) (lv : Value) (hrl : Rd Tryz.prog w 77 [lv]) (pv : Value) (hrp : Rd Tryz.prog w 50 [pv]) :
    Calls Tryz.prog 6 #[.agg cs, lv, pv] w fun r w' => r = .returned (.bool true) ∧ Below w.heap.size w w' := by
  obtain ⟨c, sv, rfl, hst, -⟩ := cf_rd hr
  obtain ⟨sa, sc, rfl⟩ := hst.slc
  obtain ⟨l, hl⟩ := slvs_rd hrl
  obtain ⟨la, lc, rfl⟩ := hl.slc
  obtain ⟨pl, hpl⟩ := Bs.of_rd Tryz.underlying50 Tryz.underlying5 (by kernel_rfl) hrp
  obtain ⟨pa, pc, rfl, -⟩ := id hpl
  obtain ⟨C, hC⟩ : ∃ C, CfC c (.slice sa c.sets.length sc) = C := ⟨_, rfl⟩
  have hi : (Tryz.prog.info? 27).map (·.size) = some C.size := by rw [← hC]; exact infoCf
  obtain ⟨W1, hW1⟩ : ∃ W, w.alloc (.cells C 27) = W := ⟨_, rfl⟩
  have hb1 : Below w.heap.size w W1 := by rw [← hW1]; exact bal' w _
  have p1 : W1.heap[w.heap.size]? = some (.cells C 27) := by rw [← hW1]; exact hpNew w _
  have HAW : Hid (∀ X, Calls Tryz.prog 8 #[] X (BoolPost X true)) := fun X => awake33_any X
  obtain ⟨V1, hV1, hVL⟩ := mvalid_s c
  obtain ⟨V2, hV2, hSL⟩ := mslaves_any l 5
  obtain ⟨V3, hV3, hBU⟩ := rbus_any l
  have HVL : Hid (Calls Tryz.prog 20 #[.agg C] W1 (BoolPost W1 V1)) := by rw [← hC]; exact hVL W1 _ (hst.keep hb1)
  have HSL : Hid (∀ X, Below W1.heap.size W1 X → Calls Tryz.prog 33 #[.slice la l.length lc, .int .i64 5] X (MsPost X V2)) := fun X hX => hSL X _ (hl.keep (bt hb1 hX (Nat.le_refl _)))
  have HBU : Hid (∀ X, Below W1.heap.size W1 X → Calls Tryz.prog 34 #[.slice la l.length lc] X (BoolPost X V3)) := fun X hX => hBU X _ (hl.keep (bt hb1 hX (Nat.le_refl _)))
  obtain ⟨U, hU⟩ : ∃ U, unitS c.win 4 = U := ⟨_, rfl⟩
  have HCX : Hid (V1 = true → V3 = true → SvCtx C c l (.slice la l.length lc) U w.heap.size W1) := fun h1 h3 =>
    ⟨(hV1 h1).1, (hV1 h1).2, hV3.1 h3, p1,
    fun X hX => by rw [← hC]; exact punits_ok c (hV1 h1).1 _ X (hst.keep (bt hb1 hX (Nat.le_refl _))),
    fun X hX => by rw [← hC]; exact unitc_any c (hV1 h1).1 (hV1 h1).2 _ X (hst.keep (bt hb1 hX (Nat.le_refl _))) U hU,
    fun X hX => by
      rw [← hC]
      refine (swnew_any c _ X (hst.keep (bt hb1 hX (Nat.le_refl _))) (by have := (Cf.ok_of (hV1 h1).1).s6; omega) 0 (hV1 h1).1).mono fun r w' h => ?_
      obtain ⟨h1 | ⟨-, g, h1, h2⟩, h3⟩ := h
      · exact absurd rfl h1.1
      · exact ⟨g, h1, h2, h3⟩,
    fun X bd pa un q ms hX e1 e2 e3 e4 e5 => answer_any l (hV3.1 h3) la lc l.length rfl bd pa un e1 e2 q e3 ms e4 e5 X (hl.keep (bt hb1 hX (Nat.le_refl _)))⟩
  have HW1 := hid hW1
  have HB1 := hid hb1
  have P1 := hid p1
  have HU := hid hU
  have HST := hid hst
  have HPL := hid hpl
  have HCC := hid hC
  obtain ⟨ln, hln⟩ : ∃ n, l.length = n := ⟨_, rfl⟩
  obtain ⟨pn, hpn⟩ : ∃ n, pl.length = n := ⟨_, rfl⟩
  obtain ⟨sn, hsn⟩ : ∃ n, c.sets.length = n := ⟨_, rfl⟩
  have HPN := hid hpn
  have HSN := hid hsn
  have hpn64 : pn ≤ 9223372036854775807 := by have := hpl.len; rw [hpn] at this; unfold maxLen at this; omega
  rw [hC]
  rw [hln] at HSL HBU HCX ⊢
  rw [hpn]
  clear hr hrl hrp hst hl hpl hC hW1 hb1 p1 hV1 hVL hV2 hSL hV3 hBU hU hln hpn hsn
  cases V1 with
  | false =>
    go_enter Tryz.func6, Tryz.ntmps6
    go_upto_region 1 with (fail)
    rw [HW1.out]
    go_wp2_with (first
      | (refine wpList_load_row rfl 27 (.tmp 3) rfl w.heap.size rfl 27 C (0, 0) _ P1.out Tryz.underlying27 rfl hi ?_)
      | (go_at_call 20; (with_reducible refine HVL.out.mono ?_); rintro r w2 ⟨rfl, hb2⟩)
      | (go_at_call 8; (with_reducible refine (HAW.out _).mono ?_); rintro r w3 ⟨rfl, hb3⟩))
    go_ret
    exact ⟨rfl, bt (bt HB1.out hb2 (Nat.le_refl _)) hb3 (Nat.le_refl _)⟩
  | true =>
  cases V2 with
  | false =>
    go_enter Tryz.func6, Tryz.ntmps6
    go_upto_region 1 with (fail)
    rw [HW1.out]
    go_wp2_with (first
      | (refine wpList_load_row rfl 27 (.tmp 3) rfl w.heap.size rfl 27 C (0, 0) _ P1.out Tryz.underlying27 rfl hi ?_)
      | (go_at_call 20; (with_reducible refine HVL.out.mono ?_); rintro r w2 ⟨rfl, hb2⟩)
      | (go_at_call 33; (with_reducible refine (HSL.out _ hb2).mono ?_); rintro r w4 ⟨rfl, rfl⟩)
      | (go_at_call 8; (with_reducible refine (HAW.out _).mono ?_); rintro r w3 ⟨rfl, hb3⟩))
    go_ret
    exact ⟨rfl, bt (bt HB1.out hb2 (Nat.le_refl _)) hb3 (Nat.le_refl _)⟩
  | true =>
  cases V3 with
  | false =>
    go_enter Tryz.func6, Tryz.ntmps6
    go_upto_region 1 with (fail)
    rw [HW1.out]
    go_wp2_with (first
      | (refine wpList_load_row rfl 27 (.tmp 3) rfl w.heap.size rfl 27 C (0, 0) _ P1.out Tryz.underlying27 rfl hi ?_)
      | (go_at_call 20; (with_reducible refine HVL.out.mono ?_); rintro r w2 ⟨rfl, hb2⟩)
      | (go_at_call 33; (with_reducible refine (HSL.out _ hb2).mono ?_); rintro r w4 ⟨rfl, rfl⟩)
      | (go_at_call 34; (with_reducible refine (HBU.out _ hb2).mono ?_); rintro r w5 ⟨rfl, hb5⟩)
      | (go_at_call 8; (with_reducible refine (HAW.out _).mono ?_); rintro r w3 ⟨rfl, hb3⟩))
    go_ret
    exact ⟨rfl, bt (bt (bt HB1.out hb2 (Nat.le_refl _)) hb5 (Nat.le_refl _)) hb3 (Nat.le_refl _)⟩
  | true =>
    have HX := hid (HCX.out rfl rfl)
    clear HCX
    have HOK := hid (Cf.ok_of HX.out.chk)
    have HW12 := hid (Cf.okw HX.out.chk HX.out.w12)
    obtain ⟨UN, hUN⟩ : ∃ n, c.units = n := ⟨_, rfl⟩
    have HUN := hid hUN
    have hUNb : 1 ≤ UN ∧ UN ≤ 1482 := by
      have h := HOK.out.units_bd
      omega
    have hUb : 34 ≤ U ∧ U ≤ 418 := by
      have h := unitS_bd HW12.out 4 (Nat.le_refl _)
      rw [HU.out] at h
      omega
    obtain ⟨NU, hNU⟩ : ∃ n, (UN : Int) * U = n := ⟨_, rfl⟩
    have hNUb : 0 ≤ NU ∧ NU ≤ 619476 := by
      have h1 : (UN : Int) * U ≤ 1482 * 418 := Int.mul_le_mul (by omega) hUb.2 (by omega) (by decide)
      have h2 : (0 : Int) ≤ (UN : Int) * U := Int.mul_nonneg (by omega) (by omega)
      omega
    have HNU := hid hNU
    have HNB := hid hNUb
    have HUNB := hid hUNb
    clear hUN hUNb hUb hNU hNUb
    go_enter Tryz.func6, Tryz.ntmps6
    go_upto_region 1 with (fail)
    rw [HW1.out]
    go_upto_region 3 with (first
      | (refine wpList_load_row rfl 27 (.tmp 3) rfl w.heap.size rfl 27 C (0, 0) _ P1.out Tryz.underlying27 rfl hi ?_)
      | (go_at_call 20; (with_reducible refine HVL.out.mono ?_); rintro r w2 ⟨rfl, hb2⟩)
      | (go_at_call 33; (with_reducible refine (HSL.out _ hb2).mono ?_); rintro r w4 ⟨rfl, rfl⟩)
      | (go_at_call 34; (with_reducible refine (HBU.out _ hb2).mono ?_); rintro r w5 ⟨rfl, hb5⟩))
    have hB5 := bt hb2 hb5 (Nat.le_refl _)
    have P5 := hid (hpKeep HX.out.pc hB5)
    have HB5 := hid hB5
    have HNA := hid (HX.out.nw w5 hB5)
    clear hb2 hb5 hB5 HVL HSL HBU HW1 P1
    obtain ⟨a0, b0, rq0, D0, hne0, hone0⟩ := nx_two c Sp.ini
    have HONE := hid hone0
    have HNE := hid hne0
    clear hone0 hne0
    have HNX : Hid (∀ X g, SwAt (Grw (fun _ => False) w5 X) X g c Sp.ini → Calls Tryz.prog 12 #[.pointer (some ⟨g, 0, none⟩)] X fun r w' => r = .returned (.tuple #[.int .i64 a0, .int .i64 b0, .agg #[.int .i64 rq0.fn, .int .i64 rq0.addr, .int .i64 rq0.qty, .int .i64 rq0.code, .int .i64 rq0.obj], .bool D0]) ∧ Below X.heap.size X w') := fun X g h => (snext_sw HX.out.chk h (fun _ => ⟨trivial, rfl⟩) (Nat.zero_le _)).mono fun r w' h => HONE.out _ _ _ h
    go_upto_region 8 with (first
      | (refine wpList_load_row rfl 27 (.tmp 3) rfl w.heap.size rfl 27 C (0, 0) _ P5.out Tryz.underlying27 rfl hi ?_)
      | (go_at_call 9; (with_reducible refine HNA.out.mono ?_); rintro r w6 ⟨g, rfl, hsa, hb6⟩)
      | (go_at_call 12; (with_reducible refine (HNX.out _ _ hsa).mono ?_); rintro r w7 ⟨rfl, hb7⟩))
    obtain ⟨W8, hW8⟩ : ∃ W, w7.alloc (.cells #[.int .i64 rq0.fn, .int .i64 rq0.addr, .int .i64 rq0.qty, .int .i64 rq0.code, .int .i64 rq0.obj] 39) = W := ⟨_, rfl⟩
    have hb8 : Below w6.heap.size w6 W8 := by rw [← hW8]; exact bta hb7 (Nat.le_refl _) _
    have p8 : W8.heap[w7.heap.size]? = some (.cells #[.int .i64 rq0.fn, .int .i64 rq0.addr, .int .i64 rq0.qty, .int .i64 rq0.code, .int .i64 rq0.obj] 39) := by rw [← hW8]; exact hpNew w7 _
    have hrl0 : SvpRel W1 l U g c (Grw (fun _ => False) w5 w6) Sp.ini 0 w7.heap.size rq0 W8 := by
      have e1 := HB5.out.size
      have e2 := hb6.size
      have e3 := hb7.size
      have e4 := hb8.size
      exact ⟨SvS.ini c l HU.out, hsa.keep (F := fun _ => False) (Keeps.of_below hb8) (fun _ _ e => e.elim), fun j hj => by
        rcases hj with hj | hj
        · exact hj.elim
        · omega, p8, fun hj => by
        rcases hj with hj | hj
        · exact hj.elim
        · omega, by omega, bt (bt HB5.out hb6 (Nat.le_refl _)) hb8 (Nat.le_refl _)⟩
    rw [hW8]
    have HR0 := hid hrl0
    clear hW8 hb8 p8 hrl0 hsa hb6 hb7 HNX HNA HONE P5
    generalize w7.heap.size = qb0 at *
    go_loopw [9, 10, 11, 12, 13] (fun nv av bv qv dv wr => ∃ (k : Nat) (x : Sp) (P : Nat → Prop) (a b : Int) (qb : Nat) (rq : Rq) (D : Bool), nv = .int .i64 (k : Int) ∧ av = .int .i64 a ∧ bv = .int .i64 b ∧ qv = .pointer (some ⟨qb, 0, none⟩) ∧ dv = .bool D ∧ (k : Int) ≤ NU ∧ Hid (SvpRel W1 l U g c P x k qb rq wr) ∧ Hid (NxEq c x a b rq D)) (fun nv _ _ _ _ _ => NU.toNat - (intOf nv).toNat)
    case atStart => exact ⟨0, Sp.ini, _, a0, b0, qb0, rq0, D0, rfl, rfl, rfl, rfl, rfl, HNB.out.1, HR0.out, HNE.out⟩
    case round =>
      clear HR0 HNE
      obtain ⟨k, x, P, a, b, qb, rq, D, rfl, rfl, rfl, rfl, rfl, hkN, hrl, hne⟩ := hrel
      have hki : (0 : Int) ≤ (k : Int) := Int.natCast_nonneg _
      have hnb := HNB.out
      by_cases hlt : x.at_ < c.units
      · obtain ⟨e1, e2, e3, rfl⟩ := hne.out.1 hlt
        obtain ⟨hkl, -⟩ := hrl.out.sv.less HW12.out hlt
        rw [HUN.out, HNU.out] at hkl
        obtain ⟨s1, s2⟩ := HOK.out.pSet_bd hlt
        rw [← e1] at s1 s2
        rw [HSN.out] at s2
        have d1 : decide (a < 0) = false := decide_eq_false (by omega)
        have d2 : decide ((sn : Int) ≤ a) = false := decide_eq_false (by omega)
        have d3 : decide (NU ≤ (k : Int)) = false := decide_eq_false (by omega)
        have HE1 := hid e1
        have HE2 := hid e2
        have HE3 := hid e3
        have HLT := hid hlt
        have HS12 : Hid (0 ≤ a ∧ a < (sn : Int)) := ⟨s1, s2⟩
        have HKL := hid hkl
        have hbel := hrl.out.bel
        have HRWc : Hid (∀ X, Below wr.heap.size wr X → ∀ j v, C.toList[j]? = some v → X.cell? ((⟨w.heap.size, 0, none⟩ : Addr).add j) = some v) := fun X hX => hpRowAt2 (hpKeep HX.out.pc (bt hbel hX (Nat.le_refl _)))
        have c0 : ∀ X, Below wr.heap.size wr X → X.cell? ⟨w.heap.size, 0, none⟩ = some (.slice sa sn sc) := fun X hX => by rw [hpCell (hpKeep HX.out.pc (bt hbel hX (Nat.le_refl _))), ← HCC.out, ← HSN.out]; rfl
        have HUNc : Hid (∀ X, Below wr.heap.size wr X → Calls Tryz.prog 35 #[.agg C] X (IntPost X (UN : Int))) := fun X hX => by rw [← HUN.out]; exact HX.out.un X (bt hbel hX (Nat.le_refl _))
        have HBUc : Hid (∀ X, Below wr.heap.size wr X → Calls Tryz.prog 36 #[.agg C] X (IntPost X U)) := fun X hX => HX.out.bu X (bt hbel hX (Nat.le_refl _))
        have sw1 : IntKind.i64.wrap ((UN : Int) * U) = NU := (IntWalk.i64_in _ (by rw [HNU.out]; omega)).trans HNU.out
        have kD : Below wr.heap.size wr wr.drew := (Below.refl _ _).drew
        clear e1 e2 e3 hlt s1 s2 hkl hne hbel
        go_upto_region 10 with (fail)
        go_cut [75] from 58 to 75 (fun s75 wc => s75 = .bool false ∧ Below wr.heap.size wr wc)
        case first =>
          refine wp_region_held_drew (S := fun V => Below wr.heap.size wr V) (by kernel_rfl) kD (fun hH => ?_)
          clear hH
          refine tkD 0 58 (v := ?_) rfl (by kernel_rfl) (fun _ _ _ h => h) rfl (by rfl) (by assumption) ?_ ?_; rotate_left; (intro w hSw; (try dsimp only at hSw); go_simp; try (with_reducible rfl)); simp only [List.setIfInBounds_toArray, List.set_cons_zero, List.set_cons_succ]
          refine tkD 1 59 (v := ?_) rfl (by kernel_rfl) (fun _ _ _ h => h) rfl (by rfl) (by assumption) ?_ ?_; rotate_left; (intro w hSw; (try dsimp only at hSw); go_simp; try (with_reducible rfl)); simp only [List.setIfInBounds_toArray, List.set_cons_zero, List.set_cons_succ]
          refine tkD 2 60 (v := ?_) rfl (by kernel_rfl) (fun _ _ _ h => h) rfl (by rfl) (by assumption) ?_ ?_; rotate_left; (intro w hSw; (try dsimp only at hSw); go_simp; try (with_reducible rfl)); simp only [List.setIfInBounds_toArray, List.set_cons_zero, List.set_cons_succ]
          refine tkD 3 61 (v := ?_) rfl (by kernel_rfl) (fun _ _ _ h => h) rfl (by rfl) (by assumption) ?_ ?_; rotate_left; (intro w hSw; (try dsimp only at hSw); go_simp; try (with_reducible rfl)); simp only [List.setIfInBounds_toArray, List.set_cons_zero, List.set_cons_succ]
          refine tkD 4 62 (v := ?_) rfl (by kernel_rfl) (fun _ _ _ h => h) rfl (by rfl) (by assumption) ?_ ?_; rotate_left; (intro w hSw; (try dsimp only at hSw); go_simp; try (with_reducible rfl)); simp only [List.setIfInBounds_toArray, List.set_cons_zero, List.set_cons_succ]
          refine tkD 5 63 (v := ?_) rfl (by kernel_rfl) (fun _ _ _ h => h) rfl (by rfl) (by assumption) ?_ ?_; rotate_left; (intro w hSw; (try dsimp only at hSw); go_simp; try (with_reducible rfl)); simp only [List.setIfInBounds_toArray, List.set_cons_zero, List.set_cons_succ]
          refine tkD 6 64 (v := ?_) rfl (by kernel_rfl) (fun _ _ _ h => h) rfl (by rfl) (by assumption) ?_ ?_; rotate_left; (intro w hSw; (try dsimp only at hSw); go_simp; try (with_reducible rfl)); simp only [List.setIfInBounds_toArray, List.set_cons_zero, List.set_cons_succ]
          refine tkD 7 65 (v := ?_) rfl (by kernel_rfl) (fun _ _ _ h => h) rfl (by rfl) (by assumption) ?_ ?_; rotate_left; (intro w hSw; (try dsimp only at hSw); go_simp; try (with_reducible rfl)); simp only [List.setIfInBounds_toArray, List.set_cons_zero, List.set_cons_succ]
          refine tkD 8 66 (v := ?_) rfl (by kernel_rfl) (fun _ _ _ h => h) rfl (by rfl) (by assumption) ?_ ?_; rotate_left; (intro w hSw; (try dsimp only at hSw); go_simp; try (with_reducible rfl)); simp only [List.setIfInBounds_toArray, List.set_cons_zero, List.set_cons_succ]
          refine tkD 9 67 (v := ?_) rfl (by kernel_rfl) (fun _ _ _ h => h) rfl (by rfl) (by assumption) ?_ ?_; rotate_left; (intro w hSw; (try dsimp only at hSw); go_simp; try (with_reducible rfl)); simp only [List.setIfInBounds_toArray, List.set_cons_zero, List.set_cons_succ]
          refine tkD 10 68 (v := ?_) rfl (by kernel_rfl) (fun _ _ _ h => h) rfl (by rfl) (by assumption) ?_ ?_; rotate_left; (intro w hSw; (try dsimp only at hSw); go_simp; try (with_reducible rfl)); simp only [List.setIfInBounds_toArray, List.set_cons_zero, List.set_cons_succ]
          refine tkD 11 69 (v := .agg C) rfl (by kernel_rfl) (fun _ _ _ h => h) rfl (by rfl) (by assumption) (fun X hX => run_load_rowS 27 (.tmp 3) rfl ⟨w.heap.size, 0, none⟩ rfl C _ (HRWc.out X hX) Tryz.underlying27 rfl hi) ?_; simp only [List.setIfInBounds_toArray, List.set_cons_zero, List.set_cons_succ]
          refine tkD 13 71 (v := .agg C) rfl (by kernel_rfl) (fun _ _ _ h => h) rfl (by rfl) (by assumption) (fun X hX => run_load_rowS 27 (.tmp 3) rfl ⟨w.heap.size, 0, none⟩ rfl C _ (HRWc.out X hX) Tryz.underlying27 rfl hi) ?_; simp only [List.setIfInBounds_toArray, List.set_cons_zero, List.set_cons_succ]
          refine wpAnyH_ready (rs := [12]) (by kernel_rfl) (by simp) ?_; refine AllReadyH.cons rfl (fun K hK => ?_) AllReadyH.nil; go_simp
          refine (HUNc.out _ kD).mono ?_
          rintro r y1 ⟨rfl, hy1⟩
          have hB1 := bt kD hy1 (Nat.le_refl _)
          refine hK.out _ _ hB1 (fun hSx => ?_); clear hK K hSx
          refine wpAnyH_ready (rs := [14]) (by kernel_rfl) (by simp) ?_; refine AllReadyH.cons rfl (fun K hK => ?_) AllReadyH.nil; go_simp
          refine (HBUc.out _ hB1).mono ?_
          rintro r y2 ⟨rfl, hy2⟩
          have hB2 := bt hB1 hy2 (Nat.le_refl _)
          refine hK.out _ _ hB2 (fun hSx => ?_); clear hK K hSx
          refine tkD 15 73 (v := ?_) rfl (by kernel_rfl) (fun _ _ _ h => h) rfl (by rfl) (by assumption) ?_ ?_; rotate_left; (intro w hSw; (try dsimp only at hSw); go_simp; try (with_reducible rfl)); simp only [List.setIfInBounds_toArray, List.set_cons_zero, List.set_cons_succ]
          refine tkD 16 74 (v := ?_) rfl (by kernel_rfl) (fun _ _ _ h => h) rfl (by rfl) (by assumption) ?_ ?_; rotate_left; (intro w hSw; (try dsimp only at hSw); go_simp; try (with_reducible rfl)); simp only [List.setIfInBounds_toArray, List.set_cons_zero, List.set_cons_succ]
          refine tkD 17 75 (v := ?_) rfl (by kernel_rfl) (fun _ _ _ h => h) rfl (by rfl) (by assumption) ?_ ?_; rotate_left; (intro w hSw; (try dsimp only at hSw); go_simp; try (with_reducible rfl)); simp only [List.setIfInBounds_toArray, List.set_cons_zero, List.set_cons_succ]
          refine wpAnyH_done (by kernel_rfl) ?_ _
          go_wp2
          go_meet
          case rel => exact ⟨rfl, hB2⟩
        case rest =>
        obtain ⟨rfl, hbc⟩ := hcut
        obtain ⟨W2, hW2⟩ : ∃ W, W = wc := ⟨_, rfl⟩
        subst hW2
        have hrl2 := hrl.out.keep hbc
        have HR2 := hid hrl2
        clear kD hbc HRWc c0 HUNc HBUc d1 d2 d3 sw1 hrl
        obtain ⟨A, hA⟩ : ∃ A : Nat, a = (A : Int) := ⟨a.toNat, by have := HS12.out.1; omega⟩
        subst hA
        obtain ⟨st, hst⟩ : ∃ st, c.sets[A]? = some st := ⟨_, List.getElem?_eq_getElem (by rw [HSN.out]; have := HS12.out.2; omega)⟩
        obtain ⟨sb, so, sc', hv, wf1, wf2, hcl⟩ := HST.out.at hst
        have hv2 : sa = some ⟨sb, so, none⟩ := by cases hv; rfl
        have c0 : ∀ X, Below W2.heap.size W2 X → X.cell? ⟨w.heap.size, 0, none⟩ = some (.slice (some ⟨sb, so, none⟩) sn sc) := fun X hX => by rw [hpCell (hpKeep HX.out.pc (bt hrl2.bel hX (Nat.le_refl _))), ← HCC.out, ← HSN.out, ← hv2]; rfl
        have hbw2 : Below w.heap.size w W2 := bt HB1.out hrl2.bel (Nat.le_refl _)
        have f0 : ∀ X, Below W2.heap.size W2 X → X.cell? ⟨sb, so + A * 2, none⟩ = some (.int .i64 st.1) := fun X hX => (hcl X (bt hbw2 hX (Nat.le_refl _))).1
        have f1 : ∀ X, Below W2.heap.size W2 X → X.cell? ⟨sb, so + A * 2 + 1, none⟩ = some (.int .i64 st.2) := fun X hX => (hcl X (bt hbw2 hX (Nat.le_refl _))).2
        obtain ⟨ms, hms⟩ : ∃ ms, mbAt c l x.at_ = ms := ⟨_, rfl⟩
        have hmm : memb l st.1 st.2 b l.length = ms := by
          rw [← hms, HE2.out]
          unfold mbAt
          rw [← HE1.out, Int.toNat_natCast, hst]
        obtain ⟨hq1, hq2⟩ := ask_ok (l := l) (ms := ms) HX.out.bus hrl2.sv.gd.ok hrl2.sv.vi.pb hrl2.sv.tb hrl2.sv.gd.nd (by rw [← hms]; exact hrl2.sv.nx)
        rw [← HE3.out] at hq1 hq2
        have HAN : Hid (∀ X, Below W2.heap.size W2 X → Calls Tryz.prog 37 #[.slice la ln lc, .agg #[.int .i64 st.1, .int .i64 st.2], .int .i64 b, .agg #[.int .i64 rq.fn, .int .i64 rq.addr, .int .i64 rq.qty, .int .i64 rq.code, .int .i64 rq.obj]] X (AwPost X l ms rq)) := fun X hX => HX.out.an X st.1 st.2 b rq ms (bt hrl2.bel hX (Nat.le_refl _)) wf1 wf2 hq1 hmm hq2
        have z0 : ∀ X, Below W2.heap.size W2 X → X.cell? ⟨qb, 0, none⟩ = some (.int .i64 rq.fn) := fun X h => hpCell (hpKeep hrl2.q h) 0
        have z1 : ∀ X, Below W2.heap.size W2 X → X.cell? ⟨qb, 1, none⟩ = some (.int .i64 rq.addr) := fun X h => hpCell (hpKeep hrl2.q h) 1
        have z2 : ∀ X, Below W2.heap.size W2 X → X.cell? ⟨qb, 2, none⟩ = some (.int .i64 rq.qty) := fun X h => hpCell (hpKeep hrl2.q h) 2
        have z3 : ∀ X, Below W2.heap.size W2 X → X.cell? ⟨qb, 3, none⟩ = some (.int .i64 rq.code) := fun X h => hpCell (hpKeep hrl2.q h) 3
        have z4 : ∀ X, Below W2.heap.size W2 X → X.cell? ⟨qb, 4, none⟩ = some (.int .i64 rq.obj) := fun X h => hpCell (hpKeep hrl2.q h) 4
        have HMS := hid hms
        have hAl : (A : Int) < (sn : Int) := HS12.out.2
        have hA0 : (0 : Int) ≤ (A : Int) := Int.natCast_nonneg _
        have dA : decide (A < sn) = true := decide_eq_true (by omega)
        have kD : Below W2.heap.size W2 W2.drew := (Below.refl _ _).drew
        clear hst hv hcl wf1 wf2 hmm hq1 hq2 hms hv2 hbw2 hrl2
        generalize st.1 = st1 at *
        generalize st.2 = st2 at *
        go_upto_region 12 with (fail)
        go_cut [14] from 76 to 84 (fun s14 wc => ∃ ob, s14 = .pointer (some ⟨ob, 0, none⟩) ∧ SvMid W2 l ms ob wc)
        case first =>
          refine wp_region_held_drew (S := fun V => Below W2.heap.size W2 V) (by kernel_rfl) kD (fun hH => ?_)
          clear hH
          refine tkD 0 76 (v := ?_) rfl (by kernel_rfl) (fun _ _ _ h => h) rfl (by rfl) (by assumption) ?_ ?_; rotate_left; (intro w hSw; (try dsimp only at hSw); go_simp; try (with_reducible rfl)); simp only [List.setIfInBounds_toArray, List.set_cons_zero, List.set_cons_succ]
          refine tkD 1 77 (v := ?_) rfl (by kernel_rfl) (fun _ _ _ h => h) rfl (by rfl) (by assumption) ?_ ?_; rotate_left; (intro w hSw; (try dsimp only at hSw); go_simp; try (with_reducible rfl)); simp only [List.setIfInBounds_toArray, List.set_cons_zero, List.set_cons_succ]
          refine tkD 2 78 (v := ?_) rfl (by kernel_rfl) (fun _ _ _ h => h) rfl (by rfl) (by assumption) ?_ ?_; rotate_left; (intro w hSw; (try dsimp only at hSw); go_simp; try (with_reducible rfl)); simp only [List.setIfInBounds_toArray, List.set_cons_zero, List.set_cons_succ]
          refine tkD 3 79 (v := ?_) rfl (by kernel_rfl) (fun _ _ _ h => h) rfl (by rfl) (by assumption) ?_ ?_; rotate_left; (intro w hSw; (try dsimp only at hSw); go_simp; try (with_reducible rfl)); simp only [List.setIfInBounds_toArray, List.set_cons_zero, List.set_cons_succ]
          refine tkD 4 80 (v := ?_) rfl (by kernel_rfl) (fun _ _ _ h => h) rfl (by rfl) (by assumption) ?_ ?_; rotate_left; (intro w hSw; (try dsimp only at hSw); go_simp; try (with_reducible rfl)); simp only [List.setIfInBounds_toArray, List.set_cons_zero, List.set_cons_succ]
          refine tkD 5 81 (v := ?_) rfl (by kernel_rfl) (fun _ _ _ h => h) rfl (by rfl) (by assumption) ?_ ?_; rotate_left; (intro w hSw; (try dsimp only at hSw); go_simp; try (with_reducible rfl)); simp only [List.setIfInBounds_toArray, List.set_cons_zero, List.set_cons_succ]
          refine tkD 6 82 (v := ?_) rfl (by kernel_rfl) (fun _ _ _ h => h) rfl (by rfl) (by assumption) ?_ ?_; rotate_left; (intro w hSw; (try dsimp only at hSw); go_simp; try (with_reducible rfl)); simp only [List.setIfInBounds_toArray, List.set_cons_zero, List.set_cons_succ]
          refine tkD 7 83 (v := ?_) rfl (by kernel_rfl) (fun _ _ _ h => h) rfl (by rfl) (by assumption) ?_ ?_; rotate_left; (intro w hSw; (try dsimp only at hSw); go_simp; try (with_reducible rfl)); simp only [List.setIfInBounds_toArray, List.set_cons_zero, List.set_cons_succ]
          refine wpAnyH_ready (rs := [8, 9]) (by kernel_rfl) (by simp) ?_
          refine AllReadyH.cons rfl (fun K hK => ?_) (AllReadyH.cons rfl (fun K hK => ?_) AllReadyH.nil)
          · go_simp
            refine (HAN.out _ kD).mono ?_
            rintro r y3 ⟨O, da, dc, oa, oc, rfl, hjr, hans, hrd, hy3⟩
            have hB3 := bt kD hy3 (Nat.le_refl _)
            refine hK.out _ _ hB3 (fun hSx => ?_); clear hK K hSx
            refine wpAnyH_ready (rs := [9]) (by kernel_rfl) (by simp) ?_; refine AllReadyH.cons rfl (fun K hK => ?_) AllReadyH.nil; go_simp
            have hB4 : Below W2.heap.size W2 (y3.alloc (.cells #[.int .i64 0, .int .i64 0, .int .i64 0, .slice none 0 0, .int .i64 0, .int .i64 0, .bool false, .int .i64 0, .slice none 0 0] 55)) := bta hB3 (Nat.le_refl _) _
            refine hK.out _ _ hB4 (fun hSx => ?_); clear hK K hSx
            refine wpAnyH_ready (rs := [10]) (by kernel_rfl) (by simp) ?_
            refine AllReadyH.cons rfl (fun K hK => ?_) AllReadyH.nil
            refine step_storeW rfl 55 (.tmp 14) (.tmp 84) rfl y3.heap.size 0 _ 55 #[.int .i64 O.verdict, .int .i64 O.reply.fn, .int .i64 O.reply.exc, .slice da O.reply.data.length dc, .int .i64 O.reply.code, .int .i64 O.reply.level, .bool O.reply.more, .int .i64 O.reply.next, .slice oa O.reply.objs.length oc] rfl rfl (hpNew y3 (.cells #[.int .i64 0, .int .i64 0, .int .i64 0, .slice none 0 0, .int .i64 0, .int .i64 0, .bool false, .int .i64 0, .slice none 0 0] 55)) (by simp) info9r rfl ?_
            intro y5 g5 hk5 hz5
            have g5' : y5.heap[y3.heap.size]? = some (.cells #[.int .i64 O.verdict, .int .i64 O.reply.fn, .int .i64 O.reply.exc, .slice da O.reply.data.length dc, .int .i64 O.reply.code, .int .i64 O.reply.level, .bool O.reply.more, .int .i64 O.reply.next, .slice oa O.reply.objs.length oc] 55) := g5
            have hB5 : Below W2.heap.size W2 y5 := hB4.trans (hk5.below hB4.size (fun i hi e => by have := hB3.size; omega))
            have hkk : Keeps (· = y3.heap.size) y3 y5 := (Keeps.of_below (F := (· = y3.heap.size)) (bal' y3 (.cells #[.int .i64 0, .int .i64 0, .int .i64 0, .slice none 0 0, .int .i64 0, .int .i64 0, .bool false, .int .i64 0, .slice none 0 0] 55))).trans hk5 (fun _ _ e => e)
            have hend := hid (SvMid.mk kD.size hrd (.inr (Nat.le_refl _)) hB3.size hkk hjr hans g5' hB5)
            refine hK.out _ _ hB5 (fun hSx => ?_)
            clear hK K hSx
            refine wpAnyH_done (by kernel_rfl) ?_ _
            go_wp2
            go_meet
            case rel => exact ⟨_, rfl, hend.out⟩
          · go_simp
            have hB4 : Below W2.heap.size W2 (W2.alloc (.cells #[.int .i64 0, .int .i64 0, .int .i64 0, .slice none 0 0, .int .i64 0, .int .i64 0, .bool false, .int .i64 0, .slice none 0 0] 55)).drew := (bal' W2 _).drew
            refine hK.out _ _ hB4 (fun hSx => ?_); clear hK K hSx
            refine wpAnyH_ready (rs := [8]) (by kernel_rfl) (by simp) ?_; refine AllReadyH.cons rfl (fun K hK => ?_) AllReadyH.nil; go_simp
            refine (HAN.out _ hB4).mono ?_
            rintro r y3 ⟨O, da, dc, oa, oc, rfl, hjr, hans, hrd, hy3⟩
            have hB3 := bt hB4 hy3 (Nat.le_refl _)
            have p3 : y3.heap[W2.heap.size]? = some (.cells #[.int .i64 0, .int .i64 0, .int .i64 0, .slice none 0 0, .int .i64 0, .int .i64 0, .bool false, .int .i64 0, .slice none 0 0] 55) := hpKeep (w := (W2.alloc (.cells #[.int .i64 0, .int .i64 0, .int .i64 0, .slice none 0 0, .int .i64 0, .int .i64 0, .bool false, .int .i64 0, .slice none 0 0] 55)).drew) (hpNew W2 _) hy3
            refine hK.out _ _ hB3 (fun hSx => ?_); clear hK K hSx
            refine wpAnyH_ready (rs := [10]) (by kernel_rfl) (by simp) ?_
            refine AllReadyH.cons rfl (fun K hK => ?_) AllReadyH.nil
            refine step_storeW rfl 55 (.tmp 14) (.tmp 84) rfl W2.heap.size 0 _ 55 #[.int .i64 O.verdict, .int .i64 O.reply.fn, .int .i64 O.reply.exc, .slice da O.reply.data.length dc, .int .i64 O.reply.code, .int .i64 O.reply.level, .bool O.reply.more, .int .i64 O.reply.next, .slice oa O.reply.objs.length oc] rfl rfl p3 (by simp) info9r rfl ?_
            intro y5 g5 hk5 hz5
            have g5' : y5.heap[W2.heap.size]? = some (.cells #[.int .i64 O.verdict, .int .i64 O.reply.fn, .int .i64 O.reply.exc, .slice da O.reply.data.length dc, .int .i64 O.reply.code, .int .i64 O.reply.level, .bool O.reply.more, .int .i64 O.reply.next, .slice oa O.reply.objs.length oc] 55) := g5
            have hB5 : Below W2.heap.size W2 y5 := hB3.trans (hk5.below hB3.size (fun i hi e => by omega))
            have hzz : W2.heap.size < (W2.alloc (.cells #[.int .i64 0, .int .i64 0, .int .i64 0, .slice none 0 0, .int .i64 0, .int .i64 0, .bool false, .int .i64 0, .slice none 0 0] 55)).drew.heap.size := by show _ < (W2.alloc (.cells #[.int .i64 0, .int .i64 0, .int .i64 0, .slice none 0 0, .int .i64 0, .int .i64 0, .bool false, .int .i64 0, .slice none 0 0] 55)).heap.size; simp
            have hend := hid (SvMid.mk hB4.size hrd (.inl hzz) (Nat.le_refl _) hk5 hjr hans g5' hB5)
            refine hK.out _ _ hB5 (fun hSx => ?_)
            clear hK K hSx
            refine wpAnyH_done (by kernel_rfl) ?_ _
            go_wp2
            go_meet
            case rel => exact ⟨_, rfl, hend.out⟩
        case rest =>
        obtain ⟨ob, rfl, hmid⟩ := hcut
        obtain ⟨W5, hW5⟩ : ∃ W, W = wc := ⟨_, rfl⟩
        subst hW5
        have HMID := hid hmid
        clear hmid c0 f0 f1 z0 z1 z2 z3 z4 kD HAN dA
        obtain ⟨T, hT⟩ : ∃ T, decide ((0 : Int) < (pn : Int)) = T := ⟨_, rfl⟩
        have hTn : decide (0 < pn) = T := by
          rw [← hT]
          by_cases e : 0 < pn
          · rw [decide_eq_true e, decide_eq_true (show (0 : Int) < (pn : Int) by omega)]
          · rw [decide_eq_false e, decide_eq_false (show ¬ (0 : Int) < (pn : Int) by omega)]
        have HT := hid hTn
        go_upto_region 13 with (fail)
        go_cut [87] from 85 to 87 (fun s87 wd => s87 = .bool T ∧ W5 = wd)
        case first =>
          go_wp2
          go_meet
          case rel => exact ⟨rfl, rfl⟩
        case rest =>
        obtain ⟨rfl, rfl⟩ := hcut
        clear hT hTn
        go_upto_if 87 with (fail)
        go_cut [] from 88 to 116 (fun wd => SvMid W2 l ms ob wd)
        case first =>
          cases T with
          | false =>
            go_wp2
            go_meet
            case rel => exact HMID.out
          | true =>
            have hp0 : 0 < pn := of_decide_eq_true HT.out
            have hpi : (0 : Int) < (pn : Int) := by omega
            obtain ⟨r, hrr⟩ : ∃ r, k % pn = r := ⟨_, rfl⟩
            have hrl : r < pn := by rw [← hrr]; exact Nat.mod_lt _ hp0
            have hrm : (k : Int) % (pn : Int) = (r : Int) := by rw [← hrr]; exact (Int.natCast_emod k pn).symm
            obtain ⟨pb, po, rfl, hpc⟩ := HPL.out.byte (i := r) (by rw [HPN.out]; exact hrl)
            have hw5 : Below w.heap.size w W5 := bt HB1.out (bt HR2.out.bel (by obtain ⟨_, _, _, _, _, -, -, -, -, -, h⟩ := HMID.out; exact h) (Nat.le_refl _)) (Nat.le_refl _)
            obtain ⟨v, hv, hv255⟩ : ∃ v : Nat, (pl.getD r 0).toNat = v ∧ v ≤ 255 := ⟨_, rfl, by have := (pl.getD r 0).toNat_lt; omega⟩
            have yc : W5.cell? ⟨pb, po + r, none⟩ = some (.int .u8 (v : Int)) := by rw [← hv]; exact cell_keep hw5 hpc
            obtain ⟨y, hy⟩ : ∃ y, v % 9 = y := ⟨_, rfl⟩
            have hy9 : y < 9 := by omega
            have hm9 : (v : Int) % 9 = (y : Int) := by omega
            have hrl2 : (r : Int) < (pn : Int) := by omega
            have hr0 : (0 : Int) ≤ (r : Int) := Int.natCast_nonneg _
            have hzq : W5.cell? ⟨qb, 0, none⟩ = some (.int .i64 rq.fn) := hpCell (hpKeep HR2.out.q (by obtain ⟨_, _, _, _, _, -, -, -, -, -, h⟩ := HMID.out; exact h)) 0
            clear hrr hpc hv hw5
            go_upto_region 16 with (fail)
            rw [hm9]
            obtain ⟨O0, da0, dc0, oa0, oc0, hob, hopl, -, -, -, hoB⟩ := HMID.out
            by_cases h0 : y = 0
            · have g0 : ((y : Int) == 0) = true := by rw [beq_iff_eq]; omega
              clear h0 hy hm9
              go_wp2_with (refine wpList_storeW rfl 55 (.tmp 14) (.tmp 99) rfl ob 0 _ 55 #[.int .i64 3, .int .i64 0, .int .i64 0, .slice none 0 0, .int .i64 0, .int .i64 0, .bool false, .int .i64 0, .slice none 0 0] rfl rfl hob (by simp) info9r rfl ?_; intro w6 g6 hk6 hz6)
              have g6' : w6.heap[ob]? = some (.cells #[.int .i64 3, .int .i64 0, .int .i64 0, .slice none 0 0, .int .i64 0, .int .i64 0, .bool false, .int .i64 0, .slice none 0 0] 55) := g6
              go_meet
              case rel => exact ⟨oN 3, none, 0, none, 0, g6', hopl, oN_jr 3 (by decide) (by decide), fun e => absurd (show (3 : Int) = 1 from e) (by decide), fun W _ => ⟨Bs.nil _, Obs.nil _, by show (0 : Int) ≤ _; decide, by show _ ≤ (0 : Int); decide⟩, hoB.trans (hk6.below hoB.size (fun i hi e => by have e : i = ob := e; omega))⟩
            by_cases h1 : y = 1
            · have g0 : ((y : Int) == 0) = false := by rw [beq_eq_false_iff_ne]; omega
              have g1 : ((y : Int) == 1) = true := by rw [beq_iff_eq]; omega
              clear h1 h0 hy hm9
              go_wp2_with (refine wpList_storeW rfl 55 (.tmp 14) (.tmp 102) rfl ob 0 _ 55 #[.int .i64 4, .int .i64 0, .int .i64 0, .slice none 0 0, .int .i64 0, .int .i64 0, .bool false, .int .i64 0, .slice none 0 0] rfl rfl hob (by simp) info9r rfl ?_; intro w6 g6 hk6 hz6)
              have g6' : w6.heap[ob]? = some (.cells #[.int .i64 4, .int .i64 0, .int .i64 0, .slice none 0 0, .int .i64 0, .int .i64 0, .bool false, .int .i64 0, .slice none 0 0] 55) := g6
              go_meet
              case rel => exact ⟨oN 4, none, 0, none, 0, g6', hopl, oN_jr 4 (by decide) (by decide), fun e => absurd (show (4 : Int) = 1 from e) (by decide), fun W _ => ⟨Bs.nil _, Obs.nil _, by show (0 : Int) ≤ _; decide, by show _ ≤ (0 : Int); decide⟩, hoB.trans (hk6.below hoB.size (fun i hi e => by have e : i = ob := e; omega))⟩
            by_cases h2 : y = 2
            · have g0 : ((y : Int) == 0) = false := by rw [beq_eq_false_iff_ne]; omega
              have g1 : ((y : Int) == 1) = false := by rw [beq_eq_false_iff_ne]; omega
              have g2 : ((y : Int) == 2) = true := by rw [beq_iff_eq]; omega
              clear h2 h0 h1 hy hm9
              go_wp2_with (refine wpList_storeW rfl 55 (.tmp 14) (.tmp 105) rfl ob 0 _ 55 #[.int .i64 5, .int .i64 0, .int .i64 0, .slice none 0 0, .int .i64 0, .int .i64 0, .bool false, .int .i64 0, .slice none 0 0] rfl rfl hob (by simp) info9r rfl ?_; intro w6 g6 hk6 hz6)
              have g6' : w6.heap[ob]? = some (.cells #[.int .i64 5, .int .i64 0, .int .i64 0, .slice none 0 0, .int .i64 0, .int .i64 0, .bool false, .int .i64 0, .slice none 0 0] 55) := g6
              go_meet
              case rel => exact ⟨oN 5, none, 0, none, 0, g6', hopl, oN_jr 5 (by decide) (by decide), fun e => absurd (show (5 : Int) = 1 from e) (by decide), fun W _ => ⟨Bs.nil _, Obs.nil _, by show (0 : Int) ≤ _; decide, by show _ ≤ (0 : Int); decide⟩, hoB.trans (hk6.below hoB.size (fun i hi e => by have e : i = ob := e; omega))⟩
            by_cases h3 : y = 3
            · have g0 : ((y : Int) == 0) = false := by rw [beq_eq_false_iff_ne]; omega
              have g1 : ((y : Int) == 1) = false := by rw [beq_eq_false_iff_ne]; omega
              have g2 : ((y : Int) == 2) = false := by rw [beq_eq_false_iff_ne]; omega
              have g3 : ((y : Int) == 3) = true := by rw [beq_iff_eq]; omega
              clear h3 h0 h1 h2 hy hm9
              obtain ⟨z, hz⟩ : ∃ z : Nat, v / 9 % 4 = z := ⟨_, rfl⟩
              have hz4 : z < 4 := by omega
              have hzi : (v : Int) / 9 % 4 = (z : Int) := by omega
              have hv0 : (0 : Int) ≤ (v : Int) := Int.natCast_nonneg _
              have hvi : (v : Int) ≤ 255 := by omega
              go_upto_region 23 with (fail)
              go_wp2_with (refine wpList_storeW rfl 55 (.tmp 14) (.tmp 116) rfl ob 0 _ 55 #[.int .i64 2, .int .i64 rq.fn, .int .i64 _, .slice none 0 0, .int .i64 0, .int .i64 0, .bool false, .int .i64 0, .slice none 0 0] rfl rfl hob (by simp) info9r rfl ?_; intro w6 g6 hk6 hz6)
              have g6' : w6.heap[ob]? = some (.cells #[.int .i64 2, .int .i64 rq.fn, .int .i64 (1 + (z : Int)), .slice none 0 0, .int .i64 0, .int .i64 0, .bool false, .int .i64 0, .slice none 0 0] 55) := g6
              go_meet
              case rel => exact ⟨⟨2, ⟨rq.fn, 1 + (z : Int), [], 0, 0, false, 0, []⟩⟩, none, 0, none, 0, g6', hopl, ⟨⟨by show (0 : Nat) ≤ 40; decide, fun y hy => (by cases hy), by show (0 : Nat) ≤ 300; decide, by show (0 : Int) ≤ _; decide⟩, by show (1 : Int) ≤ 2; decide, by show (2 : Int) ≤ 5; decide, fun e => absurd (show (2 : Int) = 1 from e) (by decide), fun e => absurd (show (2 : Int) = 1 from e) (by decide), fun e => absurd (show (2 : Int) = 1 from e) (by decide)⟩, fun e => absurd (show (2 : Int) = 1 from e) (by decide), fun W _ => ⟨Bs.nil _, Obs.nil _, by show (0 : Int) ≤ _; decide, by show _ ≤ (0 : Int); decide⟩, hoB.trans (hk6.below hoB.size (fun i hi e => by have e : i = ob := e; omega))⟩
            · have g0 : ((y : Int) == 0) = false := by rw [beq_eq_false_iff_ne]; omega
              have g1 : ((y : Int) == 1) = false := by rw [beq_eq_false_iff_ne]; omega
              have g2 : ((y : Int) == 2) = false := by rw [beq_eq_false_iff_ne]; omega
              have g3 : ((y : Int) == 3) = false := by rw [beq_eq_false_iff_ne]; omega
              clear h3 h0 h1 h2 hy hm9
              go_wp2
              go_meet
              case rel => exact HMID.out
        case rest =>
        obtain ⟨W6, hW6⟩ : ∃ W, W = wc := ⟨_, rfl⟩
        subst hW6
        obtain ⟨O, da, dc, oa, oc, hob, hopl, hjr, hans, hrd, hb6⟩ := hcut
        have hr6 := HR2.out.keep hb6
        have hdn : x.done c = false := by
          have := HLT.out
          unfold Sp.done
          rw [decide_eq_false_iff_not]
          omega
        have hkk : k ≤ 999999 := by have := HKL.out; omega
        have HFE : Hid (Calls Tryz.prog 18 #[.pointer (some ⟨g, 0, none⟩), .agg #[.int .i64 O.verdict, .int .i64 O.reply.fn, .int .i64 O.reply.exc, .slice da O.reply.data.length dc, .int .i64 O.reply.code, .int .i64 O.reply.level, .bool O.reply.more, .int .i64 O.reply.next, .slice oa O.reply.objs.length oc]] W6 (SfPost P W6 g c (x.feed c O) 0)) :=
          swfeed_any HX.out.chk hr6.a hr6.sv.gd hkk O da dc oa oc (fun W hK => hrd W (Agree.of_keeps hK (fun j e => (HR2.out.lo j e).2))) hjr.fit 0 (by show (0 : Int) = _; rw [hdn]; rfl)
        have hsv := SvS.feed HU.out HOK.out.n1.1 hr6.sv HW12.out HLT.out hjr (fun e => by rw [HMS.out]; exact hans e)
        obtain ⟨x', hx'⟩ : ∃ x', x.feed c O = x' := ⟨_, rfl⟩
        rw [hx'] at HFE hsv
        obtain ⟨a2, b2, rq2, D2, hne2, hone2⟩ := nx_two c x'
        have HONE := hid hone2
        have HNE2 := hid hne2
        have hat2 : x'.at_ ≤ 1000000 := by have := hsv.gd.at1; have := HUN.out; have := HUNB.out; omega
        have HNX : Hid (∀ X P', SwAt P' X g c x' → Calls Tryz.prog 12 #[.pointer (some ⟨g, 0, none⟩)] X fun r w' => r = .returned (.tuple #[.int .i64 a2, .int .i64 b2, .agg #[.int .i64 rq2.fn, .int .i64 rq2.addr, .int .i64 rq2.qty, .int .i64 rq2.code, .int .i64 rq2.obj], .bool D2]) ∧ Below X.heap.size X w') := fun X P' h => (snext_sw HX.out.chk h (fun _ => ⟨hsv.gd.ok, hsv.gd.nd⟩) hat2).mono fun r w' h => HONE.out _ _ _ h
        have HSV2 := hid hsv
        have HR6 := hid hr6
        have HB6 := hid hb6
        clear hone2 hne2 hat2 hsv hr6 hb6 hjr hans hrd hopl hdn hkk hx'
        go_upto_region 24 with (fail)
        go_upto_region 26 with (first
          | (refine wpList_load_row rfl 55 (.tmp 14) rfl ob rfl 55 #[.int .i64 O.verdict, .int .i64 O.reply.fn, .int .i64 O.reply.exc, .slice da O.reply.data.length dc, .int .i64 O.reply.code, .int .i64 O.reply.level, .bool O.reply.more, .int .i64 O.reply.next, .slice oa O.reply.objs.length oc] (0, 0) _ hob Tryz.underlying55 rfl info9r ?_)
          | (go_at_call 18; (with_reducible refine HFE.out.mono ?_); rintro r v7 ⟨rfl, hs7, hk7⟩))
        have hq7 : v7.heap[qb]? = some (.cells #[.int .i64 rq.fn, .int .i64 rq.addr, .int .i64 rq.qty, .int .i64 rq.code, .int .i64 rq.obj] 39) := hpKeeps HR6.out.q hk7 HR6.out.qn
        have z0 : v7.cell? ⟨qb, 0, none⟩ = some (.int .i64 rq.fn) := hpCell hq7 0
        have z1 : v7.cell? ⟨qb, 1, none⟩ = some (.int .i64 rq.addr) := hpCell hq7 1
        have z2 : v7.cell? ⟨qb, 2, none⟩ = some (.int .i64 rq.qty) := hpCell hq7 2
        have z3 : v7.cell? ⟨qb, 3, none⟩ = some (.int .i64 rq.code) := hpCell hq7 3
        have z4 : v7.cell? ⟨qb, 4, none⟩ = some (.int .i64 rq.obj) := hpCell hq7 4
        have HS7 := hid hs7
        have HK7 := hid hk7
        clear hs7 hk7 hob HFE hq7
        go_upto_region 9 with (refine wpList_storeW rfl 39 (.tmp 12) (.tmp 123) rfl v7.heap.size 0 _ 39 #[.int .i64 rq.fn, .int .i64 rq.addr, .int .i64 rq.qty, .int .i64 rq.code, .int .i64 rq.obj] rfl rfl (hpNew v7 _) (by simp) info5 rfl ?_; intro w9 g9 hk9 hz9)
        have g9' : w9.heap[v7.heap.size]? = some (.cells #[.int .i64 rq.fn, .int .i64 rq.addr, .int .i64 rq.qty, .int .i64 rq.code, .int .i64 rq.obj] 39) := g9
        have hb9 : Below v7.heap.size v7 w9 := (bal' v7 _).trans (hk9.below (by simp) (fun j hj e => by have e : j = v7.heap.size := e; omega))
        have HS9 := hid (HS7.out.keep (F := fun _ => False) (Keeps.of_below hb9) (fun _ _ e => e.elim))
        clear g9 hk9 hz9 z0 z1 z2 z3 z4
        go_wp2_with (first
          | (go_at_call 12; (with_reducible refine (HNX.out _ _ HS9.out).mono ?_); rintro r v10 ⟨rfl, hb10⟩)
          | (refine wpList_storeW rfl 39 (.tmp 12) (.tmp 56) rfl v7.heap.size 0 _ 39 #[.int .i64 rq2.fn, .int .i64 rq2.addr, .int .i64 rq2.qty, .int .i64 rq2.code, .int .i64 rq2.obj] rfl rfl (hpKeep g9' hb10) (by simp) info5 rfl ?_; intro w11 g11 hk11 hz11))
        have g11' : w11.heap[v7.heap.size]? = some (.cells #[.int .i64 rq2.fn, .int .i64 rq2.addr, .int .i64 rq2.qty, .int .i64 rq2.code, .int .i64 rq2.obj] 39) := g11
        have hb910 : Below v7.heap.size v7 v10 := bt hb9 hb10 (Nat.le_refl _)
        have hb11 : Below v7.heap.size v7 w11 := hb910.trans (hk11.below hb910.size (fun j hj e => by have e : j = v7.heap.size := e; omega))
        go_roundw
        case rel =>
          have s2 := HR2.out.bel.size
          have s6 := HB6.out.size
          have s7 := HK7.out.size
          have s11 := hb11.size
          have s12 := hpLt g11'
          have hkl := HKL.out
          refine ⟨k + 1, x', Grw P W6 v7, a2, b2, v7.heap.size, rq2, D2, by go_num, rfl, rfl, rfl, rfl, by omega, ⟨HSV2.out, HS7.out.keep (F := fun _ => False) (Keeps.of_below hb11) (fun _ _ e => e.elim), fun j hj => ?_, g11', fun hj => ?_, by omega, ?_⟩, HNE2.out⟩
          · rcases hj with hj | hj
            · have := HR2.out.lo j hj
              omega
            · omega
          · rcases hj with hj | hj
            · have := HR2.out.lo _ hj
              omega
            · omega
          · exact (bt (HR2.out.bel) HB6.out (Nat.le_refl _)).trans ((HK7.out.below (by omega) (fun j hj e => by have := HR2.out.lo j e; omega)).trans (hb11.mono (by omega)))
        case measure => have := HKL.out; simp [intOf]; omega
      · obtain rfl : D = false := hne.out.2 hlt
        have hge : c.units ≤ x.at_ := by omega
        have hat : x.at_ = c.units := by have := hrl.out.sv.gd.at1; omega
        have hfd : FdsV c c.units x.fd := by rw [← hat]; exact hrl.out.sv.vi.fd
        have hfl : x.fd.length ≤ 1000000 := by have := hrl.out.sv.gd.fl; have := HUN.out; have := HUNB.out; omega
        have hsl : c.sets.length ≤ 1000000 := by have := HOK.out.s6; omega
        have HRE : Hid (Calls Tryz.prog 29 #[.pointer (some ⟨g, 0, none⟩), .slice none 0 0] wr (RepPost wr c x.fd)) := swreport_nil hrl.out.a hge hsl hrl.out.sv.gd.fs hfl
        have HV1 : Hid (∀ sv dv X, Rgs X sv c.sets → Fds X dv x.fd → Calls Tryz.prog 38 #[.agg (RpC c sv dv)] X (BoolPost X true)) := fun sv dv X h1 h2 => repvalid_ok c HX.out.chk x.fd hfd hfl sv dv X h1 h2
        have HV2 : Hid (∀ sv dv X, Rgs X sv c.sets → Fds X dv x.fd → Calls Tryz.prog 39 #[.agg (RpC c sv dv)] X (BoolPost X true)) := fun sv dv X h1 h2 => rreport_ok c HX.out.chk x.fd hfd hfl sv dv X h1 h2
        have HBW : Hid (Below w.heap.size w wr) := bt HB1.out hrl.out.bel (Nat.le_refl _)
        clear hge hat hfd hfl hsl hlt hrl hne hkN hki hnb
        go_upto_region 30 with (first
          | (go_at_call 29; (with_reducible refine HRE.out.mono ?_); rintro r v6 ⟨sv6, dv6, rfl, hrd6, hb6⟩; obtain ⟨da, dc, rfl⟩ := (hrd6 v6 (Agree.refl _ _)).2.fds.slc; obtain ⟨s1, s2, rfl⟩ := (hrd6 v6 (Agree.refl _ _)).1.slc; obtain ⟨RC, hRC⟩ : ∃ C, RpC c (.slice s1 c.sets.length s2) (.slice da x.fd.length dc) = C := ⟨_, rfl⟩; have hRi : (Tryz.prog.info? 71).map (·.size) = some RC.size := (by rw [← hRC]; exact infoRp); have hRo : RC.toList.all (·.oneCell') = true := (by rw [← hRC]; rfl); have hRs : RC.size = 12 := (by rw [← hRC]; rfl); rw [hRC]; have HRC := hid hRC; have HRS := hid hRs; clear hRC hRs)
          | (refine wpList_storeW rfl 71 (.tmp 16) (.tmp 127) rfl v6.heap.size 0 _ 71 RC rfl rfl (hpNew v6 (.cells #[.slice none 0 0, .int .i64 0, .int .i64 0, .int .i64 0, .int .i64 0, .int .i64 0, .int .i64 0, .int .i64 0, .int .i64 0, .int .i64 0, .int .i64 0, .slice none 0 0] 71)) (by simp [HRS.out]) hRi hRo ?_; intro v7 g7 hk7 hz7))
        have g7' : v7.heap[v6.heap.size]? = some (.cells RC 71) := by rw [g7, List.drop_eq_nil_of_le (by simp [HRS.out])]; simp
        have hb67 : Below v6.heap.size v6 v7 := (bal' v6 (.cells #[.slice none 0 0, .int .i64 0, .int .i64 0, .int .i64 0, .int .i64 0, .int .i64 0, .int .i64 0, .int .i64 0, .int .i64 0, .int .i64 0, .int .i64 0, .slice none 0 0] 71)).trans (hk7.below (by simp) (fun j hj e => by omega))
        have HB7 : Hid (Below w.heap.size w v7) := bt (bt HBW.out hb6 (Nat.le_refl _)) hb67 (Nat.le_refl _)
        have HRW : Hid (∀ X, Below v7.heap.size v7 X → ∀ j v, RC.toList[j]? = some v → X.cell? ((⟨v6.heap.size, 0, none⟩ : Addr).add j) = some v) := fun X hX => hpRowAt2 (hpKeep g7' hX)
        have HV1c : Hid (∀ X, Below v7.heap.size v7 X → Calls Tryz.prog 38 #[.agg RC] X (BoolPost X true)) := fun X hX => by
          rw [← HRC.out]
          have h := hrd6 X (Agree.of_below (bt hb67 hX (Nat.le_refl _)))
          exact HV1.out _ _ X h.1 h.2.fds
        have HV2c : Hid (∀ X, Below v7.heap.size v7 X → Calls Tryz.prog 39 #[.agg RC] X (BoolPost X true)) := fun X hX => by
          rw [← HRC.out]
          have h := hrd6 X (Agree.of_below (bt hb67 hX (Nat.le_refl _)))
          exact HV2.out _ _ X h.1 h.2.fds
        clear HV1 HV2 hb67 hb6 g7 g7' hk7 hz7 hrd6 hRo HRE
        generalize v6.heap.size = q6 at *
        go_wp2_with (first
          | (go_at_call 8; (with_reducible refine (HAW.out _).mono ?_); rintro r v8 ⟨rfl, hb8⟩)
          | (go_at_call 38; (with_reducible refine (HV1c.out _ hb8).mono ?_); rintro r v9 ⟨rfl, hb9⟩)
          | (go_at_call 39; (with_reducible refine (HV2c.out _ (bt hb8 hb9 (Nat.le_refl _))).mono ?_); rintro r v10 ⟨rfl, hb10⟩)
          | (refine wpList_load_atH (by rfl) 71 (.tmp 16) rfl ⟨q6, 0, none⟩ rfl RC _ (HRW.out _ (bt hb8 hb9 (Nat.le_refl _))) Tryz.underlying71 rfl hRi ?_)
          | (refine wpList_load_atH (by rfl) 71 (.tmp 16) rfl ⟨q6, 0, none⟩ rfl RC _ (HRW.out _ hb8) Tryz.underlying71 rfl hRi ?_))
        go_ret
        exact ⟨rfl, bt (bt (bt HB7.out hb8 (Nat.le_refl _)) hb9 (Nat.le_refl _)) hb10 (Nat.le_refl _)⟩
end Go.Proofs.YtipnamoocemeeaaGreat
