/-
  Several texts of this claim in one file.
-/
import Derived.Test.YtpmidoneoonlcaaGreatMlk
import Derived.Test.YtpmidoneoonlcaaGreatMrx
import Derived.Test.YtpmidoneoonlcaaGreatRjudge
import Derived.Test.YtpmidoneoonlcaaGreatSplP
import Derived.Deep.RegionHeld3
import Derived.RegionTactic
import Derived.Test.YtpmidoneoonlcaaGreatMlc
/-
The reference's link: New, Begin, Frame, Action.
-/
namespace Go.Proofs.YtpmidoneoonlcaaGreat
open Go.RowKit

set_option maxRecDepth 100000 in
set_option maxHeartbeats 3200000 in
theorem rreqenc_ok (f a q c o : Int) (hq : Rq.ok ⟨f, a, q, c, o⟩ = true) (w : World) :
    Calls Tryz.prog 86 #[.agg #[.int .i64 f, .int .i64 a, .int .i64 q, .int .i64 c, .int .i64 o]] w (NewBs w (Rq.pdu ⟨f, a, q, c, o⟩)) := by
  have HQ : Hid (∀ W, Calls Tryz.prog 32 #[.agg #[.int .i64 f, .int .i64 a, .int .i64 q, .int .i64 c, .int .i64 o]] W fun r w' => r = .returned (.bool true) ∧ Below W.heap.size W w') := fun W => by rw [← hq]; exact rqvalid_any f a q c o W
  have hk : f = 17 ∨ f = 43 ∨ (1 ≤ f ∧ f ≤ 4) := by
    unfold Rq.ok at hq
    simp only at hq
    repeat' split at hq
    all_goals first | omega | cases hq
  rcases hk with rfl | rfl | hk
  · go_enter Tryz.func86, Tryz.ntmps86
    go_wp2_with (go_at_call 32; (with_reducible refine (HQ.out _).mono ?_); rintro r w1 ⟨rfl, hb1⟩; have y0 := hpCell (hpKeep (hpNew w _) hb1) 0)
    go_ret2
    exact NewBs.lit (l := [17]) (bt (bal' w _) hb1 (Nat.le_refl _)) rfl (by decide) rfl
  · have hco : 1 ≤ c ∧ c ≤ 3 ∧ 0 ≤ o ∧ o ≤ 255 := by
      unfold Rq.ok at hq
      simp at hq
      omega
    obtain ⟨hc1, hc2, ho1, ho2⟩ := hco
    have HL : Hid (Rq.pdu ⟨43, a, q, c, o⟩ = [43, 14, byteI c, byteI o]) := rfl
    have HV : Hid ((#[.int .u8 43, .int .u8 14, .int .u8 c, .int .u8 o] : Array Value) = (u8s [43, 14, byteI c, byteI o]).toArray) := by
      show _ = _
      simp only [u8s, byteV, List.map_cons, List.map_nil]
      rw [byteI_val (by omega) (by omega), byteI_val ho1 ho2]
      rfl
    clear hq
    go_enter Tryz.func86, Tryz.ntmps86
    go_wp2_with (go_at_call 32; (with_reducible refine (HQ.out _).mono ?_); rintro r w1 ⟨rfl, hb1⟩; have y0 := hpCell (hpKeep (hpNew w _) hb1) 0; have y3 := hpCell (hpKeep (hpNew w _) hb1) 3; have y4 := hpCell (hpKeep (hpNew w _) hb1) 4)
    go_ret2
    rw [HL.out]
    exact NewBs.lit (bt (bal' w _) hb1 (Nat.le_refl _)) HV.out (by simp) rfl
  · have hco : 0 ≤ a ∧ a ≤ 65535 ∧ 1 ≤ q ∧ q ≤ 2000 := by
      unfold Rq.ok at hq
      simp only at hq
      rw [if_pos hk] at hq
      simp at hq
      have := (limI_bd f).2
      omega
    obtain ⟨ha1, ha2, hq1, hq2⟩ := hco
    have hf1 : ¬ f = 17 := by omega
    have hf2 : ¬ f = 43 := by omega
    have HL : Hid (Rq.pdu ⟨f, a, q, c, o⟩ = [byteI f, byteI (a / 256), byteI (a % 256), byteI (q / 256), byteI (q % 256)]) := by
      show _ = _
      unfold Rq.pdu
      rw [if_neg hf1, if_neg hf2]
    have HV : Hid ((#[.int .u8 f, .int .u8 (a / 256), .int .u8 (a % 256), .int .u8 (q / 256), .int .u8 (q % 256)] : Array Value) = (u8s [byteI f, byteI (a / 256), byteI (a % 256), byteI (q / 256), byteI (q % 256)]).toArray) := by
      show _ = _
      simp only [u8s, byteV, List.map_cons, List.map_nil]
      rw [byteI_val (by omega) (by omega), byteI_val (by omega) (by omega), byteI_val (by omega) (by omega), byteI_val (by omega) (by omega), byteI_val (by omega) (by omega)]
    have k5 : (f == 17) = false := by rw [beq_eq_false_iff_ne]; omega
    have k6 : (f == 43) = false := by rw [beq_eq_false_iff_ne]; omega
    obtain ⟨hk1, hk2⟩ := hk
    clear hq hf1 hf2
    go_enter Tryz.func86, Tryz.ntmps86
    go_wp2_with (go_at_call 32; (with_reducible refine (HQ.out _).mono ?_); rintro r w1 ⟨rfl, hb1⟩; have y0 := hpCell (hpKeep (hpNew w _) hb1) 0; have y1 := hpCell (hpKeep (hpNew w _) hb1) 1; have y2 := hpCell (hpKeep (hpNew w _) hb1) 2)
    go_ret2
    rw [HL.out]
    refine NewBs.lit (bt (bal' w _) hb1 (Nat.le_refl _)) ?_ (by simp) rfl
    rw [← HV.out]

/-- What the cells of the reference's link say. -/
structure Rk where
  b : Int
  p : Int
  re : Int
  ti : Int
  de : Int
  ph : Int
  un : Int
  q : Rq
  now : Int
  en : Int
  til : Int
  la : Int
  ea : Option Addr
  eln : Nat
  ec : Nat
  cnt : Int
  bad : Bool
  late : Bool
  o : Oc
  da : Option Addr
  dn : Nat
  dc : Nat
  oa : Option Addr
  on : Nat
  oc : Nat

def Rk.cells (s : Rk) : Array Value := #[.int .i64 s.b, .int .i64 s.p, .int .i64 s.re, .int .i64 s.ti, .int .i64 s.de, .int .i64 s.ph, .int .i64 s.un, .int .i64 s.q.fn, .int .i64 s.q.addr, .int .i64 s.q.qty, .int .i64 s.q.code, .int .i64 s.q.obj, .int .i64 s.now, .int .i64 s.en, .int .i64 s.til, .int .i64 s.la, .slice s.ea s.eln s.ec, .int .i64 s.cnt, .bool s.bad, .bool s.late, .int .i64 s.o.verdict, .int .i64 s.o.reply.fn, .int .i64 s.o.reply.exc, .slice s.da s.dn s.dc, .int .i64 s.o.reply.code, .int .i64 s.o.reply.level, .bool s.o.reply.more, .int .i64 s.o.reply.next, .slice s.oa s.on s.oc]
def RkAt (w : World) (g : Nat) (s : Rk) : Prop := w.heap[g]? = some (.cells s.cells 52)
theorem RkAt.keep {w w' : World} {g : Nat} {s : Rk} (h : RkAt w g s) (hb : Below w.heap.size w w') : RkAt w' g s := hpKeep h hb
theorem RkAt.keeps {w w' : World} {F : Nat → Prop} {g : Nat} {s : Rk} (h : RkAt w g s) (hk : Keeps F w w') (hn : ¬ F g) : RkAt w' g s := hpKeeps h hk hn
theorem RkAt.cell {w : World} {g : Nat} {s : Rk} (h : RkAt w g s) (i : Nat) : w.cell? ⟨g, i, none⟩ = s.cells[i]? := hpCell h i
theorem RkAt.free {w : World} {g : Nat} {s : Rk} (h : RkAt w g s) (i : Nat) : w.frozen? ⟨g, i, none⟩ = false := hpFree h i
theorem RkAt.lt {w : World} {g : Nat} {s : Rk} (h : RkAt w g s) : g < w.heap.size := hpLt h
def Rk.new (b p re ti de : Int) : Rk := ⟨b, p, re, ti, de, 0, 0, Rq.zero, 0, 0, 0, 0, none, 0, 0, 0, false, false, Oc.zero, none, 0, 0, none, 0, 0⟩
def Rk.begun (s : Rk) (unit : Int) (q : Rq) (tick : Int) : Rk := { s with ph := 1, un := unit, q := q, now := tick, cnt := 0, bad := false, late := false, o := Oc.zero, da := none, dn := 0, dc := 0, oa := none, on := 0, oc := 0 }

set_option maxRecDepth 100000 in
set_option maxHeartbeats 3200000 in
theorem rknew_ok (b p re ti de : Int) (h : Hid (Okset b p)) (h1 : 0 ≤ re) (h2 : re ≤ 5) (h3 : 1 ≤ ti) (h4 : ti ≤ 5000000) (h5 : 0 ≤ de) (h6 : de ≤ 5000000) (w : World) :
    Calls Tryz.prog 7 #[.agg #[.int .i64 b, .int .i64 p], .int .i64 re, .int .i64 ti, .int .i64 de] w (fun r w' => ∃ g : Nat, r = .returned (.tuple #[.pointer (some ⟨g, 0, none⟩), .int .i64 0]) ∧ w.heap.size ≤ g ∧ RkAt w' g (Rk.new b p re ti de) ∧ Below w.heap.size w w') := by
  have d1 : decide (re < 0) = false := decide_eq_false (by omega)
  have d2 : decide (5 < re) = false := decide_eq_false (by omega)
  have d3 : decide (ti < 1) = false := decide_eq_false (by omega)
  have d4 : decide (5000000 < ti) = false := decide_eq_false (by omega)
  have d5 : decide (de < 0) = false := decide_eq_false (by omega)
  have d6 : decide (5000000 < de) = false := decide_eq_false (by omega)
  go_enter Tryz.func7, Tryz.ntmps7
  go_wp2_with (go_at_call 23; (with_reducible refine (rvalid_ok b p h _).mono ?_); rintro r w1 ⟨rfl, hb1⟩; have y0 := hpCell (hpKeep (hpNew w _) hb1) 0; have y1 := hpCell (hpKeep (hpNew w _) hb1) 1)
  go_ret2
  have hbw := bt (bal' w _) hb1 (Nat.le_refl _)
  exact ⟨_, rfl, hbw.size, hpNew _ _, bta hbw (Nat.le_refl _) _⟩

set_option maxRecDepth 100000 in
set_option maxHeartbeats 3200000 in
theorem rknew_range (b p re ti de : Int) (h : Hid (Okset b p)) (hr : ¬ (0 ≤ re ∧ re ≤ 5 ∧ 1 ≤ ti ∧ ti ≤ 5000000 ∧ 0 ≤ de ∧ de ≤ 5000000)) (w : World) :
    Calls Tryz.prog 7 #[.agg #[.int .i64 b, .int .i64 p], .int .i64 re, .int .i64 ti, .int .i64 de] w fun r w' => r = .returned (.tuple #[.pointer none, .int .i64 3]) ∧ Below w.heap.size w w' := by
  have hc : re < 0 ∨ (0 ≤ re ∧ 5 < re) ∨ (0 ≤ re ∧ re ≤ 5 ∧ ti < 1) ∨ (0 ≤ re ∧ re ≤ 5 ∧ 1 ≤ ti ∧ 5000000 < ti) ∨ (0 ≤ re ∧ re ≤ 5 ∧ 1 ≤ ti ∧ ti ≤ 5000000 ∧ de < 0) ∨ (0 ≤ re ∧ re ≤ 5 ∧ 1 ≤ ti ∧ ti ≤ 5000000 ∧ 0 ≤ de ∧ 5000000 < de) := by omega
  clear hr
  rcases hc with hc | ⟨c1, hc⟩ | ⟨c1, c2, hc⟩ | ⟨c1, c2, c3, hc⟩ | ⟨c1, c2, c3, c4, hc⟩ | ⟨c1, c2, c3, c4, c5, hc⟩
  all_goals
    go_enter Tryz.func7, Tryz.ntmps7
    go_wp2_with (go_at_call 23; (with_reducible refine (rvalid_ok b p h _).mono ?_); rintro r w1 ⟨rfl, hb1⟩; have y0 := hpCell (hpKeep (hpNew w _) hb1) 0; have y1 := hpCell (hpKeep (hpNew w _) hb1) 1)
    go_ret2
    exact ⟨rfl, bt (bal' w _) hb1 (Nat.le_refl _)⟩

set_option maxRecDepth 100000 in
set_option maxHeartbeats 1600000 in
theorem rrun_any (g : Nat) (s : Rk) (w : World) (hl : RkAt w g s) (V : Bool) (hV : Hid ((s.ph != 0 && s.ph != 5) = V)) :
    Calls Tryz.prog 31 #[.pointer (some ⟨g, 0, none⟩)] w fun r w' => r = .returned (.bool V) ∧ w = w' := by
  have c5 : w.cell? ⟨g, 5, none⟩ = some (.int .i64 s.ph) := hl.cell 5
  clear hl
  cases h0 : (s.ph != 0) with
  | false =>
    have HF : Hid (V = false) := by show _ = _; rw [← hV.out, h0]; rfl
    clear hV
    go_enter Tryz.func31, Tryz.ntmps31
    go_wp2
    go_ret
    exact ⟨by rw [HF.out]; rfl, rfl⟩
  | true =>
    have HF : Hid ((s.ph != 5) = V) := by show _ = _; rw [← hV.out, h0]; rfl
    clear hV
    go_enter Tryz.func31, Tryz.ntmps31
    go_wp2
    go_ret
    exact ⟨ret_bool HF.out, rfl⟩

set_option maxRecDepth 100000 in
set_option maxHeartbeats 3200000 in
theorem rbegun_chain {W : World} {g : Nat} {s : Rk} {unit qf qa qq qc qo tick : Int} (h : RkAt W g s) :
    RkAt ((((((((((((((((((((W.setCell ⟨g, 5, none⟩ (.int .i64 1)).setCell ⟨g, 6, none⟩ (.int .i64 unit)).setCell ⟨g, 7, none⟩ (.int .i64 qf)).setCell ⟨g, 8, none⟩ (.int .i64 qa)).setCell ⟨g, 9, none⟩ (.int .i64 qq)).setCell ⟨g, 10, none⟩ (.int .i64 qc)).setCell ⟨g, 11, none⟩ (.int .i64 qo)).setCell ⟨g, 12, none⟩ (.int .i64 tick)).setCell ⟨g, 17, none⟩ (.int .i64 0)).setCell ⟨g, 18, none⟩ (.bool false)).setCell ⟨g, 19, none⟩ (.bool false)).setCell ⟨g, 20, none⟩ (.int .i64 0)).setCell ⟨g, 21, none⟩ (.int .i64 0)).setCell ⟨g, 22, none⟩ (.int .i64 0)).setCell ⟨g, 23, none⟩ (.slice none 0 0)).setCell ⟨g, 24, none⟩ (.int .i64 0)).setCell ⟨g, 25, none⟩ (.int .i64 0)).setCell ⟨g, 26, none⟩ (.bool false)).setCell ⟨g, 27, none⟩ (.int .i64 0)).setCell ⟨g, 28, none⟩ (.slice none 0 0)) g (s.begun unit ⟨qf, qa, qq, qc, qo⟩ tick) ∧ Keeps (· = g) W ((((((((((((((((((((W.setCell ⟨g, 5, none⟩ (.int .i64 1)).setCell ⟨g, 6, none⟩ (.int .i64 unit)).setCell ⟨g, 7, none⟩ (.int .i64 qf)).setCell ⟨g, 8, none⟩ (.int .i64 qa)).setCell ⟨g, 9, none⟩ (.int .i64 qq)).setCell ⟨g, 10, none⟩ (.int .i64 qc)).setCell ⟨g, 11, none⟩ (.int .i64 qo)).setCell ⟨g, 12, none⟩ (.int .i64 tick)).setCell ⟨g, 17, none⟩ (.int .i64 0)).setCell ⟨g, 18, none⟩ (.bool false)).setCell ⟨g, 19, none⟩ (.bool false)).setCell ⟨g, 20, none⟩ (.int .i64 0)).setCell ⟨g, 21, none⟩ (.int .i64 0)).setCell ⟨g, 22, none⟩ (.int .i64 0)).setCell ⟨g, 23, none⟩ (.slice none 0 0)).setCell ⟨g, 24, none⟩ (.int .i64 0)).setCell ⟨g, 25, none⟩ (.int .i64 0)).setCell ⟨g, 26, none⟩ (.bool false)).setCell ⟨g, 27, none⟩ (.int .i64 0)).setCell ⟨g, 28, none⟩ (.slice none 0 0)) := by
  refine ⟨?_, kset' (kset' (kset' (kset' (kset' (kset' (kset' (kset' (kset' (kset' (kset' (kset' (kset' (kset' (kset' (kset' (kset' (kset' (kset' (kset' (Keeps.refl _ _) _ _) _ _) _ _) _ _) _ _) _ _) _ _) _ _) _ _) _ _) _ _) _ _) _ _) _ _) _ _) _ _) _ _) _ _) _ _) _ _⟩
  · unfold RkAt
    show _ = some (Obj.cells #[.int .i64 s.b, .int .i64 s.p, .int .i64 s.re, .int .i64 s.ti, .int .i64 s.de, .int .i64 1, .int .i64 unit, .int .i64 qf, .int .i64 qa, .int .i64 qq, .int .i64 qc, .int .i64 qo, .int .i64 tick, .int .i64 s.en, .int .i64 s.til, .int .i64 s.la, .slice s.ea s.eln s.ec, .int .i64 0, .bool false, .bool false, .int .i64 0, .int .i64 0, .int .i64 0, .slice none 0 0, .int .i64 0, .int .i64 0, .bool false, .int .i64 0, .slice none 0 0] 52)
    refine hpSetE (c := #[.int .i64 s.b, .int .i64 s.p, .int .i64 s.re, .int .i64 s.ti, .int .i64 s.de, .int .i64 1, .int .i64 unit, .int .i64 qf, .int .i64 qa, .int .i64 qq, .int .i64 qc, .int .i64 qo, .int .i64 tick, .int .i64 s.en, .int .i64 s.til, .int .i64 s.la, .slice s.ea s.eln s.ec, .int .i64 0, .bool false, .bool false, .int .i64 0, .int .i64 0, .int .i64 0, .slice none 0 0, .int .i64 0, .int .i64 0, .bool false, .int .i64 0, .slice s.oa s.on s.oc]) ?_ rfl
    refine hpSetE (c := #[.int .i64 s.b, .int .i64 s.p, .int .i64 s.re, .int .i64 s.ti, .int .i64 s.de, .int .i64 1, .int .i64 unit, .int .i64 qf, .int .i64 qa, .int .i64 qq, .int .i64 qc, .int .i64 qo, .int .i64 tick, .int .i64 s.en, .int .i64 s.til, .int .i64 s.la, .slice s.ea s.eln s.ec, .int .i64 0, .bool false, .bool false, .int .i64 0, .int .i64 0, .int .i64 0, .slice none 0 0, .int .i64 0, .int .i64 0, .bool false, .int .i64 s.o.reply.next, .slice s.oa s.on s.oc]) ?_ rfl
    refine hpSetE (c := #[.int .i64 s.b, .int .i64 s.p, .int .i64 s.re, .int .i64 s.ti, .int .i64 s.de, .int .i64 1, .int .i64 unit, .int .i64 qf, .int .i64 qa, .int .i64 qq, .int .i64 qc, .int .i64 qo, .int .i64 tick, .int .i64 s.en, .int .i64 s.til, .int .i64 s.la, .slice s.ea s.eln s.ec, .int .i64 0, .bool false, .bool false, .int .i64 0, .int .i64 0, .int .i64 0, .slice none 0 0, .int .i64 0, .int .i64 0, .bool s.o.reply.more, .int .i64 s.o.reply.next, .slice s.oa s.on s.oc]) ?_ rfl
    refine hpSetE (c := #[.int .i64 s.b, .int .i64 s.p, .int .i64 s.re, .int .i64 s.ti, .int .i64 s.de, .int .i64 1, .int .i64 unit, .int .i64 qf, .int .i64 qa, .int .i64 qq, .int .i64 qc, .int .i64 qo, .int .i64 tick, .int .i64 s.en, .int .i64 s.til, .int .i64 s.la, .slice s.ea s.eln s.ec, .int .i64 0, .bool false, .bool false, .int .i64 0, .int .i64 0, .int .i64 0, .slice none 0 0, .int .i64 0, .int .i64 s.o.reply.level, .bool s.o.reply.more, .int .i64 s.o.reply.next, .slice s.oa s.on s.oc]) ?_ rfl
    refine hpSetE (c := #[.int .i64 s.b, .int .i64 s.p, .int .i64 s.re, .int .i64 s.ti, .int .i64 s.de, .int .i64 1, .int .i64 unit, .int .i64 qf, .int .i64 qa, .int .i64 qq, .int .i64 qc, .int .i64 qo, .int .i64 tick, .int .i64 s.en, .int .i64 s.til, .int .i64 s.la, .slice s.ea s.eln s.ec, .int .i64 0, .bool false, .bool false, .int .i64 0, .int .i64 0, .int .i64 0, .slice none 0 0, .int .i64 s.o.reply.code, .int .i64 s.o.reply.level, .bool s.o.reply.more, .int .i64 s.o.reply.next, .slice s.oa s.on s.oc]) ?_ rfl
    refine hpSetE (c := #[.int .i64 s.b, .int .i64 s.p, .int .i64 s.re, .int .i64 s.ti, .int .i64 s.de, .int .i64 1, .int .i64 unit, .int .i64 qf, .int .i64 qa, .int .i64 qq, .int .i64 qc, .int .i64 qo, .int .i64 tick, .int .i64 s.en, .int .i64 s.til, .int .i64 s.la, .slice s.ea s.eln s.ec, .int .i64 0, .bool false, .bool false, .int .i64 0, .int .i64 0, .int .i64 0, .slice s.da s.dn s.dc, .int .i64 s.o.reply.code, .int .i64 s.o.reply.level, .bool s.o.reply.more, .int .i64 s.o.reply.next, .slice s.oa s.on s.oc]) ?_ rfl
    refine hpSetE (c := #[.int .i64 s.b, .int .i64 s.p, .int .i64 s.re, .int .i64 s.ti, .int .i64 s.de, .int .i64 1, .int .i64 unit, .int .i64 qf, .int .i64 qa, .int .i64 qq, .int .i64 qc, .int .i64 qo, .int .i64 tick, .int .i64 s.en, .int .i64 s.til, .int .i64 s.la, .slice s.ea s.eln s.ec, .int .i64 0, .bool false, .bool false, .int .i64 0, .int .i64 0, .int .i64 s.o.reply.exc, .slice s.da s.dn s.dc, .int .i64 s.o.reply.code, .int .i64 s.o.reply.level, .bool s.o.reply.more, .int .i64 s.o.reply.next, .slice s.oa s.on s.oc]) ?_ rfl
    refine hpSetE (c := #[.int .i64 s.b, .int .i64 s.p, .int .i64 s.re, .int .i64 s.ti, .int .i64 s.de, .int .i64 1, .int .i64 unit, .int .i64 qf, .int .i64 qa, .int .i64 qq, .int .i64 qc, .int .i64 qo, .int .i64 tick, .int .i64 s.en, .int .i64 s.til, .int .i64 s.la, .slice s.ea s.eln s.ec, .int .i64 0, .bool false, .bool false, .int .i64 0, .int .i64 s.o.reply.fn, .int .i64 s.o.reply.exc, .slice s.da s.dn s.dc, .int .i64 s.o.reply.code, .int .i64 s.o.reply.level, .bool s.o.reply.more, .int .i64 s.o.reply.next, .slice s.oa s.on s.oc]) ?_ rfl
    refine hpSetE (c := #[.int .i64 s.b, .int .i64 s.p, .int .i64 s.re, .int .i64 s.ti, .int .i64 s.de, .int .i64 1, .int .i64 unit, .int .i64 qf, .int .i64 qa, .int .i64 qq, .int .i64 qc, .int .i64 qo, .int .i64 tick, .int .i64 s.en, .int .i64 s.til, .int .i64 s.la, .slice s.ea s.eln s.ec, .int .i64 0, .bool false, .bool false, .int .i64 s.o.verdict, .int .i64 s.o.reply.fn, .int .i64 s.o.reply.exc, .slice s.da s.dn s.dc, .int .i64 s.o.reply.code, .int .i64 s.o.reply.level, .bool s.o.reply.more, .int .i64 s.o.reply.next, .slice s.oa s.on s.oc]) ?_ rfl
    refine hpSetE (c := #[.int .i64 s.b, .int .i64 s.p, .int .i64 s.re, .int .i64 s.ti, .int .i64 s.de, .int .i64 1, .int .i64 unit, .int .i64 qf, .int .i64 qa, .int .i64 qq, .int .i64 qc, .int .i64 qo, .int .i64 tick, .int .i64 s.en, .int .i64 s.til, .int .i64 s.la, .slice s.ea s.eln s.ec, .int .i64 0, .bool false, .bool s.late, .int .i64 s.o.verdict, .int .i64 s.o.reply.fn, .int .i64 s.o.reply.exc, .slice s.da s.dn s.dc, .int .i64 s.o.reply.code, .int .i64 s.o.reply.level, .bool s.o.reply.more, .int .i64 s.o.reply.next, .slice s.oa s.on s.oc]) ?_ rfl
    refine hpSetE (c := #[.int .i64 s.b, .int .i64 s.p, .int .i64 s.re, .int .i64 s.ti, .int .i64 s.de, .int .i64 1, .int .i64 unit, .int .i64 qf, .int .i64 qa, .int .i64 qq, .int .i64 qc, .int .i64 qo, .int .i64 tick, .int .i64 s.en, .int .i64 s.til, .int .i64 s.la, .slice s.ea s.eln s.ec, .int .i64 0, .bool s.bad, .bool s.late, .int .i64 s.o.verdict, .int .i64 s.o.reply.fn, .int .i64 s.o.reply.exc, .slice s.da s.dn s.dc, .int .i64 s.o.reply.code, .int .i64 s.o.reply.level, .bool s.o.reply.more, .int .i64 s.o.reply.next, .slice s.oa s.on s.oc]) ?_ rfl
    refine hpSetE (c := #[.int .i64 s.b, .int .i64 s.p, .int .i64 s.re, .int .i64 s.ti, .int .i64 s.de, .int .i64 1, .int .i64 unit, .int .i64 qf, .int .i64 qa, .int .i64 qq, .int .i64 qc, .int .i64 qo, .int .i64 tick, .int .i64 s.en, .int .i64 s.til, .int .i64 s.la, .slice s.ea s.eln s.ec, .int .i64 s.cnt, .bool s.bad, .bool s.late, .int .i64 s.o.verdict, .int .i64 s.o.reply.fn, .int .i64 s.o.reply.exc, .slice s.da s.dn s.dc, .int .i64 s.o.reply.code, .int .i64 s.o.reply.level, .bool s.o.reply.more, .int .i64 s.o.reply.next, .slice s.oa s.on s.oc]) ?_ rfl
    refine hpSetE (c := #[.int .i64 s.b, .int .i64 s.p, .int .i64 s.re, .int .i64 s.ti, .int .i64 s.de, .int .i64 1, .int .i64 unit, .int .i64 qf, .int .i64 qa, .int .i64 qq, .int .i64 qc, .int .i64 qo, .int .i64 s.now, .int .i64 s.en, .int .i64 s.til, .int .i64 s.la, .slice s.ea s.eln s.ec, .int .i64 s.cnt, .bool s.bad, .bool s.late, .int .i64 s.o.verdict, .int .i64 s.o.reply.fn, .int .i64 s.o.reply.exc, .slice s.da s.dn s.dc, .int .i64 s.o.reply.code, .int .i64 s.o.reply.level, .bool s.o.reply.more, .int .i64 s.o.reply.next, .slice s.oa s.on s.oc]) ?_ rfl
    refine hpSetE (c := #[.int .i64 s.b, .int .i64 s.p, .int .i64 s.re, .int .i64 s.ti, .int .i64 s.de, .int .i64 1, .int .i64 unit, .int .i64 qf, .int .i64 qa, .int .i64 qq, .int .i64 qc, .int .i64 s.q.obj, .int .i64 s.now, .int .i64 s.en, .int .i64 s.til, .int .i64 s.la, .slice s.ea s.eln s.ec, .int .i64 s.cnt, .bool s.bad, .bool s.late, .int .i64 s.o.verdict, .int .i64 s.o.reply.fn, .int .i64 s.o.reply.exc, .slice s.da s.dn s.dc, .int .i64 s.o.reply.code, .int .i64 s.o.reply.level, .bool s.o.reply.more, .int .i64 s.o.reply.next, .slice s.oa s.on s.oc]) ?_ rfl
    refine hpSetE (c := #[.int .i64 s.b, .int .i64 s.p, .int .i64 s.re, .int .i64 s.ti, .int .i64 s.de, .int .i64 1, .int .i64 unit, .int .i64 qf, .int .i64 qa, .int .i64 qq, .int .i64 s.q.code, .int .i64 s.q.obj, .int .i64 s.now, .int .i64 s.en, .int .i64 s.til, .int .i64 s.la, .slice s.ea s.eln s.ec, .int .i64 s.cnt, .bool s.bad, .bool s.late, .int .i64 s.o.verdict, .int .i64 s.o.reply.fn, .int .i64 s.o.reply.exc, .slice s.da s.dn s.dc, .int .i64 s.o.reply.code, .int .i64 s.o.reply.level, .bool s.o.reply.more, .int .i64 s.o.reply.next, .slice s.oa s.on s.oc]) ?_ rfl
    refine hpSetE (c := #[.int .i64 s.b, .int .i64 s.p, .int .i64 s.re, .int .i64 s.ti, .int .i64 s.de, .int .i64 1, .int .i64 unit, .int .i64 qf, .int .i64 qa, .int .i64 s.q.qty, .int .i64 s.q.code, .int .i64 s.q.obj, .int .i64 s.now, .int .i64 s.en, .int .i64 s.til, .int .i64 s.la, .slice s.ea s.eln s.ec, .int .i64 s.cnt, .bool s.bad, .bool s.late, .int .i64 s.o.verdict, .int .i64 s.o.reply.fn, .int .i64 s.o.reply.exc, .slice s.da s.dn s.dc, .int .i64 s.o.reply.code, .int .i64 s.o.reply.level, .bool s.o.reply.more, .int .i64 s.o.reply.next, .slice s.oa s.on s.oc]) ?_ rfl
    refine hpSetE (c := #[.int .i64 s.b, .int .i64 s.p, .int .i64 s.re, .int .i64 s.ti, .int .i64 s.de, .int .i64 1, .int .i64 unit, .int .i64 qf, .int .i64 s.q.addr, .int .i64 s.q.qty, .int .i64 s.q.code, .int .i64 s.q.obj, .int .i64 s.now, .int .i64 s.en, .int .i64 s.til, .int .i64 s.la, .slice s.ea s.eln s.ec, .int .i64 s.cnt, .bool s.bad, .bool s.late, .int .i64 s.o.verdict, .int .i64 s.o.reply.fn, .int .i64 s.o.reply.exc, .slice s.da s.dn s.dc, .int .i64 s.o.reply.code, .int .i64 s.o.reply.level, .bool s.o.reply.more, .int .i64 s.o.reply.next, .slice s.oa s.on s.oc]) ?_ rfl
    refine hpSetE (c := #[.int .i64 s.b, .int .i64 s.p, .int .i64 s.re, .int .i64 s.ti, .int .i64 s.de, .int .i64 1, .int .i64 unit, .int .i64 s.q.fn, .int .i64 s.q.addr, .int .i64 s.q.qty, .int .i64 s.q.code, .int .i64 s.q.obj, .int .i64 s.now, .int .i64 s.en, .int .i64 s.til, .int .i64 s.la, .slice s.ea s.eln s.ec, .int .i64 s.cnt, .bool s.bad, .bool s.late, .int .i64 s.o.verdict, .int .i64 s.o.reply.fn, .int .i64 s.o.reply.exc, .slice s.da s.dn s.dc, .int .i64 s.o.reply.code, .int .i64 s.o.reply.level, .bool s.o.reply.more, .int .i64 s.o.reply.next, .slice s.oa s.on s.oc]) ?_ rfl
    refine hpSetE (c := #[.int .i64 s.b, .int .i64 s.p, .int .i64 s.re, .int .i64 s.ti, .int .i64 s.de, .int .i64 1, .int .i64 s.un, .int .i64 s.q.fn, .int .i64 s.q.addr, .int .i64 s.q.qty, .int .i64 s.q.code, .int .i64 s.q.obj, .int .i64 s.now, .int .i64 s.en, .int .i64 s.til, .int .i64 s.la, .slice s.ea s.eln s.ec, .int .i64 s.cnt, .bool s.bad, .bool s.late, .int .i64 s.o.verdict, .int .i64 s.o.reply.fn, .int .i64 s.o.reply.exc, .slice s.da s.dn s.dc, .int .i64 s.o.reply.code, .int .i64 s.o.reply.level, .bool s.o.reply.more, .int .i64 s.o.reply.next, .slice s.oa s.on s.oc]) ?_ rfl
    refine hpSetE (c := #[.int .i64 s.b, .int .i64 s.p, .int .i64 s.re, .int .i64 s.ti, .int .i64 s.de, .int .i64 s.ph, .int .i64 s.un, .int .i64 s.q.fn, .int .i64 s.q.addr, .int .i64 s.q.qty, .int .i64 s.q.code, .int .i64 s.q.obj, .int .i64 s.now, .int .i64 s.en, .int .i64 s.til, .int .i64 s.la, .slice s.ea s.eln s.ec, .int .i64 s.cnt, .bool s.bad, .bool s.late, .int .i64 s.o.verdict, .int .i64 s.o.reply.fn, .int .i64 s.o.reply.exc, .slice s.da s.dn s.dc, .int .i64 s.o.reply.code, .int .i64 s.o.reply.level, .bool s.o.reply.more, .int .i64 s.o.reply.next, .slice s.oa s.on s.oc]) ?_ rfl
    exact h

/-- A call that is refused: nothing changes. -/
def RRefused (w : World) (e : Int) (r : Ending) (w' : World) : Prop := r = .returned (.int .i64 e) ∧ Below w.heap.size w w'
def RStep (w : World) (g : Nat) (s' : Rk) (r : Ending) (w' : World) : Prop := r = .returned (.int .i64 0) ∧ RkAt w' g s' ∧ Keeps (· = g) w w'

set_option maxRecDepth 100000 in
set_option maxHeartbeats 1600000 in
theorem rkbegin_pending (g : Nat) (s : Rk) (unit qf qa qq qc qo tick : Int) (w : World) (hl : RkAt w g s) (h0 : ¬ s.ph = 0) (h5 : ¬ s.ph = 5) :
    Calls Tryz.prog 11 #[.pointer (some ⟨g, 0, none⟩), .int .i64 unit, .agg #[.int .i64 qf, .int .i64 qa, .int .i64 qq, .int .i64 qc, .int .i64 qo], .int .i64 tick] w (RRefused w 14) := by
  have HR : Hid (∀ X, Calls Tryz.prog 31 #[.pointer (some ⟨g, 0, none⟩)] (w.alloc X) fun r w' => r = .returned (.bool true) ∧ w.alloc X = w') := fun X => rrun_any g s _ (hl.keep (bal' _ _)) true (by show _ = _; simp [h0, h5])
  clear hl h0 h5
  go_enter Tryz.func11, Tryz.ntmps11
  go_wp2_with (go_at_call 31; (with_reducible refine (HR.out _).mono ?_); rintro r w1 ⟨rfl, rfl⟩)
  go_ret
  exact ⟨rfl, bal' w _⟩

set_option maxRecDepth 100000 in
set_option maxHeartbeats 3200000 in
theorem rkbegin_range (g : Nat) (s : Rk) (unit qf qa qq qc qo tick : Int) (w : World) (hl : RkAt w g s) (hph : s.ph = 0 ∨ s.ph = 5) (hn : 0 ≤ s.now) (hr : ¬ (1 ≤ unit ∧ unit ≤ 247 ∧ s.now ≤ tick ∧ tick ≤ 1152921504606846976)) :
    Calls Tryz.prog 11 #[.pointer (some ⟨g, 0, none⟩), .int .i64 unit, .agg #[.int .i64 qf, .int .i64 qa, .int .i64 qq, .int .i64 qc, .int .i64 qo], .int .i64 tick] w (RRefused w 3) := by
  have hg := hl.lt
  have HR : Hid (∀ X, Calls Tryz.prog 31 #[.pointer (some ⟨g, 0, none⟩)] (w.alloc X) fun r w' => r = .returned (.bool false) ∧ w.alloc X = w') := fun X => rrun_any g s _ (hl.keep (bal' _ _)) false (by show _ = _; rcases hph with h | h <;> rw [h] <;> rfl)
  have c12 : w.cell? ⟨g, 12, none⟩ = some (.int .i64 s.now) := hl.cell 12
  have hc : unit < 1 ∨ (1 ≤ unit ∧ 247 < unit) ∨ (1 ≤ unit ∧ unit ≤ 247 ∧ tick < 0) ∨ (1 ≤ unit ∧ unit ≤ 247 ∧ 0 ≤ tick ∧ 1152921504606846976 < tick) ∨ (1 ≤ unit ∧ unit ≤ 247 ∧ 0 ≤ tick ∧ tick ≤ 1152921504606846976 ∧ tick < s.now) := by omega
  clear hl hph hr
  rcases hc with hc | ⟨c1, hc⟩ | ⟨c1, c2, hc⟩ | ⟨c1, c2, c3, hc⟩ | ⟨c1, c2, c3, c4, hc⟩
  all_goals
    go_enter Tryz.func11, Tryz.ntmps11
    go_wp2_with (go_at_call 31; (with_reducible refine (HR.out _).mono ?_); rintro r w1 ⟨rfl, rfl⟩)
    go_ret
    exact ⟨rfl, bal' w _⟩

set_option maxRecDepth 100000 in
set_option maxHeartbeats 3200000 in
theorem rkbegin_form (g : Nat) (s : Rk) (unit qf qa qq qc qo tick : Int) (w : World) (hl : RkAt w g s) (hph : s.ph = 0 ∨ s.ph = 5) (hn : 0 ≤ s.now) (h1 : 1 ≤ unit) (h2 : unit ≤ 247) (h3 : s.now ≤ tick) (h4 : tick ≤ 1152921504606846976) (hq : Rq.ok ⟨qf, qa, qq, qc, qo⟩ = false) :
    Calls Tryz.prog 11 #[.pointer (some ⟨g, 0, none⟩), .int .i64 unit, .agg #[.int .i64 qf, .int .i64 qa, .int .i64 qq, .int .i64 qc, .int .i64 qo], .int .i64 tick] w (RRefused w 5) := by
  have hg := hl.lt
  have HR : Hid (∀ X, Calls Tryz.prog 31 #[.pointer (some ⟨g, 0, none⟩)] (w.alloc X) fun r w' => r = .returned (.bool false) ∧ w.alloc X = w') := fun X => rrun_any g s _ (hl.keep (bal' _ _)) false (by show _ = _; rcases hph with h | h <;> rw [h] <;> rfl)
  have HQ : Hid (∀ W, Calls Tryz.prog 32 #[.agg #[.int .i64 qf, .int .i64 qa, .int .i64 qq, .int .i64 qc, .int .i64 qo]] W fun r w' => r = .returned (.bool false) ∧ Below W.heap.size W w') := fun W => by rw [← hq]; exact rqvalid_any qf qa qq qc qo W
  have c12 : w.cell? ⟨g, 12, none⟩ = some (.int .i64 s.now) := hl.cell 12
  have ht0 : 0 ≤ tick := by omega
  clear hl hph hq
  go_enter Tryz.func11, Tryz.ntmps11
  go_wp2_with (first | (go_at_call 31; (with_reducible refine (HR.out _).mono ?_); rintro r w1 ⟨rfl, rfl⟩) | (go_at_call 32; (with_reducible refine (HQ.out _).mono ?_); rintro r w1 ⟨rfl, hb1⟩))
  go_ret
  exact ⟨rfl, bt (bal' w _) hb1 (Nat.le_refl _)⟩

set_option maxRecDepth 100000 in
set_option maxHeartbeats 6400000 in
theorem rkbegin_ok (g : Nat) (s : Rk) (unit qf qa qq qc qo tick : Int) (w : World) (hl : RkAt w g s) (hph : s.ph = 0 ∨ s.ph = 5) (hn : 0 ≤ s.now) (h1 : 1 ≤ unit) (h2 : unit ≤ 247) (h3 : s.now ≤ tick) (h4 : tick ≤ 1152921504606846976) (hq : Rq.ok ⟨qf, qa, qq, qc, qo⟩ = true) :
    Calls Tryz.prog 11 #[.pointer (some ⟨g, 0, none⟩), .int .i64 unit, .agg #[.int .i64 qf, .int .i64 qa, .int .i64 qq, .int .i64 qc, .int .i64 qo], .int .i64 tick] w (RStep w g (s.begun unit ⟨qf, qa, qq, qc, qo⟩ tick)) := by
  have hg := hl.lt
  have HR : Hid (∀ X, Calls Tryz.prog 31 #[.pointer (some ⟨g, 0, none⟩)] (w.alloc X) fun r w' => r = .returned (.bool false) ∧ w.alloc X = w') := fun X => rrun_any g s _ (hl.keep (bal' _ _)) false (by show _ = _; rcases hph with h | h <;> rw [h] <;> rfl)
  have HQ : Hid (∀ W, Calls Tryz.prog 32 #[.agg #[.int .i64 qf, .int .i64 qa, .int .i64 qq, .int .i64 qc, .int .i64 qo]] W fun r w' => r = .returned (.bool true) ∧ Below W.heap.size W w') := fun W => by rw [← hq]; exact rqvalid_any qf qa qq qc qo W
  have c12 : w.cell? ⟨g, 12, none⟩ = some (.int .i64 s.now) := hl.cell 12
  have ht0 : 0 ≤ tick := by omega
  have HL := hid hl
  clear hl hph hq
  go_enter Tryz.func11, Tryz.ntmps11
  go_wp2_with (go_at_call 31; (with_reducible refine (HR.out _).mono ?_); rintro r w1 ⟨rfl, rfl⟩)
  refine (HQ.out _).mono ?_
  rintro r w1 ⟨rfl, hb1⟩
  have g1 := hpKeep (hpNew w _) hb1
  obtain ⟨y0, y1, y2, y3, y4⟩ : w1.cell? ⟨w.heap.size, 0, none⟩ = some (.int .i64 qf) ∧ w1.cell? ⟨w.heap.size, 1, none⟩ = some (.int .i64 qa) ∧ w1.cell? ⟨w.heap.size, 2, none⟩ = some (.int .i64 qq) ∧ w1.cell? ⟨w.heap.size, 3, none⟩ = some (.int .i64 qc) ∧ w1.cell? ⟨w.heap.size, 4, none⟩ = some (.int .i64 qo) := ⟨hpCell g1 0, hpCell g1 1, hpCell g1 2, hpCell g1 3, hpCell g1 4⟩
  have hbw := bt (bal' w _) hb1 (Nat.le_refl _)
  have l1 := HL.out.keep hbw
  have hgne : g ≠ w.heap.size := by omega
  have L1 := hid l1
  have HBW := hid hbw
  clear c12 g1
  have c5 : w1.cell? ⟨g, 5, none⟩ = some (.int .i64 s.ph) := hpCell l1 5
  have f5 : w1.frozen? ⟨g, 5, none⟩ = false := hpFree l1 5
  have c6 : w1.cell? ⟨g, 6, none⟩ = some (.int .i64 s.un) := hpCell l1 6
  have f6 : w1.frozen? ⟨g, 6, none⟩ = false := hpFree l1 6
  have c7 : w1.cell? ⟨g, 7, none⟩ = some (.int .i64 s.q.fn) := hpCell l1 7
  have f7 : w1.frozen? ⟨g, 7, none⟩ = false := hpFree l1 7
  have c8 : w1.cell? ⟨g, 8, none⟩ = some (.int .i64 s.q.addr) := hpCell l1 8
  have f8 : w1.frozen? ⟨g, 8, none⟩ = false := hpFree l1 8
  have c9 : w1.cell? ⟨g, 9, none⟩ = some (.int .i64 s.q.qty) := hpCell l1 9
  have f9 : w1.frozen? ⟨g, 9, none⟩ = false := hpFree l1 9
  have c10 : w1.cell? ⟨g, 10, none⟩ = some (.int .i64 s.q.code) := hpCell l1 10
  have f10 : w1.frozen? ⟨g, 10, none⟩ = false := hpFree l1 10
  have c11 : w1.cell? ⟨g, 11, none⟩ = some (.int .i64 s.q.obj) := hpCell l1 11
  have f11 : w1.frozen? ⟨g, 11, none⟩ = false := hpFree l1 11
  have c12 : w1.cell? ⟨g, 12, none⟩ = some (.int .i64 s.now) := hpCell l1 12
  have f12 : w1.frozen? ⟨g, 12, none⟩ = false := hpFree l1 12
  have c17 : w1.cell? ⟨g, 17, none⟩ = some (.int .i64 s.cnt) := hpCell l1 17
  have f17 : w1.frozen? ⟨g, 17, none⟩ = false := hpFree l1 17
  have c18 : w1.cell? ⟨g, 18, none⟩ = some (.bool s.bad) := hpCell l1 18
  have f18 : w1.frozen? ⟨g, 18, none⟩ = false := hpFree l1 18
  have c19 : w1.cell? ⟨g, 19, none⟩ = some (.bool s.late) := hpCell l1 19
  have f19 : w1.frozen? ⟨g, 19, none⟩ = false := hpFree l1 19
  have c20 : w1.cell? ⟨g, 20, none⟩ = some (.int .i64 s.o.verdict) := hpCell l1 20
  have f20 : w1.frozen? ⟨g, 20, none⟩ = false := hpFree l1 20
  have c21 : w1.cell? ⟨g, 21, none⟩ = some (.int .i64 s.o.reply.fn) := hpCell l1 21
  have f21 : w1.frozen? ⟨g, 21, none⟩ = false := hpFree l1 21
  have c22 : w1.cell? ⟨g, 22, none⟩ = some (.int .i64 s.o.reply.exc) := hpCell l1 22
  have f22 : w1.frozen? ⟨g, 22, none⟩ = false := hpFree l1 22
  have c23 : w1.cell? ⟨g, 23, none⟩ = some (.slice s.da s.dn s.dc) := hpCell l1 23
  have f23 : w1.frozen? ⟨g, 23, none⟩ = false := hpFree l1 23
  have c24 : w1.cell? ⟨g, 24, none⟩ = some (.int .i64 s.o.reply.code) := hpCell l1 24
  have f24 : w1.frozen? ⟨g, 24, none⟩ = false := hpFree l1 24
  have c25 : w1.cell? ⟨g, 25, none⟩ = some (.int .i64 s.o.reply.level) := hpCell l1 25
  have f25 : w1.frozen? ⟨g, 25, none⟩ = false := hpFree l1 25
  have c26 : w1.cell? ⟨g, 26, none⟩ = some (.bool s.o.reply.more) := hpCell l1 26
  have f26 : w1.frozen? ⟨g, 26, none⟩ = false := hpFree l1 26
  have c27 : w1.cell? ⟨g, 27, none⟩ = some (.int .i64 s.o.reply.next) := hpCell l1 27
  have f27 : w1.frozen? ⟨g, 27, none⟩ = false := hpFree l1 27
  have c28 : w1.cell? ⟨g, 28, none⟩ = some (.slice s.oa s.on s.oc) := hpCell l1 28
  have f28 : w1.frozen? ⟨g, 28, none⟩ = false := hpFree l1 28
  clear l1 hb1 hbw
  go_wp2_with fail
  go_region
  all_goals
    go_wp2
    go_ret
    obtain ⟨o1, o2⟩ := rbegun_chain (unit := unit) (qf := qf) (qa := qa) (qq := qq) (qc := qc) (qo := qo) (tick := tick) L1.out
    exact ⟨rfl, o1.keep (Below.refl _ _).drew, (Keeps.of_below HBW.out).trans (kdrew o2) (fun _ _ e => e)⟩

end Go.Proofs.YtpmidoneoonlcaaGreat

/-
The reference's times: T15, Drain.
-/
namespace Go.Proofs.YtpmidoneoonlcaaGreat
open Go.RowKit

set_option maxRecDepth 100000 in
set_option maxHeartbeats 800000 in
theorem rt15_ok (b p : Int) (h : Hid (Okset b p)) (w : World) :
    Calls Tryz.prog 85 #[.agg #[.int .i64 b, .int .i64 p]] w fun r w' => r = .returned (.int .i64 (t15T b)) ∧ Below w.heap.size w w' := by
  by_cases hs : 19200 < b
  · have HT : Hid (t15T b = 750) := if_pos hs
    go_enter Tryz.func85, Tryz.ntmps85
    go_wp2_with (first | (go_at_call 23; (with_reducible refine (rvalid_ok b p h _).mono ?_); rintro r w1 ⟨rfl, hb1⟩; have y0 := hpCell (hpKeep (hpNew w _) hb1) 0) | fail)
    go_ret
    exact ⟨by rw [HT.out]; rfl, bt (bal' w _) hb1 (Nat.le_refl _)⟩
  · have HT : Hid (t15T b = upI 16500000 b) := if_neg hs
    have HU : Hid (∀ W, Calls Tryz.prog 63 #[.int .i64 16500000, .int .i64 b] W fun r w' => r = .returned (.int .i64 (upI 16500000 b)) ∧ W = w') := fun W => rup_any _ b (by have := h.out.bd; omega) (by have := h.out.bd; omega) (by decide) (by decide) W
    go_enter Tryz.func85, Tryz.ntmps85
    go_wp2_with (first | (go_at_call 23; (with_reducible refine (rvalid_ok b p h _).mono ?_); rintro r w1 ⟨rfl, hb1⟩; have y0 := hpCell (hpKeep (hpNew w _) hb1) 0) | (go_at_call 63; (with_reducible refine (HU.out _).mono ?_); rintro r w2 ⟨rfl, rfl⟩))
    go_ret
    exact ⟨by rw [HT.out]; rfl, bt (bal' w _) hb1 (Nat.le_refl _)⟩

set_option maxHeartbeats 800000 in
theorem rticks_ok (n : Int) (h1 : 0 ≤ n) (h2 : n ≤ 5000000) (w : World) :
    Calls Tryz.prog 78 #[.int .i64 n] w fun r w' => r = .returned (.bool true) ∧ w = w' := by
  go_enter Tryz.func78, Tryz.ntmps78
  go_wp2
  go_ret
  have d : decide (n ≤ 5000000) = true := decide_eq_true h2
  first | exact ⟨rfl, rfl⟩ | exact ⟨ret_bool d, rfl⟩

set_option maxRecDepth 100000 in
set_option maxHeartbeats 1600000 in
theorem rdrain_ok (b p x y : Int) (h : Hid (Okset b p)) (hx1 : 0 ≤ x) (hx2 : x ≤ 5000000) (hy1 : 0 ≤ y) (hy2 : y ≤ 5000000) (w : World) :
    Calls Tryz.prog 66 #[.agg #[.int .i64 b, .int .i64 p], .int .i64 x, .int .i64 y] w fun r w' => r = .returned (.int .i64 (drainT b x y)) ∧ Below w.heap.size w w' := by
  obtain ⟨t1, t2, _, _, t5, t6⟩ := time_bd h.out
  obtain ⟨C, hC⟩ : ∃ C, charT b = C := ⟨_, rfl⟩
  obtain ⟨T, hT⟩ : ∃ T, t35T b = T := ⟨_, rfl⟩
  have HCH : Hid (∀ W, Calls Tryz.prog 37 #[.agg #[.int .i64 b, .int .i64 p]] W fun r w' => r = .returned (.int .i64 C) ∧ Below W.heap.size W w') := fun W => by rw [← hC]; exact rchar_ok b p h W
  have HT3 : Hid (∀ W, Calls Tryz.prog 36 #[.agg #[.int .i64 b, .int .i64 p]] W fun r w' => r = .returned (.int .i64 T) ∧ Below W.heap.size W w') := fun W => by rw [← hT]; exact rt35_ok b p h W
  have HD : Hid (drainT b x y = 2 * T + x + y + 257 * C) := by show _ = _; rw [← hC, ← hT]; rfl
  rw [hC] at t1 t2
  rw [hT] at t5 t6
  have s1 : IntKind.i64.wrap (2 * T) = 2 * T := IntWalk.i64_in _ (by omega)
  have s2 : IntKind.i64.wrap (2 * T + x) = 2 * T + x := IntWalk.i64_in _ (by omega)
  have s3 : IntKind.i64.wrap (2 * T + x + y) = 2 * T + x + y := IntWalk.i64_in _ (by omega)
  have s4 : IntKind.i64.wrap (257 * C) = 257 * C := IntWalk.i64_in _ (by omega)
  have s5 : IntKind.i64.wrap (2 * T + x + y + 257 * C) = 2 * T + x + y + 257 * C := IntWalk.i64_in _ (by omega)
  clear hC hT
  go_enter Tryz.func66, Tryz.ntmps66
  go_wp2_with (first | (go_at_call 23; (with_reducible refine (rvalid_ok b p h _).mono ?_); rintro r w1 ⟨rfl, hb1⟩; have g0 := hpKeep (hpNew w _) hb1) | (go_at_call 78; (with_reducible refine (rticks_ok x hx1 hx2 _).mono ?_); rintro r w2 ⟨rfl, rfl⟩) | (go_at_call 78; (with_reducible refine (rticks_ok y hy1 hy2 _).mono ?_); rintro r w2 ⟨rfl, rfl⟩))
  have c0 : ∀ W, Below w1.heap.size w1 W → W.cell? ⟨w.heap.size, 0, none⟩ = some (.int .i64 b) := fun W hW => hpCell (hpKeep g0 hW) 0
  have c1 : ∀ W, Below w1.heap.size w1 W → W.cell? ⟨w.heap.size, 1, none⟩ = some (.int .i64 p) := fun W hW => hpCell (hpKeep g0 hW) 1
  have kD : Below w1.heap.size w1 w1.drew := (Below.refl _ _).drew
  have hbw1 := bt (bal' w _) hb1 (Nat.le_refl _)
  clear g0 hb1
  go_region_held3 (fun W => Below w1.heap.size w1 W) ((first | exact kD | exact bt (by assumption) hb5 (Nat.le_refl _) | exact bt (by assumption) hb4 (Nat.le_refl _))) (first | (go_at_call 37; (with_reducible refine (HCH.out _).mono ?_); rintro r w4 ⟨rfl, hb4⟩) | (go_at_call 36; (with_reducible refine (HT3.out _).mono ?_); rintro r w5 ⟨rfl, hb5⟩))
  all_goals
    go_wp2
    go_ret
    refine ⟨by rw [HD.out]; rfl, ?_⟩
    first | exact bt hbw1 (bt (bt kD hb5 (Nat.le_refl _)) hb4 (Nat.le_refl _)) (Nat.le_refl _) | exact bt hbw1 (bt (bt kD hb4 (Nat.le_refl _)) hb5 (Nat.le_refl _)) (Nat.le_refl _)

end Go.Proofs.YtpmidoneoonlcaaGreat

/-
The reference's link: Frame, Action.
-/
namespace Go.Proofs.YtpmidoneoonlcaaGreat
open Go.RowKit

theorem own_base {w : World} {base base' : Nat} {e : TypeId} {size : Nat} {v : Value} {n : Nat} {xs : List Value} (h : w.ownsRow base e size v n xs) (hb : base' ≤ base) : w.ownsRow base' e size v n xs :=
  ⟨h.1, h.2.imp id fun ⟨g, cap, cur, h1, h2, h3⟩ => ⟨g, cap, cur, h1, Nat.le_trans hb h2, h3⟩⟩

/-- What Frame answers: bytes of its own. -/
def RFrame (w : World) (F : List UInt8) (r : Ending) (w' : World) : Prop :=
  ∃ (a : Option Addr) (c : Nat), r = .returned (.slice a F.length c) ∧ w'.ownsRow w.heap.size 5 1 (.slice a F.length c) F.length (u8s F) ∧ Below w.heap.size w w'

set_option maxRecDepth 100000 in
set_option maxHeartbeats 3200000 in
theorem rkframe (g : Nat) (s : Rk) (w : World) (hl : RkAt w g s) (h1 : 1 ≤ s.un) (h2 : s.un ≤ 247) (hq : s.q.ok = true) :
    Calls Tryz.prog 72 #[.pointer (some ⟨g, 0, none⟩)] w (RFrame w (aduF (UInt8.ofNat s.un.toNat) s.q.pdu)) := by
  obtain ⟨F, hF⟩ : ∃ F, aduF (UInt8.ofNat s.un.toNat) s.q.pdu = F := ⟨_, rfl⟩
  rw [hF]
  obtain ⟨D, hD⟩ : ∃ D, s.q.pdu = D := ⟨_, rfl⟩
  have hDl := Rq.pdu_len s.q
  rw [hD] at hDl
  have hB : buildB s.un D = some F := by unfold buildB; rw [if_pos ⟨h1, h2, by omega, by omega⟩, ← hF, hD]
  have HE : Hid (Calls Tryz.prog 86 #[.agg #[.int .i64 s.q.fn, .int .i64 s.q.addr, .int .i64 s.q.qty, .int .i64 s.q.code, .int .i64 s.q.obj]] w (NewBs w D)) := by
    have h := rreqenc_ok s.q.fn s.q.addr s.q.qty s.q.code s.q.obj hq w
    rw [show Rq.pdu ⟨s.q.fn, s.q.addr, s.q.qty, s.q.code, s.q.obj⟩ = D from hD] at h
    exact h
  have HBU : Hid (∀ a c W, Bs W (.slice a D.length c) D → Calls Tryz.prog 87 #[.int .i64 s.un, .slice a D.length c] W (BuildPost W (some F))) := fun a c W hb => by rw [← hB]; exact rbuild_any s.un a _ c D W hb
  have c7 : w.cell? ⟨g, 7, none⟩ = some (.int .i64 s.q.fn) := hl.cell 7
  have c8 : w.cell? ⟨g, 8, none⟩ = some (.int .i64 s.q.addr) := hl.cell 8
  have c9 : w.cell? ⟨g, 9, none⟩ = some (.int .i64 s.q.qty) := hl.cell 9
  have c10 : w.cell? ⟨g, 10, none⟩ = some (.int .i64 s.q.code) := hl.cell 10
  have c11 : w.cell? ⟨g, 11, none⟩ = some (.int .i64 s.q.obj) := hl.cell 11
  have c6 : ∀ W, Below w.heap.size w W → W.cell? ⟨g, 6, none⟩ = some (.int .i64 s.un) := fun W hW => (hl.keep hW).cell 6
  have HND : Hid (∃ dn : Nat, dn = D.length) := ⟨_, rfl⟩
  obtain ⟨dn, hdn⟩ := HND.out
  rw [← hdn] at HBU
  have HN : Hid (∀ r w', NewBs w D r w' → ∃ (a : Option Addr) (c : Nat), r = .returned (.tuple #[.slice a dn c, .int .i64 0]) ∧ Bs w' (.slice a dn c) D ∧ Below w.heap.size w w') := fun r w' h => by
    obtain ⟨a, c, e, h1, h2⟩ := h
    rw [hdn]
    exact ⟨a, c, e, h1 w' (Agree.refl _ _), h2⟩
  clear hdn HND hF hD hB
  clear hl h1 h2 hq hDl
  go_enter Tryz.func72, Tryz.ntmps72
  go_wp2_with fail
  refine HE.out.mono ?_
  intro r w1 hN
  obtain ⟨a, c, rfl, hb, hbl⟩ := HN.out r w1 hN
  have c6' := c6 w1 hbl
  clear c6 c7 c8 c9 c10 c11 hN
  go_wp2_with fail
  refine (HBU.out a c _ hb).mono ?_
  rintro r w2 ⟨a2, c2, e2, f, rfl, hown, hb2, hh⟩
  have hfe : f = F := by
    rcases hh with ⟨_, e⟩ | ⟨_, e, _⟩
    · exact (Option.some.inj e).symm
    · cases e
  subst hfe
  go_wp2
  go_ret
  exact ⟨a2, c2, rfl, own_base hown hbl.size, bt hbl hb2 (Nat.le_refl _)⟩

set_option maxRecDepth 100000 in
set_option maxHeartbeats 3200000 in
theorem rkaction_listen (g : Nat) (s : Rk) (w : World) (hl : RkAt w g s) (hh : s.ph = 2 ∨ s.ph = 3 ∨ s.ph = 4) :
    Calls Tryz.prog 49 #[.pointer (some ⟨g, 0, none⟩)] w fun r w' => r = .returned (.agg #[.int .i64 2, .int .i64 s.til, .slice none 0 0]) ∧ Below w.heap.size w w' := by
  have hg := hl.lt
  have c14 : w.cell? ⟨g, 14, none⟩ = some (.int .i64 s.til) := hl.cell 14
  have c5 : w.cell? ⟨g, 5, none⟩ = some (.int .i64 2) ∨ w.cell? ⟨g, 5, none⟩ = some (.int .i64 3) ∨ w.cell? ⟨g, 5, none⟩ = some (.int .i64 4) := by
    rw [hl.cell 5]
    rcases hh with h | h | h
    · left; simp [Rk.cells, h]
    · right; left; simp [Rk.cells, h]
    · right; right; simp [Rk.cells, h]
  clear hl hh
  rcases c5 with c5 | c5 | c5
  all_goals
    go_enter Tryz.func49, Tryz.ntmps49
    go_wp2
    refine bodyPost_ret (v := .agg #[.int .i64 2, .int .i64 s.til, .slice none 0 0]) (by simp [results, Tryz.results49, go_sem]) rfl ?_
    exact ⟨rfl, bal' w _⟩

set_option maxRecDepth 100000 in
set_option maxHeartbeats 3200000 in
theorem rkaction_done (g : Nat) (s : Rk) (w : World) (hl : RkAt w g s) (hph : s.ph = 5) :
    Calls Tryz.prog 49 #[.pointer (some ⟨g, 0, none⟩)] w fun r w' => r = .returned (.agg #[.int .i64 3, .int .i64 0, .slice none 0 0]) ∧ Below w.heap.size w w' := by
  have hg := hl.lt
  have c5 : w.cell? ⟨g, 5, none⟩ = some (.int .i64 5) := by rw [hl.cell 5]; simp [Rk.cells, hph]
  clear hl hph
  go_enter Tryz.func49, Tryz.ntmps49
  go_wp2
  refine bodyPost_ret (v := .agg #[.int .i64 3, .int .i64 0, .slice none 0 0]) (by simp [results, Tryz.results49, go_sem]) rfl ?_
  exact ⟨rfl, bal' w _⟩

set_option maxRecDepth 100000 in
set_option maxHeartbeats 3200000 in
theorem rkaction_none (g : Nat) (s : Rk) (w : World) (hl : RkAt w g s) (hph : s.ph = 0) :
    Calls Tryz.prog 49 #[.pointer (some ⟨g, 0, none⟩)] w fun r w' => r = .returned (.agg #[.int .i64 0, .int .i64 0, .slice none 0 0]) ∧ Below w.heap.size w w' := by
  have hg := hl.lt
  have c5 : w.cell? ⟨g, 5, none⟩ = some (.int .i64 0) := by rw [hl.cell 5]; simp [Rk.cells, hph]
  clear hl hph
  go_enter Tryz.func49, Tryz.ntmps49
  go_wp2
  refine bodyPost_ret (v := .agg #[.int .i64 0, .int .i64 0, .slice none 0 0]) (by simp [results, Tryz.results49, go_sem]) rfl ?_
  exact ⟨rfl, bal' w _⟩

/-- What Action answers while the reference sends. -/
def RkAct (w : World) (t : Int) (F : List UInt8) (r : Ending) (w' : World) : Prop :=
  ∃ (a : Option Addr) (c : Nat), r = .returned (.agg #[.int .i64 1, .int .i64 t, .slice a F.length c]) ∧ Bs w' (.slice a F.length c) F ∧ Below w.heap.size w w'
theorem ActS.rcell {W1 W : World} {g p : Nat} {t : Int} {s : Rk} (h : ActS W1 p t W) (hl : RkAt W1 g s) (hg : g ≠ p) (i : Nat) : W.cell? ⟨g, i, none⟩ = s.cells[i]? := by
  rcases h with h | ⟨X, a, n, c, h, rfl⟩
  · exact (hl.keep h).cell i
  · have hk : Keeps (· = p) X (((X.setCell ⟨p, 0, none⟩ (.int .i64 1)).setCell ⟨p, 1, none⟩ (.int .i64 t)).setCell ⟨p, 2, none⟩ (.slice a n c)) := kset' (kset' (kset' (Keeps.refl _ _) _ _) _ _) _ _
    exact ((hl.keep h).keeps hk hg).cell i

set_option maxRecDepth 100000 in
set_option maxHeartbeats 3200000 in
theorem rkaction_send (g : Nat) (s : Rk) (w : World) (hl : RkAt w g s) (hph : s.ph = 1) (h1 : 1 ≤ s.un) (h2 : s.un ≤ 247) (hq : s.q.ok = true) (F : List UInt8) (hF : aduF (UInt8.ofNat s.un.toNat) s.q.pdu = F) :
    Calls Tryz.prog 49 #[.pointer (some ⟨g, 0, none⟩)] w (RkAct w s.now F) := by
  have hg := hl.lt
  obtain ⟨W1, hW1⟩ : ∃ W, w.alloc (.cells #[.int .i64 0, .int .i64 0, .slice none 0 0] 67) = W := ⟨_, rfl⟩
  have hb1 : Below w.heap.size w W1 := by rw [← hW1]; exact bal' w _
  have g1 : W1.heap[w.heap.size]? = some (.cells #[.int .i64 0, .int .i64 0, .slice none 0 0] 67) := by rw [← hW1]; exact hpNew w _
  have l1 := hl.keep hb1
  have c5 : W1.cell? ⟨g, 5, none⟩ = some (.int .i64 1) := by rw [l1.cell 5]; simp [Rk.cells, hph]
  have hgp : g ≠ w.heap.size := by omega
  have c12 : ∀ W, ActS W1 w.heap.size s.now W → W.cell? ⟨g, 12, none⟩ = some (.int .i64 s.now) := fun W h => h.rcell l1 hgp 12
  have kD : Below W1.heap.size W1 W1.drew := (Below.refl _ _).drew
  have kS : ActS W1 w.heap.size s.now W1.drew := .inl kD
  have HCL : Hid (∀ W, Below W1.heap.size W1 W → Calls Tryz.prog 72 #[.pointer (some ⟨g, 0, none⟩)] W (RFrame W F)) := fun W hW => by rw [← hF]; exact rkframe g s W (l1.keep hW) h1 h2 hq
  have HR : ∀ X a n c, Below W1.heap.size W1 X → ActS W1 w.heap.size s.now (((X.setCell ⟨w.heap.size, 0, none⟩ (.int .i64 1)).setCell ⟨w.heap.size, 1, none⟩ (.int .i64 s.now)).setCell ⟨w.heap.size, 2, none⟩ (.slice a n c)) := fun X a n c h => .inr ⟨X, a, n, c, h, rfl⟩
  have HW1 := hid hW1
  have HB1 := hid hb1
  have G1 := hid g1
  clear hl hph h1 h2 hq hW1 hb1 l1 g1 hF
  go_enter Tryz.func49, Tryz.ntmps49
  go_upto_region 1 with (fail)
  rw [HW1.out]
  go_wp2
  go_region_held3 (fun W => ActS W1 w.heap.size s.now W) ((with_reducible (first | exact kS | assumption | exact HR _ _ _ _ hBL))) ((go_at_call 72; (with_reducible refine (HCL.out W1.drew kD).mono ?_); rintro r w2 ⟨a, c, rfl, hown, hb2⟩; have hBL := bt kD hb2 (Nat.le_refl _); have hSL : ActS W1 w.heap.size s.now w2 := .inl hBL; have gz := hpKeep G1.out hBL; have z0 := hpCell gz 0; have z1 := hpCell gz 1; have z2 := hpCell gz 2; have y0 := hpFree gz 0; have y1 := hpFree gz 1; have y2 := hpFree gz 2))
  have m3 := hpSet (hpSet (hpSet gz 0 (.int .i64 1)) 1 (.int .i64 s.now)) 2 (.slice a F.length c)
  obtain ⟨q0, q1, q2⟩ : (((w2.setCell ⟨w.heap.size, 0, none⟩ (.int .i64 1)).setCell ⟨w.heap.size, 1, none⟩ (.int .i64 s.now)).setCell ⟨w.heap.size, 2, none⟩ (.slice a F.length c)).cell? ⟨w.heap.size, 0, none⟩ = some (.int .i64 1) ∧ (((w2.setCell ⟨w.heap.size, 0, none⟩ (.int .i64 1)).setCell ⟨w.heap.size, 1, none⟩ (.int .i64 s.now)).setCell ⟨w.heap.size, 2, none⟩ (.slice a F.length c)).cell? ⟨w.heap.size, 1, none⟩ = some (.int .i64 s.now) ∧ (((w2.setCell ⟨w.heap.size, 0, none⟩ (.int .i64 1)).setCell ⟨w.heap.size, 1, none⟩ (.int .i64 s.now)).setCell ⟨w.heap.size, 2, none⟩ (.slice a F.length c)).cell? ⟨w.heap.size, 2, none⟩ = some (.slice a F.length c) := ⟨hpCell m3 0, hpCell m3 1, hpCell m3 2⟩
  obtain ⟨W5, hW5⟩ : ∃ W, W = ((w2.setCell ⟨w.heap.size, 0, none⟩ (.int .i64 1)).setCell ⟨w.heap.size, 1, none⟩ (.int .i64 s.now)).setCell ⟨w.heap.size, 2, none⟩ (.slice a F.length c) := ⟨_, rfl⟩
  rw [← hW5] at q0 q1 q2 ⊢
  have HW5 := hid hW5
  have hlt : w.heap.size < W1.heap.size := (Array.getElem?_eq_some_iff.1 G1.out).1
  clear hW5 m3 z0 z1 z2 y0 y1 y2 gz c12 HR
  go_wp2
  refine bodyPost_ret (v := .agg #[.int .i64 1, .int .i64 s.now, .slice a F.length c]) (by simp [results, Tryz.results49, go_sem, q0, q1, q2]) rfl ?_
  have hk : Keeps (· = w.heap.size) w2 W5 := by rw [HW5.out]; exact kset' (kset' (kset' (Keeps.refl _ _) _ _) _ _) _ _
  refine ⟨a, c, rfl, ?_, ?_⟩
  · exact (Bs.own hown).keepF hk (fun ad had e => by
      have h1 := (hown.lt ad.block (by rw [had]; rfl)).1
      have h2 : ad.block = w.heap.size := e
      have h3 : W1.heap.size ≤ ad.block := h1
      omega)
  · have hbw := bt HB1.out hBL (Nat.le_refl _)
    exact hbw.trans (hk.below hbw.size (fun k hk e => by omega))

end Go.Proofs.YtpmidoneoonlcaaGreat

/-
The reference's link: drain.
-/
namespace Go.Proofs.YtpmidoneoonlcaaGreat
open Go.RowKit

/-- All cells but those of A are as they were. -/
def RkS (g : Nat) (s : Rk) (A : List Nat) (W : World) : Prop := ∀ i, i ∉ A → W.cell? ⟨g, i, none⟩ = s.cells[i]?
theorem RkAt.rks {W : World} {g : Nat} {s : Rk} (h : RkAt W g s) (A : List Nat) : RkS g s A W := fun i _ => h.cell i
theorem RkS.set {g : Nat} {s : Rk} {A : List Nat} {W : World} (h : RkS g s A W) {j : Nat} (hj : j ∈ A) (v : Value) : RkS g s A (W.setCell ⟨g, j, none⟩ v) := fun i hi => by
  rw [World.cell?_setCell_other _ _ _ _ (fun e => hi (by cases e; exact hj))]
  exact h i hi

def RkDrains (w : World) (g : Nat) (s : Rk) (before : Int) (r : Ending) (w' : World) : Prop :=
  r = .returned (.tuple #[]) ∧ RkAt w' g { s with ph := 4, til := if before < s.en + drainT s.b s.ti s.de then s.en + drainT s.b s.ti s.de else before } ∧ Keeps (· = g) w w'

set_option maxRecDepth 100000 in
set_option maxHeartbeats 6400000 in
theorem rkdrain (g : Nat) (s : Rk) (before : Int) (w : World) (hl : RkAt w g s) (hset : Hid (Okset s.b s.p)) (hx1 : 0 ≤ s.ti) (hx2 : s.ti ≤ 5000000) (hy1 : 0 ≤ s.de) (hy2 : s.de ≤ 5000000) (he1 : 0 ≤ s.en) (he2 : s.en ≤ 1152921504606846976) :
    Calls Tryz.prog 43 #[.pointer (some ⟨g, 0, none⟩), .int .i64 before] w (RkDrains w g s before) := by
  obtain ⟨D, hD⟩ : ∃ D, drainT s.b s.ti s.de = D := ⟨_, rfl⟩
  have hDb : 0 ≤ D ∧ D ≤ 12500000 := by
    obtain ⟨t1, t2, _, _, t5, t6⟩ := time_bd hset.out
    rw [← hD]
    unfold drainT
    omega
  have HDR : Hid (∀ W, Calls Tryz.prog 66 #[.agg #[.int .i64 s.b, .int .i64 s.p], .int .i64 s.ti, .int .i64 s.de] W fun r w' => r = .returned (.int .i64 D) ∧ Below W.heap.size W w') := fun W => by rw [← hD]; exact rdrain_ok s.b s.p s.ti s.de hset hx1 hx2 hy1 hy2 W
  obtain ⟨E, hE⟩ : ∃ E, s.en + D = E := ⟨_, rfl⟩
  obtain ⟨M, hM⟩ : ∃ M, (if before < E then E else before) = M := ⟨_, rfl⟩
  have hmx : ∀ ts T W, (Builtin.max_ ts T #[.int .i64 before, .int .i64 E]).run Tryz.prog W = .ok (.int .i64 M) W := fun ts T W => by
    rw [← hM]; exact run_max_int2 W ts T .i64 .i64 before E
  have s1 : IntKind.i64.wrap (s.en + D) = E := by rw [← hE]; exact IntWalk.i64_in _ (by omega)
  have HM : Hid (M = if before < s.en + drainT s.b s.ti s.de then s.en + drainT s.b s.ti s.de else before) := by show _ = _; rw [← hM, ← hE, hD]
  have HL := hid hl
  have c0 : ∀ W, RkS g s [5, 14] W → W.cell? ⟨g, 0, none⟩ = some (.int .i64 s.b) := fun W h => h 0 (by decide)
  have c1 : ∀ W, RkS g s [5, 14] W → W.cell? ⟨g, 1, none⟩ = some (.int .i64 s.p) := fun W h => h 1 (by decide)
  have c3 : ∀ W, RkS g s [5, 14] W → W.cell? ⟨g, 3, none⟩ = some (.int .i64 s.ti) := fun W h => h 3 (by decide)
  have c4 : ∀ W, RkS g s [5, 14] W → W.cell? ⟨g, 4, none⟩ = some (.int .i64 s.de) := fun W h => h 4 (by decide)
  have c13 : ∀ W, RkS g s [5, 14] W → W.cell? ⟨g, 13, none⟩ = some (.int .i64 s.en) := fun W h => h 13 (by decide)
  have h5 : ∀ W v, RkS g s [5, 14] W → RkS g s [5, 14] (W.setCell ⟨g, 5, none⟩ v) := fun W v h => h.set (by decide) v
  have h14 : ∀ W v, RkS g s [5, 14] W → RkS g s [5, 14] (W.setCell ⟨g, 14, none⟩ v) := fun W v h => h.set (by decide) v
  have kD : Below w.heap.size w w.drew := (Below.refl _ _).drew
  have kS : RkS g s [5, 14] w.drew := (hl.keep kD).rks _
  have HB : Hid (∀ W, Below w.heap.size w W → RkS g s [5, 14] W ∧ W.cell? ⟨g, 5, none⟩ = some (.int .i64 s.ph) ∧ W.cell? ⟨g, 14, none⟩ = some (.int .i64 s.til) ∧ W.frozen? ⟨g, 5, none⟩ = false ∧ W.frozen? ⟨g, 14, none⟩ = false) := fun W h => ⟨(hl.keep h).rks _, (hl.keep h).cell 5, (hl.keep h).cell 14, (hl.keep h).free 5, (hl.keep h).free 14⟩
  clear hl hD hE hM hDb hx1 hx2 hy1 hy2 he1 he2
  go_enter Tryz.func43, Tryz.ntmps43
  go_region_held3 (fun W => RkS g s [5, 14] W) ((with_reducible (first | exact kS | assumption | exact h14 _ _ (h5 _ _ hSL) | exact h5 _ _ hSL))) ((go_at_call 66; (with_reducible refine (HDR.out w.drew).mono ?_); rintro r w2 ⟨rfl, hb2⟩; have hBL := bt kD hb2 (Nat.le_refl _); obtain ⟨hSL, z5, z14, y5, y14⟩ := HB.out w2 hBL))
  all_goals
    go_wp2
    refine bodyPost_ret (results_none rfl _ _ _) rfl ?_
    refine ⟨rfl, ?_, kset' (kset' (Keeps.of_below hBL) _ _) _ _⟩
    rw [← HM.out]
    exact hpSetE (hpSetE (HL.out.keep hBL) rfl) rfl

end Go.Proofs.YtpmidoneoonlcaaGreat

/-
The reference's link: Ended.
-/
namespace Go.Proofs.YtpmidoneoonlcaaGreat
open Go.RowKit

def Rk.sent (s : Rk) (e : Int) : Rk := { s with ph := 2, en := e, til := e + t35T s.b + s.ti + charT s.b, la := -1, ea := none, eln := 0, ec := 0, cnt := s.cnt + 1 }

set_option maxRecDepth 100000 in
set_option maxHeartbeats 1600000 in
theorem rkended_pending (g : Nat) (s : Rk) (en : Int) (w : World) (hl : RkAt w g s) (hph : ¬ s.ph = 1) :
    Calls Tryz.prog 13 #[.pointer (some ⟨g, 0, none⟩), .int .i64 en] w (RRefused w 14) := by
  have c5 : w.cell? ⟨g, 5, none⟩ = some (.int .i64 s.ph) := hl.cell 5
  have d : (s.ph != 1) = true := by rw [bne_iff_ne]; exact hph
  clear hl hph
  go_enter Tryz.func13, Tryz.ntmps13
  go_wp2
  go_ret
  exact ⟨rfl, Below.refl _ _⟩

set_option maxRecDepth 100000 in
set_option maxHeartbeats 1600000 in
theorem rkended_range (g : Nat) (s : Rk) (en : Int) (w : World) (hl : RkAt w g s) (hph : s.ph = 1) (hr : ¬ (s.now ≤ en ∧ en ≤ 1152921504606846976)) :
    Calls Tryz.prog 13 #[.pointer (some ⟨g, 0, none⟩), .int .i64 en] w (RRefused w 3) := by
  have c5 : w.cell? ⟨g, 5, none⟩ = some (.int .i64 1) := by rw [hl.cell 5]; simp [Rk.cells, hph]
  have c12 : w.cell? ⟨g, 12, none⟩ = some (.int .i64 s.now) := hl.cell 12
  have hc : en < s.now ∨ (s.now ≤ en ∧ 1152921504606846976 < en) := by omega
  clear hl hph hr
  rcases hc with hc | ⟨h1, hc⟩
  all_goals
    go_enter Tryz.func13, Tryz.ntmps13
    go_wp2
    go_ret
    exact ⟨rfl, Below.refl _ _⟩

set_option maxRecDepth 100000 in
set_option maxHeartbeats 6400000 in
theorem rkended_ok (g : Nat) (s : Rk) (en : Int) (w : World) (hl : RkAt w g s) (hph : s.ph = 1) (h0 : 0 ≤ s.now) (h1 : s.now ≤ en) (h2 : en ≤ 1152921504606846976) (hset : Hid (Okset s.b s.p)) (h3 : 0 ≤ s.ti) (h4 : s.ti ≤ 5000000) (h5 : 0 ≤ s.cnt) (h6 : s.cnt ≤ 1000) :
    Calls Tryz.prog 13 #[.pointer (some ⟨g, 0, none⟩), .int .i64 en] w (RStep w g (s.sent en)) := by
  obtain ⟨t1, t2, _, _, t5, t6⟩ := time_bd hset.out
  obtain ⟨C, hC⟩ : ∃ C, charT s.b = C := ⟨_, rfl⟩
  obtain ⟨T, hT⟩ : ∃ T, t35T s.b = T := ⟨_, rfl⟩
  have HCH : Hid (∀ W, Calls Tryz.prog 37 #[.agg #[.int .i64 s.b, .int .i64 s.p]] W fun r w' => r = .returned (.int .i64 C) ∧ Below W.heap.size W w') := fun W => by rw [← hC]; exact rchar_ok s.b s.p hset W
  have HT3 : Hid (∀ W, Calls Tryz.prog 36 #[.agg #[.int .i64 s.b, .int .i64 s.p]] W fun r w' => r = .returned (.int .i64 T) ∧ Below W.heap.size W w') := fun W => by rw [← hT]; exact rt35_ok s.b s.p hset W
  rw [hC] at t1 t2
  rw [hT] at t5 t6
  obtain ⟨Q, hQ⟩ : ∃ Q, en + T + s.ti + C = Q := ⟨_, rfl⟩
  have s1 : IntKind.i64.wrap (en + T) = en + T := IntWalk.i64_in _ (by omega)
  have s2 : IntKind.i64.wrap (en + T + s.ti) = en + T + s.ti := IntWalk.i64_in _ (by omega)
  have s3 : IntKind.i64.wrap (en + T + s.ti + C) = Q := by rw [← hQ]; exact IntWalk.i64_in _ (by omega)
  have HQ : Hid (Q = en + t35T s.b + s.ti + charT s.b) := by show _ = _; rw [← hQ, hC, hT]
  have s4 : IntKind.i64.wrap (s.cnt + 1) = s.cnt + 1 := IntWalk.i64_in _ (by omega)
  have c5 : w.cell? ⟨g, 5, none⟩ = some (.int .i64 1) := by rw [hl.cell 5]; simp [Rk.cells, hph]
  have c12 : w.cell? ⟨g, 12, none⟩ = some (.int .i64 s.now) := hl.cell 12
  have d1 : decide (en < s.now) = false := decide_eq_false (by omega)
  have d2 : decide (1152921504606846976 < en) = false := decide_eq_false (by omega)
  have HL := hid hl
  have k0 : ∀ W, RkS g s [5, 13, 14, 15, 16] W → W.cell? ⟨g, 0, none⟩ = some (.int .i64 s.b) := fun W h => h 0 (by decide)
  have k1 : ∀ W, RkS g s [5, 13, 14, 15, 16] W → W.cell? ⟨g, 1, none⟩ = some (.int .i64 s.p) := fun W h => h 1 (by decide)
  have k3 : ∀ W, RkS g s [5, 13, 14, 15, 16] W → W.cell? ⟨g, 3, none⟩ = some (.int .i64 s.ti) := fun W h => h 3 (by decide)
  have j5 : ∀ W v, RkS g s [5, 13, 14, 15, 16] W → RkS g s [5, 13, 14, 15, 16] (W.setCell ⟨g, 5, none⟩ v) := fun W v h => h.set (by decide) v
  have j13 : ∀ W v, RkS g s [5, 13, 14, 15, 16] W → RkS g s [5, 13, 14, 15, 16] (W.setCell ⟨g, 13, none⟩ v) := fun W v h => h.set (by decide) v
  have j14 : ∀ W v, RkS g s [5, 13, 14, 15, 16] W → RkS g s [5, 13, 14, 15, 16] (W.setCell ⟨g, 14, none⟩ v) := fun W v h => h.set (by decide) v
  have j15 : ∀ W v, RkS g s [5, 13, 14, 15, 16] W → RkS g s [5, 13, 14, 15, 16] (W.setCell ⟨g, 15, none⟩ v) := fun W v h => h.set (by decide) v
  have j16 : ∀ W v, RkS g s [5, 13, 14, 15, 16] W → RkS g s [5, 13, 14, 15, 16] (W.setCell ⟨g, 16, none⟩ v) := fun W v h => h.set (by decide) v
  have kD : Below w.heap.size w w.drew := (Below.refl _ _).drew
  have kS : RkS g s [5, 13, 14, 15, 16] w.drew := (hl.keep kD).rks _
  have HS : Hid (∀ W, Below w.heap.size w W → RkS g s [5, 13, 14, 15, 16] W) := fun W h => (hl.keep h).rks _
  have HB : Hid (∀ W, Below w.heap.size w W → W.cell? ⟨g, 5, none⟩ = some (.int .i64 s.ph) ∧ W.cell? ⟨g, 13, none⟩ = some (.int .i64 s.en) ∧ W.cell? ⟨g, 14, none⟩ = some (.int .i64 s.til) ∧ W.cell? ⟨g, 15, none⟩ = some (.int .i64 s.la) ∧ W.cell? ⟨g, 16, none⟩ = some (.slice s.ea s.eln s.ec) ∧ W.frozen? ⟨g, 5, none⟩ = false ∧ W.frozen? ⟨g, 13, none⟩ = false ∧ W.frozen? ⟨g, 14, none⟩ = false ∧ W.frozen? ⟨g, 15, none⟩ = false ∧ W.frozen? ⟨g, 16, none⟩ = false) := fun W h => ⟨(hl.keep h).cell 5, (hl.keep h).cell 13, (hl.keep h).cell 14, (hl.keep h).cell 15, (hl.keep h).cell 16, (hl.keep h).free 5, (hl.keep h).free 13, (hl.keep h).free 14, (hl.keep h).free 15, (hl.keep h).free 16⟩
  clear hl hC hT hQ hph h0 h1 h2 h3 h4 h5 h6 t1 t2 t5 t6
  go_enter Tryz.func13, Tryz.ntmps13
  go_upto_region 5 with (fail)
  clear c5 c12 d1 d2
  go_region_held3 (fun W => RkS g s [5, 13, 14, 15, 16] W) ((with_reducible (first | exact kS | assumption | exact j5 _ _ hSL | exact j13 _ _ (j5 _ _ hSL) | exact j14 _ _ (j13 _ _ (j5 _ _ hSL)) | exact j15 _ _ (j14 _ _ (j13 _ _ (j5 _ _ hSL))) | exact j16 _ _ (j15 _ _ (j14 _ _ (j13 _ _ (j5 _ _ hSL))))))) (first
    | (go_at_call 37; (with_reducible refine (HCH.out w.drew).mono ?_); rintro r w4 ⟨rfl, hb4⟩; have hB4 := bt kD hb4 (Nat.le_refl _); have hS4 := HS.out _ hB4)
    | (go_at_call 36; (with_reducible refine (HT3.out w.drew).mono ?_); rintro r w5 ⟨rfl, hb5⟩; have hB5 := bt kD hb5 (Nat.le_refl _); have hS5 := HS.out _ hB5)
    | (go_at_call 37; (with_reducible refine (HCH.out w5).mono ?_); rintro r w4 ⟨rfl, hb4⟩; have hBL := bt hB5 hb4 (Nat.le_refl _); have hSL := HS.out _ hBL; obtain ⟨z5, z13, z14, z15, z16, y5, y13, y14, y15, y16⟩ := HB.out _ hBL)
    | (go_at_call 36; (with_reducible refine (HT3.out w4).mono ?_); rintro r w5 ⟨rfl, hb5⟩; have hBL := bt hB4 hb5 (Nat.le_refl _); have hSL := HS.out _ hBL; obtain ⟨z5, z13, z14, z15, z16, y5, y13, y14, y15, y16⟩ := HB.out _ hBL))
  all_goals
    have l9 : RkAt _ g { s with ph := 2, en := en, til := Q, la := -1, ea := none, eln := 0, ec := 0 } := hpSetE (u := .slice none 0 0) (i := 16) (hpSetE (u := .int .i64 (-1)) (i := 15) (hpSetE (u := .int .i64 Q) (i := 14) (hpSetE (u := .int .i64 en) (i := 13) (hpSetE (u := .int .i64 2) (i := 5) (HL.out.keep hBL) rfl) rfl) rfl) rfl) rfl
    have k9 : Keeps (· = g) w _ := kset' (kset' (kset' (kset' (kset' (Keeps.of_below hBL) 5 (.int .i64 2)) 13 (.int .i64 en)) 14 (.int .i64 Q)) 15 (.int .i64 (-1))) 16 (.slice none 0 0)
    clear k0 k1 k3 j5 j13 j14 j15 j16 kS z5 z13 z14 z15 z16 y5 y13 y14 y15 y16 hSL
    first
      | (obtain ⟨W9, hW9⟩ : ∃ W, W = ((((w5.setCell ⟨g, 5, none⟩ (.int .i64 2)).setCell ⟨g, 13, none⟩ (.int .i64 en)).setCell ⟨g, 14, none⟩ (.int .i64 Q)).setCell ⟨g, 15, none⟩ (.int .i64 (-1))).setCell ⟨g, 16, none⟩ (.slice none 0 0) := ⟨_, rfl⟩; rw [← hW9] at l9 k9 ⊢; clear hW9)
      | (obtain ⟨W9, hW9⟩ : ∃ W, W = ((((w4.setCell ⟨g, 5, none⟩ (.int .i64 2)).setCell ⟨g, 13, none⟩ (.int .i64 en)).setCell ⟨g, 14, none⟩ (.int .i64 Q)).setCell ⟨g, 15, none⟩ (.int .i64 (-1))).setCell ⟨g, 16, none⟩ (.slice none 0 0) := ⟨_, rfl⟩; rw [← hW9] at l9 k9 ⊢; clear hW9)
    have c17 : W9.cell? ⟨g, 17, none⟩ = some (.int .i64 s.cnt) := l9.cell 17
    have f17 : W9.frozen? ⟨g, 17, none⟩ = false := l9.free 17
    have L9 := hid l9
    have K9 := hid k9
    clear l9 k9
    go_wp2
    go_ret
    refine ⟨rfl, ?_, kset' K9.out _ _⟩
    show RkAt _ g { s with ph := 2, en := en, til := en + t35T s.b + s.ti + charT s.b, la := -1, ea := none, eln := 0, ec := 0, cnt := s.cnt + 1 }
    rw [← HQ.out]
    exact hpSetE L9.out rfl

end Go.Proofs.YtpmidoneoonlcaaGreat

/-
The reference's link: Char where it is refused.
-/
namespace Go.Proofs.YtpmidoneoonlcaaGreat
open Go.RowKit

set_option maxRecDepth 100000 in
set_option maxHeartbeats 1600000 in
theorem rkchar_pending (g : Nat) (s : Rk) (t : Int) (v : UInt8) (fl : Int) (w : World) (hl : RkAt w g s) (hph : s.ph = 0 ∨ s.ph = 1 ∨ s.ph = 5) :
    Calls Tryz.prog 15 #[.pointer (some ⟨g, 0, none⟩), .agg #[.int .i64 t, .int .u8 (v.toNat : Int), .int .i64 fl]] w (RRefused w 14) := by
  have hg := hl.lt
  have c5 : w.cell? ⟨g, 5, none⟩ = some (.int .i64 0) ∨ w.cell? ⟨g, 5, none⟩ = some (.int .i64 1) ∨ w.cell? ⟨g, 5, none⟩ = some (.int .i64 5) := by
    rw [hl.cell 5]
    rcases hph with h | h | h
    · left; simp [Rk.cells, h]
    · right; left; simp [Rk.cells, h]
    · right; right; simp [Rk.cells, h]
  clear hl hph
  rcases c5 with c5 | c5 | c5
  all_goals
    go_enter Tryz.func15, Tryz.ntmps15
    go_wp2
    go_ret
    exact ⟨rfl, bal' w _⟩

set_option maxRecDepth 100000 in
set_option maxHeartbeats 3200000 in
theorem rkchar_range (g : Nat) (s : Rk) (t : Int) (v : UInt8) (fl : Int) (w : World) (hl : RkAt w g s) (hh : s.ph = 2 ∨ s.ph = 3 ∨ s.ph = 4) (hr : ¬ (0 ≤ t ∧ t ≤ s.til)) :
    Calls Tryz.prog 15 #[.pointer (some ⟨g, 0, none⟩), .agg #[.int .i64 t, .int .u8 (v.toNat : Int), .int .i64 fl]] w (RRefused w 3) := by
  obtain ⟨W0, hW0⟩ : ∃ W, w.alloc (.cells #[.int .i64 t, .int .u8 (v.toNat : Int), .int .i64 fl] 37) = W := ⟨_, rfl⟩; have hb0 : Below w.heap.size w W0 := (by rw [← hW0]; exact bal' w _); have p0 : W0.heap[w.heap.size]? = some (.cells #[.int .i64 t, .int .u8 (v.toNat : Int), .int .i64 fl] 37) := (by rw [← hW0]; exact hpNew w _); have l0 := hl.keep hb0; have HW0 := hid hW0; have HB0 := hid hb0; have P0 := hid p0; have L0 := hid l0; have hg := hl.lt; have g0 : W0.cell? ⟨w.heap.size, 0, none⟩ = some (.int .i64 t) := hpCell p0 0; have c14 : W0.cell? ⟨g, 14, none⟩ = some (.int .i64 s.til) := l0.cell 14; have c15 : W0.cell? ⟨g, 15, none⟩ = some (.int .i64 s.la) := l0.cell 15; have c5 : W0.cell? ⟨g, 5, none⟩ = some (.int .i64 2) ∨ W0.cell? ⟨g, 5, none⟩ = some (.int .i64 3) ∨ W0.cell? ⟨g, 5, none⟩ = some (.int .i64 4) := (by rw [l0.cell 5]; rcases hh with h | h | h; (left; simp [Rk.cells, h]); (right; left; simp [Rk.cells, h]); (right; right; simp [Rk.cells, h])); clear hl hh hW0 hb0 p0 l0
  have hc : (decide (t < 0) = true) ∨ (decide (t < 0) = false ∧ decide (s.til < t) = true) := by
    by_cases h : t < 0
    · exact .inl (decide_eq_true h)
    · exact .inr ⟨decide_eq_false h, decide_eq_true (by omega)⟩
  clear hr
  rcases c5 with c5 | c5 | c5 <;> rcases hc with d1 | ⟨d1, d2⟩
  all_goals
    go_enter Tryz.func15, Tryz.ntmps15
    go_upto_region 1 with (fail)
    rw [HW0.out]
    go_wp2
    go_quiet (fail)
    go_wp2
    go_ret
    exact ⟨rfl, bt HB0.out (below_drewN (Below.refl _ _) _) (Nat.le_refl _)⟩

set_option maxRecDepth 100000 in
set_option maxHeartbeats 3200000 in
theorem rkchar_order (g : Nat) (s : Rk) (t : Int) (v : UInt8) (fl : Int) (w : World) (hl : RkAt w g s) (hh : s.ph = 2 ∨ s.ph = 3 ∨ s.ph = 4) (hr : 0 ≤ t ∧ t ≤ s.til) (ho : t < s.la) :
    Calls Tryz.prog 15 #[.pointer (some ⟨g, 0, none⟩), .agg #[.int .i64 t, .int .u8 (v.toNat : Int), .int .i64 fl]] w (RRefused w 7) := by
  obtain ⟨W0, hW0⟩ : ∃ W, w.alloc (.cells #[.int .i64 t, .int .u8 (v.toNat : Int), .int .i64 fl] 37) = W := ⟨_, rfl⟩; have hb0 : Below w.heap.size w W0 := (by rw [← hW0]; exact bal' w _); have p0 : W0.heap[w.heap.size]? = some (.cells #[.int .i64 t, .int .u8 (v.toNat : Int), .int .i64 fl] 37) := (by rw [← hW0]; exact hpNew w _); have l0 := hl.keep hb0; have HW0 := hid hW0; have HB0 := hid hb0; have P0 := hid p0; have L0 := hid l0; have hg := hl.lt; have g0 : W0.cell? ⟨w.heap.size, 0, none⟩ = some (.int .i64 t) := hpCell p0 0; have c14 : W0.cell? ⟨g, 14, none⟩ = some (.int .i64 s.til) := l0.cell 14; have c15 : W0.cell? ⟨g, 15, none⟩ = some (.int .i64 s.la) := l0.cell 15; have c5 : W0.cell? ⟨g, 5, none⟩ = some (.int .i64 2) ∨ W0.cell? ⟨g, 5, none⟩ = some (.int .i64 3) ∨ W0.cell? ⟨g, 5, none⟩ = some (.int .i64 4) := (by rw [l0.cell 5]; rcases hh with h | h | h; (left; simp [Rk.cells, h]); (right; left; simp [Rk.cells, h]); (right; right; simp [Rk.cells, h])); clear hl hh hW0 hb0 p0 l0
  have d1 : decide (t < 0) = false := decide_eq_false (by omega)
  have d2 : decide (s.til < t) = false := decide_eq_false (by omega)
  have d3 : decide (t < s.la) = true := decide_eq_true ho
  clear hr ho
  rcases c5 with c5 | c5 | c5
  all_goals
    go_enter Tryz.func15, Tryz.ntmps15
    go_upto_region 1 with (fail)
    rw [HW0.out]
    go_wp2
    go_quiet (fail)
    go_wp2
    go_quiet (fail)
    go_wp2
    go_ret
    exact ⟨rfl, bt HB0.out (below_drewN (below_drewN (Below.refl _ _) _) _) (Nat.le_refl _)⟩

end Go.Proofs.YtpmidoneoonlcaaGreat

/-
The reference's link: Char where the character is dropped.
-/
namespace Go.Proofs.YtpmidoneoonlcaaGreat
open Go.RowKit

set_option maxRecDepth 100000 in
set_option maxHeartbeats 3200000 in
theorem rkchar_drop (g : Nat) (s : Rk) (t : Int) (v : UInt8) (fl : Int) (w : World) (hl : RkAt w g s) (hr : 0 ≤ t ∧ t ≤ s.til) (ho : s.la ≤ t) (hd : s.ph = 4 ∨ (s.ph = 2 ∧ t ≤ s.en)) :
    Calls Tryz.prog 15 #[.pointer (some ⟨g, 0, none⟩), .agg #[.int .i64 t, .int .u8 (v.toNat : Int), .int .i64 fl]] w (RStep w g { s with la := t }) := by
  obtain ⟨W0, hW0⟩ : ∃ W, w.alloc (.cells #[.int .i64 t, .int .u8 (v.toNat : Int), .int .i64 fl] 37) = W := ⟨_, rfl⟩; have hb0 : Below w.heap.size w W0 := (by rw [← hW0]; exact bal' w _); have p0 : W0.heap[w.heap.size]? = some (.cells #[.int .i64 t, .int .u8 (v.toNat : Int), .int .i64 fl] 37) := (by rw [← hW0]; exact hpNew w _); have l0 := hl.keep hb0; have HW0 := hid hW0; have HB0 := hid hb0; have P0 := hid p0; have L0 := hid l0; have hg := hl.lt; have g0 : W0.cell? ⟨w.heap.size, 0, none⟩ = some (.int .i64 t) := hpCell p0 0; have c13 : W0.cell? ⟨g, 13, none⟩ = some (.int .i64 s.en) := l0.cell 13; have c14 : W0.cell? ⟨g, 14, none⟩ = some (.int .i64 s.til) := l0.cell 14; have c15 : W0.cell? ⟨g, 15, none⟩ = some (.int .i64 s.la) := l0.cell 15; have f15 : W0.frozen? ⟨g, 15, none⟩ = false := l0.free 15; have hgn : g ≠ w.heap.size := (by omega)
  have d1 : decide (t < 0) = false := decide_eq_false (by omega)
  have d2 : decide (s.til < t) = false := decide_eq_false (by omega)
  have d3 : decide (t < s.la) = false := decide_eq_false (by omega)
  have c5 : (W0.cell? ⟨g, 5, none⟩ = some (.int .i64 4)) ∨ (W0.cell? ⟨g, 5, none⟩ = some (.int .i64 2) ∧ decide (s.en < t) = false) := by
    rw [l0.cell 5]
    rcases hd with h | ⟨h, h2⟩
    · left; simp [Rk.cells, h]
    · right; exact ⟨by simp [Rk.cells, h], decide_eq_false (by omega)⟩
  clear hr ho hl hd hW0 hb0 p0 l0
  rcases c5 with c5 | ⟨c5, d4⟩
  all_goals
    go_enter Tryz.func15, Tryz.ntmps15
    go_upto_region 1 with (fail)
    rw [HW0.out]
    go_wp2
    go_quiet (fail)
    go_wp2
    go_quiet (fail)
    go_wp2
    go_quiet (fail)
    go_wp2
    go_ret
    refine ⟨rfl, ?_, ?_⟩
    · exact RkAt.keep (hpSetE (L0.out.keep (below_drewN (Below.refl _ _) _)) rfl) (below_drewN (Below.refl _ _) _)
    · exact (kset' (Keeps.of_below (bt HB0.out (below_drewN (Below.refl _ _) _) (Nat.le_refl _))) _ _).trans (Keeps.of_below (below_drewN (Below.refl _ _) _)) (fun _ _ e => e)

end Go.Proofs.YtpmidoneoonlcaaGreat

/-
The reference's link: Silence while it waits, and where it is refused.
-/
namespace Go.Proofs.YtpmidoneoonlcaaGreat
open Go.RowKit

set_option maxRecDepth 100000 in
set_option maxHeartbeats 1600000 in
theorem rksil_pending (g : Nat) (s : Rk) (w : World) (hl : RkAt w g s) (hph : s.ph = 0 ∨ s.ph = 1 ∨ s.ph = 5) :
    Calls Tryz.prog 17 #[.pointer (some ⟨g, 0, none⟩)] w (RRefused w 14) := by
  have c5 : w.cell? ⟨g, 5, none⟩ = some (.int .i64 0) ∨ w.cell? ⟨g, 5, none⟩ = some (.int .i64 1) ∨ w.cell? ⟨g, 5, none⟩ = some (.int .i64 5) := by
    rw [hl.cell 5]
    rcases hph with h | h | h
    · left; simp [Rk.cells, h]
    · right; left; simp [Rk.cells, h]
    · right; right; simp [Rk.cells, h]
  clear hl hph
  rcases c5 with c5 | c5 | c5
  all_goals
    go_enter Tryz.func17, Tryz.ntmps17
    go_wp2
    go_ret
    exact ⟨rfl, Below.refl _ _⟩

set_option maxRecDepth 100000 in
set_option maxHeartbeats 1600000 in
theorem rksil_wait (g : Nat) (s : Rk) (w : World) (hl : RkAt w g s) (hph : s.ph = 2) (hset : Hid (Okset s.b s.p)) (hx1 : 0 ≤ s.ti) (hx2 : s.ti ≤ 5000000) (hy1 : 0 ≤ s.de) (hy2 : s.de ≤ 5000000) (he1 : 0 ≤ s.en) (he2 : s.en ≤ 1152921504606846976) :
    Calls Tryz.prog 17 #[.pointer (some ⟨g, 0, none⟩)] w (RStep w g { s with ph := 4, til := if s.til < s.en + drainT s.b s.ti s.de then s.en + drainT s.b s.ti s.de else s.til }) := by
  obtain ⟨M, hM⟩ : ∃ M, (if s.til < s.en + drainT s.b s.ti s.de then s.en + drainT s.b s.ti s.de else s.til) = M := ⟨_, rfl⟩
  rw [hM]
  have HD : Hid (Calls Tryz.prog 43 #[.pointer (some ⟨g, 0, none⟩), .int .i64 s.til] w (fun r w' => r = .returned (.tuple #[]) ∧ RkAt w' g { s with ph := 4, til := M } ∧ Keeps (· = g) w w')) := by
    rw [← hM]
    exact rkdrain g s s.til w hl hset hx1 hx2 hy1 hy2 he1 he2
  have c5 : w.cell? ⟨g, 5, none⟩ = some (.int .i64 2) := by rw [hl.cell 5]; simp [Rk.cells, hph]
  have c14 : w.cell? ⟨g, 14, none⟩ = some (.int .i64 s.til) := hl.cell 14
  clear hM hl hph hset hx1 hx2 hy1 hy2 he1 he2
  go_enter Tryz.func17, Tryz.ntmps17
  go_wp2_with fail
  refine HD.out.mono ?_
  rintro r w1 ⟨rfl, hl1, hk1⟩
  go_wp2
  go_ret
  exact ⟨rfl, hl1, hk1⟩

end Go.Proofs.YtpmidoneoonlcaaGreat

/-
The reference's link: Silence while it drains, another attempt.
-/
namespace Go.Proofs.YtpmidoneoonlcaaGreat
open Go.RowKit

set_option maxRecDepth 100000 in
set_option maxHeartbeats 1600000 in
theorem rksil_more (g : Nat) (s : Rk) (w : World) (hl : RkAt w g s) (hph : s.ph = 4) (h0 : 0 ≤ s.re) (h5 : s.re ≤ 5) (hc : ¬ s.cnt = s.re + 1) :
    Calls Tryz.prog 17 #[.pointer (some ⟨g, 0, none⟩)] w (RStep w g { s with now := s.til, ph := 1 }) := by
  have s1 : IntKind.i64.wrap (s.re + 1) = s.re + 1 := IntWalk.i64_in _ (by omega)
  have d : (s.cnt == s.re + 1) = false := by rw [beq_eq_false_iff_ne]; exact hc
  have c5 : w.cell? ⟨g, 5, none⟩ = some (.int .i64 4) := by rw [hl.cell 5]; simp [Rk.cells, hph]
  have f5 : w.frozen? ⟨g, 5, none⟩ = false := hl.free 5
  have c14 : w.cell? ⟨g, 14, none⟩ = some (.int .i64 s.til) := hl.cell 14
  have c12 : w.cell? ⟨g, 12, none⟩ = some (.int .i64 s.now) := hl.cell 12
  have f12 : w.frozen? ⟨g, 12, none⟩ = false := hl.free 12
  have c17 : w.cell? ⟨g, 17, none⟩ = some (.int .i64 s.cnt) := hl.cell 17
  have c2 : w.cell? ⟨g, 2, none⟩ = some (.int .i64 s.re) := hl.cell 2
  have HL := hid hl
  clear hl hph h0 h5 hc
  go_enter Tryz.func17, Tryz.ntmps17
  go_wp2
  go_quiet (fail)
  go_wp2
  go_ret
  refine ⟨rfl, ?_, ?_⟩
  · exact RkAt.keep (hpSetE (hpSetE HL.out rfl) rfl) (below_drewN (Below.refl _ _) _)
  · exact (kset' (kset' (Keeps.refl _ _) _ _) _ _).trans (Keeps.of_below (below_drewN (Below.refl _ _) _)) (fun _ _ e => e)

end Go.Proofs.YtpmidoneoonlcaaGreat

/-
The reference's link: Silence while it drains, the end.
-/
namespace Go.Proofs.YtpmidoneoonlcaaGreat
open Go.RowKit

set_option maxRecDepth 100000 in
set_option maxHeartbeats 3200000 in
theorem rksil_over (g : Nat) (s : Rk) (w : World) (hl : RkAt w g s) (hph : s.ph = 4) (h0 : 0 ≤ s.re) (h5 : s.re ≤ 5) (hc : s.cnt = s.re + 1) :
    Calls Tryz.prog 17 #[.pointer (some ⟨g, 0, none⟩)] w (RStep w g { s with now := s.til, ph := 5, o := ⟨if s.bad = true then 4 else if s.late = true then 5 else 3, s.o.reply⟩ }) := by
  have s1 : IntKind.i64.wrap (s.re + 1) = s.re + 1 := IntWalk.i64_in _ (by omega)
  have d : (s.cnt == s.re + 1) = true := by rw [beq_iff_eq]; exact hc
  have c5 : w.cell? ⟨g, 5, none⟩ = some (.int .i64 4) := by rw [hl.cell 5]; simp [Rk.cells, hph]
  have f5 : w.frozen? ⟨g, 5, none⟩ = false := hl.free 5
  have c14 : w.cell? ⟨g, 14, none⟩ = some (.int .i64 s.til) := hl.cell 14
  have c12 : w.cell? ⟨g, 12, none⟩ = some (.int .i64 s.now) := hl.cell 12
  have f12 : w.frozen? ⟨g, 12, none⟩ = false := hl.free 12
  have c17 : w.cell? ⟨g, 17, none⟩ = some (.int .i64 s.cnt) := hl.cell 17
  have c2 : w.cell? ⟨g, 2, none⟩ = some (.int .i64 s.re) := hl.cell 2
  have HL := hid hl
  clear hl hph h0 h5 hc
  obtain ⟨V, hV⟩ : ∃ V : Int, (if s.bad = true then 4 else if s.late = true then 5 else 3) = V := ⟨_, rfl⟩
  rw [hV]
  have HV := hid hV
  clear hV
  go_enter Tryz.func17, Tryz.ntmps17
  go_upto_region 17 with (fail)
  go_quiet (fail)
  go_upto_region 18 with (fail)
  obtain ⟨W3, hW3⟩ : ∃ W, W = ((w.setCell ⟨g, 12, none⟩ (.int .i64 s.til)).setCell ⟨g, 5, none⟩ (.int .i64 1)).drewN nq := ⟨_, rfl⟩
  rw [← hW3]
  have l3 : RkAt W3 g { s with now := s.til, ph := 1 } := by rw [hW3]; exact RkAt.keep (s := { s with now := s.til, ph := 1 }) (hpSetE (hpSetE HL.out rfl) rfl) (below_drewN (Below.refl _ _) _)
  have k3 : Keeps (· = g) w W3 := by rw [hW3]; exact (kset' (kset' (Keeps.refl _ _) _ _) _ _).trans (Keeps.of_below (below_drewN (Below.refl _ _) _)) (fun _ _ e => e)
  clear c5 f5 c14 c12 f12 c17 c2 d s1 hW3
  have c5 : W3.cell? ⟨g, 5, none⟩ = some (.int .i64 1) := l3.cell 5
  have f5 : W3.frozen? ⟨g, 5, none⟩ = false := l3.free 5
  have c20 : W3.cell? ⟨g, 20, none⟩ = some (.int .i64 s.o.verdict) := l3.cell 20
  have f20 : W3.frozen? ⟨g, 20, none⟩ = false := l3.free 20
  have c18 : W3.cell? ⟨g, 18, none⟩ = some (.bool s.bad) := l3.cell 18
  have c19 : W3.cell? ⟨g, 19, none⟩ = some (.bool s.late) := l3.cell 19
  have L3 := hid l3
  have K3 := hid k3
  obtain ⟨B, hB⟩ : ∃ B, s.bad = B := ⟨_, rfl⟩
  obtain ⟨L, hL⟩ : ∃ L, s.late = L := ⟨_, rfl⟩
  rw [hB] at c18
  rw [hL] at c19
  have HBL : Hid (V = if B = true then 4 else if L = true then 5 else 3) := by show _ = _; rw [← HV.out, hB, hL]
  have HB2 := hid hB
  clear hB hL l3 k3 HV
  cases B <;> cases L
  · obtain rfl : V = 3 := HBL.out
    go_wp2
    go_ret
    exact ⟨rfl, hpSetE (hpSetE L3.out rfl) rfl, kset' (kset' K3.out _ _) _ _⟩
  · obtain rfl : V = 5 := HBL.out
    go_wp2
    go_ret
    exact ⟨rfl, hpSetE (hpSetE (hpSetE L3.out rfl) rfl) rfl, kset' (kset' (kset' K3.out _ _) _ _) _ _⟩
  · obtain rfl : V = 4 := HBL.out
    go_wp2
    go_ret
    exact ⟨rfl, hpSetE (hpSetE (hpSetE L3.out rfl) rfl) rfl, kset' (kset' (kset' K3.out _ _) _ _) _ _⟩
  · obtain rfl : V = 4 := HBL.out
    go_upto_region 21 with (fail)
    obtain ⟨W5, hW5⟩ : ∃ W, W = ((W3.setCell ⟨g, 5, none⟩ (.int .i64 5)).setCell ⟨g, 20, none⟩ (.int .i64 3)).setCell ⟨g, 20, none⟩ (.int .i64 5) := ⟨_, rfl⟩
    rw [← hW5]
    have l5 : RkAt W5 g { s with now := s.til, ph := 5, o := ⟨5, s.o.reply⟩ } := by rw [hW5]; exact hpSetE (hpSetE (hpSetE L3.out rfl) rfl) rfl
    have k5 : Keeps (· = g) w W5 := by rw [hW5]; exact kset' (kset' (kset' K3.out _ _) _ _) _ _
    have hB5 : s.bad = true := HB2.out
    clear c5 f5 c20 f20 c18 c19 hW5
    have c20 : W5.cell? ⟨g, 20, none⟩ = some (.int .i64 5) := l5.cell 20
    have f20 : W5.frozen? ⟨g, 20, none⟩ = false := l5.free 20
    have c18 : W5.cell? ⟨g, 18, none⟩ = some (.bool true) := by rw [← hB5]; exact l5.cell 18
    have L5 := hid l5
    have K5 := hid k5
    clear l5 k5 hB5
    go_wp2
    go_ret
    exact ⟨rfl, hpSetE L5.out rfl, kset' K5.out _ _⟩

end Go.Proofs.YtpmidoneoonlcaaGreat

/-
The reference's silence before a character.
-/
namespace Go.Proofs.YtpmidoneoonlcaaGreat
open Go.RowKit

set_option maxRecDepth 100000 in
set_option maxHeartbeats 3200000 in
theorem rsil_ok (b p : Int) (h : Hid (Okset b p)) (bk n c j i : Nat) (x y : Int) (hji : i = j + 1) (hj : i < n) (hc : n ≤ 100) (hx1 : 0 ≤ x) (hx2 : x ≤ 2000000000) (hy1 : 0 ≤ y) (hy2 : y ≤ 2000000000) (w : World) (cx : w.cell? ⟨bk, j * 3, none⟩ = some (.int .i64 x)) (cy : w.cell? ⟨bk, i * 3, none⟩ = some (.int .i64 y)) :
    Calls Tryz.prog 42 #[.agg #[.int .i64 b, .int .i64 p], .slice (some ⟨bk, 0, none⟩) n c, .int .i64 (i : Int)] w fun r w' => r = .returned (.int .i64 (if x < y - charT b then y - charT b - x else 0)) ∧ Below w.heap.size w w' := by
  obtain ⟨t1, t2, _⟩ := time_bd h.out
  obtain ⟨C, hC⟩ : ∃ C, charT b = C := ⟨_, rfl⟩
  have HCH : Hid (∀ W, Calls Tryz.prog 37 #[.agg #[.int .i64 b, .int .i64 p]] W fun r w' => r = .returned (.int .i64 C) ∧ Below W.heap.size W w') := fun W => by rw [← hC]; exact rchar_ok b p h W
  rw [hC] at t1 t2 ⊢
  clear hC
  have s1 : IntKind.i64.wrap (y - C) = y - C := IntWalk.i64_in _ (by omega)
  have s2 : IntKind.i64.wrap (y - C - x) = y - C - x := IntWalk.i64_in _ (by omega)
  have s3 : IntKind.i64.wrap ((i : Int) - 1) = (j : Int) := by rw [IntWalk.i64_in _ (by omega)]; omega
  have n1 : (i : Int) < (n : Int) := by omega
  have n2 : (j : Int) < (n : Int) := by omega
  have n3 : (0 : Int) ≤ (i : Int) := by omega
  have n4 : (0 : Int) ≤ (j : Int) := by omega
  have n5 : (i : Int) ≤ (n : Int) := by omega
  have n6 : (j : Int) ≤ (n : Int) := by omega
  have n7 : j < n := by omega
  obtain ⟨W0, hW0⟩ : ∃ W, w.alloc (.cells #[.int .i64 b, .int .i64 p] 24) = W := ⟨_, rfl⟩
  have hb0 : Below w.heap.size w W0 := by rw [← hW0]; exact bal' w _
  have p0 : W0.heap[w.heap.size]? = some (.cells #[.int .i64 b, .int .i64 p] 24) := by rw [← hW0]; exact hpNew w _
  have e0 : ∀ W, Below W0.heap.size W0 W → W.cell? ⟨w.heap.size, 0, none⟩ = some (.int .i64 b) := fun W hW => hpCell (hpKeep p0 hW) 0
  have e1 : ∀ W, Below W0.heap.size W0 W → W.cell? ⟨w.heap.size, 1, none⟩ = some (.int .i64 p) := fun W hW => hpCell (hpKeep p0 hW) 1
  have ex : ∀ W, Below W0.heap.size W0 W → W.cell? ⟨bk, j * 3, none⟩ = some (.int .i64 x) := fun W hW => cell_keep (bt hb0 hW (Nat.le_refl _)) cx
  have ey : ∀ W, Below W0.heap.size W0 W → W.cell? ⟨bk, i * 3, none⟩ = some (.int .i64 y) := fun W hW => cell_keep (bt hb0 hW (Nat.le_refl _)) cy
  have HW0 := hid hW0
  have HB0 := hid hb0
  have kD : Below W0.heap.size W0 W0.drew := (Below.refl _ _).drew
  obtain ⟨M, hM⟩ : ∃ M, (if x < y - C then y - C - x else 0) = M := ⟨_, rfl⟩
  have hmx : ∀ ts T W, (Builtin.max_ ts T #[.int .i64 0, .int .i64 (y - C - x)]).run Tryz.prog W = .ok (.int .i64 M) W := fun ts T W => by
    rw [run_max_int2 W ts T .i64 .i64 0 (y - C - x), ← hM]
    by_cases hlt : x < y - C
    · rw [if_pos hlt, if_pos (by omega)]
    · rw [if_neg hlt, if_neg (by omega)]
  rw [hM]
  clear hW0 hb0 p0 cx cy hM hx1 hx2 hy1 hy2 t1 t2 hc hji
  go_enter Tryz.func42, Tryz.ntmps42
  go_upto_region 1 with (fail)
  rw [HW0.out]
  go_region_held3 (fun W => Below W0.heap.size W0 W) ((with_reducible (first | exact kD | assumption))) ((go_at_call 37; (with_reducible refine (HCH.out W0.drew).mono ?_); rintro r w2 ⟨rfl, hb2⟩; have hBL := bt kD hb2 (Nat.le_refl _)))
  all_goals
    go_wp2
    go_ret
    exact ⟨rfl, bt HB0.out hBL (Nat.le_refl _)⟩

end Go.Proofs.YtpmidoneoonlcaaGreat
