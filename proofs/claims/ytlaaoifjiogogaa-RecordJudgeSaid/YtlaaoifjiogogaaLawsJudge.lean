/-
  The walk of the law RecordJudge.
-/
import Derived.Test.YtlaaoifjiogogaaJdgP
import Derived.Test.YtlaaoifjiogogaaMdecl
import Derived.Test.YtlaaoifjiogogaaDecT
import Derived.Test.YtlaaoifjiogogaaMenc
import Derived.Deep.RegionHeld3
namespace Go.Proofs.Ytlaaoifjiogogaa
open Go.RowKit

theorem bcell {W w1 : World} (hb : Below W.heap.size W w1) : (∀ b o, b < W.heap.size → w1.cell? ⟨b, o, none⟩ = W.cell? ⟨b, o, none⟩) ∧ (∀ b o, b < W.heap.size → w1.frozen? ⟨b, o, none⟩ = W.frozen? ⟨b, o, none⟩) :=
  ⟨fun b o h => hb.cell (p := ⟨b, o, none⟩) h, fun b o h => hb.frozen (p := ⟨b, o, none⟩) h⟩

theorem hpNewD (w : World) (o : Obj) : (w.alloc o).drew.heap[w.heap.size]? = some o := hpNew w o
theorem below_set9 {B : Nat} {a w : World} {p : Nat} (h : Below B a w) (hp : B ≤ p) (v0 v1 v2 v3 v4 v5 v6 v7 v8 : Value) :
    Below B a (((((((((w.setCell ⟨p, 0, none⟩ v0).setCell ⟨p, 1, none⟩ v1).setCell ⟨p, 2, none⟩ v2).setCell ⟨p, 3, none⟩ v3).setCell ⟨p, 4, none⟩ v4).setCell ⟨p, 5, none⟩ v5).setCell ⟨p, 6, none⟩ v6).setCell ⟨p, 7, none⟩ v7).setCell ⟨p, 8, none⟩ v8) :=
  ((((((((h.setCell hp v0).setCell hp v1).setCell hp v2).setCell hp v3).setCell hp v4).setCell hp v5).setCell hp v6).setCell hp v7).setCell hp v8

/-- Where the judged outcome lies. -/
def JAt (w2 : World) (O : Oc) (s : Value) (wc : World) : Prop :=
  ∃ (p : Nat) (da : Option Addr) (dc : Nat) (oa : Option Addr) (oc : Nat), s = .pointer (some ⟨p, 0, none⟩) ∧ w2.heap.size ≤ p ∧ wc.heap[p]? = some (.cells #[.int .i64 O.verdict, .int .i64 O.reply.fn, .int .i64 O.reply.exc, .slice da O.reply.data.length dc, .int .i64 O.reply.code, .int .i64 O.reply.level, .bool O.reply.more, .int .i64 O.reply.next, .slice oa O.reply.objs.length oc] 27) ∧ RpIs wc O.reply da dc oa oc ∧ Below w2.heap.size w2 wc

/-- Behind the choice. -/
def JEnd (w : World) (p : Nat) (s : Value) (we : World) : Prop :=
  s = .bool false ∧ ∃ (o : Oc) (da : Option Addr) (dc : Nat) (oa : Option Addr) (oc : Nat), we.heap[p]? = some (.cells #[.int .i64 o.verdict, .int .i64 o.reply.fn, .int .i64 o.reply.exc, .slice da o.reply.data.length dc, .int .i64 o.reply.code, .int .i64 o.reply.level, .bool o.reply.more, .int .i64 o.reply.next, .slice oa o.reply.objs.length oc] 27) ∧ RpIs we o.reply da dc oa oc ∧ o.good ∧ Below w.heap.size w we

theorem kset {p : Nat} {w w1 : World} (h : Keeps (· = p) w w1) (i : Nat) (u : Value) : Keeps (· = p) w (w1.setCell ⟨p, i, none⟩ u) := Keeps.set (F := (· = p)) h ⟨p, i, none⟩ u rfl

set_option maxHeartbeats 800000 in
theorem JAt.set9 {w2 w4 : World} {O : Oc} {p B : Nat} {da oa : Option Addr} {dc oc : Nat} {x0 x1 x2 x3 x4 x5 x6 x7 x8 : Value}
    (g : w4.heap[p]? = some (.cells #[x0, x1, x2, x3, x4, x5, x6, x7, x8] 27)) (hp : w2.heap.size ≤ p) (hb : Below w2.heap.size w2 w4) (hB : p < B) (hI : ∀ W, Agree B w4 W → RpIs W O.reply da dc oa oc) :
    JAt w2 O (.pointer (some ⟨p, 0, none⟩)) (((((((((w4.setCell ⟨p, 0, none⟩ (.int .i64 O.verdict)).setCell ⟨p, 1, none⟩ (.int .i64 O.reply.fn)).setCell ⟨p, 2, none⟩ (.int .i64 O.reply.exc)).setCell ⟨p, 3, none⟩ (.slice da O.reply.data.length dc)).setCell ⟨p, 4, none⟩ (.int .i64 O.reply.code)).setCell ⟨p, 5, none⟩ (.int .i64 O.reply.level)).setCell ⟨p, 6, none⟩ (.bool O.reply.more)).setCell ⟨p, 7, none⟩ (.int .i64 O.reply.next)).setCell ⟨p, 8, none⟩ (.slice oa O.reply.objs.length oc)) := by
  refine ⟨p, da, dc, oa, oc, rfl, hp, ?_, ?_, below_set9 hb hp _ _ _ _ _ _ _ _ _⟩
  · have m0 := hpSet g 0 (.int .i64 O.verdict)
    have m1 := hpSet m0 1 (.int .i64 O.reply.fn)
    have m2 := hpSet m1 2 (.int .i64 O.reply.exc)
    have m3 := hpSet m2 3 (.slice da O.reply.data.length dc)
    have m4 := hpSet m3 4 (.int .i64 O.reply.code)
    have m5 := hpSet m4 5 (.int .i64 O.reply.level)
    have m6 := hpSet m5 6 (.bool O.reply.more)
    have m7 := hpSet m6 7 (.int .i64 O.reply.next)
    have m8 := hpSet m7 8 (.slice oa O.reply.objs.length oc)
    rw [m8]
    simp
  · have hk : Keeps (· = p) w4 (((((((((w4.setCell ⟨p, 0, none⟩ (.int .i64 O.verdict)).setCell ⟨p, 1, none⟩ (.int .i64 O.reply.fn)).setCell ⟨p, 2, none⟩ (.int .i64 O.reply.exc)).setCell ⟨p, 3, none⟩ (.slice da O.reply.data.length dc)).setCell ⟨p, 4, none⟩ (.int .i64 O.reply.code)).setCell ⟨p, 5, none⟩ (.int .i64 O.reply.level)).setCell ⟨p, 6, none⟩ (.bool O.reply.more)).setCell ⟨p, 7, none⟩ (.int .i64 O.reply.next)).setCell ⟨p, 8, none⟩ (.slice oa O.reply.objs.length oc)) := by
      exact kset (kset (kset (kset (kset (kset (kset (kset (kset (Keeps.refl _ w4) _ _) _ _) _ _) _ _) _ _) _ _) _ _) _ _) _ _
    exact hI _ (Agree.of_keeps hk (fun k e => by omega))

set_option maxRecDepth 100000 in
set_option maxHeartbeats 12800000 in
theorem Walk.recordJudge {w : World} (unit : Int) (_h0 : (Lit.int .i64 unit).wf = true) (k : Int) (hk : (Lit.int .i64 k).wf = true) (a : Int) (ha : (Lit.int .i64 a).wf = true) (b' : Int) (hb' : (Lit.int .i64 b').wf = true)
    (cs4 : Array Value) (r4 : Rd Try.prog w 46 cs4.toList) (cs5 : Array Value) (r5 : Rd Try.prog w 25 cs5.toList) (b6 : Bool) :
    Calls Try.prog 6 #[.int .i64 unit, .int .i64 k, .int .i64 a, .int .i64 b', .agg cs4, .agg cs5, .bool b6] w fun r w' => r = .returned (.bool true) ∧ Below w.heap.size w w' := by
  obtain ⟨ba, bc, b, f1, f2, fl, e4, hb⟩ := frame_rd r4
  obtain ⟨R, ra, rc, sa, sc, e5, hrd, hro, hr1, hr2⟩ := rp_rd r5
  obtain rfl : cs4 = #[.slice ba b.length bc, .int .i64 f1, .int .i64 f2, .int .i64 fl] := by cases cs4; simp_all
  obtain rfl : cs5 = #[.int .i64 R.fn, .int .i64 R.exc, .slice ra R.data.length rc, .int .i64 R.code, .int .i64 R.level, .bool R.more, .int .i64 R.next, .slice sa R.objs.length sc] := by cases cs5; simp_all
  have HB := hid hb
  have HRI : Hid (RpIs w R ra rc sa sc) := ⟨hrd, hro, hr1, hr2⟩
  clear e4 e5 r4 r5 hb hrd hro hr1 hr2
  obtain ⟨V, hV⟩ : ∃ V, R.small = V := ⟨_, rfl⟩
  obtain ⟨hbl, hbc, hbm⟩ := HB.out.capOf
  obtain ⟨nA, hnA⟩ : ∃ n, min 260 b.length = n := ⟨_, rfl⟩
  have HBY : Hid (∀ W, Calls Try.prog 22 #[.slice ba b.length bc, .int .i64 260] W fun r w' => r = .returned (.slice ba nA bc) ∧ W = w') := fun W => by rw [← hnA]; exact bytes_sh ba b.length bc 260 260 rfl (by decide) hbc W
  have HBS : Hid (Bs w (.slice ba nA bc) (b.take 260)) := by
    have h1 := (bs_take HB.out nA (by omega)).1
    rw [← hnA, show b.take (min 260 b.length) = b.take 260 by rw [List.take_eq_take_iff]; omega] at h1
    rw [← hnA]; exact h1
  clear hbl hbc hbm hnA
  have HM : Hid (∀ W, Below w.heap.size w W → Calls Try.prog 10 #[.agg #[.int .i64 R.fn, .int .i64 R.exc, .slice ra R.data.length rc, .int .i64 R.code, .int .i64 R.level, .bool R.more, .int .i64 R.next, .slice sa R.objs.length sc]] W fun r w' => r = .returned (.bool V) ∧ Below W.heap.size W w') := fun W hW => mreply_any _ _ _ _ _ _ _ _ R.data R.objs W (HRI.out.keep hW).d (HRI.out.keep hW).o V hV
  have HMK : Hid (∀ W, Calls Try.prog 26 #[.int .i64 k, .int .i64 a, .int .i64 b'] W fun r w' => r = .returned (.agg #[.int .i64 (mkRq k a b').fn, .int .i64 (mkRq k a b').addr, .int .i64 (mkRq k a b').qty, .int .i64 (mkRq k a b').code, .int .i64 (mkRq k a b').obj]) ∧ Below W.heap.size W w') := fun W => make_any k a b' hk ha hb' W
  have kB : ∀ X Y, Below w.heap.size w ((w.alloc X).alloc Y) := fun X Y => bta (bal' w X) (Nat.le_refl _) Y
  generalize mkRq k a b' = Q at *
  have gF := hid (show ((w.alloc (.cells #[.slice ba nA bc, .int .i64 f1, .int .i64 f2, .int .i64 fl] 46)).alloc (.cells #[.int .i64 R.fn, .int .i64 R.exc, .slice ra R.data.length rc, .int .i64 R.code, .int .i64 R.level, .bool R.more, .int .i64 R.next, .slice sa R.objs.length sc] 25)).heap[w.heap.size]? = some (.cells #[.slice ba nA bc, .int .i64 f1, .int .i64 f2, .int .i64 fl] 46) from hpKeep (hpNew w _) (bal' _ _))
  have gR := hid (show ((w.alloc (.cells #[.slice ba nA bc, .int .i64 f1, .int .i64 f2, .int .i64 fl] 46)).alloc (.cells #[.int .i64 R.fn, .int .i64 R.exc, .slice ra R.data.length rc, .int .i64 R.code, .int .i64 R.level, .bool R.more, .int .i64 R.next, .slice sa R.objs.length sc] 25)).heap[w.heap.size + 1]? = some (.cells #[.int .i64 R.fn, .int .i64 R.exc, .slice ra R.data.length rc, .int .i64 R.code, .int .i64 R.level, .bool R.more, .int .i64 R.next, .slice sa R.objs.length sc] 25) by have := hpNew (w.alloc (.cells #[.slice ba nA bc, .int .i64 f1, .int .i64 f2, .int .i64 fl] 46)) (.cells #[.int .i64 R.fn, .int .i64 R.exc, .slice ra R.data.length rc, .int .i64 R.code, .int .i64 R.level, .bool R.more, .int .i64 R.next, .slice sa R.objs.length sc] 25); simpa using this)
  clear hV hk ha hb'
  go_enter Try.func6, Try.ntmps6
  go_wp2_with fail
  refine (HBY.out _).mono ?_
  rintro r w1 ⟨rfl, rfl⟩
  go_wp2_with fail
  refine (HM.out _ (kB _ _)).mono ?_
  rintro r w2 ⟨rfl, hb2⟩
  have hbw2 := bt (kB _ _) hb2 (Nat.le_refl _)
  have gF2 := hpKeep gF.out hb2
  have gR2 := hpKeep gR.out hb2
  clear hb2 kB
  cases V with
  | false =>
    go_wp2_with (go_at_call 11; (with_reducible refine (recawake_any _).mono ?_); rintro r w3 ⟨rfl, hb3⟩)
    go_ret
    exact ⟨rfl, bt hbw2 hb3 (Nat.le_refl _)⟩
  | true =>
    have c0 : ∀ W, Below w2.heap.size w2 W → W.cell? ⟨w.heap.size, 0, none⟩ = some (.slice ba nA bc) := fun W h => hpCell (hpKeep gF2 h) 0
    have c1 : ∀ W, Below w2.heap.size w2 W → W.cell? ⟨w.heap.size, 1, none⟩ = some (.int .i64 f1) := fun W h => hpCell (hpKeep gF2 h) 1
    have c2 : ∀ W, Below w2.heap.size w2 W → W.cell? ⟨w.heap.size, 2, none⟩ = some (.int .i64 f2) := fun W h => hpCell (hpKeep gF2 h) 2
    have c3 : ∀ W, Below w2.heap.size w2 W → W.cell? ⟨w.heap.size, 3, none⟩ = some (.int .i64 fl) := fun W h => hpCell (hpKeep gF2 h) 3
    obtain ⟨O, hO⟩ : ∃ O, judgeB rchkB unit Q fl (b.take 260) = O := ⟨_, rfl⟩
    have HG : Hid O.good := by rw [← hO]; exact good_judge _ _ _ _ _
    have HJ : Hid (∀ W, Below w2.heap.size w2 W → Calls Try.prog 25 #[.int .i64 unit, .agg #[.int .i64 Q.fn, .int .i64 Q.addr, .int .i64 Q.qty, .int .i64 Q.code, .int .i64 Q.obj], .agg #[.slice ba nA bc, .int .i64 f1, .int .i64 f2, .int .i64 fl]] W (OcOne W O)) := fun W hW => by
      rw [← hO]
      exact rjudge_any unit Q.fn Q.addr Q.qty Q.code Q.obj ba nA bc f1 f2 fl (b.take 260) W (HBS.out.keep (bt hbw2 hW (Nat.le_refl _)))
    have kD : Below w2.heap.size w2 w2.drew := (Below.refl _ _).drew
    clear hO gF2
    go_upto_region 4 with (fail)
    go_cut [15] from 30 to 36 (fun s15 wc => JAt w2 O s15 wc)
    case first =>
      go_region_held3 (fun W => Below w2.heap.size w2 W) ((with_reducible (first | exact kD | exact (bta (Below.refl w2.heap.size w2) (Nat.le_refl _) _).drew | exact below_set9 hB4 hP4 _ _ _ _ _ _ _ _ _ | exact hB4 | exact bta hB4 (Nat.le_refl _) _ | exact bta kD (Nat.le_refl _) _ | exact bta (bt kD hb3 (Nat.le_refl _)) (Nat.le_refl _) _ | exact bta (by assumption) (Nat.le_refl _) _ | exact bt (by assumption) hb3 (Nat.le_refl _) | exact bt (by assumption) (by assumption) (Nat.le_refl _)))) (first | (go_at_call 26; (with_reducible refine (HMK.out _).mono ?_); rintro r w3 ⟨rfl, hb3⟩; have gz := hpKeep (hpNewD _ (.cells #[.int .i64 0, .int .i64 0, .int .i64 0, .slice none 0 0, .int .i64 0, .int .i64 0, .bool false, .int .i64 0, .slice none 0 0] 27)) hb3) | (go_at_call 26; (with_reducible refine (HMK.out _).mono ?_); rintro r w3 ⟨rfl, hb3⟩) | (go_at_call 25; (with_reducible refine (HJ.out _ (by assumption)).mono ?_); rintro r w4 ⟨oda, odc, ooa, ooc, rfl, hI, hb4⟩; have hB4 : Below w2.heap.size w2 w4 := bt (by assumption) hb4 (Nat.le_refl _); have gz4 := hpKeep gz hb4; have hP4 := Nat.le_refl w2.heap.size; have z0 := hpCell gz4 0; have z1 := hpCell gz4 1; have z2 := hpCell gz4 2; have z3 := hpCell gz4 3; have z4 := hpCell gz4 4; have z5 := hpCell gz4 5; have z6 := hpCell gz4 6; have z7 := hpCell gz4 7; have z8 := hpCell gz4 8; have y0 := hpFree gz4 0; have y1 := hpFree gz4 1; have y2 := hpFree gz4 2; have y3 := hpFree gz4 3; have y4 := hpFree gz4 4; have y5 := hpFree gz4 5; have y6 := hpFree gz4 6; have y7 := hpFree gz4 7; have y8 := hpFree gz4 8) | (go_at_call 25; (with_reducible refine (HJ.out _ (by assumption)).mono ?_); rintro r w4 ⟨oda, odc, ooa, ooc, rfl, hI, hb4⟩; have hB4 : Below w2.heap.size w2 w4 := bt (by assumption) hb4 (Nat.le_refl _); have gz4 := hpKeep (hpNew _ (.cells #[.int .i64 0, .int .i64 0, .int .i64 0, .slice none 0 0, .int .i64 0, .int .i64 0, .bool false, .int .i64 0, .slice none 0 0] 27)) hb4; have hP4 : w2.heap.size ≤ w3.heap.size := hb3.size; have z0 := hpCell gz4 0; have z1 := hpCell gz4 1; have z2 := hpCell gz4 2; have z3 := hpCell gz4 3; have z4 := hpCell gz4 4; have z5 := hpCell gz4 5; have z6 := hpCell gz4 6; have z7 := hpCell gz4 7; have z8 := hpCell gz4 8; have y0 := hpFree gz4 0; have y1 := hpFree gz4 1; have y2 := hpFree gz4 2; have y3 := hpFree gz4 3; have y4 := hpFree gz4 4; have y5 := hpFree gz4 5; have y6 := hpFree gz4 6; have y7 := hpFree gz4 7; have y8 := hpFree gz4 8) | (go_at_call 25; (with_reducible refine (HJ.out _ (by assumption)).mono ?_); rintro r w4 ⟨oda, odc, ooa, ooc, rfl, hI, hb4⟩; have hB4 : Below w2.heap.size w2 w4 := bt (by assumption) hb4 (Nat.le_refl _)))
      · go_wp2
        go_meet
        case rel => exact ⟨_, oda, odc, ooa, ooc, rfl, Nat.le_trans hb3.size hb4.size, hpNew w4 _, hI _ (Agree.of_below (bal' w4 _)), bta hB4 (Nat.le_refl _) _⟩
      · go_wp2
        go_meet
        case rel => exact JAt.set9 gz4 hP4 hB4 (by simp) hI
      · go_wp2
        go_meet
        case rel => exact JAt.set9 gz4 hP4 hB4 (by have := hb3.size; simp at this; omega) hI
    case rest =>
      obtain ⟨p, da, dc, oa, oc, rfl, hp, gO, hI, hbc⟩ := hcut
      have HI := hid hI
      have hbwc := bt hbw2 hbc (Nat.le_refl _)
      have gRc := hpKeep gR2 hbc
      have hlt2 : w.heap.size + 1 < w2.heap.size := (Array.getElem?_eq_some_iff.1 gR2).1
      have hpR : p ≠ w.heap.size + 1 := by omega
      have HMT : Hid (∀ W, Below w.heap.size w W → Calls Try.prog 27 #[.agg #[.int .i64 Q.fn, .int .i64 Q.addr, .int .i64 Q.qty, .int .i64 Q.code, .int .i64 Q.obj], .agg #[.int .i64 R.fn, .int .i64 R.exc, .slice ra R.data.length rc, .int .i64 R.code, .int .i64 R.level, .bool R.more, .int .i64 R.next, .slice sa R.objs.length sc]] W fun r w' => r = .returned (.bool (matchB Q R)) ∧ Below W.heap.size W w') := fun W hW => rmatch_any W Q.fn Q.addr Q.qty Q.code Q.obj R.fn R.exc ra _ rc R.code R.level R.more R.next sa _ sc R.data R.objs (HRI.out.keep hW).d (HRI.out.keep hW).o
      obtain ⟨V2, hV2⟩ : ∃ V2, matchB Q R = V2 := ⟨_, rfl⟩
      rw [hV2] at HMT
      have HV2 := hid hV2
      clear hV2 HJ HM c0 c1 c2 c3 hI kD gR2 gF gR
      go_wp2_with fail
      refine (HMK.out _).mono ?_
      rintro r w5 ⟨rfl, hb5⟩
      have hbw5 := bt hbwc hb5 (Nat.le_refl _)
      have hbw6 : Below w.heap.size w (w5.alloc (.cells #[.int .i64 Q.fn, .int .i64 Q.addr, .int .i64 Q.qty, .int .i64 Q.code, .int .i64 Q.obj] 49)) := bta hbw5 (Nat.le_refl _) _
      have gR6 : (w5.alloc (.cells #[.int .i64 Q.fn, .int .i64 Q.addr, .int .i64 Q.qty, .int .i64 Q.code, .int .i64 Q.obj] 49)).heap[w.heap.size + 1]? = some (.cells #[.int .i64 R.fn, .int .i64 R.exc, .slice ra R.data.length rc, .int .i64 R.code, .int .i64 R.level, .bool R.more, .int .i64 R.next, .slice sa R.objs.length sc] 25) := hpKeep (hpKeep gRc hb5) (bal' _ _)
      have gO6 : (w5.alloc (.cells #[.int .i64 Q.fn, .int .i64 Q.addr, .int .i64 Q.qty, .int .i64 Q.code, .int .i64 Q.obj] 49)).heap[p]? = some (.cells #[.int .i64 O.verdict, .int .i64 O.reply.fn, .int .i64 O.reply.exc, .slice da O.reply.data.length dc, .int .i64 O.reply.code, .int .i64 O.reply.level, .bool O.reply.more, .int .i64 O.reply.next, .slice oa O.reply.objs.length oc] 27) := hpKeep (hpKeep gO hb5) (bal' _ _)
      have HI6 : Hid (RpIs (w5.alloc (.cells #[.int .i64 Q.fn, .int .i64 Q.addr, .int .i64 Q.qty, .int .i64 Q.code, .int .i64 Q.obj] 49)) O.reply da dc oa oc) := (HI.out.keep hb5).keep (bal' _ _)
      obtain ⟨e0, e1, e2, e3, e4, e5, e6, e7⟩ : (w5.alloc (.cells #[.int .i64 Q.fn, .int .i64 Q.addr, .int .i64 Q.qty, .int .i64 Q.code, .int .i64 Q.obj] 49)).cell? ⟨(w.heap.size + 1), 0, none⟩ = some (.int .i64 R.fn) ∧ (w5.alloc (.cells #[.int .i64 Q.fn, .int .i64 Q.addr, .int .i64 Q.qty, .int .i64 Q.code, .int .i64 Q.obj] 49)).cell? ⟨(w.heap.size + 1), 1, none⟩ = some (.int .i64 R.exc) ∧ (w5.alloc (.cells #[.int .i64 Q.fn, .int .i64 Q.addr, .int .i64 Q.qty, .int .i64 Q.code, .int .i64 Q.obj] 49)).cell? ⟨(w.heap.size + 1), 2, none⟩ = some (.slice ra R.data.length rc) ∧ (w5.alloc (.cells #[.int .i64 Q.fn, .int .i64 Q.addr, .int .i64 Q.qty, .int .i64 Q.code, .int .i64 Q.obj] 49)).cell? ⟨(w.heap.size + 1), 3, none⟩ = some (.int .i64 R.code) ∧ (w5.alloc (.cells #[.int .i64 Q.fn, .int .i64 Q.addr, .int .i64 Q.qty, .int .i64 Q.code, .int .i64 Q.obj] 49)).cell? ⟨(w.heap.size + 1), 4, none⟩ = some (.int .i64 R.level) ∧ (w5.alloc (.cells #[.int .i64 Q.fn, .int .i64 Q.addr, .int .i64 Q.qty, .int .i64 Q.code, .int .i64 Q.obj] 49)).cell? ⟨(w.heap.size + 1), 5, none⟩ = some (.bool R.more) ∧ (w5.alloc (.cells #[.int .i64 Q.fn, .int .i64 Q.addr, .int .i64 Q.qty, .int .i64 Q.code, .int .i64 Q.obj] 49)).cell? ⟨(w.heap.size + 1), 6, none⟩ = some (.int .i64 R.next) ∧ (w5.alloc (.cells #[.int .i64 Q.fn, .int .i64 Q.addr, .int .i64 Q.qty, .int .i64 Q.code, .int .i64 Q.obj] 49)).cell? ⟨(w.heap.size + 1), 7, none⟩ = some (.slice sa R.objs.length sc) := ⟨hpCell gR6 0, hpCell gR6 1, hpCell gR6 2, hpCell gR6 3, hpCell gR6 4, hpCell gR6 5, hpCell gR6 6, hpCell gR6 7⟩
      clear gRc gO HI hbwc
      go_upto_region 6 with (fail)
      go_cut [51] from 42 to 51 (fun s51 wd => ∃ X : Bool, s51 = .bool X ∧ Hid (X = true → V2 = true) ∧ Below (w5.alloc (.cells #[.int .i64 Q.fn, .int .i64 Q.addr, .int .i64 Q.qty, .int .i64 Q.code, .int .i64 Q.obj] 49)).heap.size (w5.alloc (.cells #[.int .i64 Q.fn, .int .i64 Q.addr, .int .i64 Q.qty, .int .i64 Q.code, .int .i64 Q.obj] 49)) wd)
      case first =>
        cases b6 with
        | false =>
          go_wp2
          go_meet
          case rel => exact ⟨false, rfl, (fun h => nomatch h), Below.refl _ _⟩
        | true =>
          go_wp2_with fail
          refine (HMT.out _ hbw6).mono ?_
          rintro r w7 ⟨rfl, hb7⟩
          have y1 : w7.cell? ⟨w.heap.size + 1, 1, none⟩ = some (.int .i64 R.exc) := hpCell (hpKeep gR6 hb7) 1
          clear e0 e1 e2 e3 e4 e5 e6 e7
          cases V2 with
          | false =>
            go_wp2
            go_meet
            case rel => exact ⟨false, rfl, (fun h => nomatch h), hb7⟩
          | true =>
            go_wp2
            all_goals
              go_meet
              case rel => exact ⟨_, rfl, (fun _ => by first | rfl | trivial), hb7⟩
      case rest =>
        obtain ⟨X, rfl, hX, hbd⟩ := hcut
        have hbwd := bt hbw6 hbd (Nat.le_refl _)
        have gRd := hpKeep gR6 hbd
        have gOd := hpKeep gO6 hbd
        have HId := hid (HI6.out.keep hbd)
        clear e0 e1 e2 e3 e4 e5 e6 e7 gR6 gO6 HI6 hbw6 hbw5 hbd HMT HMK
        go_upto_if 51 with (fail)
        go_cut [14] from 52 to 57 (fun s14 we => JEnd w p s14 we)
        case first =>
          cases X with
          | false =>
            go_wp2
            go_meet
            case rel => exact ⟨rfl, O, da, dc, oa, oc, gOd, HId.out, HG.out, hbwd⟩
          | true =>
            have hgo := good_over (hX.out rfl ▸ HV2.out : matchB Q R = true)
            obtain ⟨e0, e1, e2, e3, e4, e5, e6, e7⟩ : wc.cell? ⟨(w.heap.size + 1), 0, none⟩ = some (.int .i64 R.fn) ∧ wc.cell? ⟨(w.heap.size + 1), 1, none⟩ = some (.int .i64 R.exc) ∧ wc.cell? ⟨(w.heap.size + 1), 2, none⟩ = some (.slice ra R.data.length rc) ∧ wc.cell? ⟨(w.heap.size + 1), 3, none⟩ = some (.int .i64 R.code) ∧ wc.cell? ⟨(w.heap.size + 1), 4, none⟩ = some (.int .i64 R.level) ∧ wc.cell? ⟨(w.heap.size + 1), 5, none⟩ = some (.bool R.more) ∧ wc.cell? ⟨(w.heap.size + 1), 6, none⟩ = some (.int .i64 R.next) ∧ wc.cell? ⟨(w.heap.size + 1), 7, none⟩ = some (.slice sa R.objs.length sc) := ⟨hpCell gRd 0, hpCell gRd 1, hpCell gRd 2, hpCell gRd 3, hpCell gRd 4, hpCell gRd 5, hpCell gRd 6, hpCell gRd 7⟩
            by_cases hx : R.exc = 0
            · rw [if_pos hx] at hgo
              have HGO := hid hgo
              have hx' : (R.exc != 0) = false := by rw [bne_eq_false_iff_eq]; exact hx
              clear hx hgo hX HV2 HG HId
              go_wp2_with (refine wpList_storeW rfl 27 (.tmp 15) (.tmp 53) rfl p 0 _ _ (#[.int .i64 1, .int .i64 R.fn, .int .i64 R.exc, .slice ra R.data.length rc, .int .i64 R.code, .int .i64 R.level, .bool R.more, .int .i64 R.next, .slice sa R.objs.length sc]) rfl rfl gOd (by simp) (by kernel_rfl) (by rfl) ?_; intro w8 g8 hk8 hz8; have y8 := hpCell (hpKeeps gRd hk8 (fun h => hpR h.symm)) 1)
              go_meet
              case rel => exact ⟨rfl, ⟨1, R⟩, ra, rc, sa, sc, g8, HRI.out.keep (hbwd.trans (hk8.below hbwd.size (fun k hk e => by omega))), HGO.out, hbwd.trans (hk8.below hbwd.size (fun k hk e => by omega))⟩
            · rw [if_neg hx] at hgo
              have HGO := hid hgo
              have hx' : (R.exc != 0) = true := by rw [bne_iff_ne]; exact hx
              clear hx hgo hX HV2 HG HId
              go_wp2_with (refine wpList_storeW rfl 27 (.tmp 15) (.tmp 53) rfl p 0 _ _ (#[.int .i64 1, .int .i64 R.fn, .int .i64 R.exc, .slice ra R.data.length rc, .int .i64 R.code, .int .i64 R.level, .bool R.more, .int .i64 R.next, .slice sa R.objs.length sc]) rfl rfl gOd (by simp) (by kernel_rfl) (by rfl) ?_; intro w8 g8 hk8 hz8; have y8 := hpCell (hpKeeps gRd hk8 (fun h => hpR h.symm)) 1; have z8 := hpCell g8 0; have f8 := hpFree g8 0)
              have g9 := hpSet g8 0 (.int .i64 2)
              have hk9 : Keeps (· = p) wc (w8.setCell ⟨p, 0, none⟩ (.int .i64 2)) := kset hk8 0 _
              go_meet
              case rel => exact ⟨rfl, ⟨2, R⟩, ra, rc, sa, sc, by rw [g9]; simp, HRI.out.keep (hbwd.trans (hk9.below hbwd.size (fun k hk e => by omega))), HGO.out, hbwd.trans (hk9.below hbwd.size (fun k hk e => by omega))⟩
        case rest =>
          obtain ⟨rfl, o, oa, oc, ob, od, gE, hIE, hGE, hbE⟩ := hcut
          have HIE := hid hIE
          obtain ⟨hl1, hl2⟩ := strip_level hIE.hi hIE.lo
          have HST := hid (stripW_any hGE hIE)
          have hok := hGE.1
          obtain ⟨e0, e1, e2, e3, e4, e5, e6, e7, e8⟩ : wc.cell? ⟨p, 0, none⟩ = some (.int .i64 o.verdict) ∧ wc.cell? ⟨p, 1, none⟩ = some (.int .i64 o.reply.fn) ∧ wc.cell? ⟨p, 2, none⟩ = some (.int .i64 o.reply.exc) ∧ wc.cell? ⟨p, 3, none⟩ = some (.slice oa o.reply.data.length oc) ∧ wc.cell? ⟨p, 4, none⟩ = some (.int .i64 o.reply.code) ∧ wc.cell? ⟨p, 5, none⟩ = some (.int .i64 o.reply.level) ∧ wc.cell? ⟨p, 6, none⟩ = some (.bool o.reply.more) ∧ wc.cell? ⟨p, 7, none⟩ = some (.int .i64 o.reply.next) ∧ wc.cell? ⟨p, 8, none⟩ = some (.slice ob o.reply.objs.length od) := ⟨hpCell gE 0, hpCell gE 1, hpCell gE 2, hpCell gE 3, hpCell gE 4, hpCell gE 5, hpCell gE 6, hpCell gE 7, hpCell gE 8⟩
          clear hIE hGE HId hX HV2 HG gRd gOd hbwd HRI HB HBS HBY
          go_wp2_with fail
          refine HST.out.mono ?_
          rintro r w10 ⟨val, rfl, ⟨xa, xc, ya, yc, hval, hxb, hxo⟩, hb10⟩
          subst hval
          generalize o.strip = s at *
          have HIS : Hid (RpIs w10 s.reply xa xc ya yc) := ⟨hxb, hxo, hl1, hl2⟩
          have hokL : okL [s] = true := by simp [okL, hok]
          have HD := hid (decL_enc hokL)
          have gS1 : ((w10.alloc (.cells #[.int .i64 s.verdict, .int .i64 s.reply.fn, .int .i64 s.reply.exc, .slice xa s.reply.data.length xc, .int .i64 s.reply.code, .int .i64 s.reply.level, .bool s.reply.more, .int .i64 s.reply.next, .slice ya s.reply.objs.length yc] 27)).alloc (.cells #[.int .i64 s.verdict, .int .i64 s.reply.fn, .int .i64 s.reply.exc, .slice xa s.reply.data.length xc, .int .i64 s.reply.code, .int .i64 s.reply.level, .bool s.reply.more, .int .i64 s.reply.next, .slice ya s.reply.objs.length yc] 27)).heap[w10.heap.size]? = some (.cells #[.int .i64 s.verdict, .int .i64 s.reply.fn, .int .i64 s.reply.exc, .slice xa s.reply.data.length xc, .int .i64 s.reply.code, .int .i64 s.reply.level, .bool s.reply.more, .int .i64 s.reply.next, .slice ya s.reply.objs.length yc] 27) := hpKeep (hpNew _ _) (bal' _ _)
          have gS2 : ((w10.alloc (.cells #[.int .i64 s.verdict, .int .i64 s.reply.fn, .int .i64 s.reply.exc, .slice xa s.reply.data.length xc, .int .i64 s.reply.code, .int .i64 s.reply.level, .bool s.reply.more, .int .i64 s.reply.next, .slice ya s.reply.objs.length yc] 27)).alloc (.cells #[.int .i64 s.verdict, .int .i64 s.reply.fn, .int .i64 s.reply.exc, .slice xa s.reply.data.length xc, .int .i64 s.reply.code, .int .i64 s.reply.level, .bool s.reply.more, .int .i64 s.reply.next, .slice ya s.reply.objs.length yc] 27)).heap[w10.heap.size + 1]? = some (.cells #[.int .i64 s.verdict, .int .i64 s.reply.fn, .int .i64 s.reply.exc, .slice xa s.reply.data.length xc, .int .i64 s.reply.code, .int .i64 s.reply.level, .bool s.reply.more, .int .i64 s.reply.next, .slice ya s.reply.objs.length yc] 27) := by have := hpNew (w10.alloc (.cells #[.int .i64 s.verdict, .int .i64 s.reply.fn, .int .i64 s.reply.exc, .slice xa s.reply.data.length xc, .int .i64 s.reply.code, .int .i64 s.reply.level, .bool s.reply.more, .int .i64 s.reply.next, .slice ya s.reply.objs.length yc] 27)) (.cells #[.int .i64 s.verdict, .int .i64 s.reply.fn, .int .i64 s.reply.exc, .slice xa s.reply.data.length xc, .int .i64 s.reply.code, .int .i64 s.reply.level, .bool s.reply.more, .int .i64 s.reply.next, .slice ya s.reply.objs.length yc] 27); simpa using this
          have hbw10 := bt hbE hb10 (Nat.le_refl _)
          have hb2 : Below w10.heap.size w10 ((w10.alloc (.cells #[.int .i64 s.verdict, .int .i64 s.reply.fn, .int .i64 s.reply.exc, .slice xa s.reply.data.length xc, .int .i64 s.reply.code, .int .i64 s.reply.level, .bool s.reply.more, .int .i64 s.reply.next, .slice ya s.reply.objs.length yc] 27)).alloc (.cells #[.int .i64 s.verdict, .int .i64 s.reply.fn, .int .i64 s.reply.exc, .slice xa s.reply.data.length xc, .int .i64 s.reply.code, .int .i64 s.reply.level, .bool s.reply.more, .int .i64 s.reply.next, .slice ya s.reply.objs.length yc] 27)) := bta (bal' w10 _) (Nat.le_refl _) _
          have HO2 := hid (Ocs.one gS2 (HIS.out.keep hb2))
          have hbw11 := bt hbw10 hb2 (Nat.le_refl _)
          have HOK := hid hok
          have HOKL := hid hokL
          clear e0 e1 e2 e3 e4 e5 e6 e7 e8 hxb hxo hok hokL gS2 hb10 hbE gE hl1 hl2 HIE HST
          go_wp2_with fail
          refine (recEncode_any _ [s] _ HO2.out).mono ?_
          rintro r w11 hp11
          obtain ⟨a11, c11, rfl, hB11, hb11, _⟩ := hp11.1 HOKL.out
          have gS11 := hpKeep gS1 hb11
          have hbw12 := bt hbw11 hb11 (Nat.le_refl _)
          have HIS11 := hid ((HIS.out.keep hb2).keep hb11)
          have HB11 := hid hB11
          obtain ⟨E, hE⟩ : ∃ E, encL [s] = E := ⟨_, rfl⟩
          rw [hE] at HB11 HD ⊢
          clear hp11 hb11 hB11 hE gS1 HIS HO2 hb2
          go_wp2_with fail
          refine (recDecode_any _ _ _ E w11 HB11.out (hid fun a n c b w h => rdec_any a n c b w h)).mono ?_
          rintro r w12 hp12
          rcases hp12 with ⟨m, v, hm, rfl, hO, hb12⟩ | ⟨hm, _⟩
          rotate_left
          · rw [HD.out] at hm; cases hm
          rw [HD.out] at hm
          cases hm
          obtain ⟨va, vc, rfl, _⟩ := id hO
          have HO := hid hO
          have gS12 := hpKeep gS11 hb12
          have hbw13 := bt hbw12 hb12 (Nat.le_refl _)
          have HIS12 := hid (HIS11.out.keep hb12)
          clear hO hb12 gS11 HIS11 HD HB11
          go_wp2_with fail
          refine (recawake_any _).mono ?_
          rintro r w13 ⟨rfl, hb13⟩
          have gS13 := hpKeep gS12 hb13
          have hbw14 := bt hbw13 hb13 (Nat.le_refl _)
          have HIS13 := hid (HIS12.out.keep hb13)
          have HO13 := hid (HO.out.keep hb13)
          obtain ⟨e0, e1, e2, e3, e4, e5, e6, e7, e8⟩ : w13.cell? ⟨w10.heap.size, 0, none⟩ = some (.int .i64 s.verdict) ∧ w13.cell? ⟨w10.heap.size, 1, none⟩ = some (.int .i64 s.reply.fn) ∧ w13.cell? ⟨w10.heap.size, 2, none⟩ = some (.int .i64 s.reply.exc) ∧ w13.cell? ⟨w10.heap.size, 3, none⟩ = some (.slice xa s.reply.data.length xc) ∧ w13.cell? ⟨w10.heap.size, 4, none⟩ = some (.int .i64 s.reply.code) ∧ w13.cell? ⟨w10.heap.size, 5, none⟩ = some (.int .i64 s.reply.level) ∧ w13.cell? ⟨w10.heap.size, 6, none⟩ = some (.bool s.reply.more) ∧ w13.cell? ⟨w10.heap.size, 7, none⟩ = some (.int .i64 s.reply.next) ∧ w13.cell? ⟨w10.heap.size, 8, none⟩ = some (.slice ya s.reply.objs.length yc) := ⟨hpCell gS13 0, hpCell gS13 1, hpCell gS13 2, hpCell gS13 3, hpCell gS13 4, hpCell gS13 5, hpCell gS13 6, hpCell gS13 7, hpCell gS13 8⟩
          clear hb13 gS12 HIS12 HO
          go_wp2_with fail
          refine (valid_oc (x := s) (W := w13) ⟨HIS13.out.d, HIS13.out.o, HIS13.out.hi, HIS13.out.lo⟩ true HOK.out).mono ?_
          rintro r w14 ⟨rfl, hb14⟩
          have gS14 := hpKeep gS13 hb14
          have hbw15 := bt hbw14 hb14 (Nat.le_refl _)
          have HIS14 := hid (HIS13.out.keep hb14)
          have HO14 := hid (HO13.out.keep hb14)
          clear e0 e1 e2 e3 e4 e5 e6 e7 e8
          obtain ⟨e0, e1, e2, e3, e4, e5, e6, e7, e8⟩ : w14.cell? ⟨w10.heap.size, 0, none⟩ = some (.int .i64 s.verdict) ∧ w14.cell? ⟨w10.heap.size, 1, none⟩ = some (.int .i64 s.reply.fn) ∧ w14.cell? ⟨w10.heap.size, 2, none⟩ = some (.int .i64 s.reply.exc) ∧ w14.cell? ⟨w10.heap.size, 3, none⟩ = some (.slice xa s.reply.data.length xc) ∧ w14.cell? ⟨w10.heap.size, 4, none⟩ = some (.int .i64 s.reply.code) ∧ w14.cell? ⟨w10.heap.size, 5, none⟩ = some (.int .i64 s.reply.level) ∧ w14.cell? ⟨w10.heap.size, 6, none⟩ = some (.bool s.reply.more) ∧ w14.cell? ⟨w10.heap.size, 7, none⟩ = some (.int .i64 s.reply.next) ∧ w14.cell? ⟨w10.heap.size, 8, none⟩ = some (.slice ya s.reply.objs.length yc) := ⟨hpCell gS14 0, hpCell gS14 1, hpCell gS14 2, hpCell gS14 3, hpCell gS14 4, hpCell gS14 5, hpCell gS14 6, hpCell gS14 7, hpCell gS14 8⟩
          go_wp2_with fail
          refine (sameL_any _ _ [s] _ (HO14.out.keep (bal' w14 _)) (Ocs.one (hpNew w14 _) (HIS14.out.keep (bal' w14 _)))).mono ?_
          rintro r w15 ⟨rfl, hb15⟩
          go_wp2
          go_ret
          exact ⟨rfl, bt (bta hbw15 (Nat.le_refl _) _) hb15 (Nat.le_refl _)⟩
end Go.Proofs.Ytlaaoifjiogogaa
