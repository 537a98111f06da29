/-
  The walk of the law LinkJudge.
-/
import Derived.Test.YtoaajdbjlaffgaaLkX
import Derived.Test.YtoaajdbjlaffgaaPjudge
import Derived.Test.YtoaajdbjlaffgaaMjdp
import Derived.Deep.RegionHeldLaw
namespace Go.Proofs.Ytoaajdbjlaffgaa
open Go.RowKit

theorem cellsRq : Try.prog.cellsOf 23 = 5 := by kernel_rfl
theorem lst5 {α : Type} {l : List α} (h : l.length = 5) : ∃ a b c d e, l = [a, b, c, d, e] := by
  match l, h with
  | [a, b, c, d, e], _ => exact ⟨a, b, c, d, e, rfl⟩
theorem rq_rd {w : World} {cs : List Value} (h : Rd Try.prog w 23 cs) : ∃ a b c d e : Int, cs = [.int .i64 a, .int .i64 b, .int .i64 c, .int .i64 d, .int .i64 e] := by
  obtain ⟨hl, hf⟩ := h.struct Try.underlying23
  rw [cellsRq] at hl
  obtain ⟨c0, c1, c2, c3, c4, rfl⟩ := lst5 hl
  have f0 := hf _ (List.mem_cons_self ..)
  have f1 := hf _ (List.mem_cons_of_mem _ (List.mem_cons_self ..))
  have f2 := hf _ (List.mem_cons_of_mem _ (List.mem_cons_of_mem _ (List.mem_cons_self ..)))
  have f3 := hf _ (List.mem_cons_of_mem _ (List.mem_cons_of_mem _ (List.mem_cons_of_mem _ (List.mem_cons_self ..))))
  have f4 := hf _ (List.mem_cons_of_mem _ (List.mem_cons_of_mem _ (List.mem_cons_of_mem _ (List.mem_cons_of_mem _ (List.mem_cons_self ..)))))
  simp only [cellsInt, List.drop_zero, List.drop_succ_cons, List.take_succ_cons, List.take_zero] at f0 f1 f2 f3 f4
  obtain ⟨n0, e0, _⟩ := Rd.int Try.underlying3 f0
  obtain ⟨n1, e1, _⟩ := Rd.int Try.underlying3 f1
  obtain ⟨n2, e2, _⟩ := Rd.int Try.underlying3 f2
  obtain ⟨n3, e3, _⟩ := Rd.int Try.underlying3 f3
  obtain ⟨n4, e4, _⟩ := Rd.int Try.underlying3 f4
  simp only [List.cons.injEq, and_true] at e0 e1 e2 e3 e4
  subst e0; subst e1; subst e2; subst e3; subst e4
  exact ⟨n0, n1, n2, n3, n4, rfl⟩


/-- Where the two sides are asked. -/
def LJAt (w : World) (f1 f2 fl : Int) (s0 : Value) (wc : World) : Prop :=
  ∃ (u a b c d e : Int) (ba : Option Addr) (n bc : Nat) (l : List UInt8), s0 = .int .i64 u ∧ wc.heap[w.heap.size]? = some (.cells #[.int .i64 a, .int .i64 b, .int .i64 c, .int .i64 d, .int .i64 e] 23) ∧ wc.heap[w.heap.size + 1]? = some (.cells #[.slice ba n bc, .int .i64 f1, .int .i64 f2, .int .i64 fl] 26) ∧ Bs wc (.slice ba n bc) l ∧ Below w.heap.size w wc

/-- The two sides are to be asked of the same request and frame. -/
def LJMid (w : World) (f1 f2 fl : Int) (ba : Option Addr) (nA bc : Nat) (R : Rp) (ra : Option Addr) (rc : Nat) (sa : Option Addr) (sc : Nat) (s0 : Value) (wc : World) : Prop :=
  ∃ (u a b c d e : Int), s0 = .int .i64 u ∧ (-9223372036854775808 ≤ u ∧ u ≤ 9223372036854775807) ∧ wc.heap[w.heap.size]? = some (.cells #[.int .i64 a, .int .i64 b, .int .i64 c, .int .i64 d, .int .i64 e] 23) ∧ wc.heap[w.heap.size + 1]? = some (.cells #[.slice ba nA bc, .int .i64 f1, .int .i64 f2, .int .i64 fl] 26) ∧ wc.heap[w.heap.size + 2]? = some (.cells #[.int .i64 R.fn, .int .i64 R.exc, .slice ra R.data.length rc, .int .i64 R.code, .int .i64 R.level, .bool R.more, .int .i64 R.next, .slice sa R.objs.length sc] 29) ∧ Below w.heap.size w wc

theorem LJAt.set {w w6 : World} {f1 f2 fl u a b c d e : Int} {v : Value} {ga : Option Addr} {gn gc : Nat} {gl : List UInt8}
    (gQ : w6.heap[w.heap.size]? = some (.cells #[.int .i64 a, .int .i64 b, .int .i64 c, .int .i64 d, .int .i64 e] 23)) (gF : w6.heap[w.heap.size + 1]? = some (.cells #[v, .int .i64 f1, .int .i64 f2, .int .i64 fl] 26)) (hG : Bs w6 (.slice ga gn gc) gl) (hf : ∀ ad, ga = some ad → ad.block ≠ w.heap.size + 1) (hb : Below w.heap.size w w6) :
    LJAt w f1 f2 fl (.int .i64 u) (w6.setCell ⟨w.heap.size + 1, 0, none⟩ (.slice ga gn gc)) := by
  refine ⟨u, a, b, c, d, e, ga, gn, gc, gl, rfl, ?_, ?_, ?_, ?_⟩
  · rw [hpOther (by omega)]; exact gQ
  · have := hpSet gF 0 (.slice ga gn gc)
    simpa using this
  · exact hG.keepF (Keeps.set (F := (· = w.heap.size + 1)) (Keeps.of_below (Below.refl _ _)) ⟨w.heap.size + 1, 0, none⟩ _ rfl) hf
  · exact Below.setCell hb (Nat.le_succ _) _

/-- A row of bytes and a number, in new memory. -/
def RowNum (w : World) (r : Ending) (w' : World) : Prop :=
  ∃ (a : Option Addr) (n c : Nat) (e : Int) (l : List UInt8), r = .returned (.tuple #[.slice a n c, .int .i64 e]) ∧ Bs w' (.slice a n c) l ∧ (∀ ad, a = some ad → w.heap.size ≤ ad.block) ∧ Below w.heap.size w w'

theorem renc_row (R : Rp) (da oa : Option Addr) (dc oc : Nat) (w : World) (hd : Bs w (.slice da R.data.length dc) R.data) (ho : Obs w (.slice oa R.objs.length oc) R.objs) :
    Calls Try.prog 12 #[.agg #[.int .i64 R.fn, .int .i64 R.exc, .slice da R.data.length dc, .int .i64 R.code, .int .i64 R.level, .bool R.more, .int .i64 R.next, .slice oa R.objs.length oc]] w (RowNum w) := by
  cases hk : R.ok with
  | true =>
    refine (renc_any R.fn R.exc R.code R.level R.more R.next R.data R.objs da oa dc oc w hd ho hk).mono ?_
    rintro r w' ⟨a, c, rfl, hB, hb, hf⟩
    exact ⟨a, _, c, 0, _, rfl, hB, hf, hb⟩
  | false =>
    refine (renc_no R.fn R.exc R.code R.level R.more R.next R.data R.objs da oa dc oc w hd ho hk).mono ?_
    rintro r w' ⟨rfl, hb⟩
    exact ⟨none, 0, 0, 5, [], rfl, Bs.nil _, (fun _ h => nomatch h), hb⟩

theorem rbuild_row (u : Int) (a : Option Addr) (n c : Nat) (p : List UInt8) (w : World) (hb : Bs w (.slice a n c) p) :
    Calls Try.prog 13 #[.int .i64 u, .slice a n c] w (RowNum w) := by
  refine (rbuild_any u a n c p w hb).mono ?_
  rintro r w' ⟨a', c', e, f, rfl, hown, hb', _⟩
  exact ⟨a', _, c', e, f, rfl, Bs.own hown, fun ad had => (hown.lt ad.block (by rw [had]; rfl)).1, hb'⟩

theorem same_row {W : World} {x : Oc} {da : Option Addr} {dc : Nat} {oa : Option Addr} {oc : Nat} {da' : Option Addr} {dc' : Nat} {oa' : Option Addr} {oc' : Nat} (h : RpIs W x.reply da dc oa oc) (h' : RpIs W x.reply da' dc' oa' oc') :
    Calls Try.prog 14 #[.agg #[.int .i64 x.verdict, .int .i64 x.reply.fn, .int .i64 x.reply.exc, .slice da x.reply.data.length dc, .int .i64 x.reply.code, .int .i64 x.reply.level, .bool x.reply.more, .int .i64 x.reply.next, .slice oa x.reply.objs.length oc], .agg #[.int .i64 x.verdict, .int .i64 x.reply.fn, .int .i64 x.reply.exc, .slice da' x.reply.data.length dc', .int .i64 x.reply.code, .int .i64 x.reply.level, .bool x.reply.more, .int .i64 x.reply.next, .slice oa' x.reply.objs.length oc']] W fun r w' => r = .returned (.bool true) ∧ Below W.heap.size W w' :=
  same_oc ⟨h.d, h.o, h.hi, h.lo⟩ ⟨h'.d, h'.o, h'.hi, h'.lo⟩

set_option maxRecDepth 100000 in
set_option maxHeartbeats 12800000 in
theorem Walk.linkJudge {w : World} (unit : Int) (hu : (Lit.int .i64 unit).wf = true) (cs1 : Array Value) (r1 : Rd Try.prog w 23 cs1.toList) (cs2 : Array Value) (r2 : Rd Try.prog w 26 cs2.toList) (raw : Bool)
    (k : Int) (hk : (Lit.int .i64 k).wf = true) (a : Int) (ha : (Lit.int .i64 a).wf = true) (b' : Int) (hb' : (Lit.int .i64 b').wf = true) (cs7 : Array Value) (r7 : Rd Try.prog w 29 cs7.toList) (right : Bool) :
    Calls Try.prog 3 #[.int .i64 unit, .agg cs1, .agg cs2, .bool raw, .int .i64 k, .int .i64 a, .int .i64 b', .agg cs7, .bool right] w fun r w' => r = .returned (.bool true) ∧ Below w.heap.size w w' := by
  obtain ⟨q0, q1, q2, q3, q4, e1⟩ := rq_rd r1
  obtain ⟨ba, bc, b, f1, f2, fl, e2, hb⟩ := frame_rd r2
  obtain ⟨R, ra, rc, sa, sc, e7, hrd, hro, hr1, hr2⟩ := rp_rd r7
  obtain rfl : cs1 = #[.int .i64 q0, .int .i64 q1, .int .i64 q2, .int .i64 q3, .int .i64 q4] := by cases cs1; simp_all
  obtain rfl : cs2 = #[.slice ba b.length bc, .int .i64 f1, .int .i64 f2, .int .i64 fl] := by cases cs2; simp_all
  obtain rfl : cs7 = #[.int .i64 R.fn, .int .i64 R.exc, .slice ra R.data.length rc, .int .i64 R.code, .int .i64 R.level, .bool R.more, .int .i64 R.next, .slice sa R.objs.length sc] := by cases cs7; simp_all
  have HB := hid hb
  have HRI : Hid (RpIs w R ra rc sa sc) := ⟨hrd, hro, hr1, hr2⟩
  clear e1 e2 e7 r1 r2 r7 hb hrd hro hr1 hr2
  obtain ⟨V, hV⟩ : ∃ V, R.small = V := ⟨_, rfl⟩
  obtain ⟨hbl, hbc, hbm⟩ := HB.out.capOf
  obtain ⟨nA, hnA⟩ : ∃ n, min 260 b.length = n := ⟨_, rfl⟩
  have HBY : Hid (∀ W, Calls Try.prog 7 #[.slice ba b.length bc, .int .i64 260] W fun r w' => r = .returned (.slice ba nA bc) ∧ W = w') := fun W => by rw [← hnA]; exact bytes_sh ba b.length bc 260 260 rfl (by decide) hbc W
  have HBS : Hid (Bs w (.slice ba nA bc) (b.take 260)) := by
    have h1 := (bs_take HB.out nA (by omega)).1
    rw [← hnA, show b.take (min 260 b.length) = b.take 260 by rw [List.take_eq_take_iff]; omega] at h1
    rw [← hnA]; exact h1
  clear hbl hbc hbm hnA
  have HM : Hid (∀ W, Below w.heap.size w W → Calls Try.prog 8 #[.agg #[.int .i64 R.fn, .int .i64 R.exc, .slice ra R.data.length rc, .int .i64 R.code, .int .i64 R.level, .bool R.more, .int .i64 R.next, .slice sa R.objs.length sc]] W fun r w' => r = .returned (.bool V) ∧ Below W.heap.size W w') := fun W hW => mreply_any _ _ _ _ _ _ _ _ R.data R.objs W (HRI.out.keep hW).d (HRI.out.keep hW).o V hV
  have HMK : Hid (∀ W, Calls Try.prog 11 #[.int .i64 k, .int .i64 a, .int .i64 b'] W fun r w' => r = .returned (.agg #[.int .i64 (mkRq k a b').fn, .int .i64 (mkRq k a b').addr, .int .i64 (mkRq k a b').qty, .int .i64 (mkRq k a b').code, .int .i64 (mkRq k a b').obj]) ∧ Below W.heap.size W w') := fun W => make_any k a b' hk ha hb' W
  have HMU : Hid (∀ W, Calls Try.prog 10 #[.int .i64 unit, .int .i64 247] W fun r w' => r = .returned (.int .i64 (unit % 247)) ∧ W = w') := fun W => mod_any unit 247 (by decide) (by decide) hu W
  generalize mkRq k a b' = Q at *
  have kB : Below w.heap.size w (((w.alloc (.cells #[.int .i64 q0, .int .i64 q1, .int .i64 q2, .int .i64 q3, .int .i64 q4] 23)).alloc (.cells #[.slice ba nA bc, .int .i64 f1, .int .i64 f2, .int .i64 fl] 26)).alloc (.cells #[.int .i64 R.fn, .int .i64 R.exc, .slice ra R.data.length rc, .int .i64 R.code, .int .i64 R.level, .bool R.more, .int .i64 R.next, .slice sa R.objs.length sc] 29)) := bta (bta (bal' w _) (Nat.le_refl _) _) (Nat.le_refl _) _
  have gQ := hid (show (((w.alloc (.cells #[.int .i64 q0, .int .i64 q1, .int .i64 q2, .int .i64 q3, .int .i64 q4] 23)).alloc (.cells #[.slice ba nA bc, .int .i64 f1, .int .i64 f2, .int .i64 fl] 26)).alloc (.cells #[.int .i64 R.fn, .int .i64 R.exc, .slice ra R.data.length rc, .int .i64 R.code, .int .i64 R.level, .bool R.more, .int .i64 R.next, .slice sa R.objs.length sc] 29)).heap[w.heap.size]? = some (.cells #[.int .i64 q0, .int .i64 q1, .int .i64 q2, .int .i64 q3, .int .i64 q4] 23) from hpKeep (hpKeep (hpNew w _) (bal' _ _)) (bal' _ _))
  have gF := hid (show (((w.alloc (.cells #[.int .i64 q0, .int .i64 q1, .int .i64 q2, .int .i64 q3, .int .i64 q4] 23)).alloc (.cells #[.slice ba nA bc, .int .i64 f1, .int .i64 f2, .int .i64 fl] 26)).alloc (.cells #[.int .i64 R.fn, .int .i64 R.exc, .slice ra R.data.length rc, .int .i64 R.code, .int .i64 R.level, .bool R.more, .int .i64 R.next, .slice sa R.objs.length sc] 29)).heap[w.heap.size + 1]? = some (.cells #[.slice ba nA bc, .int .i64 f1, .int .i64 f2, .int .i64 fl] 26) from hpKeep (by have := hpNew (w.alloc (.cells #[.int .i64 q0, .int .i64 q1, .int .i64 q2, .int .i64 q3, .int .i64 q4] 23)) (.cells #[.slice ba nA bc, .int .i64 f1, .int .i64 f2, .int .i64 fl] 26); simpa using this) (bal' _ _))
  have gR := hid (show (((w.alloc (.cells #[.int .i64 q0, .int .i64 q1, .int .i64 q2, .int .i64 q3, .int .i64 q4] 23)).alloc (.cells #[.slice ba nA bc, .int .i64 f1, .int .i64 f2, .int .i64 fl] 26)).alloc (.cells #[.int .i64 R.fn, .int .i64 R.exc, .slice ra R.data.length rc, .int .i64 R.code, .int .i64 R.level, .bool R.more, .int .i64 R.next, .slice sa R.objs.length sc] 29)).heap[w.heap.size + 2]? = some (.cells #[.int .i64 R.fn, .int .i64 R.exc, .slice ra R.data.length rc, .int .i64 R.code, .int .i64 R.level, .bool R.more, .int .i64 R.next, .slice sa R.objs.length sc] 29) by have := hpNew ((w.alloc (.cells #[.int .i64 q0, .int .i64 q1, .int .i64 q2, .int .i64 q3, .int .i64 q4] 23)).alloc (.cells #[.slice ba nA bc, .int .i64 f1, .int .i64 f2, .int .i64 fl] 26)) (.cells #[.int .i64 R.fn, .int .i64 R.exc, .slice ra R.data.length rc, .int .i64 R.code, .int .i64 R.level, .bool R.more, .int .i64 R.next, .slice sa R.objs.length sc] 29); simpa using this)
  have hub := bounds_i64 hu
  clear hV hk ha hb' hu
  go_enter Try.func3, Try.ntmps3
  go_wp2_with fail
  refine (HBY.out _).mono ?_
  rintro r w1 ⟨rfl, rfl⟩
  go_wp2_with fail
  refine (HM.out _ kB).mono ?_
  rintro r w2 ⟨rfl, hb2⟩
  have hbw2 := bt kB hb2 (Nat.le_refl _)
  have gQ2 := hpKeep gQ.out hb2
  have gF2 := hpKeep gF.out hb2
  have gR2 := hpKeep gR.out hb2
  clear hb2 kB
  cases V with
  | false =>
    go_wp2_with (go_at_call 9; (with_reducible refine (lkawake_any _).mono ?_); rintro r w3 ⟨rfl, hb3⟩)
    go_ret
    exact ⟨rfl, bt hbw2 hb3 (Nat.le_refl _)⟩
  | true =>
    have hlt : w.heap.size + 2 < w2.heap.size := hpLt gR2
    have k0 : w2.frozen? ⟨w.heap.size, 0, none⟩ = false := hpFree gQ2 0
    go_upto_if 30 with (fail)
    go_cut [0] from 31 to 37 (fun s0 wc => LJMid w f1 f2 fl ba nA bc R ra rc sa sc s0 wc)
    case first =>
      cases raw with
      | true =>
        go_wp2
        go_meet
        case rel => exact ⟨_, _, _, _, _, _, rfl, hub, gQ2, gF2, gR2, hbw2⟩
      | false =>
        go_wp2_with fail
        refine (HMU.out _).mono ?_
        rintro r w3 ⟨rfl, rfl⟩
        have hm1 := Int.emod_nonneg unit (show (247 : Int) ≠ 0 by decide)
        have hm2 := Int.emod_lt_of_pos unit (show (0 : Int) < 247 by decide)
        generalize unit % 247 = m at *
        go_wp2_with fail
        refine (HMK.out _).mono ?_
        rintro r w3 ⟨rfl, hb3⟩
        have gQ3 := hpKeep gQ2 hb3
        have gF3 := hpKeep gF2 hb3
        have gR3 := hpKeep gR2 hb3
        have hbw3 := bt hbw2 hb3 (Nat.le_refl _)
        go_wp2_with (refine wpList_storeW rfl 23 (.tmp 10) (.tmp 37) rfl w.heap.size 0 _ _ (#[.int .i64 Q.fn, .int .i64 Q.addr, .int .i64 Q.qty, .int .i64 Q.code, .int .i64 Q.obj]) rfl rfl gQ3 (by simp) (by kernel_rfl) (by rfl) ?_; intro w4 g4 hk4 hz4)
        go_meet
        case rel => exact ⟨_, _, _, _, _, _, rfl, by omega, g4, hpKeeps gF3 hk4 (by omega), hpKeeps gR3 hk4 (by omega), hbw3.trans (hk4.below hbw3.size (fun k hk e => by omega))⟩
    case rest =>
      obtain ⟨u, a, b0, c, d, e, rfl, hub', gQc, gFc, gRc, hbwc⟩ := hcut
      have HRc := hid (HRI.out.keep hbwc)
      have HBc := hid (HBS.out.keep hbwc)
      clear gQ2 gF2 gR2 hbw2 hlt k0 gQ gF gR HMK HMU HM HRI HBS HB HBY hub
      obtain ⟨e0, e1, e2, e3, e4, e5, e6, e7⟩ : wc.cell? ⟨(w.heap.size + 2), 0, none⟩ = some (.int .i64 R.fn) ∧ wc.cell? ⟨(w.heap.size + 2), 1, none⟩ = some (.int .i64 R.exc) ∧ wc.cell? ⟨(w.heap.size + 2), 2, none⟩ = some (.slice ra R.data.length rc) ∧ wc.cell? ⟨(w.heap.size + 2), 3, none⟩ = some (.int .i64 R.code) ∧ wc.cell? ⟨(w.heap.size + 2), 4, none⟩ = some (.int .i64 R.level) ∧ wc.cell? ⟨(w.heap.size + 2), 5, none⟩ = some (.bool R.more) ∧ wc.cell? ⟨(w.heap.size + 2), 6, none⟩ = some (.int .i64 R.next) ∧ wc.cell? ⟨(w.heap.size + 2), 7, none⟩ = some (.slice sa R.objs.length sc) := ⟨hpCell gRc 0, hpCell gRc 1, hpCell gRc 2, hpCell gRc 3, hpCell gRc 4, hpCell gRc 5, hpCell gRc 6, hpCell gRc 7⟩
      go_wp2_with fail
      refine (renc_row R ra sa rc sc _ HRc.out.d HRc.out.o).mono ?_
      rintro r w5 ⟨xa, xn, xc, z, xl, rfl, hxB, hxf, hb5⟩
      have gQ5 := hpKeep gQc hb5
      have gF5 := hpKeep gFc hb5
      have hbw5 := bt hbwc hb5 (Nat.le_refl _)
      have HB5 := hid (HBc.out.keep hb5)
      have HX5 := hid hxB
      have hlt5 : w.heap.size + 1 < w5.heap.size := hpLt gF5
      clear e0 e1 e2 e3 e4 e5 e6 e7 hxf hxB gRc gQc gFc HRc HBc hb5 hbwc
      have k5 := hpFree gF5 0
      have m5 := hpCell gF5 0
      go_upto_region 7 with (fail)
      go_cut [47] from 43 to 47 (fun s47 wc => ∃ X : Bool, s47 = .bool X ∧ wc = w5)
      case first =>
        cases right with
        | false =>
          go_wp2
          go_meet
          case rel => exact ⟨_, rfl, rfl⟩
        | true =>
          go_wp2
          go_meet
          case rel => exact ⟨_, rfl, rfl⟩
      obtain ⟨X, rfl, rfl⟩ := hcut
      go_upto_if 47 with (fail)
      go_cut [0] from 48 to 57 (fun s0 wc => LJAt w f1 f2 fl s0 wc)
      case first =>
        cases X with
        | false =>
          go_wp2
          go_meet
          case rel => exact ⟨u, _, _, _, _, _, _, _, _, _, rfl, gQ5, gF5, HB5.out, hbw5⟩
        | true =>
          go_wp2_with fail
          refine (mod_any _ 247 (by decide) (by decide) (RowKit.wrap64_wf _) _).mono ?_
          rintro r w6 ⟨rfl, rfl⟩
          have hm1 := Int.emod_nonneg (wrap64 (u - 1)) (show (247 : Int) ≠ 0 by decide)
          have hm2 := Int.emod_lt_of_pos (wrap64 (u - 1)) (show (0 : Int) < 247 by decide)
          generalize wrap64 (u - 1) % 247 = m at *
          go_wp2_with fail
          refine (rbuild_row _ _ _ _ _ _ HX5.out).mono ?_
          rintro r w6 ⟨ga, gn, gc, gz, gl, rfl, hgB, hgf, hb6⟩
          have gQ6 := hpKeep gQ5 hb6
          have gF6 := hpKeep gF5 hb6
          have hbw6 := bt hbw5 hb6 (Nat.le_refl _)
          have k6 := hpFree gF6 0
          have m6 := hpCell gF6 0
          have HG6 := hid hgB
          have HGF := hid hgf
          clear k5 m5 hgB hgf
          go_wp2_with fail
          go_meet
          case rel => exact LJAt.set gQ6 gF6 HG6.out (fun ad h => by have := HGF.out ad h; omega) hbw6
      case rest =>
        obtain ⟨u2, a2, b2, c2, d2, z2, ya, yn, yc, yl, rfl, gQw, gFw, hYB, hbw⟩ := hcut
        have HYB := hid hYB
        have gq : ∀ W, Below wc.heap.size wc W → W.heap[w.heap.size]? = some (.cells #[.int .i64 a2, .int .i64 b2, .int .i64 c2, .int .i64 d2, .int .i64 z2] 23) := fun W h => hpKeep gQw h
        have gf : ∀ W, Below wc.heap.size wc W → W.heap[w.heap.size + 1]? = some (.cells #[.slice ya yn yc, .int .i64 f1, .int .i64 f2, .int .i64 fl] 26) := fun W h => hpKeep gFw h
        have e0 : ∀ W, Below wc.heap.size wc W → W.cell? ⟨w.heap.size, 0, none⟩ = some (.int .i64 a2) := fun W h => hpCell (gq W h) 0
        have e1 : ∀ W, Below wc.heap.size wc W → W.cell? ⟨w.heap.size, 1, none⟩ = some (.int .i64 b2) := fun W h => hpCell (gq W h) 1
        have e2 : ∀ W, Below wc.heap.size wc W → W.cell? ⟨w.heap.size, 2, none⟩ = some (.int .i64 c2) := fun W h => hpCell (gq W h) 2
        have e3 : ∀ W, Below wc.heap.size wc W → W.cell? ⟨w.heap.size, 3, none⟩ = some (.int .i64 d2) := fun W h => hpCell (gq W h) 3
        have e4 : ∀ W, Below wc.heap.size wc W → W.cell? ⟨w.heap.size, 4, none⟩ = some (.int .i64 z2) := fun W h => hpCell (gq W h) 4
        have h0 : ∀ W, Below wc.heap.size wc W → W.cell? ⟨w.heap.size + 1, 0, none⟩ = some (.slice ya yn yc) := fun W h => hpCell (gf W h) 0
        have h1 : ∀ W, Below wc.heap.size wc W → W.cell? ⟨w.heap.size + 1, 1, none⟩ = some (.int .i64 f1) := fun W h => hpCell (gf W h) 1
        have h2 : ∀ W, Below wc.heap.size wc W → W.cell? ⟨w.heap.size + 1, 2, none⟩ = some (.int .i64 f2) := fun W h => hpCell (gf W h) 2
        have h3 : ∀ W, Below wc.heap.size wc W → W.cell? ⟨w.heap.size + 1, 3, none⟩ = some (.int .i64 fl) := fun W h => hpCell (gf W h) 3
        obtain ⟨O, hO⟩ : ∃ O, judgeB crcChk u2 ⟨a2, b2, c2, d2, z2⟩ fl yl = O := ⟨_, rfl⟩
        have HP : Hid (∀ W, Below wc.heap.size wc W → Calls Try.prog 15 #[.int .i64 u2, .agg #[.int .i64 a2, .int .i64 b2, .int .i64 c2, .int .i64 d2, .int .i64 z2], .agg #[.slice ya yn yc, .int .i64 f1, .int .i64 f2, .int .i64 fl]] W (OcOne W O)) := fun W hW => hO ▸ pjudge_any u2 a2 b2 c2 d2 z2 ya yn yc f1 f2 fl yl W (HYB.out.keep hW)
        have HR : Hid (∀ W, Below wc.heap.size wc W → Calls Try.prog 16 #[.int .i64 u2, .agg #[.int .i64 a2, .int .i64 b2, .int .i64 c2, .int .i64 d2, .int .i64 z2], .agg #[.slice ya yn yc, .int .i64 f1, .int .i64 f2, .int .i64 fl]] W (OcOne W O)) := fun W hW => hO ▸ rchkB_eq ▸ rjudge_any u2 a2 b2 c2 d2 z2 ya yn yc f1 f2 fl yl W (HYB.out.keep hW)
        have kD : Below wc.heap.size wc wc.drew := (Below.refl _ _).drew
        clear hO gq gf gQw gFw hYB gQ5 gF5 HB5 HX5 k5 m5 hbw5 hlt5
        go_wp2_with fail
        go_region_held3 (fun W => Below wc.heap.size wc W) ((with_reducible (first | exact kD | exact bt (by assumption) (by assumption) (Nat.le_refl _)))) (first | (go_at_call 9; (with_reducible refine (lkawake_any _).mono ?_); rintro r w6 ⟨rfl, hb6⟩) | (go_at_call 15; (with_reducible refine (HP.out _ (by assumption)).mono ?_); rintro r w7 ⟨pa, pc, qa, qc, rfl, hI7, hb7⟩; have HI7 := hid hI7; clear hI7) | (go_at_call 16; (with_reducible refine (HR.out _ (by assumption)).mono ?_); rintro r w8 ⟨ra8, rc8, sa8, sc8, rfl, hI8, hb8⟩; have HI8 := hid hI8; clear hI8) | (go_at_call 14; (with_reducible first | refine (same_row (HI7.out _ (Agree.refl _ _)) (HI8.out _ (Agree.of_below hb7))).mono ?_ | refine (same_row (HI7.out _ (Agree.of_below hb8)) (HI8.out _ (Agree.refl _ _))).mono ?_); rintro r w9 ⟨rfl, hb9⟩))
        all_goals
          go_wp2
          go_ret
          exact ⟨rfl, bt hbw (by assumption) (Nat.le_refl _)⟩

end Go.Proofs.Ytoaajdbjlaffgaa
