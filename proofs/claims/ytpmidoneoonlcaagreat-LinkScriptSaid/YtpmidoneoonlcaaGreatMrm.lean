/-
  Several texts of this claim in one file.
-/
import Derived.Test.YtpmidoneoonlcaaGreatMpk
import Derived.Test.YtpmidoneoonlcaaGreatMrk
import Derived.Test.YtpmidoneoonlcaaGreatMrj
import Derived.Test.YtpmidoneoonlcaaGreatMrf
import Derived.Test.YtpmidoneoonlcaaGreatMjdp
/-
The reference's link against the state by value: the relation, Begin, Ended, and the calls that are refused.
-/
namespace Go.Proofs.YtpmidoneoonlcaaGreat
open Go.RowKit

/-- The outcome of the reference reads so. -/
structure ROutIs (w : World) (s : Rk) : Prop where
  rp : RpIs w s.o.reply s.da s.dc s.oa s.oc
  dn : s.dn = s.o.reply.data.length
  on : s.on = s.o.reply.objs.length

/-- The reference in block g is in this state; all that it holds lies in blocks of R. -/
structure RM (g k : Nat) (R : Nat → Prop) (x : Tx) (s : Rk) (W : World) : Prop where
  at_ : RkAt W g s
  ok : x.ok k
  b : s.b = x.b
  p : s.p = x.p
  re : s.re = x.re
  ti : s.ti = x.ti
  de : s.de = x.de
  ph : s.ph = x.ph
  un : s.un = x.un
  q : s.q = x.q
  now : s.now = x.now
  cnt : s.cnt = x.cnt
  bad : s.bad = x.bad
  late : s.late = x.late
  en : x.hears → s.en = x.en ∧ s.til = x.til ∧ (s.la = x.last ∨ (s.la = -1 ∧ x.last = 0))
  pin : ∀ j, R j → j < W.heap.size
  pg : R g
  row : x.ph = 2 ∨ x.ph = 3 → W.ownsRow (g + 1) 37 3 (.slice s.ea s.eln s.ec) s.eln (evV x.ev) ∧ s.eln = x.ev.length ∧ ∀ j, (Value.slice s.ea s.eln s.ec).ownBlock = some j → R j
  evs : x.ph = 3 → EvOk (charT x.b) (t35T x.b) x.ev
  out0 : x.live → s.o = Oc.zero ∧ s.da = none ∧ s.dn = 0 ∧ s.dc = 0 ∧ s.oa = none ∧ s.on = 0 ∧ s.oc = 0
  out : x.ph = 5 → s.o = x.out ∧ ∀ W', W.heap.size ≤ W'.heap.size → (∀ j, R j → W'.heap[j]? = W.heap[j]?) → ROutIs W' s

theorem RM.keeps {g k : Nat} {R Q : Nat → Prop} {x : Tx} {s : Rk} {W W' : World} (h : RM g k R x s W) (hk : Keeps Q W W') (hd : ∀ j, R j → ¬ Q j) : RM g k R x s W' :=
  { h with
    at_ := h.at_.keeps hk (hd _ h.pg)
    pin := fun j hj => Nat.lt_of_lt_of_le (h.pin j hj) hk.size
    row := fun hp => ⟨own_keeps (h.row hp).1 hk (fun j hj => hd j ((h.row hp).2.2 j hj)), (h.row hp).2⟩
    out := fun hp => ⟨(h.out hp).1, fun V hV hj => (h.out hp).2 V (Nat.le_trans hk.size hV) (fun j pj => (hj j pj).trans (hk.block j (h.pin j pj) (hd j pj)))⟩ }
theorem RM.wider {g k : Nat} {R Q : Nat → Prop} {x : Tx} {s : Rk} {W : World} (h : RM g k R x s W) (hq : ∀ j, R j → Q j) (hl : ∀ j, Q j → j < W.heap.size) : RM g k Q x s W :=
  { h with
    pin := hl
    pg := hq _ h.pg
    row := fun hp => ⟨(h.row hp).1, (h.row hp).2.1, fun j hj => hq j ((h.row hp).2.2 j hj)⟩
    out := fun hp => ⟨(h.out hp).1, fun V hV hj => (h.out hp).2 V hV (fun j pj => hj j (hq j pj))⟩ }
theorem RM.later {g k : Nat} {R : Nat → Prop} {x : Tx} {s : Rk} {W : World} (h : RM g k R x s W) : RM g (k + 1) R x s W := { h with ok := h.ok.mono }

/-- What a call leaves. -/
def RmStep (g k : Nat) (R : Nat → Prop) (y : Tx) (e : Int) (W : World) (r : Ending) (w' : World) : Prop :=
  ∃ s', r = .returned (.int .i64 e) ∧ RM g k (Grow R W w') y s' w' ∧ Keeps R W w'
theorem RM.refused {g k : Nat} {R : Nat → Prop} {x : Tx} {s : Rk} {W w' : World} {e : Int} {r : Ending} (h : RM g k R x s W) (hr : RRefused W e r w') : RmStep g (k + 1) R x e W r w' := by
  obtain ⟨rfl, hb⟩ := hr
  have h1 : RM g k R x s w' := h.keeps (Q := fun _ => False) (Keeps.of_below hb) (fun _ _ f => f)
  exact ⟨s, rfl, (h1.wider (fun j => .inl) (fun j hj => hj.lt h.pin hb.size)).later, Keeps.of_below hb⟩

theorem rm_begin {g k : Nat} {R : Nat → Prop} {x : Tx} {s : Rk} {W : World} (h : RM g k R x s W) (hp : x.ph = 0 ∨ x.ph = 5) (hk : k ≤ 40) (unit qf qa qq qc qo tick : Int) (h1 : 1 ≤ unit) (h2 : unit ≤ 247) (h3 : x.now ≤ tick) (h4 : tick ≤ x.now + 1000) (hq : Rq.ok ⟨qf, qa, qq, qc, qo⟩ = true) :
    Calls Tryz.prog 11 #[.pointer (some ⟨g, 0, none⟩), .int .i64 unit, .agg #[.int .i64 qf, .int .i64 qa, .int .i64 qq, .int .i64 qc, .int .i64 qo], .int .i64 tick] W (RmStep g (k + 1) R (x.begun unit ⟨qf, qa, qq, qc, qo⟩ tick) 0 W) := by
  have p1 := h.ph
  have p2 := h.now
  have n0 := h.ok.now0
  have n1 := h.ok.now1
  have tm := tb_max hk
  refine (rkbegin_ok g s unit qf qa qq qc qo tick W h.at_ (by omega) (by omega) h1 h2 (by omega) (by omega) hq).mono ?_
  rintro r w' ⟨rfl, hl, hkk⟩
  refine ⟨s.begun unit ⟨qf, qa, qq, qc, qo⟩ tick, rfl, ?_, hkk.mono (fun j _ e => by have e' : j = g := e; rw [e']; exact h.pg)⟩
  exact
  { at_ := hl
    ok := h.ok.begun hq h1 h2 h3 h4
    b := h.b, p := h.p, re := h.re, ti := h.ti, de := h.de, ph := rfl, un := rfl, q := rfl, now := rfl, cnt := rfl, bad := rfl, late := rfl
    en := fun e => by rcases e with e | e | e <;> exact absurd e (by show ¬ (1 : Int) = _; decide)
    pin := fun j hj => hj.lt h.pin hkk.size
    pg := .inl h.pg
    row := fun e => by rcases e with e | e <;> exact absurd e (by show ¬ (1 : Int) = _; decide)
    evs := fun e => absurd e (by show ¬ (1 : Int) = 3; decide)
    out0 := fun _ => ⟨rfl, rfl, rfl, rfl, rfl, rfl, rfl⟩
    out := fun e => absurd e (by show ¬ (1 : Int) = 5; decide) }

theorem rm_ended {g k : Nat} {R : Nat → Prop} {x : Tx} {s : Rk} {W : World} (h : RM g k R x s W) (hp : x.ph = 1) (hk : k ≤ 40) (e : Int) (h3 : x.now ≤ e) (h4 : e ≤ x.now + 100000) :
    Calls Tryz.prog 13 #[.pointer (some ⟨g, 0, none⟩), .int .i64 e] W (RmStep g (k + 1) R (x.sent e) 0 W) := by
  have hlv : x.live := by unfold Tx.live; omega
  have hset : Okset s.b s.p := by rw [h.b, h.p]; exact h.ok.set
  have n0 := h.ok.now0
  have n1 := h.ok.now1
  have tm := tb_max hk
  have q1 := h.ok.ti0
  have q2 := h.ok.ti1
  have q3 := h.ok.cnt0
  have q4 := h.ok.cnt1
  have q5 := h.ok.re1
  have p1 := h.ph
  have p2 := h.now
  have p3 := h.ti
  have p4 := h.cnt
  refine (rkended_ok g s e W h.at_ (by omega) (by omega) (by omega) (by omega) hset (by omega) (by omega) (by omega) (by omega)).mono ?_
  rintro r w' ⟨rfl, hl, hkk⟩
  refine ⟨s.sent e, rfl, ?_, hkk.mono (fun j _ e => by have e' : j = g := e; rw [e']; exact h.pg)⟩
  exact
  { at_ := hl
    ok := h.ok.sent hp h3 h4
    b := h.b, p := h.p, re := h.re, ti := h.ti, de := h.de, ph := rfl, un := h.un, q := h.q, now := h.now, bad := h.bad, late := h.late
    cnt := by show s.cnt + 1 = x.cnt + 1; rw [h.cnt]
    en := fun _ => ⟨rfl, by show e + t35T s.b + s.ti + charT s.b = e + t35T x.b + x.ti + charT x.b; rw [h.b, h.ti], .inr ⟨rfl, rfl⟩⟩
    pin := fun j hj => hj.lt h.pin hkk.size
    pg := .inl h.pg
    row := fun _ => ⟨World.ownsRow_nil _ _ _ _, rfl, fun j hj => by cases hj⟩
    evs := fun e => absurd e (by show ¬ (2 : Int) = 3; decide)
    out0 := fun _ => h.out0 hlv
    out := fun e => absurd e (by show ¬ (2 : Int) = 5; decide) }

theorem rm_ended_no {g k : Nat} {R : Nat → Prop} {x : Tx} {s : Rk} {W : World} (h : RM g k R x s W) (hp : ¬ x.ph = 1) (e : Int) :
    Calls Tryz.prog 13 #[.pointer (some ⟨g, 0, none⟩), .int .i64 e] W (RmStep g (k + 1) R x 14 W) :=
  (rkended_pending g s e W h.at_ (by have := h.ph; omega)).mono fun _ _ hr => h.refused hr
theorem rm_ended_range {g k : Nat} {R : Nat → Prop} {x : Tx} {s : Rk} {W : World} (h : RM g k R x s W) (hp : x.ph = 1) (e : Int) (hr : ¬ (x.now ≤ e ∧ e ≤ 1152921504606846976)) :
    Calls Tryz.prog 13 #[.pointer (some ⟨g, 0, none⟩), .int .i64 e] W (RmStep g (k + 1) R x 3 W) :=
  (rkended_range g s e W h.at_ (by have := h.ph; omega) (by have := h.now; omega)).mono fun _ _ hr => h.refused hr
theorem rm_begin_no {g k : Nat} {R : Nat → Prop} {x : Tx} {s : Rk} {W : World} (h : RM g k R x s W) (hp : ¬ (x.ph = 0 ∨ x.ph = 5)) (unit qf qa qq qc qo tick : Int) :
    Calls Tryz.prog 11 #[.pointer (some ⟨g, 0, none⟩), .int .i64 unit, .agg #[.int .i64 qf, .int .i64 qa, .int .i64 qq, .int .i64 qc, .int .i64 qo], .int .i64 tick] W (RmStep g (k + 1) R x 14 W) :=
  (rkbegin_pending g s unit qf qa qq qc qo tick W h.at_ (by have := h.ph; omega) (by have := h.ph; omega)).mono fun _ _ hr => h.refused hr
theorem rm_begin_range {g k : Nat} {R : Nat → Prop} {x : Tx} {s : Rk} {W : World} (h : RM g k R x s W) (hp : x.ph = 0 ∨ x.ph = 5) (unit qf qa qq qc qo tick : Int) (hr : ¬ (1 ≤ unit ∧ unit ≤ 247 ∧ x.now ≤ tick ∧ tick ≤ 1152921504606846976)) :
    Calls Tryz.prog 11 #[.pointer (some ⟨g, 0, none⟩), .int .i64 unit, .agg #[.int .i64 qf, .int .i64 qa, .int .i64 qq, .int .i64 qc, .int .i64 qo], .int .i64 tick] W (RmStep g (k + 1) R x 3 W) :=
  (rkbegin_range g s unit qf qa qq qc qo tick W h.at_ (by have := h.ph; omega) (by have := h.now; have := h.ok.now0; omega) (by have := h.now; omega)).mono fun _ _ hr => h.refused hr
theorem rm_begin_form {g k : Nat} {R : Nat → Prop} {x : Tx} {s : Rk} {W : World} (h : RM g k R x s W) (hp : x.ph = 0 ∨ x.ph = 5) (unit qf qa qq qc qo tick : Int) (h1 : 1 ≤ unit) (h2 : unit ≤ 247) (h3 : x.now ≤ tick) (h4 : tick ≤ 1152921504606846976) (hq : Rq.ok ⟨qf, qa, qq, qc, qo⟩ = false) :
    Calls Tryz.prog 11 #[.pointer (some ⟨g, 0, none⟩), .int .i64 unit, .agg #[.int .i64 qf, .int .i64 qa, .int .i64 qq, .int .i64 qc, .int .i64 qo], .int .i64 tick] W (RmStep g (k + 1) R x 5 W) :=
  (rkbegin_form g s unit qf qa qq qc qo tick W h.at_ (by have := h.ph; omega) (by have := h.now; have := h.ok.now0; omega) h1 h2 (by have := h.now; omega) h4 hq).mono fun _ _ hr => h.refused hr

end Go.Proofs.YtpmidoneoonlcaaGreat

/-
The reference's link against the state by value: Char where nothing is heard.
-/
namespace Go.Proofs.YtpmidoneoonlcaaGreat
open Go.RowKit

theorem rm_char_no {g k : Nat} {R : Nat → Prop} {x : Tx} {s : Rk} {W : World} (h : RM g k R x s W) (hh : ¬ x.hears) (e : Ev) :
    Calls Tryz.prog 15 #[.pointer (some ⟨g, 0, none⟩), .agg #[.int .i64 e.t, .int .u8 (e.v.toNat : Int), .int .i64 e.fl]] W (RmStep g (k + 1) R x 14 W) :=
  (rkchar_pending g s e.t e.v e.fl W h.at_ (by have := h.ph; have := h.ok.ph0; have := h.ok.ph1; unfold Tx.hears at hh; omega)).mono fun _ _ hr => h.refused hr

/-- Char of a link that listens, where the character is not heard. -/
theorem rm_char_not {g k : Nat} {R : Nat → Prop} {x : Tx} {s : Rk} {W : World} (h : RM g k R x s W) (hh : x.hears) (e : Ev) (hn : ¬ (0 ≤ e.t ∧ e.t ≤ x.til ∧ x.last ≤ e.t ∧ (x.ph = 3 ∨ (x.ph = 2 ∧ x.en < e.t)))) :
    Calls Tryz.prog 15 #[.pointer (some ⟨g, 0, none⟩), .agg #[.int .i64 e.t, .int .u8 (e.v.toNat : Int), .int .i64 e.fl]] W (RmStep g (k + 1) R (x.chr e) (x.chrE e) W) := by
  obtain ⟨t, v, fl⟩ := e
  obtain ⟨e1, e2, e3⟩ := h.en hh
  have hn' : ¬ (0 ≤ t ∧ t ≤ x.til ∧ x.last ≤ t ∧ (x.ph = 3 ∨ (x.ph = 2 ∧ x.en < t))) := hn
  obtain ⟨b0, b1, b2, b3, b4⟩ := h.ok.hear hh
  have p1 := h.ph
  have hsh : s.ph = 2 ∨ s.ph = 3 ∨ s.ph = 4 := by unfold Tx.hears at hh; omega
  by_cases hr : 0 ≤ t ∧ t ≤ s.til
  · have hr' : 0 ≤ t ∧ t ≤ x.til := by rw [← e2]; exact hr
    by_cases ho : t < x.last
    · have hE : x.chrE ⟨t, v, fl⟩ = 7 := by unfold Tx.chrE; rw [if_pos hr', if_pos (by show t < x.last; exact ho)]
      have hX : x.chr ⟨t, v, fl⟩ = x := by unfold Tx.chr; rw [if_neg (fun e => by have e' : x.last ≤ t := e.2.2; omega)]
      rw [hE, hX]
      exact (rkchar_order g s t v fl W h.at_ hsh hr (by omega)).mono fun _ _ hr => h.refused hr
    · have hE : x.chrE ⟨t, v, fl⟩ = 0 := by unfold Tx.chrE; rw [if_pos hr', if_neg (by show ¬ t < x.last; exact ho)]
      have hc : 0 ≤ t ∧ t ≤ x.til ∧ x.last ≤ t := ⟨hr'.1, hr'.2, by omega⟩
      have hd : ¬ (x.ph = 3 ∨ (x.ph = 2 ∧ x.en < t)) := fun e => hn' ⟨hc.1, hc.2.1, hc.2.2, e⟩
      have hX : x.chr ⟨t, v, fl⟩ = x.noted ⟨t, v, fl⟩ := by unfold Tx.chr; rw [if_pos hc, if_neg hd]
      have hp : x.ph = 2 ∨ x.ph = 4 := by unfold Tx.hears at hh; omega
      rw [hE, hX]
      refine (rkchar_drop g s t v fl W h.at_ hr (by omega) (by omega)).mono ?_
      rintro r w' ⟨rfl, hl, hkk⟩
      refine ⟨{ s with la := t }, rfl, ?_, hkk.mono (fun j _ e => by have e' : j = g := e; rw [e']; exact h.pg)⟩
      exact
      { at_ := hl
        ok := h.ok.noted hp hr.1
        b := h.b, p := h.p, re := h.re, ti := h.ti, de := h.de, ph := h.ph, un := h.un, q := h.q, now := h.now, cnt := h.cnt, bad := h.bad, late := h.late
        en := fun _ => ⟨e1, e2, .inl rfl⟩
        pin := fun j hj => hj.lt h.pin hkk.size
        pg := .inl h.pg
        row := fun hp => by
          obtain ⟨r1, r2, r3⟩ := h.row hp
          exact ⟨own_keeps r1 hkk (fun j hj e => by have := (r1.lt j hj).1; have e' : j = g := e; omega), r2, fun j hj => .inl (r3 j hj)⟩
        evs := h.evs
        out0 := h.out0
        out := fun e => by have e' : x.ph = 5 := e; omega }
  · have hr' : ¬ (0 ≤ t ∧ t ≤ x.til) := by rw [← e2]; exact hr
    have hE : x.chrE ⟨t, v, fl⟩ = 3 := by unfold Tx.chrE; rw [if_neg hr']
    have hX : x.chr ⟨t, v, fl⟩ = x := by unfold Tx.chr; rw [if_neg (fun e => hr' ⟨e.1, e.2.1⟩)]
    rw [hE, hX]
    exact (rkchar_range g s t v fl W h.at_ hsh hr).mono fun _ _ hr => h.refused hr

end Go.Proofs.YtpmidoneoonlcaaGreat

/-
The reference's link against the state by value: Char and Silence in every phase.
-/
namespace Go.Proofs.YtpmidoneoonlcaaGreat
open Go.RowKit

theorem RM.evOk {g k : Nat} {R : Nat → Prop} {x : Tx} {s : Rk} {W : World} (h : RM g k R x s W) (hp : x.ph = 2 ∨ x.ph = 3) : EvOk (charT x.b) (t35T x.b) x.ev := by
  rcases hp with hp | hp
  · rw [h.ok.ev2 hp]
    exact EvOk.nil _ _
  · exact h.evs hp

theorem RM.heardK {g : Nat} {R : Nat → Prop} {s : Rk} {W w' : World} (hpg : R g) (hr : ∀ j, (Value.slice s.ea s.eln s.ec).ownBlock = some j → R j) (hk : Keeps (fun j => j = g ∨ (Value.slice s.ea s.eln s.ec).ownBlock = some j) W w') : Keeps R W w' :=
  hk.mono (fun j _ e => by
    rcases e with e | e
    · rw [e]; exact hpg
    · exact hr j e)

theorem rm_heard {g k : Nat} {R : Nat → Prop} {x : Tx} {s : Rk} {W w' : World} {r : Ending} (h : RM g k R x s W) (hp : x.ph = 2 ∨ x.ph = 3) (hk : k ≤ 40) {e : Ev} (h0 : 0 ≤ e.t) (h1 : e.t ≤ x.til) (hns : x.splits e = false)
    (hh : RkHeard W g s { s with la := e.t, ph := 3, til := e.t + t35T s.b + charT s.b } (x.ev ++ [e]) r w') : RmStep g (k + 1) R (x.heard e) 0 W r w' := by
  obtain ⟨a, c, rfl, hl, ho, hn, hkk⟩ := hh
  obtain ⟨r1, r2, r3⟩ := h.row hp
  have hhe : x.hears := hp.elim .inl (fun h => .inr (.inl h))
  obtain ⟨e1, e2, e3⟩ := h.en hhe
  obtain ⟨b0, b1, b2, b3, b4⟩ := h.ok.hear hhe
  have tm := tb_max hk
  have hkR := RM.heardK h.pg r3 hkk
  refine ⟨{ s with la := e.t, ph := 3, til := e.t + t35T s.b + charT s.b, ea := a, eln := s.eln + 1, ec := c }, rfl, ?_, hkR⟩
  exact
  { at_ := hl
    ok := h.ok.heard hp h0 h1
    b := h.b, p := h.p, re := h.re, ti := h.ti, de := h.de, ph := rfl, un := h.un, q := h.q, now := h.now, cnt := h.cnt, bad := h.bad, late := h.late
    en := fun _ => ⟨e1, by show e.t + t35T s.b + charT s.b = e.t + t35T x.b + charT x.b; rw [h.b], .inl rfl⟩
    pin := fun j hj => hj.lt h.pin hkk.size
    pg := .inl h.pg
    row := fun _ => ⟨ho, by show s.eln + 1 = (x.ev ++ [e]).length; rw [r2]; simp, fun j hj => by
      rcases hn with hn | ⟨i, hi, hj2⟩
      · exact .inl (r3 j (by rw [← hn]; exact hj))
      · have hij : i = j := by
          have h2 : some i = some j := hi.symm.trans hj
          exact Option.some.inj h2
        exact .inr ⟨by omega, (ho.lt j hj).2⟩⟩
    evs := fun _ => (h.evOk hp).snoc h0 (by omega) hns
    out0 := fun _ => h.out0 hhe.live
    out := fun e => absurd e (by show ¬ (3 : Int) = 5; decide) }

theorem rm_cut {g k : Nat} {R : Nat → Prop} {x : Tx} {s : Rk} {W w' : World} {r : Ending} (h : RM g k R x s W) (hp : x.ph = 2 ∨ x.ph = 3) {e : Ev} (h0 : 0 ≤ e.t) (h1 : e.t ≤ x.til)
    (hh : RkHeard W g s { s with la := e.t, bad := true, ph := 4, til := if e.t < s.en + drainT s.b s.ti s.de then s.en + drainT s.b s.ti s.de else e.t } (x.ev ++ [e]) r w') : RmStep g (k + 1) R (x.cut e) 0 W r w' := by
  obtain ⟨a, c, rfl, hl, ho, hn, hkk⟩ := hh
  obtain ⟨r1, r2, r3⟩ := h.row hp
  have hhe : x.hears := hp.elim .inl (fun h => .inr (.inl h))
  obtain ⟨e1, e2, e3⟩ := h.en hhe
  have hkR := RM.heardK h.pg r3 hkk
  refine ⟨{ s with la := e.t, bad := true, ph := 4, til := if e.t < s.en + drainT s.b s.ti s.de then s.en + drainT s.b s.ti s.de else e.t, ea := a, eln := s.eln + 1, ec := c }, rfl, ?_, hkR⟩
  exact
  { at_ := hl
    ok := h.ok.cut hhe h0 h1
    b := h.b, p := h.p, re := h.re, ti := h.ti, de := h.de, ph := rfl, un := h.un, q := h.q, now := h.now, cnt := h.cnt, bad := rfl, late := h.late
    en := fun _ => ⟨e1, by show (if e.t < s.en + drainT s.b s.ti s.de then s.en + drainT s.b s.ti s.de else e.t) = x.drainTo e.t; rw [h.b, h.ti, h.de, e1]; rfl, .inl rfl⟩
    pin := fun j hj => hj.lt h.pin hkk.size
    pg := .inl h.pg
    row := fun e => by rcases e with e | e <;> exact absurd e (by show ¬ (4 : Int) = _; decide)
    evs := fun e => absurd e (by show ¬ (4 : Int) = 3; decide)
    out0 := fun _ => h.out0 hhe.live
    out := fun e => absurd e (by show ¬ (4 : Int) = 5; decide) }

/-- Char of a link that listens. -/
theorem rm_char {g k : Nat} {R : Nat → Prop} {x : Tx} {s : Rk} {W : World} (h : RM g k R x s W) (hh : x.hears) (hk : k ≤ 40) (e : Ev) :
    Calls Tryz.prog 15 #[.pointer (some ⟨g, 0, none⟩), .agg #[.int .i64 e.t, .int .u8 (e.v.toNat : Int), .int .i64 e.fl]] W (RmStep g (k + 1) R (x.chr e) (x.chrE e) W) := by
  by_cases hd : 0 ≤ e.t ∧ e.t ≤ x.til ∧ x.last ≤ e.t ∧ (x.ph = 3 ∨ (x.ph = 2 ∧ x.en < e.t))
  · obtain ⟨h0, h1, h2, h3⟩ := hd
    obtain ⟨e1, e2, e3⟩ := h.en hh
    obtain ⟨b0, b1, b2, b3, b4⟩ := h.ok.hear hh
    have tm := tb_max hk
    have p1 := h.ph
    have hE : x.chrE e = 0 := by unfold Tx.chrE; rw [if_pos ⟨h0, h1⟩, if_neg (by omega)]
    have hset : Hid (Okset s.b s.p) := by show Okset s.b s.p; rw [h.b, h.p]; exact h.ok.set
    have hp : x.ph = 2 ∨ x.ph = 3 := by omega
    obtain ⟨r1, r2, r3⟩ := h.row hp
    have hev := h.ok.evs
    have q1 := h.ok.ti0
    have q2 := h.ok.ti1
    have q3 := h.ok.de0
    have q4 := h.ok.de1
    have p2 := h.ti
    have p3 := h.de
    rw [hE]
    rcases hp with hp2 | hp3
    · have hev0 := h.ok.ev2 hp2
      have hns : x.splits e = false := by unfold Tx.splits; rw [hev0]; rfl
      have hX : x.chr e = x.heard e := by unfold Tx.chr; rw [if_pos ⟨h0, h1, h2⟩, if_pos h3, if_neg (by rw [hns]; decide)]
      rw [hX]
      rw [hev0] at r1 r2
      refine (rkchar_one g s e.t e.v e.fl W h.at_ ⟨h0, by omega⟩ (by omega) (by omega) (by omega) r2 r1 (by omega) hset).mono ?_
      intro r w' hr
      exact rm_heard h (.inl hp2) hk h0 h1 hns (by rw [hev0]; exact hr)
    · obtain ⟨v1, v2, v3⟩ := h.ok.ev3 hp3
      have hok := h.evs hp3
      have hspl : x.splits e = (decide (0 < x.ev.length) && decide (t35T s.b ≤ silE (charT s.b) (x.ev ++ [⟨e.t, e.v, e.fl⟩]) x.ev.length)) := by rw [h.b]; rfl
      cases hS : x.splits e with
      | false =>
        have hX : x.chr e = x.heard e := by unfold Tx.chr; rw [if_pos ⟨h0, h1, h2⟩, if_pos h3, if_neg (by rw [hS]; decide)]
        rw [hX]
        refine (rkchar_hear g s e.t e.v e.fl x.ev W h.at_ ⟨h0, by omega⟩ (by omega) (by omega) r1 v1 (by omega) hok.bd (by omega) hset (by rw [← hspl]; exact hS)).mono ?_
        intro r w' hr
        exact rm_heard h (.inr hp3) hk h0 h1 hS hr
      | true =>
        have hX : x.chr e = x.cut e := by unfold Tx.chr; rw [if_pos ⟨h0, h1, h2⟩, if_pos h3, if_pos hS]
        rw [hX]
        refine (rkchar_cut g s e.t e.v e.fl x.ev W h.at_ ⟨h0, by omega⟩ (by omega) (by omega) r1 v1 (by omega) hok.bd (by omega) hset (by rw [← hspl]; exact hS) (by omega) (by omega) (by omega) (by omega) (by omega) (by omega)).mono ?_
        intro r w' hr
        exact rm_cut h (.inr hp3) h0 h1 hr
  · exact rm_char_not h hh e hd

theorem RM.one {g k : Nat} {R : Nat → Prop} {x y : Tx} {s s' : Rk} {W w' : World} (h : RM g k R x s W) (hl : RkAt w' g s') (hk : Keeps (· = g) W w') (hok : y.ok (k + 1))
    (b : s'.b = y.b) (p : s'.p = y.p) (re : s'.re = y.re) (ti : s'.ti = y.ti) (de : s'.de = y.de) (ph : s'.ph = y.ph) (un : s'.un = y.un) (q : s'.q = y.q) (now : s'.now = y.now) (cnt : s'.cnt = y.cnt) (bad : s'.bad = y.bad) (late : s'.late = y.late)
    (en : y.hears → s'.en = y.en ∧ s'.til = y.til ∧ (s'.la = y.last ∨ (s'.la = -1 ∧ y.last = 0))) (hp : ¬ (y.ph = 2 ∨ y.ph = 3))
    (out0 : y.live → s'.o = Oc.zero ∧ s'.da = none ∧ s'.dn = 0 ∧ s'.dc = 0 ∧ s'.oa = none ∧ s'.on = 0 ∧ s'.oc = 0)
    (out : y.ph = 5 → s'.o = y.out ∧ ∀ V, Agree W.heap.size w' V → ROutIs V s') : RmStep g (k + 1) R y 0 W (.returned (.int .i64 0)) w' := by
  refine ⟨s', rfl, ?_, hk.mono (fun j _ e => by have e' : j = g := e; rw [e']; exact h.pg)⟩
  exact
  { at_ := hl, ok := hok, b := b, p := p, re := re, ti := ti, de := de, ph := ph, un := un, q := q, now := now, cnt := cnt, bad := bad, late := late, en := en
    pin := fun j hj => hj.lt h.pin hk.size
    pg := .inl h.pg
    row := fun e => absurd e hp
    evs := fun e => absurd (.inr e) hp
    out0 := out0
    out := fun e => ⟨(out e).1, fun V hV hj => (out e).2 V ⟨hV, fun j j1 j2 => hj j (.inr ⟨j1, j2⟩)⟩⟩ }

/-- Silence of a link that listens. -/
theorem rm_silence {g k : Nat} {R : Nat → Prop} {x : Tx} {s : Rk} {W : World} (h : RM g k R x s W) (hh : x.hears) (hk : k ≤ 40) :
    Calls Tryz.prog 17 #[.pointer (some ⟨g, 0, none⟩)] W (RmStep g (k + 1) R x.sil 0 W) := by
  obtain ⟨e1, e2, e3⟩ := h.en hh
  obtain ⟨b0, b1, b2, b3, b4⟩ := h.ok.hear hh
  have tm := tb_max hk
  have p1 := h.ph
  have q1 := h.ok.ti0
  have q2 := h.ok.ti1
  have q3 := h.ok.de0
  have q4 := h.ok.de1
  have q5 := h.ok.re0
  have q6 := h.ok.re1
  have q7 := h.ok.cnt1
  have p2 := h.ti
  have p3 := h.de
  have p4 := h.re
  have p5 := h.cnt
  have hset : Hid (Okset s.b s.p) := by show Okset s.b s.p; rw [h.b, h.p]; exact h.ok.set
  have hdr : ∀ t, (if t < s.en + drainT s.b s.ti s.de then s.en + drainT s.b s.ti s.de else t) = x.drainTo t := fun t => by rw [h.b, h.ti, h.de, e1]; rfl
  obtain ⟨z1, z2, z3, z4, z5, z6, z7⟩ := h.out0 hh.live
  rcases hh with hp | hp | hp
  · have hX : x.sil = x.waited := by unfold Tx.sil; rw [if_pos hp]
    rw [hX]
    refine (rksil_wait g s W h.at_ (by omega) hset (by omega) (by omega) (by omega) (by omega) (by omega) (by omega)).mono ?_
    rintro r w' ⟨rfl, hl, hkk⟩
    exact h.one (y := x.waited) hl hkk (h.ok.waited (.inl hp)) h.b h.p h.re h.ti h.de rfl h.un h.q h.now h.cnt h.bad h.late (fun _ => ⟨e1, by show (if s.til < _ then _ else _) = x.drainTo x.til; rw [hdr, e2], e3⟩) (by show ¬ ((4 : Int) = 2 ∨ (4 : Int) = 3); decide) (fun _ => ⟨z1, z2, z3, z4, z5, z6, z7⟩) (fun e => absurd e (by show ¬ (4 : Int) = 5; decide))
  · obtain ⟨v1, v2, v3⟩ := h.ok.ev3 hp
    obtain ⟨r1, r2, r3⟩ := h.row (.inr hp)
    have hev := h.ok.evs
    have hok : EvOk (charT s.b) (t35T s.b) x.ev := by rw [h.b]; exact h.evs hp
    have hO : judgeB crcChk s.un s.q (if clearB (charT s.b) (t15T s.b) x.ev = true then 0 else 1) (x.ev.map (·.v)) = x.judged := by rw [h.b, h.un, h.q]; rfl
    by_cases hv : x.judged.verdict = 1 ∨ x.judged.verdict = 2
    · have hX : x.sil = x.good := by unfold Tx.sil; rw [if_neg (by omega), if_pos hp, if_pos hv]
      rw [hX]
      refine (rksil_good g s x.ev x.judged W h.at_ (by omega) r1 v1 (by omega) hok hset hO hv).mono ?_
      rintro r w' ⟨da, dc, oa, oc, rfl, hl, ho, hkk⟩
      exact h.one (y := x.good) hl hkk (h.ok.good (.inr (.inl hp))) h.b h.p h.re h.ti h.de rfl h.un h.q e2 h.cnt h.bad h.late (fun e => by rcases e with e | e | e <;> exact absurd e (by show ¬ (5 : Int) = _; decide)) (by show ¬ ((5 : Int) = 2 ∨ (5 : Int) = 3); decide) (fun e => absurd e.2 (by show ¬ (5 : Int) ≤ 4; decide)) (fun _ => ⟨rfl, fun V hV => ⟨ho V hV, rfl, rfl⟩⟩)
    · have hX : x.sil = x.wrong := by unfold Tx.sil; rw [if_neg (by omega), if_pos hp, if_neg hv]
      rw [hX]
      refine (rksil_wrong g s x.ev x.judged W h.at_ (by omega) r1 v1 (by omega) hok hset hO hv (by omega) (by omega) (by omega) (by omega) (by omega) (by omega)).mono ?_
      rintro r w' ⟨rfl, hl, hkk⟩
      exact h.one (y := x.wrong) hl hkk (h.ok.wrong (.inr (.inl hp))) h.b h.p h.re h.ti h.de rfl h.un h.q e2 h.cnt (by show (s.bad || _) = (x.bad || _); rw [h.bad]) (by show (s.late || _) = (x.late || _); rw [h.late]) (fun _ => ⟨e1, by show (if s.til < _ then _ else _) = x.drainTo x.til; rw [hdr, e2], e3⟩) (by show ¬ ((4 : Int) = 2 ∨ (4 : Int) = 3); decide) (fun _ => ⟨z1, z2, z3, z4, z5, z6, z7⟩) (fun e => absurd e (by show ¬ (4 : Int) = 5; decide))
  · by_cases hc : x.cnt ≤ x.re
    · have hX : x.sil = x.again := by unfold Tx.sil; rw [if_neg (by omega), if_neg (by omega), if_pos hc]
      rw [hX]
      refine (rksil_more g s W h.at_ (by omega) (by omega) (by omega) (by omega)).mono ?_
      rintro r w' ⟨rfl, hl, hkk⟩
      exact h.one (y := x.again) hl hkk (h.ok.again (.inr (.inr hp)) hc) h.b h.p h.re h.ti h.de rfl h.un h.q e2 h.cnt h.bad h.late (fun e => by rcases e with e | e | e <;> exact absurd e (by show ¬ (1 : Int) = _; decide)) (by show ¬ ((1 : Int) = 2 ∨ (1 : Int) = 3); decide) (fun _ => ⟨z1, z2, z3, z4, z5, z6, z7⟩) (fun e => absurd e (by show ¬ (1 : Int) = 5; decide))
    · have hX : x.sil = x.over := by unfold Tx.sil; rw [if_neg (by omega), if_neg (by omega), if_neg hc]
      rw [hX]
      refine (rksil_over g s W h.at_ (by omega) (by omega) (by omega) (by omega)).mono ?_
      rintro r w' ⟨rfl, hl, hkk⟩
      have zr : s.o.reply = Rp.zero := by rw [z1]; rfl
      exact h.one (y := x.over) hl hkk (h.ok.over (.inr (.inr hp))) h.b h.p h.re h.ti h.de rfl h.un h.q e2 h.cnt h.bad h.late (fun e => by rcases e with e | e | e <;> exact absurd e (by show ¬ (5 : Int) = _; decide)) (by show ¬ ((5 : Int) = 2 ∨ (5 : Int) = 3); decide) (fun e => absurd e.2 (by show ¬ (5 : Int) ≤ 4; decide))
        (fun _ => ⟨by show (⟨if s.bad = true then 4 else if s.late = true then 5 else 3, s.o.reply⟩ : Oc) = ⟨if x.bad = true then 4 else if x.late = true then 5 else 3, Rp.zero⟩; rw [h.bad, h.late, zr], fun V _ => ⟨by show RpIs V s.o.reply s.da s.dc s.oa s.oc; rw [zr, z2, z4, z5, z7]; exact RpIs.zero V, by show s.dn = s.o.reply.data.length; rw [z3, zr]; rfl, by show s.on = s.o.reply.objs.length; rw [z6, zr]; rfl⟩⟩)

theorem rm_silence_no {g k : Nat} {R : Nat → Prop} {x : Tx} {s : Rk} {W : World} (h : RM g k R x s W) (hh : ¬ x.hears) :
    Calls Tryz.prog 17 #[.pointer (some ⟨g, 0, none⟩)] W (RmStep g (k + 1) R x 14 W) :=
  (rksil_pending g s W h.at_ (by have := h.ph; have := h.ok.ph0; have := h.ok.ph1; unfold Tx.hears at hh; omega)).mono fun _ _ hr => h.refused hr

/-- A new link of the reference. -/
theorem RM.new {g : Nat} {b p re ti de : Int} {W W' : World} (hset : Okset b p) (h1 : 0 ≤ re) (h2 : re ≤ 5) (h3 : 1 ≤ ti) (h4 : ti ≤ 5000000) (h5 : 0 ≤ de) (h6 : de ≤ 5000000) (hl : RkAt W' g (Rk.new b p re ti de)) (hg : W.heap.size ≤ g) : RM g 0 (Grow (fun _ => False) W W') (Tx.new b p re ti de) (Rk.new b p re ti de) W' :=
  { at_ := hl
    ok := Tx.ok.new hset h1 h2 h3 h4 h5 h6
    b := rfl, p := rfl, re := rfl, ti := rfl, de := rfl, ph := rfl, un := rfl, q := rfl, now := rfl, cnt := rfl, bad := rfl, late := rfl
    en := fun e => by rcases e with e | e | e <;> exact absurd e (by show ¬ (0 : Int) = _; decide)
    pin := fun j hj => by rcases hj with hj | hj; exact hj.elim; exact hj.2
    pg := .inr ⟨hg, hl.lt⟩
    row := fun e => by rcases e with e | e <;> exact absurd e (by show ¬ (0 : Int) = _; decide)
    evs := fun e => absurd e (by show ¬ (0 : Int) = 3; decide)
    out0 := fun e => absurd e.1 (by show ¬ (1 : Int) ≤ 0; decide)
    out := fun e => absurd e (by show ¬ (0 : Int) = 5; decide) }

end Go.Proofs.YtpmidoneoonlcaaGreat

/-
Action of the link and of the reference in a state: the same answer.
-/
namespace Go.Proofs.YtpmidoneoonlcaaGreat
open Go.RowKit

def Tx.kind (x : Tx) : Int := if x.ph = 0 then 0 else if x.ph = 1 then 1 else if x.ph = 5 then 3 else 2
def Tx.when (x : Tx) : Int := if x.ph = 1 then x.now else if x.ph = 0 ∨ x.ph = 5 then 0 else x.til
def Tx.bytes (x : Tx) : List UInt8 := if x.ph = 1 then aduF (UInt8.ofNat x.un.toNat) x.q.pdu else []

/-- What Action answers. -/
def ActPost (w : World) (K T : Int) (F : List UInt8) (r : Ending) (w' : World) : Prop :=
  ∃ (a : Option Addr) (c : Nat), r = .returned (.agg #[.int .i64 K, .int .i64 T, .slice a F.length c]) ∧ Bs w' (.slice a F.length c) F ∧ Below w.heap.size w w'
theorem ActPost.none {w w' : World} {K T : Int} {r : Ending} (h : r = .returned (.agg #[.int .i64 K, .int .i64 T, .slice none 0 0])) (hb : Below w.heap.size w w') : ActPost w K T [] r w' := ⟨Option.none, 0, h, Bs.nil w', hb⟩

theorem Tx.actions (x : Tx) {k : Nat} (h : x.ok k) : (x.ph = 0 ∧ x.kind = 0 ∧ x.when = 0 ∧ x.bytes = []) ∨ (x.ph = 1 ∧ x.kind = 1 ∧ x.when = x.now ∧ x.bytes = aduF (UInt8.ofNat x.un.toNat) x.q.pdu) ∨ (x.hears ∧ x.kind = 2 ∧ x.when = x.til ∧ x.bytes = []) ∨ (x.ph = 5 ∧ x.kind = 3 ∧ x.when = 0 ∧ x.bytes = []) := by
  have h0 := h.ph0
  have h1 := h.ph1
  unfold Tx.kind Tx.when Tx.bytes Tx.hears
  by_cases e0 : x.ph = 0
  · left; simp [e0]
  · by_cases e1 : x.ph = 1
    · right; left; simp [e1]
    · by_cases e5 : x.ph = 5
      · right; right; right; simp [e5]
      · right; right; left
        rw [if_neg e0, if_neg e1, if_neg e5, if_neg e1, if_neg (by omega), if_neg e1]
        exact ⟨by omega, rfl, rfl, rfl⟩

theorem pk_action {g k : Nat} {P : Nat → Prop} {x : Tx} {s : Lk} {W : World} (h : PK g k P x s W) :
    Calls Tryz.prog 24 #[.pointer (some ⟨g, 0, none⟩)] W (ActPost W x.kind x.when x.bytes) := by
  have hph := h.ph
  rcases x.actions h.ok with ⟨e, e1, e2, e3⟩ | ⟨e, e1, e2, e3⟩ | ⟨e, e1, e2, e3⟩ | ⟨e, e1, e2, e3⟩
  · rw [e1, e2, e3]
    exact (action_none g s W h.at_ (by omega)).mono fun _ _ hr => ActPost.none hr.1 hr.2
  · rw [e1, e2, e3]
    have hlv : x.live := by unfold Tx.live; omega
    have hl := aduF_length (UInt8.ofNat x.un.toNat) x.q.pdu
    have hl2 := Rq.pdu_len x.q
    refine (action_send g s _ W h.at_ (by omega) (h.fr hlv) (by omega)).mono ?_
    rintro r w' ⟨a, c, rfl, hb, hbl⟩
    exact ⟨a, c, by rw [h.now], hb, hbl⟩
  · rw [e1, e2, e3]
    obtain ⟨n1, n2, n3⟩ := h.en e
    refine (action_listen g s W h.at_ (by unfold Tx.hears at e; unfold Lk.hears; omega)).mono ?_
    rintro r w' ⟨hr, hb⟩
    exact ActPost.none (by rw [hr, n2]) hb
  · rw [e1, e2, e3]
    exact (action_done g s W h.at_ (by omega)).mono fun _ _ hr => ActPost.none hr.1 hr.2

theorem rm_action {g k : Nat} {R : Nat → Prop} {x : Tx} {s : Rk} {W : World} (h : RM g k R x s W) :
    Calls Tryz.prog 49 #[.pointer (some ⟨g, 0, none⟩)] W (ActPost W x.kind x.when x.bytes) := by
  have hph := h.ph
  rcases x.actions h.ok with ⟨e, e1, e2, e3⟩ | ⟨e, e1, e2, e3⟩ | ⟨e, e1, e2, e3⟩ | ⟨e, e1, e2, e3⟩
  · rw [e1, e2, e3]
    exact (rkaction_none g s W h.at_ (by omega)).mono fun _ _ hr => ActPost.none hr.1 hr.2
  · rw [e1, e2, e3]
    have hlv : x.live := by unfold Tx.live; omega
    obtain ⟨r1, r2, r3⟩ := h.ok.req hlv
    refine (rkaction_send g s W h.at_ (by omega) (by rw [h.un]; exact r1) (by rw [h.un]; exact r2) (by rw [h.q]; exact r3) _ (by rw [h.un, h.q])).mono ?_
    rintro r w' ⟨a, c, rfl, hb, hbl⟩
    exact ⟨a, c, by rw [h.now], hb, hbl⟩
  · rw [e1, e2, e3]
    obtain ⟨n1, n2, n3⟩ := h.en e
    refine (rkaction_listen g s W h.at_ (by unfold Tx.hears at e; omega)).mono ?_
    rintro r w' ⟨hr, hb⟩
    exact ActPost.none (by rw [hr, n2]) hb
  · rw [e1, e2, e3]
    exact (rkaction_done g s W h.at_ (by omega)).mono fun _ _ hr => ActPost.none hr.1 hr.2

end Go.Proofs.YtpmidoneoonlcaaGreat

/-
Outcome, Attempts and Now of the link in a state.
-/
namespace Go.Proofs.YtpmidoneoonlcaaGreat
open Go.RowKit

theorem pk_now {g k : Nat} {P : Nat → Prop} {x : Tx} {s : Lk} {W : World} (h : PK g k P x s W) :
    Calls Tryz.prog 50 #[.pointer (some ⟨g, 0, none⟩)] W fun r w' => r = .returned (.int .i64 x.now) ∧ W = w' := by
  rw [← h.now]
  exact now_any g s W h.at_
theorem pk_attempts {g k : Nat} {P : Nat → Prop} {x : Tx} {s : Lk} {W : World} (h : PK g k P x s W) :
    Calls Tryz.prog 26 #[.pointer (some ⟨g, 0, none⟩)] W fun r w' => r = .returned (.int .i64 x.cnt) ∧ W = w' := by
  rw [← h.cnt]
  exact attempts_any g s W h.at_

/-- What Outcome shows. -/
def Tx.shown (x : Tx) : Oc := if x.ph = 5 then x.out else Oc.zero
def ShowPost (w : World) (o : Oc) (V : Bool) (r : Ending) (w' : World) : Prop := ∃ (da : Option Addr) (dc : Nat) (oa : Option Addr) (oc : Nat), r = .returned (.tuple #[.agg #[.int .i64 o.verdict, .int .i64 o.reply.fn, .int .i64 o.reply.exc, .slice da o.reply.data.length dc, .int .i64 o.reply.code, .int .i64 o.reply.level, .bool o.reply.more, .int .i64 o.reply.next, .slice oa o.reply.objs.length oc], .bool V]) ∧ (∀ W, Agree w.heap.size w' W → RpIs W o.reply da dc oa oc) ∧ Below w.heap.size w w'

theorem pk_outcome {g k : Nat} {P : Nat → Prop} {x : Tx} {s : Lk} {W : World} (h : PK g k P x s W) :
    Calls Tryz.prog 25 #[.pointer (some ⟨g, 0, none⟩)] W (ShowPost W x.shown (decide (x.ph = 5))) := by
  have hph := h.ph
  unfold Tx.shown
  by_cases e : x.ph = 5
  · rw [if_pos e, decide_eq_true e]
    obtain ⟨o1, o2⟩ := h.out e
    rw [← o1]
    exact outcome_done g s W h.at_ (by omega) (o2 W (Nat.le_refl _) (fun _ _ => rfl))
  · rw [if_neg e, decide_eq_false e]
    refine (outcome_not g s W h.at_ (by omega)).mono ?_
    rintro r w' ⟨rfl, hb⟩
    exact ⟨none, 0, none, 0, rfl, fun V _ => RpIs.zero V, hb⟩

end Go.Proofs.YtpmidoneoonlcaaGreat

/-
The law's comparison of a link and its reference answers yes in every state.
-/
namespace Go.Proofs.YtpmidoneoonlcaaGreat
open Go.RowKit

set_option maxRecDepth 100000 in
set_option maxHeartbeats 12800000 in
theorem lksame_any {gP gR k k' : Nat} {P R : Nat → Prop} {x : Tx} {sP : Lk} {sR : Rk} {W : World} (hp : PK gP k P x sP W) (hr : RM gR k' R x sR W) :
    Calls Tryz.prog 18 #[.pointer (some ⟨gP, 0, none⟩), .pointer (some ⟨gR, 0, none⟩)] W fun r w' => r = .returned (.bool true) ∧ Below W.heap.size W w' := by
  have HPK : Hid (∀ V, Below W.heap.size W V → PK gP k P x sP V) := fun V hV => hp.keeps (Q := fun _ => False) (Keeps.of_below hV) (fun _ _ f => f)
  have HRM : Hid (∀ V, Below W.heap.size W V → RM gR k' R x sR V) := fun V hV => hr.keeps (Q := fun _ => False) (Keeps.of_below hV) (fun _ _ f => f)
  have ss : Hid (∀ (W : World) (v : Value) (l : List UInt8), Bs W v l → (convert 45 9 v).run Tryz.prog W = .ok (.string ⟨l.toArray⟩) W) := fun W v l h => run_str Tryz.underlying45 Tryz.underlying5 h _ Tryz.underlying9
  obtain ⟨K, hK⟩ : ∃ K, x.kind = K := ⟨_, rfl⟩
  obtain ⟨T, hT⟩ : ∃ T, x.when = T := ⟨_, rfl⟩
  obtain ⟨F, hF⟩ : ∃ F, x.bytes = F := ⟨_, rfl⟩
  obtain ⟨D, hD⟩ : ∃ D, decide (x.ph = 5) = D := ⟨_, rfl⟩
  obtain ⟨O, hO⟩ : ∃ O, x.shown = O := ⟨_, rfl⟩
  obtain ⟨NW, hNW⟩ : ∃ NW, x.now = NW := ⟨_, rfl⟩
  obtain ⟨CT, hCT⟩ : ∃ CT, x.cnt = CT := ⟨_, rfl⟩
  have HA : Hid (∀ V, Below W.heap.size W V → Calls Tryz.prog 24 #[.pointer (some ⟨gP, 0, none⟩)] V (ActPost V K T F)) := fun V hV => by rw [← hK, ← hT, ← hF]; exact pk_action (HPK.out V hV)
  have HB : Hid (∀ V, Below W.heap.size W V → Calls Tryz.prog 49 #[.pointer (some ⟨gR, 0, none⟩)] V (ActPost V K T F)) := fun V hV => by rw [← hK, ← hT, ← hF]; exact rm_action (HRM.out V hV)
  have HO : Hid (∀ V, Below W.heap.size W V → Calls Tryz.prog 25 #[.pointer (some ⟨gP, 0, none⟩)] V (ShowPost V O D)) := fun V hV => by rw [← hO, ← hD]; exact pk_outcome (HPK.out V hV)
  have HT : Hid (∀ V, Below W.heap.size W V → Calls Tryz.prog 26 #[.pointer (some ⟨gP, 0, none⟩)] V fun r w' => r = .returned (.int .i64 CT) ∧ V = w') := fun V hV => by rw [← hCT]; exact pk_attempts (HPK.out V hV)
  have HN : Hid (∀ V, Below W.heap.size W V → Calls Tryz.prog 50 #[.pointer (some ⟨gP, 0, none⟩)] V fun r w' => r = .returned (.int .i64 NW) ∧ V = w') := fun V hV => by rw [← hNW]; exact pk_now (HPK.out V hV)
  have HPH : Hid ((sR.ph == 5) = D) := by
    show _ = _
    rw [hr.ph, ← hD]
    rfl
  have HNX := hid (And.intro hNW hCT)
  have HDO := hid (And.intro hD hO)
  have hW0 : Below W.heap.size W W := Below.refl _ _
  clear hp hr hK hT hF hD hO hNW hCT
  go_enter Tryz.func18, Tryz.ntmps18
  go_wp2_with fail
  refine (HA.out _ hW0).mono ?_
  rintro r w1 ⟨a1, c1, rfl, hb1, hw1⟩
  go_wp2_with fail
  refine (HB.out _ hw1).mono ?_
  rintro r w2 ⟨a2, c2, rfl, hb2, hw2⟩
  have hw12 := bt hw1 hw2 (Nat.le_refl _)
  go_upto_region 2 with (fail)
  obtain ⟨W3, hW3⟩ : ∃ V, (w2.alloc (.cells #[.int .i64 K, .int .i64 T, .slice a1 F.length c1] 67)).alloc (.cells #[.int .i64 K, .int .i64 T, .slice a2 F.length c2] 67) = V := ⟨_, rfl⟩
  rw [hW3]
  have HB3 : Hid (Below w2.heap.size w2 W3 ∧ W3.heap[w2.heap.size]? = some (.cells #[.int .i64 K, .int .i64 T, .slice a1 F.length c1] 67) ∧ W3.heap[w2.heap.size + 1]? = some (.cells #[.int .i64 K, .int .i64 T, .slice a2 F.length c2] 67) ∧ Bs W3 (.slice a1 F.length c1) F ∧ Bs W3 (.slice a2 F.length c2) F) := by
    rw [← hW3]
    exact ⟨bta (bal' w2 _) (Nat.le_refl _) _, hpKeep (hpNew w2 _) (bal' _ _), by have := hpNew (w2.alloc (.cells #[.int .i64 K, .int .i64 T, .slice a1 F.length c1] 67)) (.cells #[.int .i64 K, .int .i64 T, .slice a2 F.length c2] 67); simpa using this, ((hb1.keep hw2).keep (bal' _ _)).keep (bal' _ _), (hb2.keep (bal' _ _)).keep (bal' _ _)⟩
  have hw3 := bt hw12 HB3.out.1 (Nat.le_refl _)
  clear hW3 hb1 hb2
  go_wp2_with fail
  refine (HO.out _ hw3).mono ?_
  rintro r w4 ⟨da, dc, oa, oc, rfl, hri, hw4⟩
  have hw34 := bt hw3 hw4 (Nat.le_refl _)
  go_upto_region 3 with (fail)
  obtain ⟨W5, hW5⟩ : ∃ V, w4.alloc (.cells #[.int .i64 O.verdict, .int .i64 O.reply.fn, .int .i64 O.reply.exc, .slice da O.reply.data.length dc, .int .i64 O.reply.code, .int .i64 O.reply.level, .bool O.reply.more, .int .i64 O.reply.next, .slice oa O.reply.objs.length oc] 50) = V := ⟨_, rfl⟩
  rw [hW5]
  have HB5 : Hid (Below W3.heap.size W3 W5 ∧ W5.heap[w4.heap.size]? = some (.cells #[.int .i64 O.verdict, .int .i64 O.reply.fn, .int .i64 O.reply.exc, .slice da O.reply.data.length dc, .int .i64 O.reply.code, .int .i64 O.reply.level, .bool O.reply.more, .int .i64 O.reply.next, .slice oa O.reply.objs.length oc] 50) ∧ RpIs W5 O.reply da dc oa oc) := by
    rw [← hW5]
    exact ⟨bta hw4 (Nat.le_refl _) _, hpNew w4 _, hri _ (Agree.of_below (bal' w4 _))⟩
  have hw5 := bt hw3 HB5.out.1 (Nat.le_refl _)
  obtain ⟨q1, q2, q3, q4, q5⟩ := HB3.out
  have g1 := hpKeep q2 HB5.out.1
  have g2 := hpKeep q3 HB5.out.1
  have q6 := q4.keep HB5.out.1
  have q7 := q5.keep HB5.out.1
  have u0 : W5.cell? ⟨w2.heap.size, 0, none⟩ = some (.int .i64 K) := hpCell g1 0
  have u1 : W5.cell? ⟨w2.heap.size, 1, none⟩ = some (.int .i64 T) := hpCell g1 1
  have u2 : W5.cell? ⟨w2.heap.size, 2, none⟩ = some (.slice a1 F.length c1) := hpCell g1 2
  have v0 : W5.cell? ⟨w2.heap.size + 1, 0, none⟩ = some (.int .i64 K) := hpCell g2 0
  have v1 : W5.cell? ⟨w2.heap.size + 1, 1, none⟩ = some (.int .i64 T) := hpCell g2 1
  have v2 : W5.cell? ⟨w2.heap.size + 1, 2, none⟩ = some (.slice a2 F.length c2) := hpCell g2 2
  have s1 : ∀ n, (convert 45 9 (.slice a1 F.length c1)).run Tryz.prog (W5.drewN n) = .ok (.string ⟨F.toArray⟩) (W5.drewN n) := fun n => ss.out (W5.drewN n) _ _ (q6.keep (below_drewN (Below.refl _ _) _))
  have s2 : ∀ n, (convert 45 9 (.slice a2 F.length c2)).run Tryz.prog (W5.drewN n) = .ok (.string ⟨F.toArray⟩) (W5.drewN n) := fun n => ss.out (W5.drewN n) _ _ (q7.keep (below_drewN (Below.refl _ _) _))
  have rm5 := HRM.out W5 hw5
  have c5 : W5.cell? ⟨gR, 5, none⟩ = some (.int .i64 sR.ph) := rm5.at_.cell 5
  have c12 : W5.cell? ⟨gR, 12, none⟩ = some (.int .i64 NW) := by rw [← HNX.out.1, ← rm5.now]; exact rm5.at_.cell 12
  have c17 : W5.cell? ⟨gR, 17, none⟩ = some (.int .i64 CT) := by rw [← HNX.out.2, ← rm5.cnt]; exact rm5.at_.cell 17
  have HT5 : Hid (∀ n, Calls Tryz.prog 26 #[.pointer (some ⟨gP, 0, none⟩)] (W5.drewN n) fun r w' => r = .returned (.int .i64 CT) ∧ W5.drewN n = w') := fun n => HT.out _ (below_drewN hw5 n)
  have HN5 : Hid (∀ n, Calls Tryz.prog 50 #[.pointer (some ⟨gP, 0, none⟩)] (W5.drewN n) fun r w' => r = .returned (.int .i64 NW) ∧ W5.drewN n = w') := fun n => HN.out _ (below_drewN hw5 n)
  have RM5 := hid rm5
  have HW5 := hid hw5
  have d := HPH.out
  clear hW5 hri hw4 hw34 hw3 hw12 hw2 hw1 hW0 q1 q2 q3 q4 q5 q6 q7 g1 g2 rm5 hw5
  go_upto_region 4 with (fail)
  go_quiet (first
    | (go_at_call 26; exact Calls.quiet_of_same ((HT5.out _).mono fun _ _ h => ⟨h.1, h.2.symm⟩))
    | (go_at_call 50; exact Calls.quiet_of_same ((HN5.out _).mono fun _ _ h => ⟨h.1, h.2.symm⟩)))
  go_upto_region 6 with (fail)
  obtain ⟨W6, hW6⟩ : ∃ V, W5.drewN nq = V := ⟨_, rfl⟩
  rw [hW6]
  have hb6 : Below W5.heap.size W5 W6 := by rw [← hW6]; exact below_drewN (Below.refl _ _) _
  have P7 := hid (hpKeep HB5.out.2.1 hb6)
  have RI6 := hid (HB5.out.2.2.keep hb6)
  have HW6 := hid (bt HW5.out hb6 (Nat.le_refl _))
  have kD : Below W6.heap.size W6 W6.drew := (Below.refl _ _).drew
  clear hW6 hb6 u0 u1 u2 v0 v1 v2 s1 s2 c5 c12 c17 d HT5 HN5
  cases D with
  | true =>
    have hph : x.ph = 5 := of_decide_eq_true HDO.out.1
    have rm6 := HRM.out W6 HW6.out
    have ho := rm6.out hph
    have ro := ho.2 W6 (Nat.le_refl _) (fun _ _ => rfl)
    have hOe : O = sR.o := by
      rw [← HDO.out.2, ho.1]
      unfold Tx.shown
      rw [if_pos hph]
    subst hOe
    have HSM : Hid (∀ V, Below W6.heap.size W6 V → Calls Tryz.prog 51 #[.agg #[.int .i64 sR.o.verdict, .int .i64 sR.o.reply.fn, .int .i64 sR.o.reply.exc, .slice da sR.o.reply.data.length dc, .int .i64 sR.o.reply.code, .int .i64 sR.o.reply.level, .bool sR.o.reply.more, .int .i64 sR.o.reply.next, .slice oa sR.o.reply.objs.length oc], .agg #[.int .i64 sR.o.verdict, .int .i64 sR.o.reply.fn, .int .i64 sR.o.reply.exc, .slice sR.da sR.o.reply.data.length sR.dc, .int .i64 sR.o.reply.code, .int .i64 sR.o.reply.level, .bool sR.o.reply.more, .int .i64 sR.o.reply.next, .slice sR.oa sR.o.reply.objs.length sR.oc]] V fun r w' => r = .returned (.bool true) ∧ Below V.heap.size V w') := fun V hV => by
      have h := RI6.out.keep hV
      have h' := ro.rp.keep hV
      exact same_oc ⟨h.d, h.o, h.hi, h.lo⟩ ⟨h'.d, h'.o, h'.hi, h'.lo⟩
    have z0 : ∀ V, Below W6.heap.size W6 V → V.cell? ⟨w4.heap.size, 0, none⟩ = some (.int .i64 sR.o.verdict) := fun V h => hpCell (hpKeep P7.out h) 0
    have z1 : ∀ V, Below W6.heap.size W6 V → V.cell? ⟨w4.heap.size, 1, none⟩ = some (.int .i64 sR.o.reply.fn) := fun V h => hpCell (hpKeep P7.out h) 1
    have z2 : ∀ V, Below W6.heap.size W6 V → V.cell? ⟨w4.heap.size, 2, none⟩ = some (.int .i64 sR.o.reply.exc) := fun V h => hpCell (hpKeep P7.out h) 2
    have z3 : ∀ V, Below W6.heap.size W6 V → V.cell? ⟨w4.heap.size, 3, none⟩ = some (.slice da sR.o.reply.data.length dc) := fun V h => hpCell (hpKeep P7.out h) 3
    have z4 : ∀ V, Below W6.heap.size W6 V → V.cell? ⟨w4.heap.size, 4, none⟩ = some (.int .i64 sR.o.reply.code) := fun V h => hpCell (hpKeep P7.out h) 4
    have z5 : ∀ V, Below W6.heap.size W6 V → V.cell? ⟨w4.heap.size, 5, none⟩ = some (.int .i64 sR.o.reply.level) := fun V h => hpCell (hpKeep P7.out h) 5
    have z6 : ∀ V, Below W6.heap.size W6 V → V.cell? ⟨w4.heap.size, 6, none⟩ = some (.bool sR.o.reply.more) := fun V h => hpCell (hpKeep P7.out h) 6
    have z7 : ∀ V, Below W6.heap.size W6 V → V.cell? ⟨w4.heap.size, 7, none⟩ = some (.int .i64 sR.o.reply.next) := fun V h => hpCell (hpKeep P7.out h) 7
    have z8 : ∀ V, Below W6.heap.size W6 V → V.cell? ⟨w4.heap.size, 8, none⟩ = some (.slice oa sR.o.reply.objs.length oc) := fun V h => hpCell (hpKeep P7.out h) 8
    have r0 : ∀ V, Below W6.heap.size W6 V → V.cell? ⟨gR, 20, none⟩ = some (.int .i64 sR.o.verdict) := fun V h => (rm6.at_.keep h).cell 20
    have r1 : ∀ V, Below W6.heap.size W6 V → V.cell? ⟨gR, 21, none⟩ = some (.int .i64 sR.o.reply.fn) := fun V h => (rm6.at_.keep h).cell 21
    have r2 : ∀ V, Below W6.heap.size W6 V → V.cell? ⟨gR, 22, none⟩ = some (.int .i64 sR.o.reply.exc) := fun V h => (rm6.at_.keep h).cell 22
    have r3 : ∀ V, Below W6.heap.size W6 V → V.cell? ⟨gR, 23, none⟩ = some (.slice sR.da sR.o.reply.data.length sR.dc) := fun V h => by rw [← ro.dn]; exact (rm6.at_.keep h).cell 23
    have r4 : ∀ V, Below W6.heap.size W6 V → V.cell? ⟨gR, 24, none⟩ = some (.int .i64 sR.o.reply.code) := fun V h => (rm6.at_.keep h).cell 24
    have r5 : ∀ V, Below W6.heap.size W6 V → V.cell? ⟨gR, 25, none⟩ = some (.int .i64 sR.o.reply.level) := fun V h => (rm6.at_.keep h).cell 25
    have r6 : ∀ V, Below W6.heap.size W6 V → V.cell? ⟨gR, 26, none⟩ = some (.bool sR.o.reply.more) := fun V h => (rm6.at_.keep h).cell 26
    have r7 : ∀ V, Below W6.heap.size W6 V → V.cell? ⟨gR, 27, none⟩ = some (.int .i64 sR.o.reply.next) := fun V h => (rm6.at_.keep h).cell 27
    have r8 : ∀ V, Below W6.heap.size W6 V → V.cell? ⟨gR, 28, none⟩ = some (.slice sR.oa sR.o.reply.objs.length sR.oc) := fun V h => by rw [← ro.on]; exact (rm6.at_.keep h).cell 28
    clear rm6 ho ro hph
    refine wp_region_held_drew (S := fun V => Below W6.heap.size W6 V) (by kernel_rfl) kD (fun hH => ?_)
    refine tkD 0 68 (v := ?_) rfl (by kernel_rfl) (fun _ _ _ h => h) rfl (by rfl) (by assumption) ?_ ?_; rotate_left; (intro w hSw; (try dsimp only at hSw); go_simp; try (with_reducible rfl)); simp only [List.setIfInBounds_toArray, List.set_cons_zero, List.set_cons_succ]
    refine tkD 1 69 (v := ?_) rfl (by kernel_rfl) (fun _ _ _ h => h) rfl (by rfl) (by assumption) ?_ ?_; rotate_left; (intro w hSw; (try dsimp only at hSw); go_simp; try (with_reducible rfl)); simp only [List.setIfInBounds_toArray, List.set_cons_zero, List.set_cons_succ]
    refine tkD 2 70 (v := ?_) rfl (by kernel_rfl) (fun _ _ _ h => h) rfl (by rfl) (by assumption) ?_ ?_; rotate_left; (intro w hSw; (try dsimp only at hSw); go_simp; try (with_reducible rfl)); simp only [List.setIfInBounds_toArray, List.set_cons_zero, List.set_cons_succ]
    refine tkD 3 71 (v := ?_) rfl (by kernel_rfl) (fun _ _ _ h => h) rfl (by rfl) (by assumption) ?_ ?_; rotate_left; (intro w hSw; (try dsimp only at hSw); go_simp; try (with_reducible rfl)); simp only [List.setIfInBounds_toArray, List.set_cons_zero, List.set_cons_succ]
    refine tkD 4 72 (v := ?_) rfl (by kernel_rfl) (fun _ _ _ h => h) rfl (by rfl) (by assumption) ?_ ?_; rotate_left; (intro w hSw; (try dsimp only at hSw); go_simp; try (with_reducible rfl)); simp only [List.setIfInBounds_toArray, List.set_cons_zero, List.set_cons_succ]
    refine tkD 5 73 (v := ?_) rfl (by kernel_rfl) (fun _ _ _ h => h) rfl (by rfl) (by assumption) ?_ ?_; rotate_left; (intro w hSw; (try dsimp only at hSw); go_simp; try (with_reducible rfl)); simp only [List.setIfInBounds_toArray, List.set_cons_zero, List.set_cons_succ]
    refine tkD 6 74 (v := ?_) rfl (by kernel_rfl) (fun _ _ _ h => h) rfl (by rfl) (by assumption) ?_ ?_; rotate_left; (intro w hSw; (try dsimp only at hSw); go_simp; try (with_reducible rfl)); simp only [List.setIfInBounds_toArray, List.set_cons_zero, List.set_cons_succ]
    refine wpAnyH_ready (rs := [7]) (by kernel_rfl) (by simp) ?_
    refine AllReadyH.cons rfl (fun K hK => ?_) AllReadyH.nil
    go_simp
    refine (HSM.out _ kD).mono ?_
    rintro r w7 ⟨rfl, hb7⟩
    have hBL := bt kD hb7 (Nat.le_refl _)
    refine hK.out _ _ hBL (fun hS7 => ?_)
    clear hK K hH
    refine tkD 8 76 (v := ?_) rfl (by kernel_rfl) (fun _ _ _ h => h) rfl (by rfl) (by assumption) ?_ ?_; rotate_left; (intro w hSw; (try dsimp only at hSw); go_simp; try (with_reducible rfl)); simp only [List.setIfInBounds_toArray, List.set_cons_zero, List.set_cons_succ]
    refine tkD 9 77 (v := ?_) rfl (by kernel_rfl) (fun _ _ _ h => h) rfl (by rfl) (by assumption) ?_ ?_; rotate_left; (intro w hSw; (try dsimp only at hSw); go_simp; try (with_reducible rfl)); simp only [List.setIfInBounds_toArray, List.set_cons_zero, List.set_cons_succ]
    refine wpAnyH_takeD (i := 10) (d := 78) (v := undef) rfl (by kernel_rfl) (by kernel_rfl) (by kernel_rfl) (fun _ _ _ h => h) rfl (Or.inr ⟨by rfl, rfl⟩) (by assumption) ?_; (simp only [List.setIfInBounds_toArray, List.set_cons_zero, List.set_cons_succ])
    refine wpAnyH_takeD (i := 11) (d := 79) (v := undef) rfl (by kernel_rfl) (by kernel_rfl) (by kernel_rfl) (fun _ _ _ h => h) rfl (Or.inr ⟨by rfl, rfl⟩) (by assumption) ?_; (simp only [List.setIfInBounds_toArray, List.set_cons_zero, List.set_cons_succ])
    refine wpAnyH_takeD (i := 12) (d := 80) (v := undef) rfl (by kernel_rfl) (by kernel_rfl) (by kernel_rfl) (fun _ _ _ h => h) rfl (Or.inr ⟨by rfl, rfl⟩) (by assumption) ?_; (simp only [List.setIfInBounds_toArray, List.set_cons_zero, List.set_cons_succ])
    refine wpAnyH_takeD (i := 13) (d := 81) (v := undef) rfl (by kernel_rfl) (by kernel_rfl) (by kernel_rfl) (fun _ _ _ h => h) rfl (Or.inr ⟨by rfl, rfl⟩) (by assumption) ?_; (simp only [List.setIfInBounds_toArray, List.set_cons_zero, List.set_cons_succ])
    refine wpAnyH_takeD (i := 14) (d := 82) (v := undef) rfl (by kernel_rfl) (by kernel_rfl) (by kernel_rfl) (fun _ _ _ h => h) rfl (Or.inr ⟨by rfl, rfl⟩) (by assumption) ?_; (simp only [List.setIfInBounds_toArray, List.set_cons_zero, List.set_cons_succ])
    refine wpAnyH_takeD (i := 15) (d := 83) (v := undef) rfl (by kernel_rfl) (by kernel_rfl) (by kernel_rfl) (fun _ _ _ h => h) rfl (Or.inr ⟨by rfl, rfl⟩) (by assumption) ?_; (simp only [List.setIfInBounds_toArray, List.set_cons_zero, List.set_cons_succ])
    refine wpAnyH_takeD (i := 16) (d := 84) (v := undef) rfl (by kernel_rfl) (by kernel_rfl) (by kernel_rfl) (fun _ _ _ h => h) rfl (Or.inr ⟨by rfl, rfl⟩) (by assumption) ?_; (simp only [List.setIfInBounds_toArray, List.set_cons_zero, List.set_cons_succ])
    refine tkD 17 85 (v := ?_) rfl (by kernel_rfl) (fun _ _ _ h => h) rfl (by rfl) (by assumption) ?_ ?_; rotate_left; (intro w hSw; (try dsimp only at hSw); go_simp; try (with_reducible rfl)); simp only [List.setIfInBounds_toArray, List.set_cons_zero, List.set_cons_succ]
    refine tkD 18 4 (v := ?_) rfl (by kernel_rfl) (fun _ _ _ h => h) rfl (by rfl) (by assumption) ?_ ?_; rotate_left; (intro w hSw; (try dsimp only at hSw); go_simp; try (with_reducible rfl)); simp only [List.setIfInBounds_toArray, List.set_cons_zero, List.set_cons_succ]
    refine wpAnyH_done (by kernel_rfl) ?_ _
    go_wp2
    go_ret
    exact ⟨rfl, bt HW6.out hBL (Nat.le_refl _)⟩
  | false =>
    have hph : ¬ x.ph = 5 := of_decide_eq_false HDO.out.1
    have hOe : O = Oc.zero := by
      rw [← HDO.out.2]
      unfold Tx.shown
      rw [if_neg hph]
    subst hOe
    have HSM : Hid (∀ V, Below W6.heap.size W6 V → Calls Tryz.prog 51 #[.agg #[.int .i64 Oc.zero.verdict, .int .i64 Oc.zero.reply.fn, .int .i64 Oc.zero.reply.exc, .slice da Oc.zero.reply.data.length dc, .int .i64 Oc.zero.reply.code, .int .i64 Oc.zero.reply.level, .bool Oc.zero.reply.more, .int .i64 Oc.zero.reply.next, .slice oa Oc.zero.reply.objs.length oc], .agg #[.int .i64 0, .int .i64 0, .int .i64 0, .slice none 0 0, .int .i64 0, .int .i64 0, .bool false, .int .i64 0, .slice none 0 0]] V fun r w' => r = .returned (.bool true) ∧ Below V.heap.size V w') := fun V hV => by
      have h := RI6.out.keep hV
      have h' := RpIs.zero V
      exact same_oc (x := Oc.zero) ⟨h.d, h.o, h.hi, h.lo⟩ ⟨h'.d, h'.o, h'.hi, h'.lo⟩
    have z0 : ∀ V, Below W6.heap.size W6 V → V.cell? ⟨w4.heap.size, 0, none⟩ = some (.int .i64 Oc.zero.verdict) := fun V h => hpCell (hpKeep P7.out h) 0
    have z1 : ∀ V, Below W6.heap.size W6 V → V.cell? ⟨w4.heap.size, 1, none⟩ = some (.int .i64 Oc.zero.reply.fn) := fun V h => hpCell (hpKeep P7.out h) 1
    have z2 : ∀ V, Below W6.heap.size W6 V → V.cell? ⟨w4.heap.size, 2, none⟩ = some (.int .i64 Oc.zero.reply.exc) := fun V h => hpCell (hpKeep P7.out h) 2
    have z3 : ∀ V, Below W6.heap.size W6 V → V.cell? ⟨w4.heap.size, 3, none⟩ = some (.slice da Oc.zero.reply.data.length dc) := fun V h => hpCell (hpKeep P7.out h) 3
    have z4 : ∀ V, Below W6.heap.size W6 V → V.cell? ⟨w4.heap.size, 4, none⟩ = some (.int .i64 Oc.zero.reply.code) := fun V h => hpCell (hpKeep P7.out h) 4
    have z5 : ∀ V, Below W6.heap.size W6 V → V.cell? ⟨w4.heap.size, 5, none⟩ = some (.int .i64 Oc.zero.reply.level) := fun V h => hpCell (hpKeep P7.out h) 5
    have z6 : ∀ V, Below W6.heap.size W6 V → V.cell? ⟨w4.heap.size, 6, none⟩ = some (.bool Oc.zero.reply.more) := fun V h => hpCell (hpKeep P7.out h) 6
    have z7 : ∀ V, Below W6.heap.size W6 V → V.cell? ⟨w4.heap.size, 7, none⟩ = some (.int .i64 Oc.zero.reply.next) := fun V h => hpCell (hpKeep P7.out h) 7
    have z8 : ∀ V, Below W6.heap.size W6 V → V.cell? ⟨w4.heap.size, 8, none⟩ = some (.slice oa Oc.zero.reply.objs.length oc) := fun V h => hpCell (hpKeep P7.out h) 8
    clear hph
    refine wp_region_held_drew (S := fun V => Below W6.heap.size W6 V) (by kernel_rfl) kD (fun hH => ?_)
    refine tkD 0 68 (v := ?_) rfl (by kernel_rfl) (fun _ _ _ h => h) rfl (by rfl) (by assumption) ?_ ?_; rotate_left; (intro w hSw; (try dsimp only at hSw); go_simp; try (with_reducible rfl)); simp only [List.setIfInBounds_toArray, List.set_cons_zero, List.set_cons_succ]
    refine tkD 1 69 (v := ?_) rfl (by kernel_rfl) (fun _ _ _ h => h) rfl (by rfl) (by assumption) ?_ ?_; rotate_left; (intro w hSw; (try dsimp only at hSw); go_simp; try (with_reducible rfl)); simp only [List.setIfInBounds_toArray, List.set_cons_zero, List.set_cons_succ]
    refine wpAnyH_takeD (i := 2) (d := 70) (v := undef) rfl (by kernel_rfl) (by kernel_rfl) (by kernel_rfl) (fun _ _ _ h => h) rfl (Or.inr ⟨by rfl, rfl⟩) (by assumption) ?_; (simp only [List.setIfInBounds_toArray, List.set_cons_zero, List.set_cons_succ])
    refine wpAnyH_takeD (i := 3) (d := 71) (v := undef) rfl (by kernel_rfl) (by kernel_rfl) (by kernel_rfl) (fun _ _ _ h => h) rfl (Or.inr ⟨by rfl, rfl⟩) (by assumption) ?_; (simp only [List.setIfInBounds_toArray, List.set_cons_zero, List.set_cons_succ])
    refine wpAnyH_takeD (i := 4) (d := 72) (v := undef) rfl (by kernel_rfl) (by kernel_rfl) (by kernel_rfl) (fun _ _ _ h => h) rfl (Or.inr ⟨by rfl, rfl⟩) (by assumption) ?_; (simp only [List.setIfInBounds_toArray, List.set_cons_zero, List.set_cons_succ])
    refine wpAnyH_takeD (i := 5) (d := 73) (v := undef) rfl (by kernel_rfl) (by kernel_rfl) (by kernel_rfl) (fun _ _ _ h => h) rfl (Or.inr ⟨by rfl, rfl⟩) (by assumption) ?_; (simp only [List.setIfInBounds_toArray, List.set_cons_zero, List.set_cons_succ])
    refine wpAnyH_takeD (i := 6) (d := 74) (v := undef) rfl (by kernel_rfl) (by kernel_rfl) (by kernel_rfl) (fun _ _ _ h => h) rfl (Or.inr ⟨by rfl, rfl⟩) (by assumption) ?_; (simp only [List.setIfInBounds_toArray, List.set_cons_zero, List.set_cons_succ])
    refine wpAnyH_takeD (i := 7) (d := 75) (v := undef) rfl (by kernel_rfl) (by kernel_rfl) (by kernel_rfl) (fun _ _ _ h => h) rfl (Or.inr ⟨by rfl, rfl⟩) (by assumption) ?_; (simp only [List.setIfInBounds_toArray, List.set_cons_zero, List.set_cons_succ])
    refine tkD 8 76 (v := ?_) rfl (by kernel_rfl) (fun _ _ _ h => h) rfl (by rfl) (by assumption) ?_ ?_; rotate_left; (intro w hSw; (try dsimp only at hSw); go_simp; try (with_reducible rfl)); simp only [List.setIfInBounds_toArray, List.set_cons_zero, List.set_cons_succ]
    refine tkD 9 77 (v := ?_) rfl (by kernel_rfl) (fun _ _ _ h => h) rfl (by rfl) (by assumption) ?_ ?_; rotate_left; (intro w hSw; (try dsimp only at hSw); go_simp; try (with_reducible rfl)); simp only [List.setIfInBounds_toArray, List.set_cons_zero, List.set_cons_succ]
    refine tkD 10 78 (v := ?_) rfl (by kernel_rfl) (fun _ _ _ h => h) rfl (by rfl) (by assumption) ?_ ?_; rotate_left; (intro w hSw; (try dsimp only at hSw); go_simp; try (with_reducible rfl)); simp only [List.setIfInBounds_toArray, List.set_cons_zero, List.set_cons_succ]
    refine tkD 11 79 (v := ?_) rfl (by kernel_rfl) (fun _ _ _ h => h) rfl (by rfl) (by assumption) ?_ ?_; rotate_left; (intro w hSw; (try dsimp only at hSw); go_simp; try (with_reducible rfl)); simp only [List.setIfInBounds_toArray, List.set_cons_zero, List.set_cons_succ]
    refine tkD 12 80 (v := ?_) rfl (by kernel_rfl) (fun _ _ _ h => h) rfl (by rfl) (by assumption) ?_ ?_; rotate_left; (intro w hSw; (try dsimp only at hSw); go_simp; try (with_reducible rfl)); simp only [List.setIfInBounds_toArray, List.set_cons_zero, List.set_cons_succ]
    refine tkD 13 81 (v := ?_) rfl (by kernel_rfl) (fun _ _ _ h => h) rfl (by rfl) (by assumption) ?_ ?_; rotate_left; (intro w hSw; (try dsimp only at hSw); go_simp; try (with_reducible rfl)); simp only [List.setIfInBounds_toArray, List.set_cons_zero, List.set_cons_succ]
    refine tkD 14 82 (v := ?_) rfl (by kernel_rfl) (fun _ _ _ h => h) rfl (by rfl) (by assumption) ?_ ?_; rotate_left; (intro w hSw; (try dsimp only at hSw); go_simp; try (with_reducible rfl)); simp only [List.setIfInBounds_toArray, List.set_cons_zero, List.set_cons_succ]
    refine wpAnyH_ready (rs := [15]) (by kernel_rfl) (by simp) ?_
    refine AllReadyH.cons rfl (fun K hK => ?_) AllReadyH.nil
    go_simp
    refine (HSM.out _ kD).mono ?_
    rintro r w7 ⟨rfl, hb7⟩
    have hBL := bt kD hb7 (Nat.le_refl _)
    refine hK.out _ _ hBL (fun hS7 => ?_)
    clear hK K hH
    refine tkD 16 84 (v := ?_) rfl (by kernel_rfl) (fun _ _ _ h => h) rfl (by rfl) (by assumption) ?_ ?_; rotate_left; (intro w hSw; (try dsimp only at hSw); go_simp; try (with_reducible rfl)); simp only [List.setIfInBounds_toArray, List.set_cons_zero, List.set_cons_succ]
    refine tkD 17 85 (v := ?_) rfl (by kernel_rfl) (fun _ _ _ h => h) rfl (by rfl) (by assumption) ?_ ?_; rotate_left; (intro w hSw; (try dsimp only at hSw); go_simp; try (with_reducible rfl)); simp only [List.setIfInBounds_toArray, List.set_cons_zero, List.set_cons_succ]
    refine tkD 18 4 (v := ?_) rfl (by kernel_rfl) (fun _ _ _ h => h) rfl (by rfl) (by assumption) ?_ ?_; rotate_left; (intro w hSw; (try dsimp only at hSw); go_simp; try (with_reducible rfl)); simp only [List.setIfInBounds_toArray, List.set_cons_zero, List.set_cons_succ]
    refine wpAnyH_done (by kernel_rfl) ?_ _
    go_wp2
    go_ret
    exact ⟨rfl, bt HW6.out hBL (Nat.le_refl _)⟩

end Go.Proofs.YtpmidoneoonlcaaGreat

/-
One call of the script, of the link and of its reference, taken or refused: the same answer and the same state.
-/
namespace Go.Proofs.YtpmidoneoonlcaaGreat
open Go.RowKit

def Tx.bgE (x : Tx) (u : Int) (q : Rq) (t : Int) : Int := if x.ph = 0 ∨ x.ph = 5 then (if 1 ≤ u ∧ u ≤ 247 ∧ x.now ≤ t then (if q.ok = true then 0 else 5) else 3) else 14
def Tx.bg (x : Tx) (u : Int) (q : Rq) (t : Int) : Tx := if x.ph = 0 ∨ x.ph = 5 then (if 1 ≤ u ∧ u ≤ 247 ∧ x.now ≤ t then (if q.ok = true then x.begun u q t else x) else x) else x
def Tx.snE (x : Tx) (t : Int) : Int := if x.ph = 1 then (if x.now ≤ t then 0 else 3) else 14
def Tx.sn (x : Tx) (t : Int) : Tx := if x.ph = 1 then (if x.now ≤ t then x.sent t else x) else x
def Tx.chE (x : Tx) (e : Ev) : Int := if x.ph = 2 ∨ x.ph = 3 ∨ x.ph = 4 then x.chrE e else 14
def Tx.ch (x : Tx) (e : Ev) : Tx := if x.ph = 2 ∨ x.ph = 3 ∨ x.ph = 4 then x.chr e else x
def Tx.slE (x : Tx) : Int := if x.ph = 2 ∨ x.ph = 3 ∨ x.ph = 4 then 0 else 14
def Tx.sl (x : Tx) : Tx := if x.ph = 2 ∨ x.ph = 3 ∨ x.ph = 4 then x.sil else x

theorem ls_bg {gP gR k : Nat} {P R : Nat → Prop} {x : Tx} (hk : k ≤ 40) (u qf qa qq qc qo t : Int) (ht : t ≤ x.now + 1000) (hb : x.now ≤ 1000000000) :
    (∀ sP W, PK gP k P x sP W → Calls Tryz.prog 10 #[.pointer (some ⟨gP, 0, none⟩), .int .i64 u, .agg #[.int .i64 qf, .int .i64 qa, .int .i64 qq, .int .i64 qc, .int .i64 qo], .int .i64 t] W (PStep gP (k + 1) P (x.bg u ⟨qf, qa, qq, qc, qo⟩ t) (x.bgE u ⟨qf, qa, qq, qc, qo⟩ t) W)) ∧
    (∀ sR W, RM gR k R x sR W → Calls Tryz.prog 11 #[.pointer (some ⟨gR, 0, none⟩), .int .i64 u, .agg #[.int .i64 qf, .int .i64 qa, .int .i64 qq, .int .i64 qc, .int .i64 qo], .int .i64 t] W (RmStep gR (k + 1) R (x.bg u ⟨qf, qa, qq, qc, qo⟩ t) (x.bgE u ⟨qf, qa, qq, qc, qo⟩ t) W)) := by
  unfold Tx.bg Tx.bgE
  by_cases h1 : x.ph = 0 ∨ x.ph = 5
  · rw [if_pos h1, if_pos h1]
    by_cases h2 : 1 ≤ u ∧ u ≤ 247 ∧ x.now ≤ t
    · rw [if_pos h2, if_pos h2]
      obtain ⟨a1, a2, a3⟩ := h2
      by_cases h3 : Rq.ok ⟨qf, qa, qq, qc, qo⟩ = true
      · rw [if_pos h3, if_pos h3]
        exact ⟨fun s W h => pk_begin h h1 hk u qf qa qq qc qo t a1 a2 a3 ht h3, fun s W h => rm_begin h h1 hk u qf qa qq qc qo t a1 a2 a3 ht h3⟩
      · rw [if_neg h3, if_neg h3]
        have h3' : Rq.ok ⟨qf, qa, qq, qc, qo⟩ = false := by simpa using h3
        exact ⟨fun s W h => pk_begin_form h h1 u qf qa qq qc qo t a1 a2 a3 (by omega) h3', fun s W h => rm_begin_form h h1 u qf qa qq qc qo t a1 a2 a3 (by omega) h3'⟩
    · rw [if_neg h2, if_neg h2]
      exact ⟨fun s W h => pk_begin_range h h1 u qf qa qq qc qo t (fun e => h2 ⟨e.1, e.2.1, e.2.2.1⟩), fun s W h => rm_begin_range h h1 u qf qa qq qc qo t (fun e => h2 ⟨e.1, e.2.1, e.2.2.1⟩)⟩
  · rw [if_neg h1, if_neg h1]
    exact ⟨fun s W h => pk_begin_no h h1 u qf qa qq qc qo t, fun s W h => rm_begin_no h h1 u qf qa qq qc qo t⟩

theorem ls_sn {gP gR k : Nat} {P R : Nat → Prop} {x : Tx} (hk : k ≤ 40) (t : Int) (ht : t ≤ x.now + 100000) :
    (∀ sP W, PK gP k P x sP W → Calls Tryz.prog 12 #[.pointer (some ⟨gP, 0, none⟩), .int .i64 t] W (PStep gP (k + 1) P (x.sn t) (x.snE t) W)) ∧
    (∀ sR W, RM gR k R x sR W → Calls Tryz.prog 13 #[.pointer (some ⟨gR, 0, none⟩), .int .i64 t] W (RmStep gR (k + 1) R (x.sn t) (x.snE t) W)) := by
  unfold Tx.sn Tx.snE
  by_cases h1 : x.ph = 1
  · rw [if_pos h1, if_pos h1]
    by_cases h2 : x.now ≤ t
    · rw [if_pos h2, if_pos h2]
      exact ⟨fun s W h => pk_sent h h1 hk t h2 ht, fun s W h => rm_ended h h1 hk t h2 ht⟩
    · rw [if_neg h2, if_neg h2]
      exact ⟨fun s W h => pk_sent_range h h1 t (fun e => h2 e.1), fun s W h => rm_ended_range h h1 t (fun e => h2 e.1)⟩
  · rw [if_neg h1, if_neg h1]
    exact ⟨fun s W h => pk_sent_no h h1 t, fun s W h => rm_ended_no h h1 t⟩

theorem ls_ch {gP gR k : Nat} {P R : Nat → Prop} {x : Tx} (hk : k ≤ 40) (e : Ev) :
    (∀ sP W, PK gP k P x sP W → Calls Tryz.prog 14 #[.pointer (some ⟨gP, 0, none⟩), .agg #[.int .i64 e.t, .int .u8 (e.v.toNat : Int), .int .i64 e.fl]] W (PStep gP (k + 1) P (x.ch e) (x.chE e) W)) ∧
    (∀ sR W, RM gR k R x sR W → Calls Tryz.prog 15 #[.pointer (some ⟨gR, 0, none⟩), .agg #[.int .i64 e.t, .int .u8 (e.v.toNat : Int), .int .i64 e.fl]] W (RmStep gR (k + 1) R (x.ch e) (x.chE e) W)) := by
  unfold Tx.ch Tx.chE
  by_cases h1 : x.ph = 2 ∨ x.ph = 3 ∨ x.ph = 4
  · rw [if_pos h1, if_pos h1]
    exact ⟨fun s W h => pk_char h h1 hk e, fun s W h => rm_char h h1 hk e⟩
  · rw [if_neg h1, if_neg h1]
    exact ⟨fun s W h => pk_char_no h h1 e.t (e.v.toNat : Int) e.fl, fun s W h => rm_char_no h h1 e⟩

theorem ls_sl {gP gR k : Nat} {P R : Nat → Prop} {x : Tx} (hk : k ≤ 40) :
    (∀ sP W, PK gP k P x sP W → Calls Tryz.prog 16 #[.pointer (some ⟨gP, 0, none⟩)] W (PStep gP (k + 1) P x.sl x.slE W)) ∧
    (∀ sR W, RM gR k R x sR W → Calls Tryz.prog 17 #[.pointer (some ⟨gR, 0, none⟩)] W (RmStep gR (k + 1) R x.sl x.slE W)) := by
  unfold Tx.sl Tx.slE
  by_cases h1 : x.ph = 2 ∨ x.ph = 3 ∨ x.ph = 4
  · rw [if_pos h1, if_pos h1]
    exact ⟨fun s W h => pk_silence h h1 hk, fun s W h => rm_silence h h1 hk⟩
  · rw [if_neg h1, if_neg h1]
    exact ⟨fun s W h => pk_silence_no h h1, fun s W h => rm_silence_no h h1⟩

/-- Where the law stands behind n calls. -/
structure LsIn (w : World) (gP gR n : Nat) (P R : Nat → Prop) (x : Tx) (sP : Lk) (sR : Rk) (wr : World) : Prop where
  pk : PK gP n P x sP wr
  rm : RM gR n R x sR wr
  dis : ∀ j, P j → ¬ R j
  pb : ∀ j, P j → w.heap.size ≤ j
  rb : ∀ j, R j → w.heap.size ≤ j
  bel : Below w.heap.size w wr

theorem LsIn.below {w : World} {gP gR n : Nat} {P R : Nat → Prop} {x : Tx} {sP : Lk} {sR : Rk} {wr W : World} (h : LsIn w gP gR n P R x sP sR wr) (hb : Below wr.heap.size wr W) : LsIn w gP gR n P R x sP sR W :=
  { h with
    pk := h.pk.keeps (Q := fun _ => False) (Keeps.of_below hb) (fun _ _ f => f)
    rm := h.rm.keeps (Q := fun _ => False) (Keeps.of_below hb) (fun _ _ f => f)
    bel := bt h.bel hb (Nat.le_refl _) }

/-- Behind the link's own call. -/
structure LsMid (w : World) (gP gR n : Nat) (P R : Nat → Prop) (x y : Tx) (sR : Rk) (V w1 : World) : Prop where
  pk : ∃ sP, PK gP (n + 1) (Grow P V w1) y sP w1
  rm : RM gR n R x sR w1
  dis : ∀ j, Grow P V w1 j → ¬ R j
  pb : ∀ j, Grow P V w1 j → w.heap.size ≤ j
  rb : ∀ j, R j → w.heap.size ≤ j
  bel : Below w.heap.size w w1
  kp : Keeps P V w1

theorem LsIn.mid {w : World} {gP gR n : Nat} {P R : Nat → Prop} {x y : Tx} {sP sP' : Lk} {sR : Rk} {V w1 : World} (h : LsIn w gP gR n P R x sP sR V) (hp : PK gP (n + 1) (Grow P V w1) y sP' w1) (hk : Keeps P V w1) : LsMid w gP gR n P R x y sR V w1 :=
  { pk := ⟨sP', hp⟩
    rm := h.rm.keeps hk (fun j hr hp => h.dis j hp hr)
    dis := fun j hj hr => by
      rcases hj with hj | hj
      · exact h.dis j hj hr
      · have := h.rm.pin j hr; omega
    pb := fun j hj => by
      rcases hj with hj | hj
      · exact h.pb j hj
      · have := h.bel.size; omega
    rb := h.rb
    bel := h.bel.trans (hk.below h.bel.size (fun j hj hp => by have := h.pb j hp; omega))
    kp := hk }

/-- Behind both calls. -/
theorem LsMid.done {w : World} {gP gR n : Nat} {P R : Nat → Prop} {x y : Tx} {sR sR' : Rk} {V w1 w2 : World} (h : LsMid w gP gR n P R x y sR V w1) (hr : RM gR (n + 1) (Grow R w1 w2) y sR' w2) (hk : Keeps R w1 w2) : ∃ sP, LsIn w gP gR (n + 1) (Grow P V w1) (Grow R w1 w2) y sP sR' w2 := by
  obtain ⟨sP, hp⟩ := h.pk
  refine ⟨sP, { pk := hp.keeps hk (fun j hj hr => h.dis j hj hr), rm := hr, dis := fun j hj hjr => ?_, pb := h.pb, rb := fun j hj => ?_, bel := h.bel.trans (hk.below h.bel.size (fun j hj hp => by have := h.rb j hp; omega)) }⟩
  · rcases hjr with hjr | hjr
    · exact h.dis j hj hjr
    · have := hp.pin j hj; omega
  · rcases hj with hj | hj
    · exact h.rb j hj
    · have := h.bel.size; omega

end Go.Proofs.YtpmidoneoonlcaaGreat
