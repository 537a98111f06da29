/-
  The contract of a link's Begin.
-/
import Derived.Test.YtoaajdbjlaffgaaLink
import Derived.Test.YtoaajdbjlaffgaaReqE
import Derived.Test.YtoaajdbjlaffgaaSplP
namespace Go.Proofs.Ytoaajdbjlaffgaa
open Go.RowKit

theorem hpSetE {w : World} {b : Nat} {c C : Array Value} {t : TypeId} {fz : Nat × Nat} {i : Nat} {u : Value} (h : w.heap[b]? = some (.cells c t fz)) (e : c.setIfInBounds i u = C) :
    (w.setCell ⟨b, i, none⟩ u).heap[b]? = some (.cells C t fz) := by rw [hpSet h i u, e]
theorem hpDrewE {w : World} {b : Nat} {o : Option Obj} (h : w.heap[b]? = o) : w.drew.heap[b]? = o := h
theorem kset' {p : Nat} {w w1 : World} (h : Keeps (· = p) w w1) (i : Nat) (u : Value) : Keeps (· = p) w (w1.setCell ⟨p, i, none⟩ u) := Keeps.set (F := (· = p)) h ⟨p, i, none⟩ u rfl
theorem kdrew {p : Nat} {w w1 : World} (h : Keeps (· = p) w w1) : Keeps (· = p) w w1.drew := h.trans (Keeps.of_below (Below.refl _ _).drew) (fun _ _ h => h)

/-- A link that has begun a transaction. -/
def Lk.begun (s : Lk) (unit : Int) (q : Rq) (tick : Int) (fa : Option Addr) (fn fc : Nat) : Lk :=
  { s with ph := 1, un := unit, q := q, now := tick, fa := fa, fn := fn, fc := fc, cnt := 0, sa := none, sn := 0, sc := 0, o := Oc.zero, da := none, dn := 0, dc := 0, oa := none, on := 0, oc := 0 }

/-- What Begin leaves: the frame lies in new memory. -/
def LkBegun (w : World) (g : Nat) (s : Lk) (unit : Int) (q : Rq) (tick : Int) (r : Ending) (w' : World) : Prop :=
  ∃ (fa : Option Addr) (fc : Nat), r = .returned (.int .i64 0) ∧ LkAt w' g (s.begun unit q tick fa (aduF (UInt8.ofNat unit.toNat) q.pdu).length fc) ∧ Bs w' (.slice fa (aduF (UInt8.ofNat unit.toNat) q.pdu).length fc) (aduF (UInt8.ofNat unit.toNat) q.pdu) ∧ (∀ ad, fa = some ad → w.heap.size ≤ ad.block) ∧ Keeps (· = g) w w'

set_option maxRecDepth 100000 in
set_option maxHeartbeats 6400000 in
theorem lkbegin_ok (g : Nat) (s : Lk) (unit : Int) (qf qa qq qc qo tick : Int) (w : World) (hl : LkAt w g s) (hph : s.ph = 0 ∨ s.ph = 5) (h1 : 1 ≤ unit) (h2 : unit ≤ 247) (h3 : s.now ≤ tick) (h4 : tick ≤ 1152921504606846976) (hq : Rq.ok ⟨qf, qa, qq, qc, qo⟩ = true) :
    Calls Try.prog 19 #[.pointer (some ⟨g, 0, none⟩), .int .i64 unit, .agg #[.int .i64 qf, .int .i64 qa, .int .i64 qq, .int .i64 qc, .int .i64 qo], .int .i64 tick] w (LkBegun w g s unit ⟨qf, qa, qq, qc, qo⟩ tick) := by
  have V1 : Hid ((decide (1 ≤ unit) && decide (unit ≤ 247)) = true) := by show _ = _; rw [decide_eq_true h1, decide_eq_true h2]; rfl
  have V2 : Hid ((decide (s.now ≤ tick) && decide (tick ≤ 1152921504606846976)) = true) := by show _ = _; rw [decide_eq_true h3, decide_eq_true h4]; rfl
  have HQ : Hid (∀ W, Calls Try.prog 43 #[.agg #[.int .i64 qf, .int .i64 qa, .int .i64 qq, .int .i64 qc, .int .i64 qo]] W fun r w' => r = .returned (.bool true) ∧ Below W.heap.size W w') := fun W => by rw [← hq]; exact pqvalid_any qf qa qq qc qo W
  have HE : Hid (∀ W, Calls Try.prog 44 #[.agg #[.int .i64 qf, .int .i64 qa, .int .i64 qq, .int .i64 qc, .int .i64 qo]] W (NewBs W (Rq.pdu ⟨qf, qa, qq, qc, qo⟩))) := fun W => reqenc_ok qf qa qq qc qo hq W
  obtain ⟨pl1, pl2⟩ := Rq.pdu_len ⟨qf, qa, qq, qc, qo⟩
  have HBL : Hid (∀ W a c p, Bs W (.slice a p.length c) p → 1 ≤ p.length → p.length ≤ 253 → Calls Try.prog 45 #[.int .i64 unit, .slice a p.length c] W (fun r w' => ∃ fa fc, r = .returned (.tuple #[.slice fa (aduF (UInt8.ofNat unit.toNat) p).length fc, .int .i64 0]) ∧ Bs w' (.slice fa (aduF (UInt8.ofNat unit.toNat) p).length fc) (aduF (UInt8.ofNat unit.toNat) p) ∧ (∀ ad, fa = some ad → W.heap.size ≤ ad.block) ∧ Below W.heap.size W w')) := by
    intro W a c p hp hp1 hp2
    refine (pbuild_any unit a _ c p W hp).mono ?_
    rintro r w' ⟨fa, fc, e, f, rfl, hown, hb, hc⟩
    have hbb : buildB unit p = some (aduF (UInt8.ofNat unit.toNat) p) := if_pos ⟨h1, h2, hp1, hp2⟩
    rcases hc with ⟨rfl, hc⟩ | ⟨_, hc, _⟩
    · rw [hbb] at hc
      cases hc
      exact ⟨fa, fc, rfl, Bs.own hown, fun ad had => (hown.lt ad.block (by rw [had]; rfl)).1, hb⟩
    · rw [hbb] at hc; cases hc
  have hg := hl.lt
  generalize hF : aduF (UInt8.ofNat unit.toNat) = F at *
  obtain ⟨P, hP⟩ : ∃ P, Rq.pdu ⟨qf, qa, qq, qc, qo⟩ = P := ⟨_, rfl⟩
  rw [hP] at HE pl1 pl2
  have HL := hid hl
  have HF := hid hF
  have HPP := hid hP
  have kA : Below w.heap.size w (w.alloc (.cells #[.int .i64 qf, .int .i64 qa, .int .i64 qq, .int .i64 qc, .int .i64 qo] 23)) := bal' w _
  have l0 := hl.keep kA
  have l0now : (w.alloc (.cells #[.int .i64 qf, .int .i64 qa, .int .i64 qq, .int .i64 qc, .int .i64 qo] 23)).cell? ⟨g, 13, none⟩ = some (.int .i64 s.now) := l0.cell 13
  have hgne : g ≠ w.heap.size := by omega
  have c5 : ((w.alloc (.cells #[.int .i64 qf, .int .i64 qa, .int .i64 qq, .int .i64 qc, .int .i64 qo] 23)).cell? ⟨g, 5, none⟩ = some (.int .i64 0)) ∨ ((w.alloc (.cells #[.int .i64 qf, .int .i64 qa, .int .i64 qq, .int .i64 qc, .int .i64 qo] 23)).cell? ⟨g, 5, none⟩ = some (.int .i64 5)) := by
    have h5 := l0.cell 5
    rcases hph with h | h
    · left; rw [h5]; simp [Lk.cells, h]
    · right; rw [h5]; simp [Lk.cells, h]
  clear hl hq hF hP hph h1 h2 h3 h4 l0
  rcases c5 with c5 | c5
  all_goals
    go_enter Try.func19, Try.ntmps19
    go_wp2_with (first | (go_at_call 41; (with_reducible refine (within_any unit 1 247 _ true V1).mono ?_); rintro r wi ⟨rfl, rfl⟩) | (go_at_call 41; (with_reducible refine (within_any tick s.now 1152921504606846976 _ true V2).mono ?_); rintro r wi ⟨rfl, rfl⟩))
    refine (HQ.out _).mono ?_
    rintro r w1 ⟨rfl, hb1⟩
    have g1 := hpKeep (hpNew w _) hb1
    obtain ⟨y0, y1, y2, y3, y4⟩ : w1.cell? ⟨w.heap.size, 0, none⟩ = some (.int .i64 qf) ∧ w1.cell? ⟨w.heap.size, 1, none⟩ = some (.int .i64 qa) ∧ w1.cell? ⟨w.heap.size, 2, none⟩ = some (.int .i64 qq) ∧ w1.cell? ⟨w.heap.size, 3, none⟩ = some (.int .i64 qc) ∧ w1.cell? ⟨w.heap.size, 4, none⟩ = some (.int .i64 qo) := ⟨hpCell g1 0, hpCell g1 1, hpCell g1 2, hpCell g1 3, hpCell g1 4⟩
    have hbw1 := bt kA hb1 (Nat.le_refl _)
    clear c5 l0now hb1
    go_wp2_with fail
    refine (HE.out _).mono ?_
    rintro r w2 ⟨pa, pc, rfl, hpb, hb2⟩
    have g2 := hpKeep g1 hb2
    have hbw2 := bt hbw1 hb2 (Nat.le_refl _)
    have HPB := hid (hpb w2 (Agree.refl _ _))
    clear y0 y1 y2 y3 y4 g1 hpb hb2
    go_wp2_with fail
    refine (HBL.out _ _ _ _ HPB.out pl1 (by omega)).mono ?_
    rintro r w3 ⟨fa, fc, rfl, hfb, hfa, hb3⟩
    have g3 := hpKeep g2 hb3
    have hbw3 := bt hbw2 hb3 (Nat.le_refl _)
    have l3 := HL.out.keep hbw3
    have HFB := hid hfb
    have HFA : Hid (∀ ad, fa = some ad → w.heap.size < ad.block) := fun ad had => Nat.lt_of_lt_of_le (Nat.lt_of_lt_of_le (by have := (Array.getElem?_eq_some_iff.1 g2).1; exact this) (Nat.le_refl _)) (hfa ad had)
    obtain ⟨y0, y1, y2, y3, y4⟩ : w3.cell? ⟨w.heap.size, 0, none⟩ = some (.int .i64 qf) ∧ w3.cell? ⟨w.heap.size, 1, none⟩ = some (.int .i64 qa) ∧ w3.cell? ⟨w.heap.size, 2, none⟩ = some (.int .i64 qq) ∧ w3.cell? ⟨w.heap.size, 3, none⟩ = some (.int .i64 qc) ∧ w3.cell? ⟨w.heap.size, 4, none⟩ = some (.int .i64 qo) := ⟨hpCell g3 0, hpCell g3 1, hpCell g3 2, hpCell g3 3, hpCell g3 4⟩
    clear g2 g3 hfb hfa hb3 HPB
    have c5 : w3.cell? ⟨g, 5, none⟩ = some (.int .i64 s.ph) := hpCell l3 5
    have f5 : w3.frozen? ⟨g, 5, none⟩ = false := hpFree l3 5
    have c6 : w3.cell? ⟨g, 6, none⟩ = some (.int .i64 s.un) := hpCell l3 6
    have f6 : w3.frozen? ⟨g, 6, none⟩ = false := hpFree l3 6
    have c7 : w3.cell? ⟨g, 7, none⟩ = some (.int .i64 s.q.fn) := hpCell l3 7
    have f7 : w3.frozen? ⟨g, 7, none⟩ = false := hpFree l3 7
    have c8 : w3.cell? ⟨g, 8, none⟩ = some (.int .i64 s.q.addr) := hpCell l3 8
    have f8 : w3.frozen? ⟨g, 8, none⟩ = false := hpFree l3 8
    have c9 : w3.cell? ⟨g, 9, none⟩ = some (.int .i64 s.q.qty) := hpCell l3 9
    have f9 : w3.frozen? ⟨g, 9, none⟩ = false := hpFree l3 9
    have c10 : w3.cell? ⟨g, 10, none⟩ = some (.int .i64 s.q.code) := hpCell l3 10
    have f10 : w3.frozen? ⟨g, 10, none⟩ = false := hpFree l3 10
    have c11 : w3.cell? ⟨g, 11, none⟩ = some (.int .i64 s.q.obj) := hpCell l3 11
    have f11 : w3.frozen? ⟨g, 11, none⟩ = false := hpFree l3 11
    have c12 : w3.cell? ⟨g, 12, none⟩ = some (.slice s.fa s.fn s.fc) := hpCell l3 12
    have f12 : w3.frozen? ⟨g, 12, none⟩ = false := hpFree l3 12
    have c13 : w3.cell? ⟨g, 13, none⟩ = some (.int .i64 s.now) := hpCell l3 13
    have f13 : w3.frozen? ⟨g, 13, none⟩ = false := hpFree l3 13
    have c18 : w3.cell? ⟨g, 18, none⟩ = some (.int .i64 s.cnt) := hpCell l3 18
    have f18 : w3.frozen? ⟨g, 18, none⟩ = false := hpFree l3 18
    have c19 : w3.cell? ⟨g, 19, none⟩ = some (.slice s.sa s.sn s.sc) := hpCell l3 19
    have f19 : w3.frozen? ⟨g, 19, none⟩ = false := hpFree l3 19
    have c20 : w3.cell? ⟨g, 20, none⟩ = some (.int .i64 s.o.verdict) := hpCell l3 20
    have f20 : w3.frozen? ⟨g, 20, none⟩ = false := hpFree l3 20
    have c21 : w3.cell? ⟨g, 21, none⟩ = some (.int .i64 s.o.reply.fn) := hpCell l3 21
    have f21 : w3.frozen? ⟨g, 21, none⟩ = false := hpFree l3 21
    have c22 : w3.cell? ⟨g, 22, none⟩ = some (.int .i64 s.o.reply.exc) := hpCell l3 22
    have f22 : w3.frozen? ⟨g, 22, none⟩ = false := hpFree l3 22
    have c23 : w3.cell? ⟨g, 23, none⟩ = some (.slice s.da s.dn s.dc) := hpCell l3 23
    have f23 : w3.frozen? ⟨g, 23, none⟩ = false := hpFree l3 23
    have c24 : w3.cell? ⟨g, 24, none⟩ = some (.int .i64 s.o.reply.code) := hpCell l3 24
    have f24 : w3.frozen? ⟨g, 24, none⟩ = false := hpFree l3 24
    have c25 : w3.cell? ⟨g, 25, none⟩ = some (.int .i64 s.o.reply.level) := hpCell l3 25
    have f25 : w3.frozen? ⟨g, 25, none⟩ = false := hpFree l3 25
    have c26 : w3.cell? ⟨g, 26, none⟩ = some (.bool s.o.reply.more) := hpCell l3 26
    have f26 : w3.frozen? ⟨g, 26, none⟩ = false := hpFree l3 26
    have c27 : w3.cell? ⟨g, 27, none⟩ = some (.int .i64 s.o.reply.next) := hpCell l3 27
    have f27 : w3.frozen? ⟨g, 27, none⟩ = false := hpFree l3 27
    have c28 : w3.cell? ⟨g, 28, none⟩ = some (.slice s.oa s.on s.oc) := hpCell l3 28
    have f28 : w3.frozen? ⟨g, 28, none⟩ = false := hpFree l3 28
    go_wp2_with fail
    go_region
    all_goals
      go_wp2
      go_ret
      unfold LkBegun
      rw [HPP.out, HF.out]
      refine ⟨fa, fc, rfl, ?_, ?_, ?_, ?_⟩
      · unfold LkAt
        refine hpDrewE ?_
        show _ = some (Obj.cells #[.int .i64 s.b, .int .i64 s.p, .int .i64 s.re, .int .i64 s.ti, .int .i64 s.dr, .int .i64 1, .int .i64 unit, .int .i64 qf, .int .i64 qa, .int .i64 qq, .int .i64 qc, .int .i64 qo, .slice fa (F P).length fc, .int .i64 tick, .int .i64 s.en, .int .i64 s.til, .int .i64 s.la, s.rx, .int .i64 0, .slice none 0 0, .int .i64 0, .int .i64 0, .int .i64 0, .slice none 0 0, .int .i64 0, .int .i64 0, .bool false, .int .i64 0, .slice none 0 0] 86)
        refine hpSetE (c := #[.int .i64 s.b, .int .i64 s.p, .int .i64 s.re, .int .i64 s.ti, .int .i64 s.dr, .int .i64 s.ph, .int .i64 unit, .int .i64 qf, .int .i64 qa, .int .i64 qq, .int .i64 qc, .int .i64 qo, .slice fa (F P).length fc, .int .i64 tick, .int .i64 s.en, .int .i64 s.til, .int .i64 s.la, s.rx, .int .i64 0, .slice none 0 0, .int .i64 0, .int .i64 0, .int .i64 0, .slice none 0 0, .int .i64 0, .int .i64 0, .bool false, .int .i64 0, .slice none 0 0]) ?_ rfl
        refine hpSetE (c := #[.int .i64 s.b, .int .i64 s.p, .int .i64 s.re, .int .i64 s.ti, .int .i64 s.dr, .int .i64 s.ph, .int .i64 unit, .int .i64 qf, .int .i64 qa, .int .i64 qq, .int .i64 qc, .int .i64 qo, .slice fa (F P).length fc, .int .i64 tick, .int .i64 s.en, .int .i64 s.til, .int .i64 s.la, s.rx, .int .i64 0, .slice none 0 0, .int .i64 0, .int .i64 0, .int .i64 0, .slice none 0 0, .int .i64 0, .int .i64 0, .bool false, .int .i64 0, .slice s.oa s.on s.oc]) ?_ rfl
        refine hpSetE (c := #[.int .i64 s.b, .int .i64 s.p, .int .i64 s.re, .int .i64 s.ti, .int .i64 s.dr, .int .i64 s.ph, .int .i64 unit, .int .i64 qf, .int .i64 qa, .int .i64 qq, .int .i64 qc, .int .i64 qo, .slice fa (F P).length fc, .int .i64 tick, .int .i64 s.en, .int .i64 s.til, .int .i64 s.la, s.rx, .int .i64 0, .slice none 0 0, .int .i64 0, .int .i64 0, .int .i64 0, .slice none 0 0, .int .i64 0, .int .i64 0, .bool false, .int .i64 s.o.reply.next, .slice s.oa s.on s.oc]) ?_ rfl
        refine hpSetE (c := #[.int .i64 s.b, .int .i64 s.p, .int .i64 s.re, .int .i64 s.ti, .int .i64 s.dr, .int .i64 s.ph, .int .i64 unit, .int .i64 qf, .int .i64 qa, .int .i64 qq, .int .i64 qc, .int .i64 qo, .slice fa (F P).length fc, .int .i64 tick, .int .i64 s.en, .int .i64 s.til, .int .i64 s.la, s.rx, .int .i64 0, .slice none 0 0, .int .i64 0, .int .i64 0, .int .i64 0, .slice none 0 0, .int .i64 0, .int .i64 0, .bool s.o.reply.more, .int .i64 s.o.reply.next, .slice s.oa s.on s.oc]) ?_ rfl
        refine hpSetE (c := #[.int .i64 s.b, .int .i64 s.p, .int .i64 s.re, .int .i64 s.ti, .int .i64 s.dr, .int .i64 s.ph, .int .i64 unit, .int .i64 qf, .int .i64 qa, .int .i64 qq, .int .i64 qc, .int .i64 qo, .slice fa (F P).length fc, .int .i64 tick, .int .i64 s.en, .int .i64 s.til, .int .i64 s.la, s.rx, .int .i64 0, .slice none 0 0, .int .i64 0, .int .i64 0, .int .i64 0, .slice none 0 0, .int .i64 0, .int .i64 s.o.reply.level, .bool s.o.reply.more, .int .i64 s.o.reply.next, .slice s.oa s.on s.oc]) ?_ rfl
        refine hpSetE (c := #[.int .i64 s.b, .int .i64 s.p, .int .i64 s.re, .int .i64 s.ti, .int .i64 s.dr, .int .i64 s.ph, .int .i64 unit, .int .i64 qf, .int .i64 qa, .int .i64 qq, .int .i64 qc, .int .i64 qo, .slice fa (F P).length fc, .int .i64 tick, .int .i64 s.en, .int .i64 s.til, .int .i64 s.la, s.rx, .int .i64 0, .slice none 0 0, .int .i64 0, .int .i64 0, .int .i64 0, .slice none 0 0, .int .i64 s.o.reply.code, .int .i64 s.o.reply.level, .bool s.o.reply.more, .int .i64 s.o.reply.next, .slice s.oa s.on s.oc]) ?_ rfl
        refine hpSetE (c := #[.int .i64 s.b, .int .i64 s.p, .int .i64 s.re, .int .i64 s.ti, .int .i64 s.dr, .int .i64 s.ph, .int .i64 unit, .int .i64 qf, .int .i64 qa, .int .i64 qq, .int .i64 qc, .int .i64 qo, .slice fa (F P).length fc, .int .i64 tick, .int .i64 s.en, .int .i64 s.til, .int .i64 s.la, s.rx, .int .i64 0, .slice none 0 0, .int .i64 0, .int .i64 0, .int .i64 0, .slice s.da s.dn s.dc, .int .i64 s.o.reply.code, .int .i64 s.o.reply.level, .bool s.o.reply.more, .int .i64 s.o.reply.next, .slice s.oa s.on s.oc]) ?_ rfl
        refine hpSetE (c := #[.int .i64 s.b, .int .i64 s.p, .int .i64 s.re, .int .i64 s.ti, .int .i64 s.dr, .int .i64 s.ph, .int .i64 unit, .int .i64 qf, .int .i64 qa, .int .i64 qq, .int .i64 qc, .int .i64 qo, .slice fa (F P).length fc, .int .i64 tick, .int .i64 s.en, .int .i64 s.til, .int .i64 s.la, s.rx, .int .i64 0, .slice none 0 0, .int .i64 0, .int .i64 0, .int .i64 s.o.reply.exc, .slice s.da s.dn s.dc, .int .i64 s.o.reply.code, .int .i64 s.o.reply.level, .bool s.o.reply.more, .int .i64 s.o.reply.next, .slice s.oa s.on s.oc]) ?_ rfl
        refine hpSetE (c := #[.int .i64 s.b, .int .i64 s.p, .int .i64 s.re, .int .i64 s.ti, .int .i64 s.dr, .int .i64 s.ph, .int .i64 unit, .int .i64 qf, .int .i64 qa, .int .i64 qq, .int .i64 qc, .int .i64 qo, .slice fa (F P).length fc, .int .i64 tick, .int .i64 s.en, .int .i64 s.til, .int .i64 s.la, s.rx, .int .i64 0, .slice none 0 0, .int .i64 0, .int .i64 s.o.reply.fn, .int .i64 s.o.reply.exc, .slice s.da s.dn s.dc, .int .i64 s.o.reply.code, .int .i64 s.o.reply.level, .bool s.o.reply.more, .int .i64 s.o.reply.next, .slice s.oa s.on s.oc]) ?_ rfl
        refine hpSetE (c := #[.int .i64 s.b, .int .i64 s.p, .int .i64 s.re, .int .i64 s.ti, .int .i64 s.dr, .int .i64 s.ph, .int .i64 unit, .int .i64 qf, .int .i64 qa, .int .i64 qq, .int .i64 qc, .int .i64 qo, .slice fa (F P).length fc, .int .i64 tick, .int .i64 s.en, .int .i64 s.til, .int .i64 s.la, s.rx, .int .i64 0, .slice none 0 0, .int .i64 s.o.verdict, .int .i64 s.o.reply.fn, .int .i64 s.o.reply.exc, .slice s.da s.dn s.dc, .int .i64 s.o.reply.code, .int .i64 s.o.reply.level, .bool s.o.reply.more, .int .i64 s.o.reply.next, .slice s.oa s.on s.oc]) ?_ rfl
        refine hpSetE (c := #[.int .i64 s.b, .int .i64 s.p, .int .i64 s.re, .int .i64 s.ti, .int .i64 s.dr, .int .i64 s.ph, .int .i64 unit, .int .i64 qf, .int .i64 qa, .int .i64 qq, .int .i64 qc, .int .i64 qo, .slice fa (F P).length fc, .int .i64 tick, .int .i64 s.en, .int .i64 s.til, .int .i64 s.la, s.rx, .int .i64 0, .slice s.sa s.sn s.sc, .int .i64 s.o.verdict, .int .i64 s.o.reply.fn, .int .i64 s.o.reply.exc, .slice s.da s.dn s.dc, .int .i64 s.o.reply.code, .int .i64 s.o.reply.level, .bool s.o.reply.more, .int .i64 s.o.reply.next, .slice s.oa s.on s.oc]) ?_ rfl
        refine hpSetE (c := #[.int .i64 s.b, .int .i64 s.p, .int .i64 s.re, .int .i64 s.ti, .int .i64 s.dr, .int .i64 s.ph, .int .i64 unit, .int .i64 qf, .int .i64 qa, .int .i64 qq, .int .i64 qc, .int .i64 qo, .slice fa (F P).length fc, .int .i64 tick, .int .i64 s.en, .int .i64 s.til, .int .i64 s.la, s.rx, .int .i64 s.cnt, .slice s.sa s.sn s.sc, .int .i64 s.o.verdict, .int .i64 s.o.reply.fn, .int .i64 s.o.reply.exc, .slice s.da s.dn s.dc, .int .i64 s.o.reply.code, .int .i64 s.o.reply.level, .bool s.o.reply.more, .int .i64 s.o.reply.next, .slice s.oa s.on s.oc]) ?_ rfl
        refine hpSetE (c := #[.int .i64 s.b, .int .i64 s.p, .int .i64 s.re, .int .i64 s.ti, .int .i64 s.dr, .int .i64 s.ph, .int .i64 unit, .int .i64 qf, .int .i64 qa, .int .i64 qq, .int .i64 qc, .int .i64 qo, .slice fa (F P).length fc, .int .i64 s.now, .int .i64 s.en, .int .i64 s.til, .int .i64 s.la, s.rx, .int .i64 s.cnt, .slice s.sa s.sn s.sc, .int .i64 s.o.verdict, .int .i64 s.o.reply.fn, .int .i64 s.o.reply.exc, .slice s.da s.dn s.dc, .int .i64 s.o.reply.code, .int .i64 s.o.reply.level, .bool s.o.reply.more, .int .i64 s.o.reply.next, .slice s.oa s.on s.oc]) ?_ rfl
        refine hpSetE (c := #[.int .i64 s.b, .int .i64 s.p, .int .i64 s.re, .int .i64 s.ti, .int .i64 s.dr, .int .i64 s.ph, .int .i64 unit, .int .i64 qf, .int .i64 qa, .int .i64 qq, .int .i64 qc, .int .i64 s.q.obj, .slice fa (F P).length fc, .int .i64 s.now, .int .i64 s.en, .int .i64 s.til, .int .i64 s.la, s.rx, .int .i64 s.cnt, .slice s.sa s.sn s.sc, .int .i64 s.o.verdict, .int .i64 s.o.reply.fn, .int .i64 s.o.reply.exc, .slice s.da s.dn s.dc, .int .i64 s.o.reply.code, .int .i64 s.o.reply.level, .bool s.o.reply.more, .int .i64 s.o.reply.next, .slice s.oa s.on s.oc]) ?_ rfl
        refine hpSetE (c := #[.int .i64 s.b, .int .i64 s.p, .int .i64 s.re, .int .i64 s.ti, .int .i64 s.dr, .int .i64 s.ph, .int .i64 unit, .int .i64 qf, .int .i64 qa, .int .i64 qq, .int .i64 s.q.code, .int .i64 s.q.obj, .slice fa (F P).length fc, .int .i64 s.now, .int .i64 s.en, .int .i64 s.til, .int .i64 s.la, s.rx, .int .i64 s.cnt, .slice s.sa s.sn s.sc, .int .i64 s.o.verdict, .int .i64 s.o.reply.fn, .int .i64 s.o.reply.exc, .slice s.da s.dn s.dc, .int .i64 s.o.reply.code, .int .i64 s.o.reply.level, .bool s.o.reply.more, .int .i64 s.o.reply.next, .slice s.oa s.on s.oc]) ?_ rfl
        refine hpSetE (c := #[.int .i64 s.b, .int .i64 s.p, .int .i64 s.re, .int .i64 s.ti, .int .i64 s.dr, .int .i64 s.ph, .int .i64 unit, .int .i64 qf, .int .i64 qa, .int .i64 s.q.qty, .int .i64 s.q.code, .int .i64 s.q.obj, .slice fa (F P).length fc, .int .i64 s.now, .int .i64 s.en, .int .i64 s.til, .int .i64 s.la, s.rx, .int .i64 s.cnt, .slice s.sa s.sn s.sc, .int .i64 s.o.verdict, .int .i64 s.o.reply.fn, .int .i64 s.o.reply.exc, .slice s.da s.dn s.dc, .int .i64 s.o.reply.code, .int .i64 s.o.reply.level, .bool s.o.reply.more, .int .i64 s.o.reply.next, .slice s.oa s.on s.oc]) ?_ rfl
        refine hpSetE (c := #[.int .i64 s.b, .int .i64 s.p, .int .i64 s.re, .int .i64 s.ti, .int .i64 s.dr, .int .i64 s.ph, .int .i64 unit, .int .i64 qf, .int .i64 s.q.addr, .int .i64 s.q.qty, .int .i64 s.q.code, .int .i64 s.q.obj, .slice fa (F P).length fc, .int .i64 s.now, .int .i64 s.en, .int .i64 s.til, .int .i64 s.la, s.rx, .int .i64 s.cnt, .slice s.sa s.sn s.sc, .int .i64 s.o.verdict, .int .i64 s.o.reply.fn, .int .i64 s.o.reply.exc, .slice s.da s.dn s.dc, .int .i64 s.o.reply.code, .int .i64 s.o.reply.level, .bool s.o.reply.more, .int .i64 s.o.reply.next, .slice s.oa s.on s.oc]) ?_ rfl
        refine hpSetE (c := #[.int .i64 s.b, .int .i64 s.p, .int .i64 s.re, .int .i64 s.ti, .int .i64 s.dr, .int .i64 s.ph, .int .i64 unit, .int .i64 s.q.fn, .int .i64 s.q.addr, .int .i64 s.q.qty, .int .i64 s.q.code, .int .i64 s.q.obj, .slice fa (F P).length fc, .int .i64 s.now, .int .i64 s.en, .int .i64 s.til, .int .i64 s.la, s.rx, .int .i64 s.cnt, .slice s.sa s.sn s.sc, .int .i64 s.o.verdict, .int .i64 s.o.reply.fn, .int .i64 s.o.reply.exc, .slice s.da s.dn s.dc, .int .i64 s.o.reply.code, .int .i64 s.o.reply.level, .bool s.o.reply.more, .int .i64 s.o.reply.next, .slice s.oa s.on s.oc]) ?_ rfl
        refine hpSetE (c := #[.int .i64 s.b, .int .i64 s.p, .int .i64 s.re, .int .i64 s.ti, .int .i64 s.dr, .int .i64 s.ph, .int .i64 s.un, .int .i64 s.q.fn, .int .i64 s.q.addr, .int .i64 s.q.qty, .int .i64 s.q.code, .int .i64 s.q.obj, .slice fa (F P).length fc, .int .i64 s.now, .int .i64 s.en, .int .i64 s.til, .int .i64 s.la, s.rx, .int .i64 s.cnt, .slice s.sa s.sn s.sc, .int .i64 s.o.verdict, .int .i64 s.o.reply.fn, .int .i64 s.o.reply.exc, .slice s.da s.dn s.dc, .int .i64 s.o.reply.code, .int .i64 s.o.reply.level, .bool s.o.reply.more, .int .i64 s.o.reply.next, .slice s.oa s.on s.oc]) ?_ rfl
        refine hpSetE (c := #[.int .i64 s.b, .int .i64 s.p, .int .i64 s.re, .int .i64 s.ti, .int .i64 s.dr, .int .i64 s.ph, .int .i64 s.un, .int .i64 s.q.fn, .int .i64 s.q.addr, .int .i64 s.q.qty, .int .i64 s.q.code, .int .i64 s.q.obj, .slice s.fa s.fn s.fc, .int .i64 s.now, .int .i64 s.en, .int .i64 s.til, .int .i64 s.la, s.rx, .int .i64 s.cnt, .slice s.sa s.sn s.sc, .int .i64 s.o.verdict, .int .i64 s.o.reply.fn, .int .i64 s.o.reply.exc, .slice s.da s.dn s.dc, .int .i64 s.o.reply.code, .int .i64 s.o.reply.level, .bool s.o.reply.more, .int .i64 s.o.reply.next, .slice s.oa s.on s.oc]) ?_ rfl
        exact l3
      · refine HFB.out.keepF (F := (· = g)) ?_ (fun ad had h => by have := HFA.out ad had; have h' : ad.block = g := h; omega)
        refine kdrew ?_
        repeat (with_reducible refine kset' ?_ _ _)
        exact Keeps.refl _ _
      · exact fun ad had => Nat.le_of_lt (HFA.out ad had)
      · refine kdrew ?_
        repeat (with_reducible refine kset' ?_ _ _)
        exact Keeps.of_below hbw3

end Go.Proofs.Ytoaajdbjlaffgaa
