/-
  A link that hears a right reply, character by character.
-/
import Derived.Test.YtoaajdbjlaffgaaMlc
import Derived.Test.YtoaajdbjlaffgaaCrcMath2
namespace Go.Proofs.Ytoaajdbjlaffgaa
open Go.RowKit

/-- Begin, from a new link on. -/
theorem LkOk.begun {w3 w4 : World} {g : Nat} {b p R ti de U : Int} {q : Rq} {fa : Option Addr} {fc : Nat} (hset : Okset b p) (j1 : 0 ≤ R) (j2 : R ≤ 5) (h1 : 0 ≤ ti) (h2 : ti ≤ 5000) (h3 : 0 ≤ de) (h4 : de ≤ 100000) (hg : g < w3.heap.size)
    (hl : LkAt w4 g (Lk.begun (Lk.new b p R ti de) U q 0 fa (aduF (UInt8.ofNat U.toNat) q.pdu).length fc)) (hfr : Bs w4 (.slice fa (aduF (UInt8.ofNat U.toNat) q.pdu).length fc) (aduF (UInt8.ofNat U.toNat) q.pdu)) (hfa : ∀ ad, fa = some ad → w3.heap.size ≤ ad.block) :
    LkOk g 0 (aduF (UInt8.ofNat U.toNat) q.pdu) (Lk.begun (Lk.new b p R ti de) U q 0 fa (aduF (UInt8.ofNat U.toNat) q.pdu).length fc) w4 := by
  obtain ⟨pl1, pl2⟩ := Rq.pdu_len q
  have hal := aduF_length (UInt8.ofNat U.toNat) q.pdu
  obtain ⟨t1, t2, _, _, t5, t6⟩ := time_bd hset
  have hdr : drainT b ti de = 2 * t35T b + ti + de + 257 * charT b := rfl
  exact
  { at_ := hl
    seen := ⟨[], ⟨World.ownsRow_nil _ _ _ _, rfl⟩, by simp, fun e => absurd e (by show ¬ (1 : Int) = 4; decide), by show (0 : Int) ≤ 0; decide, fun e => by rcases e with e | e <;> exact absurd e (by show ¬ (1 : Int) = _; decide)⟩
    fr := hfr
    fra := fun ad had => ⟨by have := hfa ad had; omega, hfr.blockLt (by intro h; rw [h] at hal; simp at hal) ad had, fun e => by cases e⟩
    flen := by omega
    set := hset
    ti1 := h1
    ti2 := h2
    dr1 := by show 0 ≤ drainT b ti de; omega
    dr2 := by show drainT b ti de ≤ _; omega
    re1 := j2
    cnt1 := by show (0 : Int) ≤ 0; decide
    cnt2 := by show (0 : Int) ≤ R + 1; omega
    ph1 := fun _ => j1
    ulim := by decide
    now1 := by show (0 : Int) ≤ 0; decide
    now2 := by show (0 : Int) ≤ _; unfold top; show (0 : Int) ≤ 10000000 * 0 + 100000 * ((0 : Nat) : Int); decide
    hear := fun e => by rcases e with e | e | e <;> exact absurd e (by show ¬ (1 : Int) = _; decide)
    rx := fun e => by rcases e with e | e <;> exact absurd e (by show ¬ (1 : Int) = _; decide)
    out := fun e => absurd e (by show ¬ (1 : Int) = 5; decide) }

/-- Silence while the link waits for a first character, and then again: the next attempt. -/
def ESilTo (g u : Nat) (F : List UInt8) (s : Lk) (ph : Int) (W : World) (r : Ending) (w' : World) : Prop :=
  ∃ s', r = .returned (.int .i64 0) ∧ LkOk g u F s' w' ∧ s.like s' ∧ s'.cnt = s.cnt ∧ s'.ph = ph ∧ Below g W w'

theorem esil_wait {g u : Nat} {F : List UInt8} {s : Lk} {W : World} (h : LkOk g u F s W) (hp : s.ph = 2) :
    Calls Try.prog 26 #[.pointer (some ⟨g, 0, none⟩)] W (ESilTo g u F s 4 W) := by
  obtain ⟨e1, e2, e3, e4, e5⟩ := h.hear (.inl hp)
  have hg := h.at_.lt
  have hcm : s.cnt ≤ 6 := by have := h.cnt2; have := h.re1; omega
  have htm : top s u ≤ 80000000 := top_max hcm h.ulim
  obtain ⟨l, hs, hlv, hl4, hll, hll2⟩ := h.seen
  have hlen := hs.len
  refine (silence_wait g s l W h.at_ hs hp (by omega) e1 (by omega) h.dr1 (by have := h.dr2; omega)).mono ?_
  rintro r w' ⟨sa, sc, rfl, hl, hs', hn, hk⟩
  refine ⟨s.drains sa sc, rfl, ?_, ⟨rfl, rfl, rfl, rfl, rfl, rfl, rfl, rfl, rfl, rfl⟩, rfl, rfl, hk.below (Nat.le_of_lt hg) (fun k hk' e => by
    rcases e with e | e
    · omega
    · have := (hs.own.lt k e).1; omega)⟩
  exact h.drained (.inl hp) hlv (hll2 (.inl hp)) (.inl rfl) (Lk.like.refl s) rfl rfl rfl e5 (Nat.le_refl u) h.ulim ⟨e3, e4⟩ ⟨h.now1, h.now2⟩ hl hs' hn hk (fun k e => e.elim .inl (fun e => .inr (.inl e)))

theorem esil_more {g u : Nat} {F : List UInt8} {s : Lk} {W : World} (h : LkOk g u F s W) (hp : s.ph = 4) (hc : s.cnt ≤ s.re) :
    Calls Try.prog 26 #[.pointer (some ⟨g, 0, none⟩)] W (ESilTo g u F s 1 W) := by
  have hg := h.at_.lt
  refine (silence_more g s W h.at_ hp hc).mono ?_
  rintro r w' ⟨rfl, hl, hk⟩
  refine ⟨{ s with now := s.til, ph := 1 }, rfl, ?_, ⟨rfl, rfl, rfl, rfl, rfl, rfl, rfl, rfl, rfl, rfl⟩, rfl, rfl, hk.below (Nat.le_of_lt hg) (fun k hk' e => by have e' : k = g := e; omega)⟩
  exact h.freed (.inr (.inr hp)) ⟨rfl, rfl, rfl, rfl, rfl, rfl, rfl, rfl, rfl, rfl⟩ rfl rfl rfl rfl rfl (.inl ⟨rfl, hc⟩) hl hk (fun k e => .inl e)

/-- A link that has heard the first k characters of a frame; t is the time of the last one, or of the end of its own frame. -/
def ClAt (g k : Nat) (b : Int) (U : Int) (q : Rq) (cnt t : Int) (out : List UInt8) (W : World) : Prop :=
  ∃ s rg x a c, LkAt W g s ∧ RxIn W g rg s x a c ∧ s.un = U ∧ s.q = q ∧ s.cnt = cnt ∧ x.bs = out.take k ∧ x.fl = 0 ∧ x.ch = charT b ∧ x.t35 = t35T b ∧ x.t15 = t15T b ∧ s.la ≤ t ∧
    ((k = 0 ∧ s.ph = 2 ∧ x.act = false ∧ s.en < t + charT b ∧ t + charT b ≤ s.til) ∨ (1 ≤ k ∧ s.ph = 3 ∧ x.act = true ∧ x.la = t ∧ s.til = t + t35T b + charT b))

def ClSent (g : Nat) (b : Int) (U : Int) (q : Rq) (cnt en lat : Int) (out : List UInt8) (W : World) (r : Ending) (w' : World) : Prop :=
  r = .returned (.int .i64 0) ∧ ClAt g 0 b U q cnt (en + t35T b + lat) out w' ∧ Keeps (· = g) W w'

theorem cl_sent {g u : Nat} {F : List UInt8} {s : Lk} {W : World} (h : LkOk g u F s W) (hph : s.ph = 1) (hti : s.ti = 5000) (lat : Int) (hlat1 : 0 ≤ lat) (hlat2 : lat ≤ 5000) (out : List UInt8) :
    Calls Try.prog 22 #[.pointer (some ⟨g, 0, none⟩), .int .i64 (s.now + frameT s.b F.length)] W (ClSent g s.b s.un s.q (s.cnt + 1) (s.now + frameT s.b F.length) lat out W) := by
  obtain ⟨f1, f2⟩ := frameT_bd h.set h.flen
  obtain ⟨t1, t2, _, _, t5, t6⟩ := time_bd h.set
  have hc := h.ph1 hph
  have hr := h.re1
  have hc1 := h.cnt1
  have hn1 := h.now1
  have hn2 := h.now2
  have htm : top s u ≤ 80000000 := top_max (by omega) h.ulim
  refine (lksent_ok g s _ W h.at_ hph h.now1 (by omega) (by omega) h.set h.ti1 (by omega) h.cnt1 (by omega)).mono ?_
  rintro r w' ⟨rg, rfl, hl, hrg, hrx, hk⟩
  refine ⟨rfl, ⟨s.sent (s.now + frameT s.b F.length) (.pointer (some ⟨rg, 0, none⟩)), rg, ⟨charT s.b, t15T s.b, t35T s.b, [], 0, 0, 0, false, 0, 0⟩, none, 0, hl,
      { rx := rfl, at_ := hrx, own := World.ownsRow_nil _ _ _ _, low := Nat.lt_of_lt_of_le h.at_.lt hrg, short := by show 0 < 256; decide, la0 := by show (0 : Int) ≤ 0; decide, la1 := by show (0 : Int) ≤ 0; decide, idz := by show (0 : Int) ≤ 0; decide, ch0 := by show 0 ≤ charT s.b; omega, ch1 := by show charT s.b ≤ _; omega, tq0 := by show 0 ≤ t35T s.b; omega, tq1 := by show t35T s.b ≤ _; omega },
      rfl, rfl, rfl, rfl, rfl, rfl, rfl, rfl, by show (0 : Int) ≤ _; omega, .inl ⟨rfl, rfl, rfl, by show s.now + frameT s.b F.length < _; omega, by show _ ≤ s.now + frameT s.b F.length + t35T s.b + s.ti + charT s.b; omega⟩⟩, hk⟩

def ClChar (g k : Nat) (b : Int) (U : Int) (q : Rq) (cnt t : Int) (out : List UInt8) (W : World) (r : Ending) (w' : World) : Prop :=
  r = .returned (.int .i64 0) ∧ ClAt g (k + 1) b U q cnt (t + charT b) out w' ∧ Below g W w'

theorem orI_zero : orI 0 (andI 0 3) = 0 := by decide +kernel

theorem cl_char {g k : Nat} {b p U : Int} {q : Rq} {cnt t : Int} {out : List UInt8} {W : World} (h : ClAt g k b U q cnt t out W) (hset : Okset b p) (ht0 : 0 ≤ t) (htm : t ≤ 1000000000) (hk : k < out.length) (hk2 : k < 255) :
    Calls Try.prog 25 #[.pointer (some ⟨g, 0, none⟩), .agg #[.int .i64 (t + charT b), .int .u8 ((out.getD k 0).toNat : Int), .int .i64 0]] W (ClChar g k b U q cnt t out W) := by
  obtain ⟨s, rg, x, a, c, hl, hx, h1, h2, h3, h4, h5, h6, h7, h8, h9, hp⟩ := h
  obtain ⟨t1, t2, _, _, t5, t6⟩ := time_bd hset
  have hlen : x.bs.length = k := by rw [h4]; simp; omega
  have hsil : x.act = true → x.sil (t + charT b) = 0 := by
    intro hact
    rcases hp with ⟨_, _, e, _⟩ | ⟨_, _, _, e, _⟩
    · rw [e] at hact; cases hact
    · unfold Rx.sil
      rw [h6, e, if_neg (by omega)]
  have hends : x.ends (t + charT b) = false := by
    unfold Rx.ends
    cases hact : x.act with
    | false => rfl
    | true =>
      rw [hsil hact, h7]
      simp
      omega
  have hgap : gapF x (x.sil (t + charT b)) = 0 := by
    unfold gapF
    by_cases hact : x.act = true
    · rw [hsil hact, if_neg, h5]
      rintro ⟨_, h⟩
      have : 750 ≤ t15T b := by assumption
      omega
    · rw [if_neg (fun h => hact h.1), h5]
  have hnew : x.char (t + charT b) (out.getD k 0) 0 = x.add (t + charT b) (out.getD k 0) 0 (x.sil (t + charT b)) := by
    unfold Rx.char
    rw [if_neg (by rw [hends]; decide)]
  have hbs : (x.char (t + charT b) (out.getD k 0) 0).bs = out.take (k + 1) := by
    rw [hnew]
    show (if x.bs.length < 256 then x.bs ++ [out.getD k 0] else x.bs) = _
    rw [if_pos (by omega), h4, List.take_succ_eq_append_getElem hk]
    simp [List.getD, hk]
  have hfl : (x.char (t + charT b) (out.getD k 0) 0).fl = 0 := by
    rw [hnew]
    show orI (if x.bs.length < 256 then gapF x (x.sil (t + charT b)) else orI (gapF x (x.sil (t + charT b))) 8) (andI 0 3) = 0
    rw [if_pos (by omega), hgap]
    exact orI_zero
  have hcond : (0 ≤ t + charT b ∧ t + charT b ≤ s.til) ∧ (s.ph = 3 ∨ (s.ph = 2 ∧ s.en < t + charT b)) := by
    rcases hp with ⟨_, e1, _, e2, e3⟩ | ⟨_, e1, _, _, e2⟩
    · exact ⟨⟨by omega, e3⟩, .inr ⟨e1, e2⟩⟩
    · exact ⟨⟨by omega, by omega⟩, .inl e1⟩
  have hlow := hx.low
  refine (lkchar_hear g rg s x a c (t + charT b) (out.getD k 0) 0 W hl hx hcond.1 (by omega) hcond.2 (by omega) hends).mono ?_
  rintro r w' ⟨a', c', rfl, hl', hx', ho', hn', hkk⟩
  refine ⟨rfl, ⟨s.heard x (t + charT b), rg, _, a', c', hl', ?_, h1, h2, h3, hbs, hfl, by rw [Rx.char_ch]; exact h6, by rw [Rx.char_t35]; exact h7, by rw [Rx.char_t15]; exact h8, Int.le_refl _, .inr ⟨by omega, rfl, rfl, rfl, by show t + charT b + x.t35 + x.ch = _; rw [h6, h7]⟩⟩, ?_⟩
  · exact { rx := hx.rx, at_ := hx', own := ho', low := hlow, short := by rw [hbs]; simp; omega, la0 := by rw [Rx.char_la]; omega, la1 := by rw [Rx.char_la]; exact Int.le_refl _, idz := by rw [Rx.char_id]; exact hx.idz, ch0 := by rw [Rx.char_ch]; exact hx.ch0, ch1 := by rw [Rx.char_ch]; exact hx.ch1, tq0 := by rw [Rx.char_t35]; exact hx.tq0, tq1 := by rw [Rx.char_t35]; exact hx.tq1 }
  · exact hkk.below (Nat.le_of_lt hl.lt) (fun k hk' e => by
      rcases e with e | e | e
      · omega
      · omega
      · have := (hx.own.lt k e).1; omega)

/-- The link is done, with this outcome. -/
def DnAt (g : Nat) (O : Oc) (cnt : Int) (W : World) : Prop := ∃ s, LkAt W g s ∧ s.ph = 5 ∧ OutIs W s ∧ s.o = O ∧ s.cnt = cnt

def ClSil (g : Nat) (O : Oc) (cnt : Int) (W : World) (r : Ending) (w' : World) : Prop := r = .returned (.int .i64 0) ∧ DnAt g O cnt w' ∧ Below g W w'

theorem cl_silence {g k : Nat} {b p U : Int} {q : Rq} {cnt t : Int} {out : List UInt8} {W : World} (h : ClAt g k b U q cnt t out W) (hset : Okset b p) (htm : t ≤ 1000000000) (hk : k = out.length) (hk0 : 1 ≤ k) {O : Oc} (hO : judgeB crcChk U q 0 out = O) (hv : O.verdict = 1 ∨ O.verdict = 2) :
    Calls Try.prog 26 #[.pointer (some ⟨g, 0, none⟩)] W (ClSil g O cnt W) := by
  obtain ⟨s, rg, x, a, c, hl, hx, h1, h2, h3, h4, h5, h6, h7, h8, h9, hp⟩ := h
  obtain ⟨t1, t2, _, _, t5, t6⟩ := time_bd hset
  obtain ⟨_, e1, e2, e3, e4⟩ : 1 ≤ k ∧ s.ph = 3 ∧ x.act = true ∧ x.la = t ∧ s.til = t + t35T b + charT b := by
    rcases hp with ⟨e, _⟩ | h
    · omega
    · exact h
  have hO2 : judgeB crcChk s.un s.q x.fl x.bs = O := by rw [h1, h2, h5, h4, hk, List.take_length]; exact hO
  have hsm := judge_small crcChk s.un s.q x.fl x.bs
  rw [hO2] at hsm
  have hlow := hx.low
  refine (silence_good g rg s x a c O W hl hx e1 e2 (by omega) (by omega) hO2 hv).mono ?_
  rintro r w' ⟨da, dc, oa, oc, rfl, hl', ho, hkk⟩
  exact ⟨rfl, ⟨_, hl', rfl, ⟨ho w' (Agree.refl _ _), rfl, rfl, hsm⟩, rfl, h3⟩, hkk.below (Nat.le_of_lt hl.lt) (fun k hk' e => by rcases e with e | e <;> omega)⟩

/-- A frame of a reply that matches is judged clean. -/
theorem judge_clean {U : Int} {q : Rq} {r : Rp} (h1 : 1 ≤ U) (h2 : U ≤ 247) (hr : r.ok = true) (hf : r.fn = q.fn) (hq : q.ok = true) (hm : matchB q r = true) (hx : r.exc = 0) : judgeB crcChk U q 0 (aduF (UInt8.ofNat U.toNat) r.pdu) = ⟨1, r⟩ := by
  obtain ⟨p1, p2⟩ := pdu_le' hr
  have hal := aduF_length (UInt8.ofNat U.toNat) r.pdu
  have hu : ((UInt8.ofNat U.toNat).toNat : Int) = U := by
    rw [UInt8.toNat_ofNat']
    omega
  have hsp : splitB crcChk (aduF (UInt8.ofNat U.toNat) r.pdu) = some (U, r.pdu) := by
    unfold splitB
    have hd : (aduF (UInt8.ofNat U.toNat) r.pdu).getD 0 0 = UInt8.ofNat U.toNat := rfl
    rw [hd, hu, if_pos ⟨by omega, by omega, chk_tail _, h1, h2⟩]
    have : ((aduF (UInt8.ofNat U.toNat) r.pdu).take ((aduF (UInt8.ofNat U.toNat) r.pdu).length - 2)).drop 1 = r.pdu := by
      rw [hal]
      simp [aduF, crcTail]
    rw [this]
  unfold judgeB
  rw [hsp]
  simp only
  rw [if_pos (by simp)]
  unfold readB
  rw [if_pos hq, dec_pdu hr]
  simp only
  rw [if_pos ⟨hf, hm⟩]
  unfold judgeR
  simp only
  rw [if_neg (by rw [hx]; decide), if_pos hx]

end Go.Proofs.Ytoaajdbjlaffgaa
