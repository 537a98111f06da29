/-
  A silent attempt of a link, step by step: sent, silent, drained.
-/
import Derived.Test.YtoaajdbjlaffgaaLkO
namespace Go.Proofs.Ytoaajdbjlaffgaa
open Go.RowKit

/-- A link of a call's own, with its frame and its verdicts so far, and a block of four cells beside it. -/
structure AwB (w : World) (g : Nat) (l : List Int) (F : List UInt8) (s : Lk) (W : World) : Prop where
  at_ : LkAt W g s
  seen : SeenAt W g s l
  fr : Bs W (.slice s.fa s.fn s.fc) F
  fra : ∀ ad, s.fa = some ad → ad.block < W.heap.size ∧ ad.block ≠ g ∧ (Value.slice s.sa s.sn s.sc).ownBlock ≠ some ad.block
  bel : Below w.heap.size w W
  low : w.heap.size ≤ g
  set : Okset s.b s.p
  ti1 : 0 ≤ s.ti
  ti2 : s.ti ≤ 5000000
  dr1 : 0 ≤ s.dr
  dr2 : s.dr ≤ 100000000
  cnt1 : 0 ≤ s.cnt
  cnt2 : s.cnt ≤ 900
  len : l.length ≤ 900

theorem AwB.below {w W W' : World} {g : Nat} {l : List Int} {F : List UInt8} {s : Lk} (h : AwB w g l F s W) (hb : Below W.heap.size W W') : AwB w g l F s W' :=
  { h with
    at_ := h.at_.keep hb
    seen := ⟨own_keeps h.seen.own (Keeps.of_below (F := fun _ => False) hb) (fun _ _ f => f), h.seen.len⟩
    fr := h.fr.keep hb
    fra := fun ad had => ⟨Nat.lt_of_lt_of_le (h.fra ad had).1 hb.size, (h.fra ad had).2⟩
    bel := bt h.bel hb (Nat.le_refl _) }

/-- Only the link's own block has changed, and its verdicts and frame are the same. -/
theorem AwB.self {w W W' : World} {g : Nat} {l : List Int} {F : List UInt8} {s s' : Lk} (h : AwB w g l F s W) (hk : Keeps (· = g) W W') (hl : LkAt W' g s') (e1 : s'.sa = s.sa) (e2 : s'.sn = s.sn) (e3 : s'.sc = s.sc) (e4 : s'.fa = s.fa) (e5 : s'.fn = s.fn) (e6 : s'.fc = s.fc)
    (e7 : s'.b = s.b) (e8 : s'.p = s.p) (e9 : s'.ti = s.ti) (e10 : s'.dr = s.dr) (c1 : 0 ≤ s'.cnt) (c2 : s'.cnt ≤ 900) : AwB w g l F s' W' where
  at_ := hl
  seen := by
    refine ⟨?_, by rw [e2]; exact h.seen.len⟩
    rw [e1, e2, e3]
    exact own_keeps h.seen.own hk (fun k hk e => by
      have h1 := (h.seen.own.lt k hk).1
      have h2 : k = g := e
      omega)
  fr := by
    rw [e4, e5, e6]
    exact h.fr.keepF hk (fun ad had => (h.fra ad had).2.1)
  fra := fun ad had => by
    rw [e4] at had
    rw [e1, e2, e3]
    exact ⟨Nat.lt_of_lt_of_le (h.fra ad had).1 hk.size, (h.fra ad had).2⟩
  bel := h.bel.trans (hk.below h.bel.size (fun k hk e => by have := h.low; omega))
  low := h.low
  set := by rw [e7, e8]; exact h.set
  ti1 := by rw [e9]; exact h.ti1
  ti2 := by rw [e9]; exact h.ti2
  dr1 := by rw [e10]; exact h.dr1
  dr2 := by rw [e10]; exact h.dr2
  cnt1 := c1
  cnt2 := c2
  len := h.len

/-- A verdict more. -/
theorem AwB.more {w W W' : World} {g : Nat} {l : List Int} {F : List UInt8} {s : Lk} {v : Int} {sa : Option Addr} {sc : Nat} (h : AwB w g l F s W) (hlen : l.length < 900) (hl : LkAt W' g (s.drains sa sc)) (hs : SeenAt W' g (s.drains sa sc) (l ++ [v]))
    (hn : NewOr W (.slice s.sa s.sn s.sc) (.slice sa (s.sn + 1) sc)) (hk : Keeps (fun j => j = g ∨ (Value.slice s.sa s.sn s.sc).ownBlock = some j) W W') : AwB w g (l ++ [v]) F (s.drains sa sc) W' where
  at_ := hl
  seen := hs
  fr := h.fr.keepF hk (fun ad had e => e.elim (h.fra ad had).2.1 (h.fra ad had).2.2)
  fra := fun ad had => by
    have h1 := h.fra ad had
    refine ⟨Nat.lt_of_lt_of_le h1.1 hk.size, h1.2.1, fun e => ?_⟩
    rcases hn with h2 | ⟨j, h2, hj⟩
    · exact h1.2.2 (h2 ▸ e)
    · have e' : (Value.slice sa (s.sn + 1) sc).ownBlock = some ad.block := e
      rw [h2] at e'
      cases e'
      omega
  bel := h.bel.trans (hk.below h.bel.size (fun k hk e => by
    have := h.low
    rcases e with e | e
    · omega
    · have := (h.seen.own.lt k e).1
      omega))
  low := h.low
  set := h.set
  ti1 := h.ti1
  ti2 := h.ti2
  dr1 := h.dr1
  dr2 := h.dr2
  cnt1 := h.cnt1
  cnt2 := h.cnt2
  len := by rw [List.length_append]; exact hlen


/-- A step that answers 0, leaves the link so, and a block apart as it was. -/
def Step0 (w : World) (g : Nat) (F : List UInt8) (pa : Nat) (A : Obj) (P : List Int → Lk → Prop) (r : Ending) (w' : World) : Prop :=
  r = .returned (.int .i64 0) ∧ ∃ l s, AwB w g l F s w' ∧ P l s ∧ w'.heap[pa]? = some A

theorem step_sent {w W : World} {g : Nat} {l : List Int} {F : List UInt8} {s : Lk} {pa : Nat} {A : Obj} (h : AwB w g l F s W) (hph : s.ph = 1) (hn0 : 0 ≤ s.now) (hn : s.now ≤ 1000000000) (hc : s.cnt < 900) (hp : W.heap[pa]? = some A) (hpg : pa ≠ g) :
    Calls Try.prog 22 #[.pointer (some ⟨g, 0, none⟩), .int .i64 (s.now + 100)] W (Step0 w g F pa A fun l' s' => l' = l ∧ ∃ rx, s' = s.sent (s.now + 100) rx) := by
  refine (lksent_ok g s (s.now + 100) W h.at_ hph hn0 (by omega) (by omega) h.set h.ti1 h.ti2 h.cnt1 (by have := h.cnt2; omega)).mono ?_
  rintro r w' ⟨rg, rfl, hl, _, _, hk⟩
  exact ⟨rfl, l, _, h.self hk hl rfl rfl rfl rfl rfl rfl rfl rfl rfl rfl (by show 0 ≤ s.cnt + 1; have := h.cnt1; omega) (by show s.cnt + 1 ≤ 900; omega), ⟨rfl, _, rfl⟩, hpKeeps hp hk hpg⟩

theorem step_wait {w W : World} {g : Nat} {l : List Int} {F : List UInt8} {s : Lk} {pa : Nat} {A : Obj} (h : AwB w g l F s W) (hph : s.ph = 2) (he1 : 0 ≤ s.en) (he2 : s.en ≤ 1152921504606846976) (hlen : l.length < 900) (hp : W.heap[pa]? = some A) (hpg : pa ≠ g) (hps : (Value.slice s.sa s.sn s.sc).ownBlock ≠ some pa) :
    Calls Try.prog 26 #[.pointer (some ⟨g, 0, none⟩)] W (Step0 w g F pa A fun l' s' => l' = l ++ [3] ∧ ∃ sa sc, s' = s.drains sa sc) := by
  refine (silence_wait g s l W h.at_ h.seen hph (by have := h.seen.len; omega) he1 he2 h.dr1 h.dr2).mono ?_
  rintro r w' ⟨sa, sc, rfl, hl, hs, hn, hk⟩
  exact ⟨rfl, _, _, h.more hlen hl hs hn hk, ⟨rfl, sa, sc, rfl⟩, hpKeeps hp hk (fun e => e.elim hpg hps)⟩

theorem step_more {w W : World} {g : Nat} {l : List Int} {F : List UInt8} {s : Lk} {pa : Nat} {A : Obj} (h : AwB w g l F s W) (hph : s.ph = 4) (hc : s.cnt ≤ s.re) (hp : W.heap[pa]? = some A) (hpg : pa ≠ g) :
    Calls Try.prog 26 #[.pointer (some ⟨g, 0, none⟩)] W (Step0 w g F pa A fun l' s' => l' = l ∧ s' = { s with now := s.til, ph := 1 }) := by
  refine (silence_more g s W h.at_ hph hc).mono ?_
  rintro r w' ⟨rfl, hl, hk⟩
  exact ⟨rfl, _, _, h.self hk hl rfl rfl rfl rfl rfl rfl rfl rfl rfl rfl h.cnt1 h.cnt2, ⟨rfl, rfl⟩, hpKeeps hp hk hpg⟩

theorem step_done {w W : World} {g : Nat} {l : List Int} {F : List UInt8} {s : Lk} {pa : Nat} {A : Obj} (h : AwB w g l F s W) (hb : BadL l) (hph : s.ph = 4) (hc : ¬ s.cnt ≤ s.re) (hp : W.heap[pa]? = some A) (hpg : pa ≠ g) :
    Calls Try.prog 26 #[.pointer (some ⟨g, 0, none⟩)] W (Step0 w g F pa A fun l' s' => l' = l ∧ s' = Lk.silent { s with now := s.til } (sumV l)) := by
  refine (silence_done g s l W h.at_ h.seen hb hph hc).mono ?_
  rintro r w' ⟨rfl, hl, hk⟩
  exact ⟨rfl, _, _, h.self hk hl rfl rfl rfl rfl rfl rfl rfl rfl rfl rfl h.cnt1 h.cnt2, ⟨rfl, rfl⟩, hpKeeps hp hk hpg⟩

end Go.Proofs.Ytoaajdbjlaffgaa
