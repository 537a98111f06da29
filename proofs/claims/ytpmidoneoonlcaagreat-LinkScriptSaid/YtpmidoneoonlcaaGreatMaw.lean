/-
  Several texts of this claim in one file.
-/
import Derived.Test.YtpmidoneoonlcaaGreatMlk
import Derived.Deep.RegionHeld3
import Derived.Deep.RegionHeldLaw
/-
A silent attempt of a link, step by step: sent, silent, drained.
-/
namespace Go.Proofs.YtpmidoneoonlcaaGreat
open Go.RowKit

/-- A link of a call's own, with its frame and its verdicts so far, and a block of four cells beside it. -/
structure AwB (w : World) (g : Nat) (l : List Int) (F : List UInt8) (s : Lk) (W : World) : Prop where
  at_ : LkAt W g s
  seen : SeenAt W g s l
  fr : Bs W (.slice s.fa s.fn s.fc) F
  fra : ∀ ad, s.fa = some ad → ad.block < W.heap.size ∧ ad.block ≠ g ∧ (Value.slice s.sa s.sn s.sc).ownBlock ≠ some ad.block
  bel : Below w.heap.size w W
  low : w.heap.size ≤ g
  set : Okset s.b s.p
  ti1 : 0 ≤ s.ti
  ti2 : s.ti ≤ 5000000
  dr1 : 0 ≤ s.dr
  dr2 : s.dr ≤ 100000000
  cnt1 : 0 ≤ s.cnt
  cnt2 : s.cnt ≤ 900
  len : l.length ≤ 900

theorem AwB.below {w W W' : World} {g : Nat} {l : List Int} {F : List UInt8} {s : Lk} (h : AwB w g l F s W) (hb : Below W.heap.size W W') : AwB w g l F s W' :=
  { h with
    at_ := h.at_.keep hb
    seen := ⟨own_keeps h.seen.own (Keeps.of_below (F := fun _ => False) hb) (fun _ _ f => f), h.seen.len⟩
    fr := h.fr.keep hb
    fra := fun ad had => ⟨Nat.lt_of_lt_of_le (h.fra ad had).1 hb.size, (h.fra ad had).2⟩
    bel := bt h.bel hb (Nat.le_refl _) }

/-- Only the link's own block has changed, and its verdicts and frame are the same. -/
theorem AwB.self {w W W' : World} {g : Nat} {l : List Int} {F : List UInt8} {s s' : Lk} (h : AwB w g l F s W) (hk : Keeps (· = g) W W') (hl : LkAt W' g s') (e1 : s'.sa = s.sa) (e2 : s'.sn = s.sn) (e3 : s'.sc = s.sc) (e4 : s'.fa = s.fa) (e5 : s'.fn = s.fn) (e6 : s'.fc = s.fc)
    (e7 : s'.b = s.b) (e8 : s'.p = s.p) (e9 : s'.ti = s.ti) (e10 : s'.dr = s.dr) (c1 : 0 ≤ s'.cnt) (c2 : s'.cnt ≤ 900) : AwB w g l F s' W' where
  at_ := hl
  seen := by
    refine ⟨?_, by rw [e2]; exact h.seen.len⟩
    rw [e1, e2, e3]
    exact own_keeps h.seen.own hk (fun k hk e => by
      have h1 := (h.seen.own.lt k hk).1
      have h2 : k = g := e
      omega)
  fr := by
    rw [e4, e5, e6]
    exact h.fr.keepF hk (fun ad had => (h.fra ad had).2.1)
  fra := fun ad had => by
    rw [e4] at had
    rw [e1, e2, e3]
    exact ⟨Nat.lt_of_lt_of_le (h.fra ad had).1 hk.size, (h.fra ad had).2⟩
  bel := h.bel.trans (hk.below h.bel.size (fun k hk e => by have := h.low; omega))
  low := h.low
  set := by rw [e7, e8]; exact h.set
  ti1 := by rw [e9]; exact h.ti1
  ti2 := by rw [e9]; exact h.ti2
  dr1 := by rw [e10]; exact h.dr1
  dr2 := by rw [e10]; exact h.dr2
  cnt1 := c1
  cnt2 := c2
  len := h.len

/-- A verdict more. -/
theorem AwB.more {w W W' : World} {g : Nat} {l : List Int} {F : List UInt8} {s : Lk} {v : Int} {sa : Option Addr} {sc : Nat} (h : AwB w g l F s W) (hlen : l.length < 900) (hl : LkAt W' g (s.drains sa sc)) (hs : SeenAt W' g (s.drains sa sc) (l ++ [v]))
    (hn : NewOr W (.slice s.sa s.sn s.sc) (.slice sa (s.sn + 1) sc)) (hk : Keeps (fun j => j = g ∨ (Value.slice s.sa s.sn s.sc).ownBlock = some j) W W') : AwB w g (l ++ [v]) F (s.drains sa sc) W' where
  at_ := hl
  seen := hs
  fr := h.fr.keepF hk (fun ad had e => e.elim (h.fra ad had).2.1 (h.fra ad had).2.2)
  fra := fun ad had => by
    have h1 := h.fra ad had
    refine ⟨Nat.lt_of_lt_of_le h1.1 hk.size, h1.2.1, fun e => ?_⟩
    rcases hn with h2 | ⟨j, h2, hj⟩
    · exact h1.2.2 (h2 ▸ e)
    · have e' : (Value.slice sa (s.sn + 1) sc).ownBlock = some ad.block := e
      rw [h2] at e'
      cases e'
      omega
  bel := h.bel.trans (hk.below h.bel.size (fun k hk e => by
    have := h.low
    rcases e with e | e
    · omega
    · have := (h.seen.own.lt k e).1
      omega))
  low := h.low
  set := h.set
  ti1 := h.ti1
  ti2 := h.ti2
  dr1 := h.dr1
  dr2 := h.dr2
  cnt1 := h.cnt1
  cnt2 := h.cnt2
  len := by rw [List.length_append]; exact hlen


/-- A step that answers 0, leaves the link so, and a block apart as it was. -/
def Step0 (w : World) (g : Nat) (F : List UInt8) (pa : Nat) (A : Obj) (P : List Int → Lk → Prop) (r : Ending) (w' : World) : Prop :=
  r = .returned (.int .i64 0) ∧ ∃ l s, AwB w g l F s w' ∧ P l s ∧ w'.heap[pa]? = some A

theorem step_sent {w W : World} {g : Nat} {l : List Int} {F : List UInt8} {s : Lk} {pa : Nat} {A : Obj} (h : AwB w g l F s W) (hph : s.ph = 1) (hn0 : 0 ≤ s.now) (hn : s.now ≤ 1000000000) (hc : s.cnt < 900) (hp : W.heap[pa]? = some A) (hpg : pa ≠ g) :
    Calls Tryz.prog 12 #[.pointer (some ⟨g, 0, none⟩), .int .i64 (s.now + 100)] W (Step0 w g F pa A fun l' s' => l' = l ∧ ∃ rx, s' = s.sent (s.now + 100) rx) := by
  refine (lksent_ok g s (s.now + 100) W h.at_ hph hn0 (by omega) (by omega) h.set h.ti1 h.ti2 h.cnt1 (by have := h.cnt2; omega)).mono ?_
  rintro r w' ⟨rg, rfl, hl, _, _, hk⟩
  exact ⟨rfl, l, _, h.self hk hl rfl rfl rfl rfl rfl rfl rfl rfl rfl rfl (by show 0 ≤ s.cnt + 1; have := h.cnt1; omega) (by show s.cnt + 1 ≤ 900; omega), ⟨rfl, _, rfl⟩, hpKeeps hp hk hpg⟩

theorem step_wait {w W : World} {g : Nat} {l : List Int} {F : List UInt8} {s : Lk} {pa : Nat} {A : Obj} (h : AwB w g l F s W) (hph : s.ph = 2) (he1 : 0 ≤ s.en) (he2 : s.en ≤ 1152921504606846976) (hlen : l.length < 900) (hp : W.heap[pa]? = some A) (hpg : pa ≠ g) (hps : (Value.slice s.sa s.sn s.sc).ownBlock ≠ some pa) :
    Calls Tryz.prog 16 #[.pointer (some ⟨g, 0, none⟩)] W (Step0 w g F pa A fun l' s' => l' = l ++ [3] ∧ ∃ sa sc, s' = s.drains sa sc) := by
  refine (silence_wait g s l W h.at_ h.seen hph (by have := h.seen.len; omega) he1 he2 h.dr1 h.dr2).mono ?_
  rintro r w' ⟨sa, sc, rfl, hl, hs, hn, hk⟩
  exact ⟨rfl, _, _, h.more hlen hl hs hn hk, ⟨rfl, sa, sc, rfl⟩, hpKeeps hp hk (fun e => e.elim hpg hps)⟩

theorem step_more {w W : World} {g : Nat} {l : List Int} {F : List UInt8} {s : Lk} {pa : Nat} {A : Obj} (h : AwB w g l F s W) (hph : s.ph = 4) (hc : s.cnt ≤ s.re) (hp : W.heap[pa]? = some A) (hpg : pa ≠ g) :
    Calls Tryz.prog 16 #[.pointer (some ⟨g, 0, none⟩)] W (Step0 w g F pa A fun l' s' => l' = l ∧ s' = { s with now := s.til, ph := 1 }) := by
  refine (silence_more g s W h.at_ hph hc).mono ?_
  rintro r w' ⟨rfl, hl, hk⟩
  exact ⟨rfl, _, _, h.self hk hl rfl rfl rfl rfl rfl rfl rfl rfl rfl rfl h.cnt1 h.cnt2, ⟨rfl, rfl⟩, hpKeeps hp hk hpg⟩

theorem step_done {w W : World} {g : Nat} {l : List Int} {F : List UInt8} {s : Lk} {pa : Nat} {A : Obj} (h : AwB w g l F s W) (hb : BadL l) (hph : s.ph = 4) (hc : ¬ s.cnt ≤ s.re) (hp : W.heap[pa]? = some A) (hpg : pa ≠ g) :
    Calls Tryz.prog 16 #[.pointer (some ⟨g, 0, none⟩)] W (Step0 w g F pa A fun l' s' => l' = l ∧ s' = Lk.silent { s with now := s.til } (sumV l)) := by
  refine (silence_done g s l W h.at_ h.seen hb hph hc).mono ?_
  rintro r w' ⟨rfl, hl, hk⟩
  exact ⟨rfl, _, _, h.self hk hl rfl rfl rfl rfl rfl rfl rfl rfl rfl rfl h.cnt1 h.cnt2, ⟨rfl, rfl⟩, hpKeeps hp hk hpg⟩

end Go.Proofs.YtpmidoneoonlcaaGreat

/-
The contract of modscanlaw19.Awake.
-/
namespace Go.Proofs.YtpmidoneoonlcaaGreat
open Go.RowKit

def awF : List UInt8 := aduF (UInt8.ofNat (5 : Int).toNat) (Rq.pdu ⟨17, 0, 0, 0, 0⟩)
theorem awF_len : awF.length = 4 := rfl

/-- Where the check stands at the head of its round k. -/
def AwR (w : World) (g : Nat) (k : Nat) (l : List Int) (s : Lk) (W : World) : Prop :=
  AwB w g l awF s W ∧ l = List.replicate k 3 ∧ s.cnt = k ∧ s.re = 1 ∧ s.ti = 1000 ∧ s.dr ≤ 10000000 ∧ 0 ≤ s.now ∧ s.now ≤ 100000000 * (k : Int) ∧ (k < 2 → s.ph = 1) ∧ (k = 2 → ∃ s0 : Lk, s = s0.silent 3)

/-- The block of the action is as it was. -/
def PaS (pa : Nat) (A : Obj) (W : World) : Prop := W.heap[pa]? = some A

def AwFin (k : Nat) (l : List Int) (s : Lk) : Prop := l = List.replicate k 3 ∧ s.cnt = k ∧ s.re = 1 ∧ s.ti = 1000 ∧ s.dr ≤ 10000000 ∧ 0 ≤ s.now ∧ s.now ≤ 100000000 * (k : Int) ∧ (k < 2 → s.ph = 1) ∧ (k = 2 → ∃ s0 : Lk, s = s0.silent 3)

theorem replicate_snoc3 (k : Nat) : List.replicate k (3 : Int) ++ [3] = List.replicate (k + 1) 3 := by rw [List.replicate_succ']

theorem aw_last {w W : World} {g k : Nat} {l : List Int} {s s2 : Lk} {pa : Nat} {A : Obj} {rx : Value} {sa : Option Addr} {sc : Nat} (h : AwB w g l awF s2 W) (hk : k < 2) (hl : l = List.replicate (k + 1) 3) (he : s2 = (s.sent (s.now + 100) rx).drains sa sc)
    (hR : s.cnt = k ∧ s.re = 1 ∧ s.ti = 1000 ∧ s.dr ≤ 10000000 ∧ 0 ≤ s.now ∧ s.now ≤ 100000000 * (k : Int)) (hp : W.heap[pa]? = some A) (hpg : pa ≠ g) :
    Calls Tryz.prog 16 #[.pointer (some ⟨g, 0, none⟩)] W (Step0 w g awF pa A (AwFin (k + 1))) := by
  obtain ⟨r1, r2, r3, r4, r5, r6⟩ := hR
  obtain ⟨t1, t2, _, _, t5, t6⟩ := time_bd (b := s.b) (p := s.p) (by have := h.set; rw [he] at this; exact this)
  have d1 := h.dr1
  rw [he] at d1
  have d1' : 0 ≤ s.dr := d1
  have htil : 0 ≤ s2.til ∧ s2.til ≤ s.now + 20000000 := by
    rw [he]
    show 0 ≤ (if s.now + 100 + t35T s.b + s.ti + charT s.b < s.now + 100 + s.dr then s.now + 100 + s.dr else s.now + 100 + t35T s.b + s.ti + charT s.b) ∧ (if s.now + 100 + t35T s.b + s.ti + charT s.b < s.now + 100 + s.dr then s.now + 100 + s.dr else s.now + 100 + t35T s.b + s.ti + charT s.b) ≤ _
    split <;> omega
  have hcnt : s2.cnt = (k : Int) + 1 := by rw [he]; show s.cnt + 1 = _; omega
  have hre : s2.re = 1 := by rw [he]; exact r2
  have hti : s2.ti = 1000 := by rw [he]; exact r3
  have hdr : s2.dr ≤ 10000000 := by rw [he]; exact r4
  have hph : s2.ph = 4 := by rw [he]; rfl
  rcases (show k = 0 ∨ k = 1 by omega) with rfl | rfl
  · refine (step_more h hph (by omega) hp hpg).mono ?_
    rintro r w' ⟨rfl, l', s', hB, ⟨rfl, rfl⟩, hq⟩
    exact ⟨rfl, _, _, hB, ⟨hl, by show s2.cnt = _; omega, hre, hti, hdr, htil.1, by show s2.til ≤ _; omega, fun _ => rfl, fun h => by cases h⟩, hq⟩
  · refine (step_done h ⟨by rw [hl]; decide, fun v hv => .inl (by rw [hl] at hv; exact List.eq_of_mem_replicate hv)⟩ hph (by omega) hp hpg).mono ?_
    rintro r w' ⟨rfl, l', s', hB, ⟨rfl, rfl⟩, hq⟩
    have hsum : sumV l' = 3 := by rw [hl]; rfl
    refine ⟨rfl, _, _, hB, ⟨hl, by show s2.cnt = _; omega, hre, hti, hdr, htil.1, by show s2.til ≤ _; omega, fun h => absurd h (by decide), fun _ => ⟨{ s2 with now := s2.til }, by rw [hsum]⟩⟩, hq⟩

end Go.Proofs.YtpmidoneoonlcaaGreat

/-
The walk of modscanlaw19.Awake.
-/
namespace Go.Proofs.YtpmidoneoonlcaaGreat
open Go.RowKit

set_option maxRecDepth 100000 in
set_option maxHeartbeats 12800000 in
theorem lkawake_any (w : World) : Calls Tryz.prog 8 #[] w fun r w' => r = .returned (.bool true) ∧ Below w.heap.size w w' := by
  have hset : Hid (Okset 9600 0) := ⟨by decide, by decide, by decide⟩
  have HN := hid (lknew_ok 9600 0 1 1000 0 hset (by decide) (by decide) (by decide) (by decide) (by decide) (by decide) w)
  have hdr : 0 ≤ drainT 9600 1000 0 ∧ drainT 9600 1000 0 ≤ 10000000 := by
    obtain ⟨t1, t2, _, _, t5, t6⟩ := time_bd hset.out
    unfold drainT
    omega
  have HDR := hid hdr
  have ss : Hid (∀ (W : World) (v : Value) (l : List UInt8), Bs W v l → (convert 45 9 v).run Tryz.prog W = .ok (.string ⟨l.toArray⟩) W) := fun W v l h => run_str Tryz.underlying45 Tryz.underlying5 h _ Tryz.underlying9
  clear hdr
  go_enter Tryz.func8, Tryz.ntmps8
  go_wp2_with fail
  refine HN.out.mono ?_
  rintro r w1 ⟨g, rfl, hg, hl1, hb1⟩
  have HL1 := hid hl1
  have HBG := hid (lkbegin_ok g _ 5 17 0 0 0 0 0 w1 hl1 (.inl rfl) (by decide) (by decide) (by decide) (by decide) (by decide))
  clear hl1
  go_wp2_with fail
  refine HBG.out.mono ?_
  rintro r w2 ⟨fa, fc, rfl, hl2, hfr2, hfa2, hk2⟩
  have HA2 : Hid (AwR w g 0 [] ((Lk.new 9600 0 1 1000 0).begun 5 ⟨17, 0, 0, 0, 0⟩ 0 fa 4 fc) w2) := by
    refine ⟨⟨hl2, ⟨World.ownsRow_nil _ _ _ _, rfl⟩, hfr2, fun ad had => ?_, hb1.trans (hk2.below hb1.size (fun k hk e => by omega)), hg, hset.out, by show (0 : Int) ≤ 1000; decide, by show (1000 : Int) ≤ _; decide, HDR.out.1, by have := HDR.out.2; show drainT 9600 1000 0 ≤ _; omega, by show (0 : Int) ≤ 0; decide, by show (0 : Int) ≤ _; decide, by decide⟩, rfl, rfl, rfl, rfl, HDR.out.2, by show (0 : Int) ≤ 0; decide, by show (0 : Int) ≤ _; decide, fun _ => rfl, fun h => by cases h⟩
    have h1 := hfa2 ad had
    have h2 := HL1.out.lt
    have had' : fa = some ad := had
    subst had'
    obtain ⟨b', o', hab, hcell⟩ := hfr2.byte (i := 0) (by decide)
    cases hab
    exact ⟨cell_lt hcell, by show b' ≠ g; have h1' : w1.heap.size ≤ b' := h1; omega, by intro h; cases h⟩
  clear hl2 hfr2 hfa2 hk2 hb1 hg HL1 HDR
  go_wp2
  go_loopw [3] (fun i wr => ∃ (k : Nat) (l : List Int) (s : Lk), k ≤ 2 ∧ i = .int .i64 k ∧ Hid (AwR w g k l s wr)) (fun i _ => 2 - (intOf i).toNat)
  case atStart => exact ⟨0, _, _, by omega, rfl, HA2⟩
  case round =>
    obtain ⟨k, l, s, hk, rfl, hA⟩ := hrel
    by_cases hlt : k < 2
    · have hkl : (k : Int) < 2 := by omega
      obtain ⟨hB, hlk, r1, r2, r3, r4, r5, r6, r7, _⟩ := hA.out
      have HAC := hid (action_send g s awF wr hB.at_ (r7 hlt) hB.fr (by rw [awF_len]; decide))
      have HSP : Hid (∀ k, (Value.slice s.sa s.sn s.sc).ownBlock = some k → k < wr.heap.size) := fun k h => (hB.seen.own.lt k h).2
      have hgl := hB.at_.lt
      have HB := hid hB
      have HLK := hid hlk
      have HR := hid (show s.cnt = k ∧ s.re = 1 ∧ s.ti = 1000 ∧ s.dr ≤ 10000000 ∧ 0 ≤ s.now ∧ s.now ≤ 100000000 * (k : Int) from ⟨r1, r2, r3, r4, r5, r6⟩)
      have HP1 := hid (r7 hlt)
      have hn2 : s.now ≤ 100000000 := by omega
      clear hB hlk r1 r2 r3 r4 r6 r7
      go_wp2_with fail
      refine HAC.out.mono ?_
      rintro r w3 ⟨a, c, rfl, hab, hb3⟩
      rw [awF_len] at hab ⊢
      obtain ⟨hla, hac, hcm⟩ := hab.capOf
      obtain ⟨bb, bo, rfl, _⟩ := hab.byte (i := 0) (by omega)
      unfold maxLen at hcm
      obtain ⟨W4, hW4⟩ : ∃ W, w3.alloc (.cells #[.int .i64 1, .int .i64 s.now, .slice (some ⟨bb, bo, none⟩) 4 c] 67) = W := ⟨_, rfl⟩
      have p4 : W4.heap[w3.heap.size]? = some (.cells #[.int .i64 1, .int .i64 s.now, .slice (some ⟨bb, bo, none⟩) 4 c] 67) := by rw [← hW4]; exact hpNew w3 _
      have hb4 : Below w3.heap.size w3 W4 := by rw [← hW4]; exact bal' w3 _
      have hbe : Below w3.heap.size w3 (W4.alloc (.cells #[.int .u8 5, .int .u8 17] 5)).drew := (bta hb4 (Nat.le_refl _) _).drew
      have HE := hid ((HB.out.below hb3).below hbe)
      have PE : Hid ((W4.alloc (.cells #[.int .u8 5, .int .u8 17] 5)).drew.heap[w3.heap.size]? = some (.cells #[.int .i64 1, .int .i64 s.now, .slice (some ⟨bb, bo, none⟩) 4 c] 67)) := hpKeep p4 (bal' W4 _).drew
      have HBF : Hid (∀ W, Below w3.heap.size w3 W → Bs W (.slice (some ⟨bb, bo, none⟩) 2 c) [5, 17]) := fun W hW => (hab.keep hW).takeS (k := 2) (by omega)
      have kD4 : Below w3.heap.size w3 W4.drew := hb4.drew
      have v1 := ss.out W4.drew _ _ (HBF.out _ kD4)
      have v2 := ss.out _ _ _ (HBF.out _ hbe)
      have hlit : Bs (W4.alloc (.cells #[.int .u8 5, .int .u8 17] 5)).drew (.slice (some ⟨W4.heap.size, 0, none⟩) 2 2) [5, 17] := (Bs.newLit W4 [5, 17] _ _ rfl (by decide)).keep (Below.refl _ _).drew
      have v3 := ss.out _ _ _ hlit
      have hpg : w3.heap.size ≠ g := by have := hb3.size; omega
      have HPG := hid hpg
      have hsp : (Value.slice s.sa s.sn s.sc).ownBlock ≠ some w3.heap.size := fun h => by
        have h1 := HSP.out _ h
        have h2 := hb3.size
        omega
      have HSPN := hid hsp
      have HS1 := hid (step_sent HE.out HP1.out HR.out.2.2.2.2.1 (by omega) (by have := HR.out.1; omega) PE.out hpg)
      have HS2 : Hid (∀ W l' s', AwB w g l' awF s' W → (l' = l ∧ ∃ rx, s' = s.sent (s.now + 100) rx) → W.heap[w3.heap.size]? = some (.cells #[.int .i64 1, .int .i64 s.now, .slice (some ⟨bb, bo, none⟩) 4 c] 67) → Calls Tryz.prog 16 #[.pointer (some ⟨g, 0, none⟩)] W (Step0 w g awF w3.heap.size (.cells #[.int .i64 1, .int .i64 s.now, .slice (some ⟨bb, bo, none⟩) 4 c] 67) fun l'' s'' => l'' = List.replicate (k + 1) 3 ∧ ∃ rx sa sc, s'' = (s.sent (s.now + 100) rx).drains sa sc)) := by
        rintro W l' s' h ⟨rfl, rx, rfl⟩ hp
        refine (step_wait h rfl (by show 0 ≤ s.now + 100; have := HR.out.2.2.2.2.1; omega) (by show s.now + 100 ≤ _; omega) (by rw [HLK.out, List.length_replicate]; omega) hp HPG.out HSPN.out).mono ?_
        rintro r w' ⟨rfl, l'', s'', hB', ⟨rfl, sa, sc, rfl⟩, hq⟩
        exact ⟨rfl, _, _, hB', ⟨by rw [HLK.out]; exact replicate_snoc3 k, rx, sa, sc, rfl⟩, hq⟩
      have HS3 : Hid (∀ W l' s', AwB w g l' awF s' W → (l' = List.replicate (k + 1) 3 ∧ ∃ rx sa sc, s' = (s.sent (s.now + 100) rx).drains sa sc) → W.heap[w3.heap.size]? = some (.cells #[.int .i64 1, .int .i64 s.now, .slice (some ⟨bb, bo, none⟩) 4 c] 67) → Calls Tryz.prog 16 #[.pointer (some ⟨g, 0, none⟩)] W (Step0 w g awF w3.heap.size (.cells #[.int .i64 1, .int .i64 s.now, .slice (some ⟨bb, bo, none⟩) 4 c] 67) (AwFin (k + 1)))) := by
        rintro W l' s' h ⟨hl', rx, sa, sc, he⟩ hp
        exact aw_last h hlt hl' he HR.out hp HPG.out
      have kS : PaS w3.heap.size (.cells #[.int .i64 1, .int .i64 s.now, .slice (some ⟨bb, bo, none⟩) 4 c] 67) W4.drew := p4
      have kE : PaS w3.heap.size (.cells #[.int .i64 1, .int .i64 s.now, .slice (some ⟨bb, bo, none⟩) 4 c] 67) (W4.alloc (.cells #[.int .u8 5, .int .u8 17] 5)).drew := PE.out
      have z0 : ∀ W, PaS w3.heap.size (.cells #[.int .i64 1, .int .i64 s.now, .slice (some ⟨bb, bo, none⟩) 4 c] 67) W → W.cell? ⟨w3.heap.size, 0, none⟩ = some (.int .i64 1) := fun W h => hpCell (id h : W.heap[w3.heap.size]? = _) 0
      have z1 : ∀ W, PaS w3.heap.size (.cells #[.int .i64 1, .int .i64 s.now, .slice (some ⟨bb, bo, none⟩) 4 c] 67) W → W.cell? ⟨w3.heap.size, 1, none⟩ = some (.int .i64 s.now) := fun W h => hpCell (id h : W.heap[w3.heap.size]? = _) 1
      have z2 : ∀ W, PaS w3.heap.size (.cells #[.int .i64 1, .int .i64 s.now, .slice (some ⟨bb, bo, none⟩) 4 c] 67) W → W.cell? ⟨w3.heap.size, 2, none⟩ = some (.slice (some ⟨bb, bo, none⟩) 4 c) := fun W h => hpCell (id h : W.heap[w3.heap.size]? = _) 2
      have u1 : IntKind.i64.wrap (s.now + 100) = s.now + 100 := IntWalk.i64_in _ (by omega)
      have hc2 : 2 ≤ c := by omega
      have hc2' : (2 : Int) ≤ (c : Int) := by omega
      have HW4 := hid hW4
      clear hab hla hac p4 hb4 hbe hlit hpg hsp hW4 hn2 kD4
      go_upto_region 8 with (fail)
      rw [HW4.out]
      go_region_held_law (fun W => PaS w3.heap.size (.cells #[.int .i64 1, .int .i64 s.now, .slice (some ⟨bb, bo, none⟩) 4 c] 67) W) ((with_reducible (first | exact kS | exact kE | assumption))) (first
        | (go_at_call 12; (with_reducible refine HS1.out.mono ?_); rintro r w5 ⟨rfl, l5, s5, hB5, hq5, hP5⟩; have hS5 : PaS w3.heap.size (.cells #[.int .i64 1, .int .i64 s.now, .slice (some ⟨bb, bo, none⟩) 4 c] 67) w5 := hP5)
        | (go_at_call 16; (with_reducible refine (HS3.out _ _ _ hB6 hq6 hP6).mono ?_); rintro r w7 ⟨rfl, l7, s7, hB7, hq7, hP7⟩; have hS7 : PaS w3.heap.size (.cells #[.int .i64 1, .int .i64 s.now, .slice (some ⟨bb, bo, none⟩) 4 c] 67) w7 := hP7)
        | (go_at_call 16; (with_reducible refine (HS2.out _ _ _ hB5 hq5 hP5).mono ?_); rintro r w6 ⟨rfl, l6, s6, hB6, hq6, hP6⟩; have hS6 : PaS w3.heap.size (.cells #[.int .i64 1, .int .i64 s.now, .slice (some ⟨bb, bo, none⟩) 4 c] 67) w6 := hP6))
      all_goals
        obtain ⟨f1, f2, f3, f4, f5, f6, f7, f8, f9⟩ := hq7
        have HQ7 : Hid (AwR w g (k + 1) l7 s7 w7) := ⟨hB7, f1, f2, f3, f4, f5, f6, f7, f8, f9⟩
        clear f1 f2 f3 f4 f5 f6 f7 f8 f9 hB7 hB6 hB5 hP5 hP6 hP7 hS5 hS6 hS7 hq5 hq6 v1 v2 v3 z0 z1 z2 kS kE u1
        go_wp2
        go_roundw
        case rel => exact ⟨k + 1, l7, s7, by omega, by go_num, HQ7⟩
        case measure => simp [intOf]; omega
    · obtain rfl : k = 2 := by omega
      obtain ⟨hB, _, r1, _, _, _, _, _, _, r8⟩ := hA.out
      obtain ⟨s0, rfl⟩ := r8 rfl
      have HB := hid hB
      have R1 := hid r1
      have HO := hid (outcome_bare g s0 3 wr hB.at_)
      clear hB r1 r8
      go_wp2_with fail
      refine HO.out.mono ?_
      rintro r w3 ⟨rfl, hb3⟩
      have HAT : Hid (∀ X, Calls Tryz.prog 26 #[.pointer (some ⟨g, 0, none⟩)] (w3.alloc X) fun r w' => r = .returned (.int .i64 2) ∧ w3.alloc X = w') := fun X => by
        have h := attempts_any g (s0.silent 3) (w3.alloc X) ((HB.out.at_.keep hb3).keep (bal' _ _))
        rw [R1.out] at h
        exact h
      go_wp2_with (go_at_call 26; (with_reducible refine (HAT.out _).mono ?_); rintro r w4 ⟨rfl, rfl⟩)
      go_ret
      exact ⟨rfl, bta (bt HB.out.bel hb3 (Nat.le_refl _)) (Nat.le_refl _) _⟩

end Go.Proofs.YtpmidoneoonlcaaGreat
