/-
  The walk of the law LinkClean.
-/
import Derived.Test.YtoaajdbjlaffgaaLawsLkE
import Derived.Test.YtoaajdbjlaffgaaLkF
import Derived.Test.YtoaajdbjlaffgaaMjdp
import Derived.Deep.CutRange
import Derived.Deep.CutBlock
import Derived.Laws.CopyOwn
import Derived.RegionTactic
namespace Go.Proofs.Ytoaajdbjlaffgaa
open Go.RowKit

/-- How many bytes a reply to a request of a table has. -/
def nB (q : Rq) : Nat := if q.fn ≤ 2 then ((q.qty + 7) / 8).toNat else (2 * q.qty).toNat
/-- The reply of these bytes. -/
def rpOf (q : Rq) (dl : List UInt8) : Rp := ⟨q.fn, 0, dl, 0, 0, false, 0, []⟩
/-- The bytes fit the request. -/
def fitsB (q : Rq) (dl : List UInt8) : Prop := dl.length = nB q ∧ (q.fn ≤ 2 → ¬ q.qty % 8 = 0 → lastB dl < 2 ^ (q.qty % 8).toNat)

theorem tbl_rq {q : Rq} (h : q.ok = true) (h1 : 1 ≤ q.fn) (h4 : q.fn ≤ 4) : 1 ≤ q.qty ∧ (q.fn ≤ 2 → q.qty ≤ 2000) ∧ (3 ≤ q.fn → q.qty ≤ 125) := by
  unfold Rq.ok at h
  rw [if_pos ⟨h1, h4⟩] at h
  simp at h
  obtain ⟨⟨⟨⟨⟨_, h5⟩, h6⟩, _⟩, _⟩, _⟩ := h
  unfold limI at h6
  refine ⟨h5, fun h => ?_, fun h => ?_⟩
  · repeat' split at h6
    all_goals omega
  · repeat' split at h6
    all_goals omega

theorem nB_bd {q : Rq} (h : q.ok = true) (h1 : 1 ≤ q.fn) (h4 : q.fn ≤ 4) : 1 ≤ nB q ∧ nB q ≤ 250 := by
  obtain ⟨a, b, c⟩ := tbl_rq h h1 h4
  unfold nB
  split
  · have := b (by assumption); omega
  · have := c (by omega); omega

theorem rpOf_ok {q : Rq} {dl : List UInt8} (h : q.ok = true) (h1 : 1 ≤ q.fn) (h4 : q.fn ≤ 4) (hd : dl.length = nB q) : (rpOf q dl).ok = true := by
  obtain ⟨n1, n2⟩ := nB_bd h h1 h4
  have hk : knownB q.fn = true := by unfold knownB tblB; simp; omega
  unfold Rp.ok
  rw [show (rpOf q dl).fn = q.fn from rfl, hk, if_pos (show (rpOf q dl).exc = 0 from rfl), if_neg (show ¬ q.fn = 43 by omega), if_neg (show ¬ q.fn = 17 by omega), show (rpOf q dl).data = dl from rfl, hd, decide_eq_true n1, decide_eq_true n2]
  rfl

theorem rpOf_match {q : Rq} {dl : List UInt8} (h : q.ok = true) (h1 : 1 ≤ q.fn) (h4 : q.fn ≤ 4) (hd : fitsB q dl) : matchB q (rpOf q dl) = true := by
  obtain ⟨a, b, c⟩ := tbl_rq h h1 h4
  have hok := rpOf_ok h h1 h4 hd.1
  have hl := hd.1
  unfold nB at hl
  unfold matchB
  rw [h, hok, show (rpOf q dl).fn = q.fn from rfl, show (rpOf q dl).data = dl from rfl, if_pos (show (rpOf q dl).exc = 0 from rfl)]
  by_cases h2 : q.fn ≤ 2
  · rw [if_pos h2] at hl
    have e : (dl.length : Int) = (q.qty + 7) / 8 := by omega
    rw [if_pos (show q.fn = 1 ∨ q.fn = 2 by omega)]
    simp [e]
    by_cases hz : q.qty % 8 = 0
    · left; omega
    · right
      have hb := hd.2 h2 hz
      have h0 : 0 ≤ lastB dl := (bAt_bd _ _).1
      exact Int.ediv_eq_zero_of_lt h0 hb
  · rw [if_neg h2] at hl
    have e : (dl.length : Int) = 2 * q.qty := by omega
    rw [if_neg (show ¬ (q.fn = 1 ∨ q.fn = 2) by omega), if_pos (show q.fn = 3 ∨ q.fn = 4 by omega)]
    simp [e]

/-- 'copy' into a row that is known whole: only that block changes. -/
theorem wpList_copyK {P : Program} {w : World} {ops : Array Oper} {rest : List Oper} {o : Oper} {a : Act} {Q : Exit → Act → World → Prop} (hgd : o.guard = none) (d s : Operand) (dT sT : TypeId)
    (ho : o.op = .call { callee := .builtin .copy, args := #[d, s], argTypes := #[dT, sT] }) (elem : TypeId) (hu : P.underlying dT = some (.slice elem)) (hsz : (P.info? elem).map (·.size) = some 1)
    (dp sp : Option Addr) (dLen dCap sLen sCap : Nat) (hd : a.eval d = .slice dp dLen dCap) (hs : a.eval s = .slice sp sLen sCap)
    (g off : Nat) (cur : List Value) (t : TypeId) (hg : w.heap[g]? = some (.cells cur.toArray t (0, 0))) (cs : List Value) (hn : cs.length = Nat.min sLen dLen)
    (hpos : 0 < cs.length → dp = some ⟨g, off, none⟩ ∧ ∃ ad, sp = some ad ∧ ∀ j v, cs[j]? = some v → w.cell? (ad.add j) = some v)
    (hfit : off + cs.length ≤ cur.length) (h1 : ∀ v ∈ cs, v.oneCell' = true)
    (h : ∀ w', w'.heap[g]? = some (.cells (splice cur off cs).toArray t (0, 0)) → Keeps (· = g) w w' → wpList P ops Q rest (a.put o.dst (goInt cs.length)) w') :
    wpList P ops Q (o :: rest) a w := by
  by_cases h0 : cs.length = 0
  · obtain rfl : cs = [] := List.eq_nil_of_length_eq_zero h0
    refine wpList_copy_nothing hgd d s dT sT ho elem hu hsz dp sp dLen dCap sLen sCap hd hs (by simpa using hn.symm) ?_
    exact h w (show _ = _ by simpa [splice] using hg) (Keeps.refl _ _)
  · obtain ⟨rfl, ad, rfl, hsrc⟩ := hpos (by omega)
    refine wpList_copy_own hgd d s dT sT ho elem hu hsz g off dLen dCap ad sLen sCap hd hs cur.toArray t hg cs hn hsrc (by simpa using hfit) h1 ?_
    exact h _ (show _ = _ by simpa [splice] using setRow_heap w g _ _ t _ hg) ⟨rfl, rfl, rfl, by simp [World.setRow], fun k _ hn => setRow_other w g k _ hn⟩

theorem infoU8 : (Try.prog.info? 5).map (·.size) = some 1 := by kernel_rfl
theorem made_u8 (n : Nat) : madeCells #[.int .u8 0] n = (u8s (List.replicate n 0)).toArray := by
  have h := made_one (.int .u8 0) n
  apply Array.toList_inj.1
  rw [h]
  simp [u8s, byteV]

/-- The reply under way: its block and the block of its bytes. -/
def RyAt (W3 : World) (fn : Int) (N : Nat) (cur : List UInt8) (pr pd : Nat) (wc : World) : Prop :=
  wc.heap[pr]? = some (.cells #[.int .i64 fn, .int .i64 0, .slice (some ⟨pd, 0, none⟩) N N, .int .i64 0, .int .i64 0, .bool false, .int .i64 0, .slice none 0 0] 29) ∧ wc.heap[pd]? = some (.cells (u8s cur).toArray 5) ∧ pr ≠ pd ∧ W3.heap.size ≤ pr ∧ W3.heap.size ≤ pd ∧ Below W3.heap.size W3 wc

theorem RyAt.one (W : World) (fn : Int) (N : Nat) : RyAt W fn N (List.replicate N 0) (W.heap.size + 1) W.heap.size ((W.alloc (.cells (madeCells #[.int .u8 0] N) 5)).alloc (.cells #[.int .i64 fn, .int .i64 0, .slice (some ⟨W.heap.size, 0, none⟩) N N, .int .i64 0, .int .i64 0, .bool false, .int .i64 0, .slice none 0 0] 29)).drew := by
  refine ⟨?_, ?_, by omega, by omega, Nat.le_refl _, ((bta (bal' W _) (Nat.le_refl _) _).drew)⟩
  · have := hpNew (W.alloc (.cells (madeCells #[.int .u8 0] N) 5)) (.cells #[.int .i64 fn, .int .i64 0, .slice (some ⟨W.heap.size, 0, none⟩) N N, .int .i64 0, .int .i64 0, .bool false, .int .i64 0, .slice none 0 0] 29)
    rw [show (W.alloc (.cells (madeCells #[.int .u8 0] N) 5)).heap.size = W.heap.size + 1 by simp] at this
    exact this
  · rw [← made_u8]
    exact hpKeep (hpNew W _) (bal' _ _).drew
theorem RyAt.two (W : World) (fn : Int) (N : Nat) : RyAt W fn N (List.replicate N 0) W.heap.size (W.heap.size + 1) ((W.alloc (.cells #[.int .i64 fn, .int .i64 0, .slice (some ⟨(W.heap.size + 1), 0, none⟩) N N, .int .i64 0, .int .i64 0, .bool false, .int .i64 0, .slice none 0 0] 29)).alloc (.cells (madeCells #[.int .u8 0] N) 5)).drew := by
  refine ⟨hpKeep (hpNew W _) (bal' _ _).drew, ?_, by omega, Nat.le_refl _, by omega, ((bta (bal' W _) (Nat.le_refl _) _).drew)⟩
  rw [← made_u8]
  have := hpNew (W.alloc (.cells #[.int .i64 fn, .int .i64 0, .slice (some ⟨(W.heap.size + 1), 0, none⟩) N N, .int .i64 0, .int .i64 0, .bool false, .int .i64 0, .slice none 0 0] 29)) (.cells (madeCells #[.int .u8 0] N) 5)
  rw [show (W.alloc (.cells #[.int .i64 fn, .int .i64 0, .slice (some ⟨(W.heap.size + 1), 0, none⟩) N N, .int .i64 0, .int .i64 0, .bool false, .int .i64 0, .slice none 0 0] 29)).heap.size = W.heap.size + 1 by simp] at this
  exact this

theorem RyAt.upd {W wc w' : World} {fn : Int} {N : Nat} {cur new : List UInt8} {pr pd : Nat} (h : RyAt W fn N cur pr pd wc) (hk : Keeps (· = pd) wc w') (hg : w'.heap[pd]? = some (.cells (u8s new).toArray 5)) : RyAt W fn N new pr pd w' :=
  ⟨hpKeeps h.1 hk h.2.2.1, hg, h.2.2.1, h.2.2.2.1, h.2.2.2.2.1, h.2.2.2.2.2.trans (hk.below h.2.2.2.2.2.size (fun k hk' e => by have := h.2.2.2.2.1; have e' : k = pd := e; omega))⟩

/-- The bytes that are copied, with zeros behind them. -/
def cpy (dl : List UInt8) (N : Nat) : List UInt8 := dl.take N ++ List.replicate (N - dl.length) 0
theorem cpy_len (dl : List UInt8) (N : Nat) : (cpy dl N).length = N := by unfold cpy; simp; omega
theorem cpy_splice (dl : List UInt8) (N : Nat) : splice (u8s (List.replicate N 0)) 0 (u8s (dl.take N)) = u8s (cpy dl N) := by
  unfold splice cpy
  rw [u8s_append]
  simp [u8s]
  omega

theorem mask_lt : ∀ m : Fin 8, ∀ x : Fin 256, 0 ≤ bits .and .u8 ((x.val : Nat) : Int) (((2 : Int) ^ m.val - 1) % 256) ∧ bits .and .u8 ((x.val : Nat) : Int) (((2 : Int) ^ m.val - 1) % 256) < (2 : Int) ^ m.val := by decide +kernel
theorem mask_bd {m : Int} (h0 : 0 ≤ m) (h1 : m < 8) (v : UInt8) : 0 ≤ bits .and .u8 ((v.toNat : Nat) : Int) (((2 : Int) ^ m.toNat - 1) % 256) ∧ bits .and .u8 ((v.toNat : Nat) : Int) (((2 : Int) ^ m.toNat - 1) % 256) < (2 : Int) ^ m.toNat := by
  have hv : v.toNat < 256 := v.toNat_lt
  exact mask_lt ⟨m.toNat, by omega⟩ ⟨v.toNat, hv⟩
theorem pow_le {m : Nat} (h : m < 8) : (2 : Int) ^ m ≤ 128 := by
  have h2 : ∀ m : Fin 8, (2 : Int) ^ m.val ≤ 128 := by decide
  exact h2 ⟨m, h⟩

theorem set_u8s (c : List UInt8) (M : Nat) {y : Int} (h0 : 0 ≤ y) (h1 : y ≤ 255) : (u8s c).toArray.setIfInBounds M (.int .u8 y) = (u8s (c.set M (byteI y))).toArray := by
  apply Array.toList_inj.1
  simp only [Array.toList_setIfInBounds, u8s, List.map_set, byteV]
  rw [byteI_val h0 h1]

theorem fits_mask {q : Rq} {c : List UInt8} {M : Nat} (hl : c.length = nB q) (hM : nB q = M + 1) : fitsB q (c.set M (byteI (bits .and .u8 (((c[M]?.getD 0).toNat : Nat) : Int) (((2 : Int) ^ (q.qty % 8).toNat - 1) % 256)))) := by
  obtain ⟨m0, m1⟩ : 0 ≤ q.qty % 8 ∧ q.qty % 8 < 8 := ⟨Int.emod_nonneg _ (by decide), Int.emod_lt_of_pos _ (by decide)⟩
  obtain ⟨b0, b1⟩ := mask_bd m0 m1 (c[M]?.getD 0)
  have hp : (2 : Int) ^ (q.qty % 8).toNat ≤ 128 := pow_le (by omega)
  refine ⟨by rw [List.length_set]; exact hl, fun _ _ => ?_⟩
  generalize hy : bits .and .u8 (((c[M]?.getD 0).toNat : Nat) : Int) (((2 : Int) ^ (q.qty % 8).toNat - 1) % 256) = y at *
  have e : lastB (c.set M (byteI y)) = y := by
    unfold lastB bAt
    rw [List.length_set, hl, hM]
    have : M < c.length := by omega
    simp [List.getD, this]
    exact byteI_val b0 (by omega)
  rw [e]
  exact b1

theorem mkRq_tbl {k a b : Int} (h0 : 0 ≤ k) (h1 : k ≤ 3) : 1 ≤ (mkRq k a b).fn ∧ (mkRq k a b).fn ≤ 4 := by
  have e4 : ¬ k % 6 = 4 := by omega
  have e5 : ¬ k % 6 = 5 := by omega
  unfold mkRq
  rw [if_neg e4, if_neg e5]
  show 1 ≤ 1 + k % 6 ∧ 1 + k % 6 ≤ 4
  omega
theorem wf_small {x : Int} (h0 : 0 ≤ x) (h1 : x ≤ 1000000) : (Lit.int .i64 x).wf = true := by
  show (decide (IntKind.i64.min ≤ x) && decide (x ≤ IntKind.i64.max)) = true
  have e1 : IntKind.i64.min = -9223372036854775808 := rfl
  have e2 : IntKind.i64.max = 9223372036854775807 := rfl
  rw [e1, e2, decide_eq_true (by omega), decide_eq_true (by omega)]
  rfl

/-- What the law has laid before the link is made. -/
structure LcB (w WB : World) (ps pr pd : Nat) (b p fn : Int) (d2 : List UInt8) (oa : Option Addr) (oc : Nat) (out : List UInt8) : Prop where
  bel : Below w.heap.size w WB
  set : WB.heap[ps]? = some (.cells #[.int .i64 b, .int .i64 p] 45)
  rep : WB.heap[pr]? = some (.cells #[.int .i64 fn, .int .i64 0, .slice (some ⟨pd, 0, none⟩) d2.length d2.length, .int .i64 0, .int .i64 0, .bool false, .int .i64 0, .slice none 0 0] 29)
  dat : Bs WB (.slice (some ⟨pd, 0, none⟩) d2.length d2.length) d2
  fr : Bs WB (.slice oa out.length oc) out
theorem LcB.below {w WB W : World} {ps pr pd : Nat} {b p fn : Int} {d2 : List UInt8} {oa : Option Addr} {oc : Nat} {out : List UInt8} (h : LcB w WB ps pr pd b p fn d2 oa oc out) (hb : Below WB.heap.size WB W) : LcB w W ps pr pd b p fn d2 oa oc out :=
  ⟨bt h.bel hb (Nat.le_refl _), hpKeep h.set hb, hpKeep h.rep hb, h.dat.keep hb, h.fr.keep hb⟩

theorem ClAt.below {g k : Nat} {b U : Int} {q : Rq} {cnt t : Int} {out : List UInt8} {W W' : World} (h : ClAt g k b U q cnt t out W) (hb : Below W.heap.size W W') : ClAt g k b U q cnt t out W' := by
  obtain ⟨s, rg, x, a, c, hl, hx, h1⟩ := h
  exact ⟨s, rg, x, a, c, hl.keep hb, hx.below hb, h1⟩

/-- Where the law stands at the head of its round i. -/
def LcAt (WB : World) (g i Fl : Nat) (b p R U : Int) (q : Rq) (F : List UInt8) (O : Oc) (W : World) : Prop :=
  Below WB.heap.size WB W ∧ ((i ≤ Fl ∧ ∃ s, LkOk g 0 F s W ∧ s.b = b ∧ s.p = p ∧ s.un = U ∧ s.q = q ∧ s.ti = 5000 ∧ s.re = R ∧ s.cnt = i ∧ s.ph = 1) ∨ (i = Fl + 1 ∧ DnAt g O ((Fl : Int) + 1) W))

set_option maxRecDepth 100000 in
set_option maxHeartbeats 12800000 in
theorem Walk.linkClean {w : World} (set : Int) (w0 : (Lit.int .i64 set).wf = true) (retries : Int) (w1 : (Lit.int .i64 retries).wf = true) (fail : Int) (w2 : (Lit.int .i64 fail).wf = true) (unit : Int) (w3 : (Lit.int .i64 unit).wf = true) (kind : Int) (w4 : (Lit.int .i64 kind).wf = true) (qa : Int) (w5 : (Lit.int .i64 qa).wf = true) (qb : Int) (w6 : (Lit.int .i64 qb).wf = true) (lat : Int) (w7 : (Lit.int .i64 lat).wf = true) (dv : Value) (dl : List UInt8) (hd : Bs w dv dl) :
    Calls Try.prog 4 #[.int .i64 set, .int .i64 retries, .int .i64 fail, .int .i64 unit, .int .i64 kind, .int .i64 qa, .int .i64 qb, .int .i64 lat, dv] w fun r w' => r = .returned (.bool true) ∧ Below w.heap.size w w' := by
  have i1 := Int.emod_nonneg set (show (24 : Int) ≠ 0 by decide)
  have i2 := Int.emod_lt_of_pos set (show 0 < (24 : Int) by decide)
  have j1 := Int.emod_nonneg retries (show (6 : Int) ≠ 0 by decide)
  have j2 := Int.emod_lt_of_pos retries (show 0 < (6 : Int) by decide)
  have k1 := Int.emod_nonneg unit (show (247 : Int) ≠ 0 by decide)
  have k2 := Int.emod_lt_of_pos unit (show 0 < (247 : Int) by decide)
  have m1 := Int.emod_nonneg kind (show (4 : Int) ≠ 0 by decide)
  have m2 := Int.emod_lt_of_pos kind (show 0 < (4 : Int) by decide)
  have l1 := Int.emod_nonneg lat (show (5001 : Int) ≠ 0 by decide)
  have l2 := Int.emod_lt_of_pos lat (show 0 < (5001 : Int) by decide)
  obtain ⟨I, hI⟩ : ∃ I : Nat, set % 24 = (I : Int) := ⟨(set % 24).toNat, by omega⟩
  obtain ⟨R, hR⟩ : ∃ R, retries % 6 = R := ⟨_, rfl⟩
  obtain ⟨U, hU⟩ : ∃ U, unit % 247 = U := ⟨_, rfl⟩
  obtain ⟨K, hK⟩ : ∃ K, kind % 4 = K := ⟨_, rfl⟩
  obtain ⟨L, hL⟩ : ∃ L, lat % 5001 = L := ⟨_, rfl⟩
  have HM1 : Hid (∀ W, Calls Try.prog 10 #[.int .i64 set, .int .i64 24] W fun r w' => r = .returned (.int .i64 (I : Int)) ∧ W = w') := fun W => by rw [← hI]; exact mod_any set 24 (by decide) (by decide) w0 W
  have HM2 : Hid (∀ W, Calls Try.prog 10 #[.int .i64 retries, .int .i64 6] W fun r w' => r = .returned (.int .i64 R) ∧ W = w') := fun W => by rw [← hR]; exact mod_any retries 6 (by decide) (by decide) w1 W
  have HM3 : Hid (∀ W, Calls Try.prog 10 #[.int .i64 unit, .int .i64 247] W fun r w' => r = .returned (.int .i64 U) ∧ W = w') := fun W => by rw [← hU]; exact mod_any unit 247 (by decide) (by decide) w3 W
  have HM4 : Hid (∀ W, Calls Try.prog 10 #[.int .i64 kind, .int .i64 4] W fun r w' => r = .returned (.int .i64 K) ∧ W = w') := fun W => by rw [← hK]; exact mod_any kind 4 (by decide) (by decide) w4 W
  have HM5 : Hid (∀ W, Calls Try.prog 10 #[.int .i64 lat, .int .i64 5001] W fun r w' => r = .returned (.int .i64 L) ∧ W = w') := fun W => by rw [← hL]; exact mod_any lat 5001 (by decide) (by decide) w7 W
  rw [hI] at i1 i2
  rw [hR] at j1 j2
  rw [hU] at k1 k2
  rw [hK] at m1 m2
  rw [hL] at l1 l2
  have f1 := Int.emod_nonneg fail (show R + 1 ≠ 0 by omega)
  have f2 := Int.emod_lt_of_pos fail (show 0 < R + 1 by omega)
  obtain ⟨Fl, hF⟩ : ∃ Fl : Nat, fail % (R + 1) = (Fl : Int) := ⟨(fail % (R + 1)).toNat, by omega⟩
  have HM6 : Hid (∀ W, Calls Try.prog 10 #[.int .i64 fail, .int .i64 (R + 1)] W fun r w' => r = .returned (.int .i64 (Fl : Int)) ∧ W = w') := fun W => by rw [← hF]; exact mod_any fail (R + 1) (by omega) (by omega) w2 W
  rw [hF] at f1 f2
  have HMK := hid (fun W => make_any K qa qb (wf_small m1 (by omega)) w5 w6 W)
  have hI24 : I < 24 := by omega
  obtain ⟨⟨b, p⟩, hgx⟩ : ∃ x, allS[I]? = some x := ⟨_, List.getElem?_eq_getElem (show I < allS.length by rw [allS_len]; exact hI24)⟩
  have HSET := hid (allS_ok (List.mem_of_getElem? hgx))
  have HGX := hid hgx
  have HRQ := hid (mkRq_ok K qa qb)
  have hfn := mkRq_tbl (a := qa) (b := qb) m1 (by omega)
  generalize mkRq K qa qb = Q at *
  obtain ⟨g1, g4⟩ := hfn
  obtain ⟨n1, n2⟩ := nB_bd HRQ.out g1 g4
  obtain ⟨y1, y2, y3⟩ := tbl_rq HRQ.out g1 g4
  have HD := hid hd
  clear hI hR hU hK hL hF w0 w1 w2 w3 w4 w5 w6 w7 hgx hd f1
  go_enter Try.func4, Try.ntmps4
  go_wp2_with fail
  refine (rall_any _).mono ?_
  rintro r wA ⟨v, rfl, hown, hbA⟩
  obtain ⟨ga, ca, rfl, hnc, hcm2, hel⟩ := own_setting hown (by decide)
  obtain ⟨x0, x1⟩ := hel I (b, p) HGX.out
  unfold maxLen at hcm2
  have hbA' := hid hbA
  clear hel hown hbA
  go_wp2_with (first | (go_at_call 10; (with_reducible refine (HM1.out _).mono ?_); rintro r w2 ⟨rfl, rfl⟩) | (go_at_call 10; (with_reducible refine (HM2.out _).mono ?_); rintro r w2 ⟨rfl, rfl⟩) | (go_at_call 10; (with_reducible refine (HM3.out _).mono ?_); rintro r w2 ⟨rfl, rfl⟩) | (go_at_call 10; (with_reducible refine (HM4.out _).mono ?_); rintro r w2 ⟨rfl, rfl⟩))
  obtain ⟨W1, hW1⟩ : ∃ W, W = wA.alloc (.cells #[.int .i64 b, .int .i64 p] 45) := ⟨_, rfl⟩
  rw [← hW1]
  have hb1 : Below w.heap.size w W1 := by rw [hW1]; exact bta hbA'.out (Nat.le_refl _) _
  have p1 : W1.heap[wA.heap.size]? = some (.cells #[.int .i64 b, .int .i64 p] 45) := by rw [hW1]; exact hpNew _ _
  have hwA : w.heap.size ≤ wA.heap.size := hbA'.out.size
  obtain ⟨ps, hps⟩ : ∃ ps, ps = wA.heap.size := ⟨_, rfl⟩
  rw [← hps] at p1 hwA ⊢
  clear hW1 hps x0 x1 hbA'
  refine (HMK.out _).mono ?_
  rintro r w3 ⟨rfl, hb3⟩
  have hb3' := bt hb1 hb3 (Nat.le_refl _)
  have p3 := hpKeep p1 hb3
  obtain ⟨W3, hW3⟩ : ∃ W, W = w3.alloc (.cells #[.int .i64 Q.fn, .int .i64 Q.addr, .int .i64 Q.qty, .int .i64 Q.code, .int .i64 Q.obj] 23) := ⟨_, rfl⟩
  have hb4 : Below w.heap.size w W3 := by rw [hW3]; exact bta hb3' (Nat.le_refl _) _
  have p4 : W3.heap[ps]? = some (.cells #[.int .i64 b, .int .i64 p] 45) := by rw [hW3]; exact hpKeep p3 (bal' _ _)
  have q4 : W3.heap[w3.heap.size]? = some (.cells #[.int .i64 Q.fn, .int .i64 Q.addr, .int .i64 Q.qty, .int .i64 Q.code, .int .i64 Q.obj] 23) := by rw [hW3]; exact hpNew _ _
  have hwq : w.heap.size ≤ w3.heap.size := hb3'.size
  have hpsq : ps < w3.heap.size := hpLt p3
  have HW3 := hid hW3
  have P4 := hid p4
  have Q4 := hid q4
  have HB4 := hid hb4
  clear hW3 p1 p3 p4 q4 hb1 hb3 hb3' hb4
  go_upto_region 4 with (fail)
  rw [← HW3.out]
  have z0 : W3.cell? ⟨w3.heap.size, 0, none⟩ = some (.int .i64 Q.fn) := hpCell Q4.out 0
  have z2 : W3.cell? ⟨w3.heap.size, 2, none⟩ = some (.int .i64 Q.qty) := hpCell Q4.out 2
  have hq3 : w3.heap.size < W3.heap.size := hpLt Q4.out
  have hq2000 : Q.qty ≤ 2000 := by
    by_cases h : Q.fn ≤ 2
    · exact y2 h
    · have := y3 (by omega); omega
  obtain ⟨N, hM⟩ : ∃ N : Nat, nB Q = N := ⟨_, rfl⟩
  have HMN := hid hM
  have HNB : Hid ((Q.fn ≤ 2 → (Q.qty + 7) / 8 = (N : Int)) ∧ (¬ Q.fn ≤ 2 → 2 * Q.qty = (N : Int))) := by
    unfold nB at hM
    refine ⟨fun h => ?_, fun h => ?_⟩
    · rw [if_pos h] at hM; omega
    · rw [if_neg h] at hM; omega
  rw [hM] at n1 n2
  have hN1 : (1 : Int) ≤ (N : Int) := by omega
  have hN2 : (N : Int) ≤ 250 := by omega
  have hN0 : (0 : Int) ≤ (N : Int) := by omega
  clear hM y2 y3
  go_upto_if 56 with (fail)
  go_cut [21] from 54 to 61 (fun s21 wc => s21 = .int .i64 (N : Int) ∧ wc = W3)
  case first =>
    go_wp2_with fail
    all_goals
      go_meet
      case rel => exact ⟨by first | rw [HNB.out.1 (by assumption)] | rw [HNB.out.1 (by omega)] | rw [HNB.out.2 (by omega)], rfl⟩
  case rest =>
    obtain ⟨rfl, hcw⟩ := hcut
    replace hcw := hcw.symm
    subst hcw
    go_upto_region 7 with (fail)
    have hmk := run_make_row' (P := Try.prog) 24 5 (.int .u8 0) 1 Try.underlying24 infoB rfl .i64 .i64 N (by omega) (by omega)
    go_cut [22] from 61 to 66 (fun s22 wx => ∃ pr pd : Nat, s22 = .pointer (some ⟨pr, 0, none⟩) ∧ RyAt W3 Q.fn N (List.replicate N 0) pr pd wx)
    case first =>
      go_region
      all_goals
        go_wp2_with fail
        go_meet
        case rel => first | exact ⟨_, _, rfl, RyAt.one _ _ _⟩ | exact ⟨_, _, rfl, RyAt.two _ _ _⟩
    case rest =>
      clear hmk
      obtain ⟨pr, pd, rfl, hry⟩ := hcut
      have HRY := hid hry
      have r2 : wc.cell? ⟨pr, 2, none⟩ = some (.slice (some ⟨pd, 0, none⟩) N N) := hpCell hry.1 2
      have hbs := HD.out.keep (bt HB4.out hry.2.2.2.2.2 (Nat.le_refl _))
      obtain ⟨sa, sc, rfl, hs1, hs2, hs3, hs4⟩ := hbs
      have HN : Hid ((u8s (dl.take N)).length = Nat.min dl.length N) := by
        show _ = _
        rw [u8s_length, List.length_take]
        exact Nat.min_comm _ _
      have HPOS : Hid (0 < (u8s (dl.take N)).length → some (⟨pd, 0, none⟩ : Addr) = some ⟨pd, 0, none⟩ ∧ ∃ ad, sa = some ad ∧ ∀ j v, (u8s (dl.take N))[j]? = some v → wc.cell? (ad.add j) = some v) := fun h => by
        have hne : dl ≠ [] := by rintro rfl; simp at h
        obtain ⟨b', o, rfl, hc⟩ := hs4 hne
        refine ⟨rfl, _, rfl, fun j v hj => ?_⟩
        have hjl : j < (dl.take N).length := by
          have := (List.getElem?_eq_some_iff.1 hj).1
          simpa using this
        rw [u8s_get _ j hjl] at hj
        cases hj
        have e1 : (⟨b', o, none⟩ : Addr).add j = ⟨b', o + j, none⟩ := by unfold Addr.add; split <;> simp_all
        have hj2 : j < dl.length := by have := hjl; simp at this; omega
        have hj3 : j < N := by have := hjl; simp at this; omega
        rw [e1, hc j hj2]
        simp [List.getD, hj2, hj3]
      have HFIT : Hid (0 + (u8s (dl.take N)).length ≤ (u8s (List.replicate N (0 : UInt8))).length) := by
        show _ ≤ _
        simp
        omega
      have HG2 := hid hry.2.1
      clear hry hs1 hs2 hs3 hs4
      obtain ⟨V, hV⟩ : ∃ V, (decide (Q.fn ≤ 2) && (Q.qty % 8 != 0)) = V := ⟨_, rfl⟩
      replace hV := hid hV
      go_upto_region 8 with (fail)
      go_cut [21] from 66 to 70 (fun s21 w8 => s21 = .int .i64 (N : Int) ∧ RyAt W3 Q.fn N (cpy dl N) pr pd w8)
      case first =>
        go_wp2_with (refine wpList_copyK rfl (.tmp 67) (.tmp 68) 24 24 rfl 5 Try.underlying24 infoU8 _ _ _ _ _ _ rfl rfl pd 0 (u8s (List.replicate N 0)) 5 HG2.out (u8s (dl.take N)) HN.out HPOS.out HFIT.out (one_u8s _) ?_; intro w8 g8 hk8; rw [cpy_splice] at g8; have HR8 := hid (HRY.out.upd hk8 g8); clear g8 hk8 r2)
        go_meet
        case rel => exact ⟨rfl, HR8.out⟩
      case rest =>
       obtain ⟨rfl, hr8⟩ := hcut
       have HR8 := hid hr8
       have z0' : wc.cell? ⟨w3.heap.size, 0, none⟩ = some (.int .i64 Q.fn) := hpCell (hpKeep Q4.out hr8.2.2.2.2.2) 0
       have z2' : wc.cell? ⟨w3.heap.size, 2, none⟩ = some (.int .i64 Q.qty) := hpCell (hpKeep Q4.out hr8.2.2.2.2.2) 2
       clear r2 hr8
       go_upto_region 9 with (fail)
       go_cut [78] from 70 to 79 (fun s78 wx => s78 = .bool V ∧ wx = wc)
       case first =>
         go_wp2_with fail
         all_goals
           go_meet
           case rel =>
            refine ⟨?_, rfl⟩
            have h := hV.out
            first
              | (rw [decide_eq_true (show Q.fn ≤ 2 by omega), Bool.true_and] at h; rw [← h])
              | (rw [decide_eq_false (show ¬ Q.fn ≤ 2 by omega), Bool.false_and] at h; rw [← h])
       case rest =>
         obtain ⟨rfl, hcw⟩ := hcut
         replace hcw := hcw.symm
         subst hcw
         go_upto_if 78 with (fail)
         go_cut [21] from 78 to 93 (fun s21 wx => s21 = .int .i64 (N : Int) ∧ ∃ d2, fitsB Q d2 ∧ RyAt W3 Q.fn N d2 pr pd wx)
         case first =>
           obtain ⟨c0, hc0⟩ : ∃ c0, cpy dl N = c0 := ⟨_, rfl⟩
           have hcl : c0.length = N := by rw [← hc0]; exact cpy_len _ _
           rw [hc0] at HR8
           cases V with
           | false =>
             have HFI : Hid (fitsB Q c0) := ⟨by rw [HMN.out]; exact hcl, fun h1 h2 => by
               have h := hV.out
               rw [decide_eq_true h1, Bool.true_and, bne_eq_false_iff_eq] at h
               exact absurd h h2⟩
             go_wp2_with fail
             go_meet
             case rel => exact ⟨rfl, c0, HFI.out, HR8.out⟩
           | true =>
             have r8 : wc.cell? ⟨pr, 2, none⟩ = some (.slice (some ⟨pd, 0, none⟩) N N) := hpCell HR8.out.1 2
             obtain ⟨M, hMN⟩ : ∃ M, N = M + 1 := ⟨N - 1, by omega⟩
             have x8 : wc.cell? ⟨pd, M, none⟩ = some (.int .u8 ((c0.getD M 0).toNat : Int)) := by
               rw [hpCell HR8.out.2.1 M]
               simp only [List.getElem?_toArray]
               exact u8s_get _ _ (by omega)
             have v8 : wc.frozen? ⟨pd, M, none⟩ = false := hpFree HR8.out.2.1 M
             have hix : ((N : Int) - 1).toNat = M := by omega
             have hix2 : (N : Int) - 1 < (N : Int) := by omega
             have HMM := hid hMN
             clear hMN hc0
             go_wp2_with fail
             go_region
             obtain ⟨b0, b1⟩ := mask_bd (m := Q.qty % 8) (Int.emod_nonneg _ (by decide)) (Int.emod_lt_of_pos _ (by decide)) (c0[M]?.getD 0)
             have hp : (2 : Int) ^ (Q.qty % 8).toNat ≤ 128 := pow_le (by have := Int.emod_nonneg Q.qty (show (8 : Int) ≠ 0 by decide); have := Int.emod_lt_of_pos Q.qty (show 0 < (8 : Int) by decide); omega)
             have HFI := hid (fits_mask (q := Q) (c := c0) (M := M) (by rw [HMN.out]; exact hcl) (by rw [HMN.out]; exact HMM.out))
             have HST := hid (RyAt.upd (new := c0.set M (byteI (bits .and .u8 (((c0[M]?.getD 0).toNat : Nat) : Int) (((2 : Int) ^ (Q.qty % 8).toNat - 1) % 256)))) HR8.out (kdrew (kset' (Keeps.refl (· = pd) _) M (.int .u8 (bits .and .u8 (((c0[M]?.getD 0).toNat : Nat) : Int) (((2 : Int) ^ (Q.qty % 8).toNat - 1) % 256))))) (hpDrewE (hpSetE HR8.out.2.1 (set_u8s c0 M b0 (by omega)))))
             clear b0 b1 hp r8 x8 v8 hix hix2
             go_wp2_with fail
             go_meet
             case rel => exact ⟨rfl, _, HFI.out, HST.out⟩
         case rest =>
           obtain ⟨rfl, d2, hfit, hry2⟩ := hcut
           have hrok := rpOf_ok HRQ.out g1 g4 hfit.1
           have HMT := hid (rpOf_match HRQ.out g1 g4 hfit)
           have hlen : d2.length = N := by rw [hfit.1]; exact HMN.out
           have hbs2 : Bs wc (.slice (some ⟨pd, 0, none⟩) d2.length d2.length) d2 := by
             refine Bs.mk (Nat.le_refl _) (by unfold maxLen; omega) (fun i hi => ?_)
             rw [hpCell hry2.2.1]
             simp only [Nat.zero_add, List.getElem?_toArray]
             exact u8s_get _ _ hi
           have HRYF := hid hry2
           have henc := renc_any Q.fn 0 0 0 false 0 d2 [] (some ⟨pd, 0, none⟩) none N 0 wc (by rw [hlen] at hbs2 ⊢; exact hbs2) (Obs.nil wc) hrok
           obtain ⟨pdu, hpdu⟩ : ∃ pdu, Rp.pdu ⟨Q.fn, 0, d2, 0, 0, false, 0, []⟩ = pdu := ⟨_, rfl⟩
           have hpl : pdu.length = N + 2 := by
             rw [← hpdu]
             unfold Rp.pdu
             rw [if_pos rfl, if_neg (show ¬ Q.fn = 43 by omega)]
             simp [hlen]
           have HPL := hid hpl
           rw [hlen, hpdu] at henc
           have HENC := hid henc
           have HPDU := hid hpdu
           have HLEN := hid hlen
           have HROK := hid hrok
           have HBS2 := hid hbs2
           have r0 : wc.cell? ⟨pr, 0, none⟩ = some (.int .i64 Q.fn) := hpCell hry2.1 0
           have r1 : wc.cell? ⟨pr, 1, none⟩ = some (.int .i64 0) := hpCell hry2.1 1
           have r2 : wc.cell? ⟨pr, 2, none⟩ = some (.slice (some ⟨pd, 0, none⟩) N N) := hpCell hry2.1 2
           have r3 : wc.cell? ⟨pr, 3, none⟩ = some (.int .i64 0) := hpCell hry2.1 3
           have r4 : wc.cell? ⟨pr, 4, none⟩ = some (.int .i64 0) := hpCell hry2.1 4
           have r5 : wc.cell? ⟨pr, 5, none⟩ = some (.bool false) := hpCell hry2.1 5
           have r6 : wc.cell? ⟨pr, 6, none⟩ = some (.int .i64 0) := hpCell hry2.1 6
           have r7 : wc.cell? ⟨pr, 7, none⟩ = some (.slice none 0 0) := hpCell hry2.1 7
           clear hpl hfit hrok hlen hbs2 henc hpdu hry2 z0' z2' HR8 HRY HPOS HFIT HG2 HN z0 z2
           go_wp2_with fail
           refine HENC.out.mono ?_
           rintro r wD ⟨ea, ec, rfl, heb, hbD, _⟩
           have HBU := hid (rbuild_any (1 + U) ea _ ec pdu wD heb)
           have HBD := hid (bt HRYF.out.2.2.2.2.2 hbD (Nat.le_refl _))
           have HBS3 := hid (HBS2.out.keep hbD)
           have HRP := hid (hpKeep HRYF.out.1 hbD)
           clear r0 r1 r2 r3 r4 r5 r6 r7 heb hbD HENC HRYF HBS2
           go_wp2_with fail
           refine HBU.out.mono ?_
           rintro r wB ⟨oa, oc, e, f, rfl, hown, hbB, hc⟩
           have hbu : buildB (1 + U) pdu = some (aduF (UInt8.ofNat (1 + U).toNat) pdu) := if_pos ⟨by omega, by omega, by have := HPL.out; omega, by have := HPL.out; omega⟩
           obtain ⟨rfl, rfl⟩ : e = 0 ∧ f = aduF (UInt8.ofNat (1 + U).toNat) pdu := by
             rcases hc with ⟨h1, h2⟩ | ⟨_, h2, _⟩
             · rw [hbu] at h2; cases h2; exact ⟨h1, rfl⟩
             · rw [hbu] at h2; cases h2
           have HLB : Hid (LcB w wB ps pr pd b p Q.fn d2 oa oc (aduF (UInt8.ofNat (1 + U).toNat) pdu)) := by
             have hb3B := bt HBD.out hbB (Nat.le_refl _)
             refine ⟨bt HB4.out hb3B (Nat.le_refl _), hpKeep P4.out hb3B, ?_, HBS3.out.keep hbB, Bs.own hown⟩
             rw [HLEN.out]
             exact hpKeep HRP.out hbB
           have HQB := hid (hpKeep Q4.out (bt HBD.out hbB (Nat.le_refl _)))
           have HJU : Hid (judgeB crcChk (1 + U) Q 0 (aduF (UInt8.ofNat (1 + U).toNat) pdu) = ⟨1, rpOf Q d2⟩) := by
             have h := judge_clean (U := 1 + U) (q := Q) (r := rpOf Q d2) (by omega) (by omega) HROK.out rfl HRQ.out HMT.out rfl
             rw [show Rp.pdu (rpOf Q d2) = pdu from HPDU.out] at h
             exact h
           have hol := aduF_length (UInt8.ofNat (1 + U).toNat) pdu
           obtain ⟨out, hout⟩ : ∃ out, aduF (UInt8.ofNat (1 + U).toNat) pdu = out := ⟨_, rfl⟩
           rw [hout] at HLB HJU hol
           rw [hout]
           obtain ⟨m, hm⟩ : ∃ m, out.length = m := ⟨_, rfl⟩
           have HOL := hid hm
           rw [hm] at hol
           have hm1 : 1 ≤ m := by omega
           have hm2 : m ≤ 255 := by have := HPL.out; omega
           have s0 : wB.cell? ⟨ps, 0, none⟩ = some (.int .i64 b) := hpCell HLB.out.set 0
           have s1 : wB.cell? ⟨ps, 1, none⟩ = some (.int .i64 p) := hpCell HLB.out.set 1
           have HNEW := hid (lknew_ok b p R 5000 0 HSET j1 (by omega) (by decide) (by decide) (by decide) (by decide) wB)
           rw [hm]
           clear hown hbB hc hbu hout hol hm HBU HPDU HRP HBS3
           go_wp2_with fail
           refine HNEW.out.mono ?_
           rintro r w2 ⟨g, rfl, hg, hl2, hb2⟩
           have HL2 := hid hl2
           have hq2 := hpKeep HQB.out hb2
           obtain ⟨q0, q1, q2, q3, q4⟩ : w2.cell? ⟨w3.heap.size, 0, none⟩ = some (.int .i64 Q.fn) ∧ w2.cell? ⟨w3.heap.size, 1, none⟩ = some (.int .i64 Q.addr) ∧ w2.cell? ⟨w3.heap.size, 2, none⟩ = some (.int .i64 Q.qty) ∧ w2.cell? ⟨w3.heap.size, 3, none⟩ = some (.int .i64 Q.code) ∧ w2.cell? ⟨w3.heap.size, 4, none⟩ = some (.int .i64 Q.obj) := ⟨hpCell hq2 0, hpCell hq2 1, hpCell hq2 2, hpCell hq2 3, hpCell hq2 4⟩
           have HBEG := hid (lkbegin_ok g (Lk.new b p R 5000 0) (1 + U) Q.fn Q.addr Q.qty Q.code Q.obj 0 w2 hl2 (.inl rfl) (by omega) (by omega) (by show (0 : Int) ≤ 0; decide) (by decide) HRQ.out)
           clear s0 s1 hl2 hq2
           go_wp2_with fail
           refine HBEG.out.mono ?_
           rintro r w4 ⟨fa, fc, rfl, hl4, hfr4, hfa4, hk4⟩
           have hok4 : LkOk g 0 (aduF (UInt8.ofNat (1 + U).toNat) Q.pdu) (Lk.begun (Lk.new b p R 5000 0) (1 + U) Q 0 fa (aduF (UInt8.ofNat (1 + U).toNat) Q.pdu).length fc) w4 := LkOk.begun HSET.out j1 (by omega) (by decide) (by decide) (by decide) (by decide) HL2.out.lt hl4 hfr4 hfa4
           have hst : LcAt wB g 0 Fl b p R (1 + U) Q (aduF (UInt8.ofNat (1 + U).toNat) Q.pdu) ⟨1, rpOf Q d2⟩ w4 := ⟨hb2.trans (hk4.below hb2.size (fun k hk e => by have e' : k = g := e; omega)), .inl ⟨Nat.zero_le _, _, hok4, rfl, rfl, rfl, rfl, rfl, rfl, rfl, rfl⟩⟩
           have HST := hid hst
           clear q0 q1 q2 q3 q4 hl4 hfr4 hfa4 hk4 hok4 hst hb2 HBEG HNEW HL2
           generalize aduF (UInt8.ofNat (1 + U).toNat) Q.pdu = F at *
           go_wp2_with (go_at_call 10; (with_reducible refine (HM6.out _).mono ?_); rintro r w5 ⟨rfl, rfl⟩)
           go_loopw [29] (fun s29 wr => ∃ i : Nat, s29 = .int .i64 i ∧ i ≤ Fl + 1 ∧ Hid (LcAt wB g i Fl b p R (1 + U) Q F ⟨1, rpOf Q d2⟩ wr)) (fun s29 _ => Fl + 1 - (intOf s29).toNat)
           case atStart => exact ⟨0, rfl, Nat.zero_le _, HST.out⟩
           case round =>
             clear HST
             obtain ⟨i, rfl, hi, hrel⟩ := hrel
             by_cases hle : i ≤ Fl
             · obtain ⟨hbl, hst⟩ := hrel.out
               obtain ⟨s, hok, hb, hp, hun, hq, hti, hre, hcnt, hph⟩ : ∃ s, LkOk g 0 F s wr ∧ s.b = b ∧ s.p = p ∧ s.un = 1 + U ∧ s.q = Q ∧ s.ti = 5000 ∧ s.re = R ∧ s.cnt = i ∧ s.ph = 1 := by
                 rcases hst with ⟨_, h⟩ | ⟨h, _⟩
                 · exact h
                 · omega
               have d0 : decide ((i : Int) ≤ (Fl : Int)) = true := decide_eq_true (by omega)
               have HLBr := hid (HLB.out.below hbl)
               have HOK := hid hok
               have HBL := hid hbl
               have HEQ := hid (show s.b = b ∧ s.p = p ∧ s.un = 1 + U ∧ s.q = Q ∧ s.ti = 5000 ∧ s.re = R ∧ s.cnt = i ∧ s.ph = 1 from ⟨hb, hp, hun, hq, hti, hre, hcnt, hph⟩)
               have hgr := hok.at_.lt
               have hwBr := hbl.size
               have hpsB := hpLt HLB.out.set
               have hfb := frameT_bd HSET.out hok.flen
               have hnw1 := hok.now1
               have hnw2 : s.now ≤ 80000000 := by have h1 := hok.now2; have h2 : top s 0 ≤ 80000000 := top_max (by have := hok.cnt2; omega) (by omega); omega
               have HAC0 := hid (action_send g s F wr hok.at_ hph hok.fr (by have := hok.flen; omega))
               have HFR : Hid (∀ W, Calls Try.prog 21 #[.agg #[.int .i64 b, .int .i64 p], .int .i64 (F.length : Int)] W fun r w' => r = .returned (.int .i64 (frameT b F.length)) ∧ Below W.heap.size W w') := fun W => rframe_ok b p HSET F.length HOK.out.flen W
               have HSE : Hid (∀ W, Below wr.heap.size wr W → Calls Try.prog 22 #[.pointer (some ⟨g, 0, none⟩), .int .i64 (s.now + frameT b F.length)] W (ESent g 0 F s W)) := fun W hW => by have h := esent (HOK.out.below hW) HEQ.out.2.2.2.2.2.2.2; rw [HEQ.out.1] at h; exact h
               have HCS : Hid (∀ W, Below wr.heap.size wr W → Calls Try.prog 22 #[.pointer (some ⟨g, 0, none⟩), .int .i64 (s.now + frameT b F.length)] W (ClSent g b (1 + U) Q (i + 1) (s.now + frameT b F.length) L out W)) := fun W hW => by
                 have h := cl_sent (HOK.out.below hW) HEQ.out.2.2.2.2.2.2.2 HEQ.out.2.2.2.2.1 L l1 (by omega) out
                 rw [HEQ.out.1, HEQ.out.2.2.1, HEQ.out.2.2.2.1, HEQ.out.2.2.2.2.2.2.1] at h
                 exact h
               obtain ⟨nf, hnf⟩ : ∃ nf, F.length = nf := ⟨_, rfl⟩
               rw [hnf] at HFR HSE HCS hfb
               have HAC : Hid (Calls Try.prog 20 #[.pointer (some ⟨g, 0, none⟩)] wr (fun r w' => ∃ a c, r = .returned (.agg #[.int .i64 1, .int .i64 s.now, .slice a nf c]) ∧ Below wr.heap.size wr w')) := HAC0.out.mono (by rintro r w' ⟨a, c, rfl, _, hb⟩; rw [hnf]; exact ⟨a, c, rfl, hb⟩)
               obtain ⟨FT, hFT⟩ : ∃ FT, frameT b nf = FT := ⟨_, rfl⟩
               rw [hFT] at HFR HSE HCS hfb
               have s1 : IntKind.i64.wrap (s.now + FT) = s.now + FT := IntWalk.i64_in _ (by omega)
               obtain ⟨en, hen⟩ : ∃ en, s.now + FT = en := ⟨_, rfl⟩
               rw [hen] at HSE HCS s1
               have hen1 : 0 ≤ en ∧ en ≤ 83000000 := by omega
               have HEN := hid hen
               clear hnf hFT HAC0 hrel hst hok hbl hb hp hun hq hti hre hcnt hph hfb hnw2
               go_wp2_with fail
               refine HAC.out.mono ?_
               rintro r w5 ⟨a5, c5, rfl, hb5⟩
               obtain ⟨W6, hW6⟩ : ∃ W, W = w5.alloc (.cells #[.int .i64 1, .int .i64 s.now, .slice a5 nf c5] 54) := ⟨_, rfl⟩
               obtain ⟨A, hA⟩ : ∃ A, A = Obj.cells #[.int .i64 1, .int .i64 s.now, .slice a5 nf c5] 54 (0, 0) := ⟨_, rfl⟩
               obtain ⟨B, hB⟩ : ∃ B, B = Obj.cells #[.int .i64 b, .int .i64 p] 45 (0, 0) := ⟨_, rfl⟩
               have hb6 : Below wr.heap.size wr W6 := by rw [hW6]; exact bta hb5 (Nat.le_refl _) _
               have kS : ChS w5.heap.size ps A B W6 := ⟨by rw [hW6, hA]; exact hpNew _ _, by rw [hB]; exact hpKeep HLBr.out.set hb6⟩
               have kD : ChS w5.heap.size ps A B W6.drew := kS
               have z1 : ∀ W, ChS w5.heap.size ps A B W → W.cell? ⟨w5.heap.size, 1, none⟩ = some (.int .i64 s.now) := fun W h => by have h := h.1; rw [hA] at h; exact hpCell h 1
               have z2 : ∀ W, ChS w5.heap.size ps A B W → W.cell? ⟨w5.heap.size, 2, none⟩ = some (.slice a5 nf c5) := fun W h => by have h := h.1; rw [hA] at h; exact hpCell h 2
               have z3 : ∀ W, ChS w5.heap.size ps A B W → W.cell? ⟨ps, 0, none⟩ = some (.int .i64 b) := fun W h => by have h := h.2; rw [hB] at h; exact hpCell h 0
               have z4 : ∀ W, ChS w5.heap.size ps A B W → W.cell? ⟨ps, 1, none⟩ = some (.int .i64 p) := fun W h => by have h := h.2; rw [hB] at h; exact hpCell h 1
               have HA := hid hA
               have HW6 := hid hW6
               have hbD : Below wr.heap.size wr W6.drew := hb6.drew
               have HS6 : Hid (∀ w6, Below W6.drew.heap.size W6.drew w6 → ChS w5.heap.size ps A B w6) := fun w6 h => ⟨hpKeep kD.1 h, hpKeep kD.2 h⟩
               clear hW6 hA hB kS HAC hb5
               go_upto_region 21 with (fail)
               rw [← HW6.out]
               go_region_held3 (fun W => ChS w5.heap.size ps A B W) ((with_reducible (first | exact kD | exact hS6))) ((go_at_call 21; (with_reducible refine (HFR.out _).mono ?_); rintro r w6 ⟨rfl, hb6'⟩; have hS6 := HS6.out _ hb6'; have hB6 := bt hbD hb6' (Nat.le_refl _)))
               all_goals
                 have y0 : w6.cell? ⟨w5.heap.size, 0, none⟩ = some (.int .i64 1) := by have h := hS6.1; rw [HA.out] at h; exact hpCell h 0
                 have HB6 := hid hB6
                 clear z1 z2 z3 z4 kD hS6 hb6 hb6' hbD HFR
                 by_cases hlast : i = Fl
                 · have HCS6 := hid (HCS.out w6 hB6)
                   have d1 : ((i : Int) == (Fl : Int)) = true := by rw [beq_iff_eq]; omega
                   clear hB6
                   obtain ⟨t1, t2, _, _, t5, t6⟩ := time_bd HSET.out
                   obtain ⟨T, hT⟩ : ∃ T, t35T b = T := ⟨_, rfl⟩
                   obtain ⟨C, hC⟩ : ∃ C, charT b = C := ⟨_, rfl⟩
                   have HT35 : Hid (∀ W, Calls Try.prog 23 #[.agg #[.int .i64 b, .int .i64 p]] W fun r w' => r = .returned (.int .i64 T) ∧ Below W.heap.size W w') := fun W => by rw [← hT]; exact rt35_ok b p HSET W
                   have HCHT : Hid (∀ W, Calls Try.prog 24 #[.agg #[.int .i64 b, .int .i64 p]] W fun r w' => r = .returned (.int .i64 C) ∧ Below W.heap.size W w') := fun W => by rw [← hC]; exact rchar_ok b p HSET W
                   rw [hT] at t5 t6
                   rw [hC] at t1 t2
                   have HT := hid hT
                   have HC := hid hC
                   have s2 : IntKind.i64.wrap (en + T) = en + T := IntWalk.i64_in _ (by omega)
                   have s3 : IntKind.i64.wrap (en + T + L) = en + T + L := IntWalk.i64_in _ (by omega)
                   clear hT hC HSE
                   go_wp2_with fail
                   refine HCS6.out.mono ?_
                   rintro r w7 ⟨rfl, hcl7, hk7⟩
                   have hb7 : Below wB.heap.size wB w7 := by
                     have h := bt HBL.out HB6.out (Nat.le_refl _)
                     exact h.trans (hk7.below h.size (fun k hk e => by have e' : k = g := e; omega))
                   have HCL7 := hid hcl7
                   have u0 : w7.cell? ⟨ps, 0, none⟩ = some (.int .i64 b) := hpCell (HLB.out.below hb7).set 0
                   have u1 : w7.cell? ⟨ps, 1, none⟩ = some (.int .i64 p) := hpCell (HLB.out.below hb7).set 1
                   have HB7 := hid hb7
                   clear y0 hcl7 hk7 hb7 HCS6 HCS
                   go_wp2_with (first | (go_at_call 23; (with_reducible refine (HT35.out _).mono ?_); rintro r w8 ⟨rfl, hb8⟩) | (go_at_call 10; (with_reducible refine (HM5.out _).mono ?_); rintro r w8' ⟨rfl, rfl⟩))
                   have hin : ClAt g 0 b (1 + U) Q (i + 1) (en + T + L) out w8 ∧ Below wB.heap.size wB w8 := by
                     have h := HCL7.out
                     rw [HT.out] at h
                     exact ⟨h.below hb8, bt HB7.out hb8 (Nat.le_refl _)⟩
                   have HIN := hid hin
                   clear hin hb8 u0 u1 HCL7 HB7 s2 s3
                   go_loopw [32, 33] (fun s32 s33 wr => ∃ (k : Nat) (t : Int), s33 = .int .i64 k ∧ s32 = .int .i64 t ∧ k ≤ m ∧ 0 ≤ t ∧ t + 10000 * (256 - (k : Int)) ≤ 100000000 ∧ Hid (ClAt g k b (1 + U) Q (i + 1) t out wr ∧ Below wB.heap.size wB wr)) (fun _ s33 _ => m - (intOf s33).toNat)
                   case atStart => exact ⟨0, _, rfl, rfl, by omega, by omega, by omega, HIN.out⟩
                   case round =>
                     clear HIN HOK HBL HEQ HLBr HB6
                     obtain ⟨k, t, rfl, rfl, hkm, ht0, htm, hrel⟩ := hrel
                     have hlb := HLB.out.below hrel.out.2
                     by_cases hlt : k < m
                     · have hkl : (k : Int) < (m : Int) := by omega
                       have u0 : wr.cell? ⟨ps, 0, none⟩ = some (.int .i64 b) := hpCell hlb.set 0
                       have u1 : wr.cell? ⟨ps, 1, none⟩ = some (.int .i64 p) := hpCell hlb.set 1
                       obtain ⟨_, _, hv, _, hcm3, _, hel⟩ := hlb.fr
                       have hne : out ≠ [] := by intro h; have := HOL.out; rw [h] at this; simp at this; omega
                       obtain ⟨ob, oo, hob, hoc⟩ := hel hne
                       cases hv
                       subst hob
                       have HCE : Hid (∀ W, Below wr.heap.size wr W → W.cell? ⟨ob, oo + k, none⟩ = some (.int .u8 ((out.getD k 0).toNat : Int))) := fun W hW => cell_keep hW (hoc k (by rw [HOL.out]; exact hlt))
                       have HCC : Hid (∀ W, Below wr.heap.size wr W → Calls Try.prog 25 #[.pointer (some ⟨g, 0, none⟩), .agg #[.int .i64 (t + C), .int .u8 ((out.getD k 0).toNat : Int), .int .i64 0]] W (ClChar g k b (1 + U) Q (i + 1) t out W)) := fun W hW => by
                         have h := cl_char (hrel.out.1.below hW) HSET.out ht0 (by omega) (by rw [HOL.out]; exact hlt) (by omega)
                         rw [HC.out] at h
                         exact h
                       have s2 : IntKind.i64.wrap (t + C) = t + C := IntWalk.i64_in _ (by omega)
                       generalize (out.getD k 0).toNat = ob8 at HCE HCC
                       have hrel2 := hid hrel.out.2
                       have hcm4 : oc ≤ maxLen := hcm3
                       unfold maxLen at hcm4
                       have hmoc : m ≤ oc := by have := HOL.out; omega
                       clear hlb hrel hel hoc hne hcm3
                       go_wp2_with (go_at_call 24; (with_reducible refine (HCHT.out _).mono ?_); rintro r w9 ⟨rfl, hb9⟩; have c9 := HCE.out _ hb9)
                       refine (HCC.out _ hb9).mono ?_
                       rintro r w10 ⟨rfl, hcl10, hb10⟩
                       have HN : Hid (ClAt g (k + 1) b (1 + U) Q (i + 1) (t + C) out w10 ∧ Below wB.heap.size wB w10) := by
                         rw [HC.out] at hcl10
                         exact ⟨hcl10, (bt hrel2.out hb9 (Nat.le_refl _)).trans (hb10.mono hg)⟩
                       clear hcl10 hb10 c9 u0 u1 HCC HCE
                       go_wp2
                       go_roundw
                       case rel => exact ⟨k + 1, t + C, by go_num, rfl, by omega, by omega, by omega, HN.out⟩
                       case measure => simp [intOf]; omega
                     · obtain rfl : k = m := by omega
                       have HSI := hid (cl_silence hrel.out.1 HSET.out (by omega) HOL.out.symm hm1 HJU.out (.inl rfl))
                       have hrel2 := hid hrel.out.2
                       clear hlb hrel
                       go_wp2_with fail
                       refine HSI.out.mono ?_
                       rintro r w9 ⟨rfl, hdn, hb9⟩
                       have HN : Hid (LcAt wB g (i + 1) Fl b p R (1 + U) Q F ⟨1, rpOf Q d2⟩ w9) := ⟨hrel2.out.trans (hb9.mono hg), .inr ⟨by omega, by rw [hlast] at hdn; exact hdn⟩⟩
                       clear hdn hb9 HSI
                       go_wp2
                       go_roundw
                       case rel => exact ⟨i + 1, by go_num, by omega, HN.out⟩
                       case measure => simp [intOf]; omega
                 · have HSE6 := hid (HSE.out w6 hB6)
                   have d1 : ((i : Int) == (Fl : Int)) = false := by rw [beq_eq_false_iff_ne]; omega
                   clear hB6
                   go_wp2_with fail
                   refine HSE6.out.mono ?_
                   rintro r w7 ⟨s7, rfl, hok7, hlike7, hph7, hcnt7, hk7⟩
                   have HSW := hid (esil_wait hok7 hph7)
                   have H7 := hid (show s7.like s7 ∧ s.like s7 ∧ s7.cnt = s.cnt + 1 ∧ Below wB.heap.size wB w7 from ⟨Lk.like.refl _, hlike7, hcnt7, by
                     have h := bt HBL.out HB6.out (Nat.le_refl _)
                     exact h.trans (hk7.below h.size (fun k hk e => by have e' : k = g := e; omega))⟩)
                   clear y0 hok7 hlike7 hph7 hcnt7 hk7 HSE6 HSE HCS
                   go_wp2_with fail
                   refine HSW.out.mono ?_
                   rintro r w8 ⟨s8, rfl, hok8, hlike8, hcnt8, hph8, hb8⟩
                   have HSM := hid (esil_more hok8 hph8 (by have h1 := H7.out.2.1.re; have h2 := H7.out.2.2.1; have h3 := hlike8.re; have h4 := HEQ.out; omega))
                   have H8 := hid (show s.like s8 ∧ s8.cnt = s.cnt + 1 ∧ Below wB.heap.size wB w8 from ⟨H7.out.2.1.trans hlike8, hcnt8.trans H7.out.2.2.1, H7.out.2.2.2.trans (hb8.mono hg)⟩)
                   clear hok8 hlike8 hcnt8 hph8 hb8 HSW
                   go_wp2_with fail
                   refine HSM.out.mono ?_
                   rintro r w9 ⟨s9, rfl, hok9, hlike9, hcnt9, hph9, hb9⟩
                   have HN : Hid (LcAt wB g (i + 1) Fl b p R (1 + U) Q F ⟨1, rpOf Q d2⟩ w9) := by
                     have hl := H8.out.1.trans hlike9
                     obtain ⟨e1, e2, e3, e4, e5, e6, e7, _⟩ := HEQ.out
                     refine ⟨H8.out.2.2.trans (hb9.mono hg), .inl ⟨by omega, s9, hok9, by rw [hl.b]; exact e1, by rw [hl.p]; exact e2, by rw [hl.un]; exact e3, by rw [hl.q]; exact e4, by rw [hl.ti]; exact e5, by rw [hl.re]; exact e6, by rw [hcnt9, H8.out.2.1, e7]; omega, hph9⟩⟩
                   clear hok9 hlike9 hcnt9 hph9 hb9 HSM
                   go_wp2
                   go_roundw
                   case rel => exact ⟨i + 1, by go_num, by omega, HN.out⟩
                   case measure => simp [intOf]; omega
             · obtain rfl : i = Fl + 1 := by omega
               obtain ⟨hbl, hst⟩ := hrel.out
               obtain ⟨s, hl, hph, hou, hso, hcnt⟩ : DnAt g ⟨1, rpOf Q d2⟩ ((Fl : Int) + 1) wr := by
                 rcases hst with ⟨h, _⟩ | ⟨_, h⟩
                 · omega
                 · exact h
               have HOU := hid (outcome_done g s wr hl hph hou)
               rw [hso] at HOU
               have HAT : Hid (∀ W, Below wr.heap.size wr W → Calls Try.prog 29 #[.pointer (some ⟨g, 0, none⟩)] W fun r w' => r = .returned (.int .i64 ((Fl : Int) + 1)) ∧ W = w') := fun W hW => by have h := attempts_any g s W (hl.keep hW); rw [hcnt] at h; exact h
               have HLBr := hid (HLB.out.below hbl)
               clear hst hl hph hou hso hcnt hrel hi hle
               have HOU2 : Hid (Calls Try.prog 27 #[.pointer (some ⟨g, 0, none⟩)] wr (fun r w' => ∃ (xa : Option Addr) (xc : Nat) (za : Option Addr) (zc : Nat), r = .returned (.tuple #[.agg #[.int .i64 1, .int .i64 Q.fn, .int .i64 0, .slice xa d2.length xc, .int .i64 0, .int .i64 0, .bool false, .int .i64 0, .slice za 0 zc], .bool true]) ∧ (∀ W, Agree wr.heap.size w' W → RpIs W (rpOf Q d2) xa xc za zc) ∧ Below wr.heap.size wr w')) := HOU.out
               clear HOU
               go_wp2_with fail
               refine HOU2.out.mono ?_
               rintro r w5 ⟨xa, xc, za, zc, rfl, ho5, hb5⟩
               have HO5 := hid ho5
               obtain ⟨W6, hW6⟩ : ∃ W, W = w5.alloc (.cells #[.int .i64 1, .int .i64 Q.fn, .int .i64 0, .slice xa d2.length xc, .int .i64 0, .int .i64 0, .bool false, .int .i64 0, .slice za 0 zc] 41) := ⟨_, rfl⟩
               have p6 : W6.heap[w5.heap.size]? = some (.cells #[.int .i64 1, .int .i64 Q.fn, .int .i64 0, .slice xa d2.length xc, .int .i64 0, .int .i64 0, .bool false, .int .i64 0, .slice za 0 zc] 41) := by rw [hW6]; exact hpNew _ _
               have hb6 : Below wr.heap.size wr W6 := by rw [hW6]; exact bta hb5 (Nat.le_refl _) _
               have hb56 : Below w5.heap.size w5 W6 := by rw [hW6]; exact bal' _ _
               have HW6 := hid hW6
               clear hW6 ho5 HOU2 hb5
               go_wp2_with fail
               rw [← HW6.out]
               refine (lkawake_any _).mono ?_
               rintro r w7 ⟨rfl, hb7⟩
               have hb67 := bt hb6 hb7 (Nat.le_refl _)
               have p7 := hpKeep p6 hb7
               have hl7 := HLBr.out.below hb67
               have HSA : Hid (Calls Try.prog 28 #[.agg #[.int .i64 Q.fn, .int .i64 0, .slice xa d2.length xc, .int .i64 0, .int .i64 0, .bool false, .int .i64 0, .slice za 0 zc], .agg #[.int .i64 Q.fn, .int .i64 0, .slice (some ⟨pd, 0, none⟩) d2.length d2.length, .int .i64 0, .int .i64 0, .bool false, .int .i64 0, .slice none 0 0]] w7 fun r w' => r = .returned (.bool true) ∧ Below w7.heap.size w7 w') := by
                 have hri := HO5.out w7 (Agree.of_below (bt hb56 hb7 (Nat.le_refl _)))
                 exact same_any Q.fn 0 _ 0 0 false 0 _ d2 [] Q.fn 0 _ 0 0 false 0 _ d2 [] w7 hri.d hri.o hl7.dat (Obs.nil _) true (Rp.same_self _)
               obtain ⟨v0, v1, v2, v3, v4, v5, v6, v7, v8⟩ : w7.cell? ⟨w5.heap.size, 0, none⟩ = some (.int .i64 1) ∧ w7.cell? ⟨w5.heap.size, 1, none⟩ = some (.int .i64 Q.fn) ∧ w7.cell? ⟨w5.heap.size, 2, none⟩ = some (.int .i64 0) ∧ w7.cell? ⟨w5.heap.size, 3, none⟩ = some (.slice xa d2.length xc) ∧ w7.cell? ⟨w5.heap.size, 4, none⟩ = some (.int .i64 0) ∧ w7.cell? ⟨w5.heap.size, 5, none⟩ = some (.int .i64 0) ∧ w7.cell? ⟨w5.heap.size, 6, none⟩ = some (.bool false) ∧ w7.cell? ⟨w5.heap.size, 7, none⟩ = some (.int .i64 0) ∧ w7.cell? ⟨w5.heap.size, 8, none⟩ = some (.slice za 0 zc) := ⟨hpCell p7 0, hpCell p7 1, hpCell p7 2, hpCell p7 3, hpCell p7 4, hpCell p7 5, hpCell p7 6, hpCell p7 7, hpCell p7 8⟩
               obtain ⟨r0, r1, r2, r3, r4, r5, r6, r7⟩ : w7.cell? ⟨pr, 0, none⟩ = some (.int .i64 Q.fn) ∧ w7.cell? ⟨pr, 1, none⟩ = some (.int .i64 0) ∧ w7.cell? ⟨pr, 2, none⟩ = some (.slice (some ⟨pd, 0, none⟩) d2.length d2.length) ∧ w7.cell? ⟨pr, 3, none⟩ = some (.int .i64 0) ∧ w7.cell? ⟨pr, 4, none⟩ = some (.int .i64 0) ∧ w7.cell? ⟨pr, 5, none⟩ = some (.bool false) ∧ w7.cell? ⟨pr, 6, none⟩ = some (.int .i64 0) ∧ w7.cell? ⟨pr, 7, none⟩ = some (.slice none 0 0) := ⟨hpCell hl7.rep 0, hpCell hl7.rep 1, hpCell hl7.rep 2, hpCell hl7.rep 3, hpCell hl7.rep 4, hpCell hl7.rep 5, hpCell hl7.rep 6, hpCell hl7.rep 7⟩
               have HB67 := hid hb67
               have HL7 := hid hl7
               clear p6 p7 hb6 hb56 hb7 hb67 hl7
               go_wp2_with fail
               refine HSA.out.mono ?_
               rintro r w8 ⟨rfl, hb8⟩
               have HA8 := hid (HAT.out w8 (bt HB67.out hb8 (Nat.le_refl _)))
               clear v0 v1 v2 v3 v4 v5 v6 v7 v8 r0 r1 r2 r3 r4 r5 r6 r7 HSA HAT
               go_wp2_with fail
               refine HA8.out.mono ?_
               rintro r w9 ⟨rfl, rfl⟩
               go_wp2
               go_ret
               exact ⟨rfl, bt HL7.out.bel hb8 (Nat.le_refl _)⟩

end Go.Proofs.Ytoaajdbjlaffgaa
