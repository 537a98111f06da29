/-
  Texts 33 of the claim.
-/
import Derived.Test.YtpkheiaanjhffaaN30
import Derived.Test.YtpkheiaanjhffaaN32
import Derived.Test.YtpkheiaanjhffaaN07
namespace Go.Proofs.Ytpkheiaanjhffaa
open Go.RowKit
def xorB1 (f : List UInt8) (p m : Nat) : List UInt8 := f.set p ((f.getD p 0) ^^^ UInt8.ofNat m)
theorem xorB1_len (f : List UInt8) (p m : Nat) : (xorB1 f p m).length = f.length := by unfold xorB1; rw [List.length_set]
def damL (a : At) (f : List UInt8) : List UInt8 :=
  if a.pos.toNat % f.length + 1 < f.length then xorB1 (xorB1 f (a.pos.toNat % f.length) (a.mask.toNat % 256)) (a.pos.toNat % f.length + 1) (a.mask.toNat / 256)
  else xorB1 f (a.pos.toNat % f.length) (a.mask.toNat % 256)
theorem damL_len (a : At) (f : List UInt8) : (damL a f).length = f.length := by
  unfold damL
  split
  · rw [xorB1_len, xorB1_len]
  · rw [xorB1_len]
def loneB (l : List Sl) (bd pa : Int) (f : List UInt8) : Bool := match busDec l bd pa f with
  | some o => decide (o.2.2.length = 1)
  | none => false
def rcvF (l : List Sl) (a : At) (bd pa : Int) (f : List UInt8) : List UInt8 :=
  if a.fault = 1 ∨ a.fault = 2 then []
  else if a.fault = 5 then (busBusy l bd pa f).getD []
  else if a.fault = 3 ∧ loneB l bd pa f = true then damL a ((busAns l bd pa f a.value).getD []) else (busAns l bd pa f a.value).getD []
theorem ansF_len {l : List Sl} (hB : BusP l) {bd pa : Int} {f : List UInt8} {o : Int × Rq × List Nat} (h : busDec l bd pa f = some o) (x : Int) : 5 ≤ (ansF l x o).length ∧ (ansF l x o).length ≤ 256 := by
  obtain ⟨u, q, ms⟩ := o
  obtain ⟨h1, h2, h3, h4, h5⟩ := busDec_some h
  cases ms with
  | nil => exact absurd rfl h5
  | cons j ms =>
    obtain ⟨s, hs, -⟩ := memb_mem (l := l) (bd := bd) (pa := pa) (un := u) (k := l.length) (j := j) (by rw [← h4]; exact List.mem_cons_self)
    have hv := hB.2 s (List.mem_of_getElem? hs)
    have e := frameOf_len u (Sl.ans_ok hv h3 x)
    unfold ansF
    dsimp only
    rw [hs]
    dsimp only
    split
    · exact e
    · rw [flipL_len]
      exact e
theorem busAns_len {l : List Sl} (hB : BusP l) (bd pa : Int) (f : List UInt8) (x : Int) : ((busAns l bd pa f x).getD []).length ≤ 256 := by
  unfold busAns
  cases h : busDec l bd pa f with
  | none => exact Nat.zero_le _
  | some o => exact (ansF_len hB h x).2
theorem busBusy_len {l : List Sl} (hB : BusP l) (bd pa : Int) (f : List UInt8) : ((busBusy l bd pa f).getD []).length ≤ 256 := by
  unfold busBusy
  cases h : busDec l bd pa f with
  | none => exact Nat.zero_le _
  | some o =>
    show (if o.2.2.length = 1 then _ else _ : List UInt8).length ≤ 256
    split
    · obtain ⟨u, q, ms⟩ := o
      exact (frameOf_len u (mkR_ok (ok_known (busDec_some h).2.2.1) (by decide) (by decide))).2
    · exact (ansF_len hB h 0).2
theorem rcvF_len {l : List Sl} (hB : BusP l) (a : At) (bd pa : Int) (f : List UInt8) : (rcvF l a bd pa f).length ≤ 256 := by
  unfold rcvF
  split
  · exact Nat.zero_le _
  · split
    · exact busBusy_len hB _ _ _
    · split
      · rw [damL_len]
        exact busAns_len hB _ _ _ _
      · exact busAns_len hB _ _ _ _
def chAt (C st : Int) (a : At) (i : Nat) (x : UInt8) : Ch := ⟨st + ((i : Int) + 1) * C + (if a.fault = 6 ∧ a.pos ≤ (i : Int) then a.ticks else 0), (x.toNat : Int), 0, C⟩
def chsN (C st : Int) (a : At) (r : List UInt8) (k : Nat) : List Ch := (List.range k).map fun i => chAt C st a i (r.getD i 0)
theorem chsN_succ (C st : Int) (a : At) (r : List UInt8) (k : Nat) : chsN C st a r (k + 1) = chsN C st a r k ++ [chAt C st a k (r.getD k 0)] := range_succ_map _ _
theorem chsN_len (C st : Int) (a : At) (r : List UInt8) (k : Nat) : (chsN C st a r k).length = k := by unfold chsN; rw [List.length_map, List.length_range]
def atOf (ats : List At) (lp : Bool) (k : Nat) : At :=
  if ats.length = 0 ∨ (lp = false ∧ ats.length ≤ k) then At.zero else (ats[k % ats.length]?).getD At.zero
theorem At.zero_ok : At.zero.ok := by
  unfold At.zero
  rw [At.ok_mk]
  omega
theorem atOf_ok {ats : List At} (h : ∀ x ∈ ats, x.ok) (lp : Bool) (k : Nat) : (atOf ats lp k).ok := by
  unfold atOf
  split
  · exact At.zero_ok
  · cases e : ats[k % ats.length]? with
    | none => exact At.zero_ok
    | some x => exact h x (List.mem_of_getElem? e)
structure Ln where
  sent : List ((Int × Int) × List UInt8)
  pend : List Ch
  free : Int
  heard : Bool
  last : Int
def Ln.zero : Ln := ⟨[], [], 0, false, 0⟩
def topT : Int := 1152921504606846976
def begT (bd : Int) (a : At) (tick : Int) (n : Nat) : Int := tick + frameT bd n + t35T bd + a.lat + (if a.fault = 4 then a.ticks else 0)
def newsF (l : List Sl) (a : At) (bd pa : Int) (f : List UInt8) (tick : Int) : List Ch := chsN (charT bd) (begT bd a tick f.length) a (rcvF l a bd pa f) (rcvF l a bd pa f).length
def Ln.sendE (s : Ln) (n : Nat) (tick : Int) : Int :=
  if n < 1 ∨ 256 < n then 4 else if tick < 0 ∨ topT < tick then 3 else if tick < s.free then 7 else 0
def Ln.send (l : List Sl) (ats : List At) (lp : Bool) (s : Ln) (bd pa : Int) (f : List UInt8) (tick : Int) : Ln :=
  { s with sent := s.sent ++ [((bd, pa), f)], pend := (newsF l (atOf ats lp s.sent.length) bd pa f tick).foldl putL s.pend, free := tick + frameT bd f.length }
def Ln.ev (s : Ln) (x : Ch) : Ch := { x with fl := if s.heard = true ∧ x.at_ < s.last + x.du then 2 else 0 }
def Ln.next (s : Ln) (x : Ch) (r : List Ch) : Ln := { s with pend := r, heard := true, last := x.at_, free := max s.free x.at_ }
structure ChOk (x : Ch) : Prop where
  a0 : 0 ≤ x.at_
  a1 : x.at_ ≤ topT + 33554432
  v0 : 0 ≤ x.val
  v1 : x.val ≤ 255
  fl : x.fl = 0
  d0 : 96 ≤ x.du
  d1 : x.du ≤ 9167
structure Ln.ok (s : Ln) : Prop where
  asc : ascL s.pend
  ch : ∀ x ∈ s.pend, ChOk x
  f0 : 0 ≤ s.free
  f1 : s.free ≤ topT + 33554432
  l0 : 0 ≤ s.last
  l1 : s.last ≤ topT + 33554432
theorem Ln.zero_ok : Ln.zero.ok := ⟨fun i j x y _ h => (by cases h), fun x h => (by cases h), by decide, by decide, by decide, by decide⟩
theorem frame_bd {bd pa : Int} (h : Okset bd pa) {n : Nat} (hn : n ≤ 256) : 0 ≤ frameT bd n ∧ frameT bd n ≤ 2346752 := by
  obtain ⟨t1, t2, -⟩ := time_bd h
  unfold frameT
  have h1 : (0 : Int) ≤ (n : Int) * charT bd := Int.mul_nonneg (by omega) (by omega)
  have h2 : (n : Int) * charT bd ≤ 256 * 9167 := Int.mul_le_mul (by omega) t2 (by omega) (by omega)
  omega
theorem At.ok_bd {a : At} (h : a.ok) : 0 ≤ a.lat ∧ a.lat ≤ 5000000 ∧ 0 ≤ a.value ∧ a.value ≤ 65535 ∧ 0 ≤ a.ticks ∧ a.ticks ≤ 5000000 := ⟨h.1, h.2.1, h.2.2.1, h.2.2.2.1, h.2.2.2.2.1, h.2.2.2.2.2.1⟩
theorem begT_bd {bd pa : Int} (h : Okset bd pa) {a : At} (ha : a.ok) (tick : Int) {n : Nat} (hn : n ≤ 256) : tick ≤ begT bd a tick n ∧ begT bd a tick n ≤ tick + 12400000 := by
  obtain ⟨a1, a2⟩ := frame_bd h hn
  obtain ⟨t1, t2, t3, t4, t5, t6⟩ := time_bd h
  obtain ⟨b1, b2, b3, b4, b5, b6⟩ := At.ok_bd ha
  unfold begT
  split <;> omega
theorem chAt_ok {bd pa : Int} (h : Okset bd pa) {a : At} (ha : a.ok) {st : Int} (h0 : 0 ≤ st) (h1 : st ≤ topT + 12400000) {i : Nat} (hi : i < 256) (x : UInt8) : ChOk (chAt (charT bd) st a i x) := by
  obtain ⟨t1, t2, -⟩ := time_bd h
  obtain ⟨b1, b2, b3, b4, b5, b6⟩ := At.ok_bd ha
  have e1 : (0 : Int) ≤ ((i : Int) + 1) * charT bd := Int.mul_nonneg (by omega) (by omega)
  have e2 : ((i : Int) + 1) * charT bd ≤ 256 * 9167 := Int.mul_le_mul (by omega) t2 (by omega) (by omega)
  have e3 : (x.toNat : Int) ≤ 255 := by have := byte_lt x; omega
  have e4 : topT = 1152921504606846976 := rfl
  rw [e4] at h1
  unfold chAt
  generalize ((i : Int) + 1) * charT bd = m at e1 e2 ⊢
  refine ⟨?_, ?_, Int.natCast_nonneg _, e3, rfl, t1, t2⟩
  · dsimp only
    split <;> omega
  · dsimp only
    rw [e4]
    split <;> omega
theorem newsF_ok {l : List Sl} (hB : BusP l) {bd pa : Int} (h : Okset bd pa) {a : At} (ha : a.ok) {f : List UInt8} (hf : f.length ≤ 256) {tick : Int} (h0 : 0 ≤ tick) (h1 : tick ≤ topT) : ∀ x ∈ newsF l a bd pa f tick, ChOk x := by
  intro x hx
  unfold newsF chsN at hx
  obtain ⟨i, hi, rfl⟩ := List.mem_map.1 hx
  have hi := List.mem_range.1 hi
  have hl := rcvF_len hB a bd pa f
  obtain ⟨b1, b2⟩ := begT_bd h ha tick hf
  exact chAt_ok h ha (by omega) (by omega) (by omega) _
theorem Ln.ok.send {s : Ln} (hs : s.ok) {l : List Sl} (hB : BusP l) {ats : List At} (hA : ∀ x ∈ ats, x.ok) (lp : Bool) {bd pa : Int} (h : Okset bd pa) {f : List UInt8} (hf : f.length ≤ 256) {tick : Int} (h0 : 0 ≤ tick) (h1 : tick ≤ topT) : (s.send l ats lp bd pa f tick).ok := by
  obtain ⟨a1, a2⟩ := frame_bd h hf
  refine ⟨puts_ascOn hs.asc _, fun x hx => ?_, ?_, ?_, hs.l0, hs.l1⟩
  · rcases (puts_mem _ _ x).1 hx with e | e
    · exact hs.ch x e
    · exact newsF_ok hB h (atOf_ok hA lp _) hf h0 h1 x e
  · show 0 ≤ tick + frameT bd f.length
    omega
  · show tick + frameT bd f.length ≤ topT + 33554432
    omega
theorem Ln.ok.next {s : Ln} (hs : s.ok) {x : Ch} {r : List Ch} (h : s.pend = x :: r) : (s.next x r).ok := by
  have hx := hs.ch x (by rw [h]; exact List.mem_cons_self)
  obtain ⟨f0, f1⟩ := And.intro hs.f0 hs.f1
  refine ⟨?_, fun y hy => hs.ch y (by rw [h]; exact List.mem_cons_of_mem _ hy), ?_, ?_, hx.a0, hx.a1⟩
  · have := ascL_pw.1 hs.asc
    rw [h] at this
    exact ascL_pw.2 (List.pairwise_cons.1 this).2
  · show 0 ≤ max s.free x.at_
    omega
  · show max s.free x.at_ ≤ topT + 33554432
    have := hx.a1
    omega
end Go.Proofs.Ytpkheiaanjhffaa
