/-
  The contract of the reader's method outcome: what follows the reading of its parts.
-/
import Derived.Test.YtlaaoifjiogogaaMrec
import Derived.Test.YtlaaoifjiogogaaDecA
import Derived.Test.YtlaaoifjiogogaaMenc
import Derived.Deep.CutBlock
import Derived.Deep.CutRange
namespace Go.Proofs.Ytlaaoifjiogogaa
open Go.RowKit

theorem ocP_nil : ocP [] = none := rfl
theorem ocP_other {v : UInt8} {t : List UInt8} (h2 : (v.toNat : Int) ≠ 2) (h1 : (v.toNat : Int) ≠ 1) :
    (Oc.ok ⟨(v.toNat : Int), Rp.zero⟩ = true ∧ ocP (v :: t) = some (⟨(v.toNat : Int), Rp.zero⟩, t)) ∨ (Oc.ok ⟨(v.toNat : Int), Rp.zero⟩ = false ∧ ocP (v :: t) = none) := by
  have e0 : bAt (v :: t) 0 = (v.toNat : Int) := rfl
  unfold ocP
  rw [e0, if_neg h2, if_neg h1]
  by_cases h3 : (v.toNat : Int) = 3 ∨ (v.toNat : Int) = 4 ∨ (v.toNat : Int) = 5
  · rw [if_pos h3]
    refine .inl ⟨?_, rfl⟩
    unfold Oc.ok
    rw [if_pos h3]
    rfl
  · rw [if_neg h3]
    refine .inr ⟨?_, rfl⟩
    unfold Oc.ok
    rw [if_neg h3, if_neg h2, if_neg h1]
theorem ocP_2short {v : UInt8} {t : List UInt8} (h2 : (v.toNat : Int) = 2) (h : t.length < 2) : ocP (v :: t) = none := by
  have e0 : bAt (v :: t) 0 = (v.toNat : Int) := rfl
  unfold ocP
  rw [e0, if_pos h2, if_neg (fun hh => by have := hh.1; simp at this; omega)]
theorem ocP_2 {v f x : UInt8} {u : List UInt8} (h2 : (v.toNat : Int) = 2) :
    (Oc.ok ⟨2, Rp.shortOf (f.toNat : Int) (x.toNat : Int)⟩ = true ∧ ocP (v :: f :: x :: u) = some (⟨2, Rp.shortOf (f.toNat : Int) (x.toNat : Int)⟩, u)) ∨ (Oc.ok ⟨2, Rp.shortOf (f.toNat : Int) (x.toNat : Int)⟩ = false ∧ ocP (v :: f :: x :: u) = none) := by
  have e0 : bAt (v :: f :: x :: u) 0 = (v.toNat : Int) := rfl
  have e1 : bAt (v :: f :: x :: u) 1 = (f.toNat : Int) := rfl
  have e2 : bAt (v :: f :: x :: u) 2 = (x.toNat : Int) := rfl
  unfold ocP
  rw [e0, e1, e2, if_pos h2]
  cases hk : Oc.ok ⟨2, Rp.shortOf (f.toNat : Int) (x.toNat : Int)⟩ with
  | true => exact .inl ⟨rfl, by rw [if_pos ⟨by simp, rfl⟩]; rfl⟩
  | false => exact .inr ⟨rfl, by rw [if_neg (fun hh => by cases hh.2)]⟩
theorem ocP_1short {v : UInt8} {t : List UInt8} (h1 : (v.toNat : Int) = 1) (ht : tblB (bAt t 0) = false) (h : t.length < 2) : ocP (v :: t) = none := by
  have e0 : bAt (v :: t) 0 = (v.toNat : Int) := rfl
  have e1 : bAt (v :: t) 1 = bAt t 0 := rfl
  unfold ocP
  rw [e0, if_neg (by omega), if_pos h1, e1, if_neg (by rw [ht]; decide), if_neg (fun hh => by have := hh.1; simp at this; omega)]
theorem ocP_1t {v f : UInt8} {u : List UInt8} (h1 : (v.toNat : Int) = 1) (ht : tblB (f.toNat : Int) = true) :
    Oc.ok ⟨1, Rp.shortOf (f.toNat : Int) 0⟩ = true ∧ ocP (v :: f :: u) = some (⟨1, Rp.shortOf (f.toNat : Int) 0⟩, u) := by
  have e0 : bAt (v :: f :: u) 0 = (v.toNat : Int) := rfl
  have e1 : bAt (v :: f :: u) 1 = (f.toNat : Int) := rfl
  refine ⟨by simp [Oc.ok, Rp.shortOf, ht, Rp.short, Rp.plain], ?_⟩
  unfold ocP
  rw [e0, if_neg (by omega), if_pos h1, e1, if_pos ht]
  rfl
theorem ocP_1long {v f k : UInt8} {s : List UInt8} (h1 : (v.toNat : Int) = 1) (ht : tblB (f.toNat : Int) = false) (h : s.length < k.toNat) : ocP (v :: f :: k :: s) = none := by
  have e0 : bAt (v :: f :: k :: s) 0 = (v.toNat : Int) := rfl
  have e1 : bAt (v :: f :: k :: s) 1 = (f.toNat : Int) := rfl
  have e2 : (v :: f :: k :: s).getD 2 0 = k := rfl
  unfold ocP
  rw [e0, if_neg (by omega), if_pos h1, e1, if_neg (by rw [ht]; decide), e2, if_neg (fun hh => by have := hh.2; simp at this; omega)]
theorem ocP_1d {v f k : UInt8} {s : List UInt8} (h1 : (v.toNat : Int) = 1) (ht : tblB (f.toNat : Int) = false) (h : k.toNat ≤ s.length) :
    ocP (v :: f :: k :: s) = match Rp.dec (s.take k.toNat) with
      | some x => if x.fn = (f.toNat : Int) ∧ x.exc = 0 then some (⟨1, x⟩, s.drop k.toNat) else none
      | none => none := by
  have e0 : bAt (v :: f :: k :: s) 0 = (v.toNat : Int) := rfl
  have e1 : bAt (v :: f :: k :: s) 1 = (f.toNat : Int) := rfl
  have e2 : (v :: f :: k :: s).getD 2 0 = k := rfl
  have e3 : (v :: f :: k :: s).drop 3 = s := rfl
  have e4 : (v :: f :: k :: s).drop (3 + k.toNat) = s.drop k.toNat := by rw [← List.drop_drop, e3]
  unfold ocP
  rw [e0, if_neg (by omega), if_pos h1, e1, if_neg (by rw [ht]; decide), e2, if_pos ⟨by simp, by simp; omega⟩, e3, e4]
  rfl

theorem chain2 {A2 B2 : Prop} (nB2 : ¬ B2) {rest t1 t2 t3 : List UInt8} {b2 b3 : Bool} {z2 z3 : Nat} (h0 : 1 ≤ rest.length) (e1 : t1 = rest.drop 1) (hv : (rest.getD 0 0).toNat = 2)
    (h2 : (A2 ∧ 1 ≤ t1.length ∧ b2 = false ∧ t2 = t1.drop 1 ∧ z2 = (t1.getD 0 0).toNat) ∨ ((B2 ∨ t1.length < 1) ∧ b2 = true ∧ z2 = 0))
    (h3 : (b2 = false ∧ 1 ≤ t2.length ∧ b3 = false ∧ t3 = t2.drop 1 ∧ z3 = (t2.getD 0 0).toNat) ∨ ((b2 = true ∨ t2.length < 1) ∧ b3 = true ∧ z3 = 0)) :
    (b3 = true ∧ ocP rest = none) ∨ (b3 = false ∧ ((Oc.ok ⟨2, Rp.shortOf z2 z3⟩ = true ∧ ocP rest = some (⟨2, Rp.shortOf z2 z3⟩, t3)) ∨ (Oc.ok ⟨2, Rp.shortOf z2 z3⟩ = false ∧ ocP rest = none))) := by
  subst e1
  cases rest with
  | nil => simp at h0
  | cons v t =>
    have hv' : (v.toNat : Int) = 2 := by have : v.toNat = 2 := hv; omega
    simp only [List.drop_succ_cons, List.drop_zero] at h2
    rcases h2 with ⟨_, h2, rfl, rfl, rfl⟩ | ⟨h2, rfl, rfl⟩
    · cases t with
      | nil => simp at h2
      | cons f t =>
        simp only [List.drop_succ_cons, List.drop_zero] at h3
        rcases h3 with ⟨_, h3, rfl, rfl, rfl⟩ | ⟨h3, rfl, rfl⟩
        · cases t with
          | nil => simp at h3
          | cons x u => exact .inr ⟨rfl, ocP_2 hv'⟩
        · refine .inl ⟨rfl, ocP_2short hv' ?_⟩
          rcases h3 with h3 | h3
          · cases h3
          · simp; omega
    · rcases h3 with ⟨h3, _⟩ | ⟨h3, rfl, rfl⟩
      · cases h3
      · refine .inl ⟨rfl, ocP_2short hv' ?_⟩
        rcases h2 with h2 | h2
        · exact absurd h2 nB2
        · omega

theorem chain1 {A2 B2 : Prop} (nB2 : ¬ B2) {rest t1 t2 t3 t4 Y : List UInt8} {b2 b3 b4 : Bool} {z2 z3 : Nat} (h0 : 1 ≤ rest.length) (e1 : t1 = rest.drop 1) (hv : (rest.getD 0 0).toNat = 1)
    (h2 : (A2 ∧ 1 ≤ t1.length ∧ b2 = false ∧ t2 = t1.drop 1 ∧ z2 = (t1.getD 0 0).toNat) ∨ ((B2 ∨ t1.length < 1) ∧ b2 = true ∧ z2 = 0))
    (h3 : (b2 = false ∧ 1 ≤ t2.length ∧ b3 = false ∧ t3 = t2.drop 1 ∧ z3 = (t2.getD 0 0).toNat) ∨ ((b2 = true ∨ t2.length < 1) ∧ b3 = true ∧ z3 = 0))
    (h4 : (b3 = false ∧ z3 ≤ t3.length ∧ b4 = false ∧ t4 = t3.drop z3 ∧ Y = t3.take z3) ∨ ((b3 = true ∨ t3.length < z3) ∧ b4 = true)) (ht : tblB (z2 : Int) = false) :
    (b4 = true ∧ ocP rest = none) ∨ (b4 = false ∧ ocP rest = match Rp.dec Y with | some x => if x.fn = (z2 : Int) ∧ x.exc = 0 then some (⟨1, x⟩, t4) else none | none => none) := by
  subst e1
  cases rest with
  | nil => simp at h0
  | cons v t =>
    have hv' : (v.toNat : Int) = 1 := by have : v.toNat = 1 := hv; omega
    simp only [List.drop_succ_cons, List.drop_zero] at h2
    rcases h2 with ⟨_, h2, rfl, rfl, rfl⟩ | ⟨h2, rfl, rfl⟩
    · cases t with
      | nil => simp at h2
      | cons f t =>
        simp only [List.drop_succ_cons, List.drop_zero] at h3
        have ht' : tblB (f.toNat : Int) = false := ht
        rcases h3 with ⟨_, h3, rfl, rfl, rfl⟩ | ⟨h3, rfl, rfl⟩
        · cases t with
          | nil => simp at h3
          | cons x u =>
            simp only [List.drop_succ_cons, List.drop_zero] at h4
            rcases h4 with ⟨_, h4, rfl, rfl, rfl⟩ | ⟨h4, rfl⟩
            · exact .inr ⟨rfl, ocP_1d hv' ht' h4⟩
            · refine .inl ⟨rfl, ocP_1long hv' ht' ?_⟩
              rcases h4 with h4 | h4
              · cases h4
              · exact h4
        · rcases h4 with ⟨h4, _⟩ | ⟨h4, rfl⟩
          · cases h4
          · refine .inl ⟨rfl, ocP_1short hv' ht ?_⟩
            rcases h3 with h3 | h3
            · cases h3
            · simp; omega
    · rcases h3 with ⟨h3, _⟩ | ⟨h3, rfl, rfl⟩
      · cases h3
      · rcases h4 with ⟨h4, _⟩ | ⟨h4, rfl⟩
        · cases h4
        · have h2' : t.length < 1 := by
            rcases h2 with h2 | h2
            · exact absurd h2 nB2
            · exact h2
          refine .inl ⟨rfl, ocP_1short hv' ?_ (by omega)⟩
          rw [List.eq_nil_of_length_eq_zero (l := t) (by omega)]
          rfl

theorem chain1t {A2 B2 : Prop} {rest t1 t2 : List UInt8} {b2 : Bool} {z2 : Nat} (h0 : 1 ≤ rest.length) (e1 : t1 = rest.drop 1) (hv : (rest.getD 0 0).toNat = 1)
    (h2 : (A2 ∧ 1 ≤ t1.length ∧ b2 = false ∧ t2 = t1.drop 1 ∧ z2 = (t1.getD 0 0).toNat) ∨ ((B2 ∨ t1.length < 1) ∧ b2 = true ∧ z2 = 0)) (ht : tblB (z2 : Int) = true) :
    b2 = false ∧ Oc.ok ⟨1, Rp.shortOf z2 0⟩ = true ∧ ocP rest = some (⟨1, Rp.shortOf z2 0⟩, t2) := by
  subst e1
  cases rest with
  | nil => simp at h0
  | cons v t =>
    have hv' : (v.toNat : Int) = 1 := by have : v.toNat = 1 := hv; omega
    simp only [List.drop_succ_cons, List.drop_zero] at h2
    rcases h2 with ⟨_, h2, rfl, rfl, rfl⟩ | ⟨h2, rfl, rfl⟩
    · cases t with
      | nil => simp at h2
      | cons f t => exact ⟨rfl, ocP_1t hv' ht⟩
    · exact absurd ht (by decide)

/-- What the method leaves. -/
def OutPost (w0 w : World) (p : Nat) (rest : List UInt8) (r : Ending) (w' : World) : Prop :=
  ∃ (o : Oc) (da oa : Option Addr) (dc oc : Nat) (a : Option Addr) (c : Nat) (t : List UInt8) (bad : Bool), r = .returned (.agg #[.int .i64 o.verdict, .int .i64 o.reply.fn, .int .i64 o.reply.exc, .slice da o.reply.data.length dc, .int .i64 o.reply.code, .int .i64 o.reply.level, .bool o.reply.more, .int .i64 o.reply.next, .slice oa o.reply.objs.length oc]) ∧ (∀ W, Agree w.heap.size w' W → OcIs W o da dc oa oc) ∧ RS w0 w' p a c t bad ∧ Keeps (· = p) w w' ∧
    ((bad = false ∧ ocP rest = some (o, t)) ∨ (bad = true ∧ ocP rest = none))

/-- What holds where all the ways through the method's switch meet: B is the outcome's box. -/
def OutRel (w0 w : World) (p : Nat) (rest : List UInt8) (B : Nat) (wc : World) : Prop :=
  ∃ (o : Oc) (da oa : Option Addr) (dc oc : Nat) (a : Option Addr) (c : Nat) (t : List UInt8) (bad : Bool), wc.heap[B]? = some (.cells #[.int .i64 o.verdict, .int .i64 o.reply.fn, .int .i64 o.reply.exc, .slice da o.reply.data.length dc, .int .i64 o.reply.code, .int .i64 o.reply.level, .bool o.reply.more, .int .i64 o.reply.next, .slice oa o.reply.objs.length oc] 27 (0, 0)) ∧ wc.heap[w.heap.size]? = some (.cells #[.int .i64 0, .int .i64 0, .int .i64 0, .slice none 0 0, .int .i64 0, .int .i64 0, .bool false, .int .i64 0, .slice none 0 0] 27) ∧ w.heap.size < B ∧ RS w0 wc p a c t bad ∧ Keeps (· = p) w wc ∧
    (∀ W, Agree (B + 1) wc W → OcIs W o da dc oa oc) ∧ ((bad = true ∧ ocP rest = none) ∨ (bad = false ∧ ((o.ok = true ∧ ocP rest = some (o, t)) ∨ (o.ok = false ∧ ocP rest = none))))

theorem OcIs.short {W : World} (v f x : Int) : OcIs W ⟨v, Rp.shortOf f x⟩ none 0 none 0 := ⟨Bs.nil _, Obs.nil _, by show (0 : Int) ≤ _; decide, by show _ ≤ (0 : Int); decide⟩

/-- The end: the outcome is stored into the result. -/
theorem out_end {w0 w wc wy w4 : World} {p B : Nat} {rest : List UInt8} {o : Oc} {da oa : Option Addr} {dc oc : Nat} {a : Option Addr} {c : Nat} {t : List UInt8} {bad : Bool}
    (hp : p < w.heap.size) (hB : w.heap.size < B) (hkw : Keeps (· = p) w wc) (HI : ∀ W, Agree (B + 1) wc W → OcIs W o da dc oa oc) (hky : Keeps (· = p) wc wy) (hrs : RS w0 wy p a c t bad) (hk4 : Keeps (· = w.heap.size) wy w4)
    (hor : (bad = false ∧ ocP rest = some (o, t)) ∨ (bad = true ∧ ocP rest = none)) :
    OutPost w0 w p rest (.returned (.agg #[.int .i64 o.verdict, .int .i64 o.reply.fn, .int .i64 o.reply.exc, .slice da o.reply.data.length dc, .int .i64 o.reply.code, .int .i64 o.reply.level, .bool o.reply.more, .int .i64 o.reply.next, .slice oa o.reply.objs.length oc])) w4 := by
  have hlow := hrs.low
  refine ⟨o, da, oa, dc, oc, a, c, t, bad, rfl, fun W hW => HI W ?_, hrs.of (hk4.block p (hpLt hrs.blk) (by omega)) (hrs.bel.trans (hk4.below hrs.bel.size (fun k hk e => by omega))), ?_, hor⟩
  · refine ((Agree.of_keeps hky (fun k e => by omega)).trans (Agree.of_keeps hk4 (fun k e => by omega))).trans (hW.mono (by omega))
  · exact (hkw.trans hky (fun _ _ e => e)).trans hk4 (fun i hi e => by omega)

end Go.Proofs.Ytlaaoifjiogogaa
