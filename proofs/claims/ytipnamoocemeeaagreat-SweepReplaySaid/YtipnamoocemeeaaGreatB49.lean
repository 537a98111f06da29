/-
  Texts 49 of the claim.
-/
import Derived.Test.YtipnamoocemeeaaGreatB03
import Derived.Test.YtipnamoocemeeaaGreatB06
import Derived.Test.YtipnamoocemeeaaGreatB48
import Derived.Deep.CutBlock
import Derived.Deep.CutRange
/-
  The contract of the reader's method outcome: what follows the reading of its parts.
-/
namespace Go.Proofs.YtipnamoocemeeaaGreat
open Go.RowKit
theorem ocP_other {v : UInt8} {t : List UInt8} (h2 : (v.toNat : Int) ≠ 2) (h1 : (v.toNat : Int) ≠ 1) :
    (Oc.ok ⟨(v.toNat : Int), Rp.zero⟩ = true ∧ ocP (v :: t) = some (⟨(v.toNat : Int), Rp.zero⟩, t)) ∨ (Oc.ok ⟨(v.toNat : Int), Rp.zero⟩ = false ∧ ocP (v :: t) = none) := by
  have e0 : bAt (v :: t) 0 = (v.toNat : Int) := rfl
  unfold ocP
  rw [e0, if_neg h2, if_neg h1]
  by_cases h3 : (v.toNat : Int) = 3 ∨ (v.toNat : Int) = 4 ∨ (v.toNat : Int) = 5
  · rw [if_pos h3]
    refine .inl ⟨?_, rfl⟩
    unfold Oc.ok
    rw [if_pos h3]
    rfl
  · rw [if_neg h3]
    refine .inr ⟨?_, rfl⟩
    unfold Oc.ok
    rw [if_neg h3, if_neg h2, if_neg h1]
theorem ocP_2short {v : UInt8} {t : List UInt8} (h2 : (v.toNat : Int) = 2) (h : t.length < 2) : ocP (v :: t) = none := by
  have e0 : bAt (v :: t) 0 = (v.toNat : Int) := rfl
  unfold ocP
  rw [e0, if_pos h2, if_neg (fun hh => by have := hh.1; simp at this; omega)]
theorem ocP_2 {v f x : UInt8} {u : List UInt8} (h2 : (v.toNat : Int) = 2) :
    (Oc.ok ⟨2, Rp.shortOf (f.toNat : Int) (x.toNat : Int)⟩ = true ∧ ocP (v :: f :: x :: u) = some (⟨2, Rp.shortOf (f.toNat : Int) (x.toNat : Int)⟩, u)) ∨ (Oc.ok ⟨2, Rp.shortOf (f.toNat : Int) (x.toNat : Int)⟩ = false ∧ ocP (v :: f :: x :: u) = none) := by
  have e0 : bAt (v :: f :: x :: u) 0 = (v.toNat : Int) := rfl
  have e1 : bAt (v :: f :: x :: u) 1 = (f.toNat : Int) := rfl
  have e2 : bAt (v :: f :: x :: u) 2 = (x.toNat : Int) := rfl
  unfold ocP
  rw [e0, e1, e2, if_pos h2]
  cases hk : Oc.ok ⟨2, Rp.shortOf (f.toNat : Int) (x.toNat : Int)⟩ with
  | true => exact .inl ⟨rfl, by rw [if_pos ⟨by simp, rfl⟩]; rfl⟩
  | false => exact .inr ⟨rfl, by rw [if_neg (fun hh => by cases hh.2)]⟩
theorem ocP_1short {v : UInt8} {t : List UInt8} (h1 : (v.toNat : Int) = 1) (ht : tblB (bAt t 0) = false) (h : t.length < 2) : ocP (v :: t) = none := by
  have e0 : bAt (v :: t) 0 = (v.toNat : Int) := rfl
  have e1 : bAt (v :: t) 1 = bAt t 0 := rfl
  unfold ocP
  rw [e0, if_neg (by omega), if_pos h1, e1, if_neg (by rw [ht]; decide), if_neg (fun hh => by have := hh.1; simp at this; omega)]
theorem ocP_1t {v f : UInt8} {u : List UInt8} (h1 : (v.toNat : Int) = 1) (ht : tblB (f.toNat : Int) = true) :
    Oc.ok ⟨1, Rp.shortOf (f.toNat : Int) 0⟩ = true ∧ ocP (v :: f :: u) = some (⟨1, Rp.shortOf (f.toNat : Int) 0⟩, u) := by
  have e0 : bAt (v :: f :: u) 0 = (v.toNat : Int) := rfl
  have e1 : bAt (v :: f :: u) 1 = (f.toNat : Int) := rfl
  refine ⟨by simp [Oc.ok, Rp.shortOf, ht, Rp.short, Rp.plain], ?_⟩
  unfold ocP
  rw [e0, if_neg (by omega), if_pos h1, e1, if_pos ht]
  rfl
theorem ocP_1long {v f k : UInt8} {s : List UInt8} (h1 : (v.toNat : Int) = 1) (ht : tblB (f.toNat : Int) = false) (h : s.length < k.toNat) : ocP (v :: f :: k :: s) = none := by
  have e0 : bAt (v :: f :: k :: s) 0 = (v.toNat : Int) := rfl
  have e1 : bAt (v :: f :: k :: s) 1 = (f.toNat : Int) := rfl
  have e2 : (v :: f :: k :: s).getD 2 0 = k := rfl
  unfold ocP
  rw [e0, if_neg (by omega), if_pos h1, e1, if_neg (by rw [ht]; decide), e2, if_neg (fun hh => by have := hh.2; simp at this; omega)]
theorem ocP_1d {v f k : UInt8} {s : List UInt8} (h1 : (v.toNat : Int) = 1) (ht : tblB (f.toNat : Int) = false) (h : k.toNat ≤ s.length) :
    ocP (v :: f :: k :: s) = match Rp.dec (s.take k.toNat) with
      | some x => if x.fn = (f.toNat : Int) ∧ x.exc = 0 then some (⟨1, x⟩, s.drop k.toNat) else none
      | none => none := by
  have e0 : bAt (v :: f :: k :: s) 0 = (v.toNat : Int) := rfl
  have e1 : bAt (v :: f :: k :: s) 1 = (f.toNat : Int) := rfl
  have e2 : (v :: f :: k :: s).getD 2 0 = k := rfl
  have e3 : (v :: f :: k :: s).drop 3 = s := rfl
  have e4 : (v :: f :: k :: s).drop (3 + k.toNat) = s.drop k.toNat := by rw [← List.drop_drop, e3]
  unfold ocP
  rw [e0, if_neg (by omega), if_pos h1, e1, if_neg (by rw [ht]; decide), e2, if_pos ⟨by simp, by simp; omega⟩, e3, e4]
  rfl

theorem OcIs.short {W : World} (v f x : Int) : OcIs W ⟨v, Rp.shortOf f x⟩ none 0 none 0 := ⟨Bs.nil _, Obs.nil _, by show (0 : Int) ≤ _; decide, by show _ ≤ (0 : Int); decide⟩

end Go.Proofs.YtipnamoocemeeaaGreat

/-
  The contract of modscanref27.read: plain facts.
-/
namespace Go.Proofs.YtipnamoocemeeaaGreat
open Go.RowKit

/-- What the reference's reader of one outcome leaves. -/
def ReadPost (w : World) (b : List UInt8) (r : Ending) (w' : World) : Prop :=
  (∃ (o : Oc) (t : List UInt8) (da oa : Option Addr) (dc oc : Nat), ocP b = some (o, t) ∧ r = .returned (.tuple #[.agg #[.int .i64 o.verdict, .int .i64 o.reply.fn, .int .i64 o.reply.exc, .slice da o.reply.data.length dc, .int .i64 o.reply.code, .int .i64 o.reply.level, .bool o.reply.more, .int .i64 o.reply.next, .slice oa o.reply.objs.length oc], .int .i64 ((b.length - t.length : Nat) : Int)]) ∧ (∀ W, Agree w.heap.size w' W → OcIs W o da dc oa oc) ∧ Below w.heap.size w w') ∨
  (ocP b = none ∧ r = .returned (.tuple #[.agg #[.int .i64 0, .int .i64 0, .int .i64 0, .slice none 0 0, .int .i64 0, .int .i64 0, .bool false, .int .i64 0, .slice none 0 0], .int .i64 0]) ∧ Below w.heap.size w w')

/-- What is known where the ways through the switch meet: an outcome and how many bytes it takes. -/
def ReadIs (b : List UInt8) (o : Oc) (n : Nat) : Prop :=
  n ≤ b.length ∧ ((o.ok = false ∧ ocP b = none) ∨ (o.ok = true ∧ o.enc = b.take n ∧ ocP b = some (o, b.drop n)) ∨ (o.ok = true ∧ o.enc ≠ b.take n ∧ ocP b = none))

theorem not_ok_1zero : Oc.ok ⟨1, Rp.zero⟩ = false := by decide
theorem not_ok_2zero : Oc.ok ⟨2, Rp.zero⟩ = false := by decide

theorem readIs_of {b : List UInt8} {o : Oc} {n : Nat} {t : List UInt8} (h : ocP b = some (o, t)) (hn : b.length - t.length = n) : ReadIs b o n := by
  obtain ⟨h1, h2⟩ := ocP_some h
  have hl : o.enc.length = n := by rw [h2, List.length_append] at hn; omega
  refine ⟨by rw [h2, List.length_append]; omega, .inr (.inl ⟨h1, ?_, ?_⟩)⟩
  · rw [h2, ← hl, List.take_left]
  · rw [h, h2, ← hl, List.drop_left]

theorem readIs_other {v : UInt8} {t : List UInt8} (h2 : (v.toNat : Int) ≠ 2) (h1 : (v.toNat : Int) ≠ 1) : ReadIs (v :: t) ⟨(v.toNat : Int), Rp.zero⟩ 1 := by
  rcases ocP_other (t := t) h2 h1 with ⟨_, h⟩ | ⟨h, h'⟩
  · exact readIs_of h (by simp)
  · exact ⟨by simp, .inl ⟨h, h'⟩⟩
theorem readIs_2s {v : UInt8} {t : List UInt8} (h2 : (v.toNat : Int) = 2) (h : t.length < 2) : ReadIs (v :: t) ⟨2, Rp.zero⟩ 1 :=
  ⟨by simp, .inl ⟨not_ok_2zero, ocP_2short h2 h⟩⟩
theorem readIs_2 {v f x : UInt8} {u : List UInt8} (h2 : (v.toNat : Int) = 2) : ReadIs (v :: f :: x :: u) ⟨2, Rp.shortOf (f.toNat : Int) (x.toNat : Int)⟩ 3 := by
  rcases ocP_2 (f := f) (x := x) (u := u) h2 with ⟨_, h⟩ | ⟨h, h'⟩
  · exact readIs_of h (by simp; omega)
  · exact ⟨by simp, .inl ⟨h, h'⟩⟩
theorem ok_zero_fn : Oc.ok ⟨1, Rp.shortOf 0 0⟩ = false := by decide
theorem dec_fn {b : List UInt8} {x : Rp} (h : Rp.dec b = some x) : 1 ≤ x.fn := by
  have := (dec_some h).1
  unfold Rp.ok at this
  rw [Bool.and_eq_true] at this
  exact (known_bd this.1).1
theorem readIs_1t {v f : UInt8} {u : List UInt8} (h1 : (v.toNat : Int) = 1) (hf : (f.toNat : Int) ≤ 4) : ReadIs (v :: f :: u) ⟨1, Rp.shortOf (f.toNat : Int) 0⟩ 2 := by
  cases ht : tblB (f.toNat : Int) with
  | true =>
    obtain ⟨_, h⟩ := ocP_1t (u := u) h1 ht
    exact readIs_of h (by simp; omega)
  | false =>
    have hf0 : (f.toNat : Int) = 0 := by
      have : ¬ (1 ≤ (f.toNat : Int) ∧ (f.toNat : Int) ≤ 4) := fun h => by rw [tblB_iff.2 h] at ht; cases ht
      omega
    refine ⟨by simp, .inl ⟨by rw [hf0]; exact ok_zero_fn, ?_⟩⟩
    cases u with
    | nil => exact ocP_1short h1 ht (by simp)
    | cons k s =>
      by_cases hk : k.toNat ≤ s.length
      · rw [ocP_1d h1 ht hk]
        cases hd : Rp.dec (s.take k.toNat) with
        | none => rfl
        | some x =>
          show (if x.fn = (f.toNat : Int) ∧ x.exc = 0 then _ else none) = none
          rw [if_neg (fun h => by have := dec_fn hd; omega)]
      · exact ocP_1long h1 ht (by omega)
theorem tbl_big {f : UInt8} (hf : ¬ (f.toNat : Int) ≤ 4) : tblB (f.toNat : Int) = false := by
  cases ht : tblB (f.toNat : Int) with
  | false => rfl
  | true => have := tblB_bd ht; omega
theorem readIs_1s {v : UInt8} {t : List UInt8} (h1 : (v.toNat : Int) = 1) (h : t.length < 1 ∨ (t.length < 2 ∧ ¬ bAt t 0 ≤ 4)) : ReadIs (v :: t) ⟨1, Rp.zero⟩ 1 := by
  refine ⟨by simp, .inl ⟨not_ok_1zero, ocP_1short h1 ?_ (by omega)⟩⟩
  rcases h with h | ⟨_, h⟩
  · rw [List.eq_nil_of_length_eq_zero (l := t) (by omega)]; rfl
  · exact tbl_big (f := t.getD 0 0) h
theorem readIs_1l {v f k : UInt8} {s : List UInt8} (h1 : (v.toNat : Int) = 1) (hf : ¬ (f.toNat : Int) ≤ 4) (h : s.length < k.toNat) : ReadIs (v :: f :: k :: s) ⟨1, Rp.zero⟩ 1 :=
  ⟨by simp, .inl ⟨not_ok_1zero, ocP_1long h1 (tbl_big hf) h⟩⟩
theorem readIs_1n {v f k : UInt8} {s : List UInt8} (h1 : (v.toNat : Int) = 1) (hf : ¬ (f.toNat : Int) ≤ 4) (h : k.toNat ≤ s.length) (hd : Rp.dec (s.take k.toNat) = none) : ReadIs (v :: f :: k :: s) ⟨1, Rp.zero⟩ (3 + k.toNat) :=
  ⟨by simp; omega, .inl ⟨not_ok_1zero, by rw [ocP_1d h1 (tbl_big hf) h, hd]⟩⟩
theorem readIs_1d {v f k : UInt8} {s : List UInt8} {x : Rp} (h1 : (v.toNat : Int) = 1) (hf : ¬ (f.toNat : Int) ≤ 4) (h : k.toNat ≤ s.length) (hd : Rp.dec (s.take k.toNat) = some x) : ReadIs (v :: f :: k :: s) ⟨1, x⟩ (3 + k.toNat) := by
  have ho := ocP_1d h1 (tbl_big hf) h
  rw [hd] at ho
  replace ho : ocP (v :: f :: k :: s) = if x.fn = (f.toNat : Int) ∧ x.exc = 0 then some (⟨1, x⟩, s.drop k.toNat) else none := ho
  obtain ⟨d1, d2⟩ := dec_some hd
  by_cases hx : x.fn = (f.toNat : Int) ∧ x.exc = 0
  · rw [if_pos hx] at ho
    exact readIs_of ho (by simp; omega)
  · rw [if_neg hx] at ho
    refine ⟨by simp; omega, ?_⟩
    cases hok : Oc.ok ⟨1, x⟩ with
    | false => exact .inl ⟨rfl, ho⟩
    | true =>
      refine .inr (.inr ⟨rfl, fun he => ?_, ho⟩)
      have hp := ocP_enc hok (s.drop k.toNat)
      rw [he] at hp
      have e : (v :: f :: k :: s).take (3 + k.toNat) ++ s.drop k.toNat = v :: f :: k :: s := by
        have h5 : (v :: f :: k :: s).drop (3 + k.toNat) = s.drop k.toNat := by rw [← List.drop_drop]; rfl
        rw [← h5, List.take_append_drop]
      rw [e, ho] at hp
      cases hp

end Go.Proofs.YtipnamoocemeeaaGreat
