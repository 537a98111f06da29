/-
  The identification's Feed at any outcome, how much it can hold, and the contract of its Result.
-/
import Derived.Test.YtliblgmpclefgaaIdc
namespace Go.Proofs.Ytliblgmpclefgaa
open Go.RowKit

theorem Idn.bad_no {x : Idn} {O : Oc} (h : x.bad O = false) : O.verdict = 1 ∧ O.reply.fn = 43 ∧ O.reply.ordB x.next = true ∧ (x.cnt = 0 ∨ (0 < x.cnt ∧ O.reply.level = x.level)) := by
  unfold Idn.bad at h
  simp only [Bool.or_eq_false_iff, Bool.and_eq_false_iff, bne_eq_false_iff_eq, Bool.not_eq_false', decide_eq_false_iff_not] at h
  obtain ⟨⟨⟨h1, h2⟩, h3⟩, h4⟩ := h
  refine ⟨h1, h2, h3, ?_⟩
  by_cases hc : x.cnt = 0
  · exact .inl hc
  · rcases h4 with h4 | h4
    · omega
    · exact .inr ⟨by omega, h4⟩
theorem Idn.bad_yes {x : Idn} {O : Oc} (h : x.bad O = true) : O.verdict ≠ 1 ∨ (O.verdict = 1 ∧ O.reply.fn ≠ 43) ∨ (O.verdict = 1 ∧ O.reply.fn = 43 ∧ (O.reply.ordB x.next = false ∨ (O.reply.ordB x.next = true ∧ 0 < x.cnt ∧ O.reply.level ≠ x.level))) := by
  by_cases h1 : O.verdict = 1
  · by_cases h2 : O.reply.fn = 43
    · refine .inr (.inr ⟨h1, h2, ?_⟩)
      unfold Idn.bad at h
      simp only [h1, h2, bne_self_eq_false, Bool.false_or] at h
      cases h3 : O.reply.ordB x.next with
      | false => exact .inl rfl
      | true =>
        rw [h3] at h
        simp at h
        exact .inr ⟨rfl, by omega, h.2⟩
    · exact .inr (.inl ⟨h1, h2⟩)
  · exact .inl h1

theorem ifeed_any {P : Nat → Prop} {w : World} {g : Nat} {x : Idn} {v : Value} {cs : List Value} (h : IdAt P w g x v cs) (hst : x.st = 0) (hk : x.ok) (O : Oc) (da : Option Addr) (dc : Nat) (oa : Option Addr) (oc : Nat) (HI : InAt P w O da dc oa oc) (hO : O.fit) :
    Calls Try.prog 119 #[.pointer (some ⟨g, 0, none⟩), .agg #[.int .i64 O.verdict, .int .i64 O.reply.fn, .int .i64 O.reply.exc, .slice da O.reply.data.length dc, .int .i64 O.reply.code, .int .i64 O.reply.level, .bool O.reply.more, .int .i64 O.reply.next, .slice oa O.reply.objs.length oc]] w (IdFed P w g (x.feed O)) := by
  unfold Idn.feed
  by_cases hA : O.verdict = 2 ∧ O.reply.exc = 1 ∧ x.cnt = 0
  · rw [if_pos hA]
    exact ifeed_a h hst O da dc oa oc hA _ rfl
  · rw [if_neg hA]
    cases hb : x.bad O with
    | true =>
      rw [if_pos rfl]
      rcases Idn.bad_yes hb with h1 | ⟨h1, h2⟩ | ⟨h1, h2, h3⟩
      · exact ifeed_v h hst O da dc oa oc hA h1 _ rfl
      · exact ifeed_f h hst O da dc oa oc h1 h2 _ rfl
      · exact ifeed_o h hst hk O da dc oa oc HI h1 h2 h3 _ rfl
    | false =>
      rw [if_neg (by decide)]
      obtain ⟨h1, h2, h3, h4⟩ := Idn.bad_no hb
      exact ifeed_g h hst hk O da dc oa oc HI hO h1 h2 h3 h4 _ rfl

theorem lastF_ge : ∀ (l : List Ob) (last : Int), ordF last l = true → last ≤ lastId last l
  | [], last, _ => Int.le_refl _
  | x :: l, last, h => by
    simp only [ordF, Bool.and_eq_true, decide_eq_true_eq] at h
    have := lastF_ge l x.id h.2
    simp only [lastId]
    omega
/-- How much an identification can hold. -/
structure Idn.fin (x : Idn) : Prop where
  ob : x.objs.length ≤ 1280
  vs : ∀ y ∈ x.objs, y.val.length ≤ 300
theorem Idn.ok.fin {x : Idn} (h : x.ok) : x.fin := ⟨by have := h.ob; have := h.cn; omega, h.vs⟩
theorem Idn.feed_fin {x : Idn} (h : x.ok) {O : Oc} (hO : O.fit) : (x.feed O).fin := by
  unfold Idn.feed
  split
  · exact ⟨h.fin.ob, h.fin.vs⟩
  · split
    · exact ⟨h.fin.ob, h.fin.vs⟩
    · refine ⟨?_, fun y hy => ?_⟩
      · show (x.objs ++ O.reply.objs).length ≤ 1280
        rw [List.length_append]
        have := h.ob; have := h.cn; have := hO.objs
        omega
      · rcases List.mem_append.1 hy with hy | hy
        · exact h.vs y hy
        · exact hO.vals y hy
theorem Idn.feed_ok {x : Idn} (h : x.ok) {O : Oc} (hO : O.fit) (hst : (x.feed O).st = 0) : (x.feed O).ok := by
  unfold Idn.feed at hst ⊢
  by_cases hA : O.verdict = 2 ∧ O.reply.exc = 1 ∧ x.cnt = 0
  · rw [if_pos hA] at hst
    exact absurd (show (5 : Int) = 0 from hst) (by decide)
  · rw [if_neg hA] at hst ⊢
    cases hb : x.bad O with
    | true =>
      rw [hb, if_pos rfl] at hst
      exact absurd (show (4 : Int) = 0 from hst) (by decide)
    | false =>
      rw [hb, if_neg (by decide)] at hst
      rw [if_neg (by decide)]
      obtain ⟨h1, h2, h3, h4⟩ := Idn.bad_no hb
      have hst' : (if O.reply.more then (if x.cnt + 1 = 32 then (4 : Int) else 0) else 2) = 0 := hst
      cases hm : O.reply.more with
      | false => rw [hm] at hst'; exact absurd hst' (show ¬ (2 : Int) = 0 by decide)
      | true =>
        rw [hm, if_pos rfl] at hst'
        have h32 : x.cnt + 1 ≠ 32 := fun e => by rw [if_pos e] at hst'; exact absurd hst' (show ¬ (4 : Int) = 0 by decide)
        unfold Rp.ordB at h3
        rw [hm] at h3
        simp only [Bool.and_eq_true, Bool.not_true, Bool.false_or, decide_eq_true_eq] at h3
        have h5 := lastF_ge _ _ h3.1
        refine ⟨?_, hO.next, ?_, ?_, ?_⟩
        · show 0 ≤ O.reply.next
          have := h.n0; have := h3.2.2; omega
        · show x.cnt + 1 ≤ 31
          have := h.cn; omega
        · show (x.objs ++ O.reply.objs).length ≤ 40 * (x.cnt + 1)
          rw [List.length_append]
          have := h.ob; have := hO.objs
          omega
        · intro y hy
          rcases List.mem_append.1 hy with hy | hy
          · exact h.vs y hy
          · exact hO.vals y hy

end Go.Proofs.Ytliblgmpclefgaa
