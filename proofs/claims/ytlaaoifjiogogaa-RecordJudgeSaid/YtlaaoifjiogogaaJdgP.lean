/-
  What a judged outcome is good for; the frame as an argument; one outcome as a list.
-/
import Derived.Test.YtlaaoifjiogogaaRjudge
import Derived.Test.YtlaaoifjiogogaaMrec
import Derived.Test.YtlaaoifjiogogaaMrech
import Derived.Test.YtlaaoifjiogogaaMrecm
import Derived.Test.YtlaaoifjiogogaaMenc
namespace Go.Proofs.Ytlaaoifjiogogaa
open Go.RowKit

theorem cellsFr : Try.prog.cellsOf 46 = 4 := by kernel_rfl
theorem lst4 {α : Type} {l : List α} (h : l.length = 4) : ∃ a b c d, l = [a, b, c, d] := by
  match l, h with
  | [a, b, c, d], _ => exact ⟨a, b, c, d, rfl⟩

theorem frame_rd {w : World} {cs : List Value} (h : Rd Try.prog w 46 cs) : ∃ (ba : Option Addr) (bc : Nat) (b : List UInt8) (f1 f2 fl : Int), cs = [.slice ba b.length bc, .int .i64 f1, .int .i64 f2, .int .i64 fl] ∧ Bs w (.slice ba b.length bc) b := by
  obtain ⟨hl, hf⟩ := h.struct Try.underlying46
  rw [cellsFr] at hl
  obtain ⟨c0, c1, c2, c3, rfl⟩ := lst4 hl
  have f0 := hf _ (List.mem_cons_self ..)
  have f1 := hf _ (List.mem_cons_of_mem _ (List.mem_cons_self ..))
  have f2 := hf _ (List.mem_cons_of_mem _ (List.mem_cons_of_mem _ (List.mem_cons_self ..)))
  have f3 := hf _ (List.mem_cons_of_mem _ (List.mem_cons_of_mem _ (List.mem_cons_of_mem _ (List.mem_cons_self ..))))
  simp only [cellsInt, cellsBytes, List.drop_zero, List.drop_succ_cons, List.take_succ_cons, List.take_zero] at f0 f1 f2 f3
  obtain ⟨b, hb⟩ := Bs.of_rd Try.underlying22 Try.underlying5 cellsU8 f0
  obtain ⟨n1, e1, _⟩ := Rd.int Try.underlying3 f1
  obtain ⟨n2, e2, _⟩ := Rd.int Try.underlying3 f2
  obtain ⟨n3, e3, _⟩ := Rd.int Try.underlying3 f3
  simp only [List.cons.injEq, and_true] at e1 e2 e3
  subst e1; subst e2; subst e3
  obtain ⟨ba, bc, rfl, _⟩ := id hb
  exact ⟨ba, bc, b, n1, n2, n3, rfl, hb⟩

/-- An outcome that can be put down after Strip, and is not too great for it. -/
def Oc.good (o : Oc) : Prop := o.strip.ok = true ∧ o.reply.data.length ≤ 1000 ∧ o.reply.objs.length ≤ 1000 ∧ ∀ (i : Nat) (x : Ob), o.reply.objs[i]? = some x → x.val.length ≤ 1000

theorem rp_ok_sizes {r : Rp} (h : r.ok = true) : r.data.length ≤ 1000 ∧ r.objs.length ≤ 1000 ∧ ∀ (i : Nat) (x : Ob), r.objs[i]? = some x → x.val.length ≤ 1000 := by
  obtain ⟨fn, exc, data, code, level, more, next, objs⟩ := r
  have hs : ∀ {r : Rp}, r.short = true → r.data.length ≤ 1000 ∧ r.objs.length ≤ 1000 ∧ ∀ (i : Nat) (x : Ob), r.objs[i]? = some x → x.val.length ≤ 1000 := by
    intro r hr
    simp only [Rp.short, Rp.plain, Bool.and_eq_true, List.isEmpty_iff] at hr
    rw [hr.1, hr.2.2]
    exact ⟨by simp, by simp, fun i x hx => by simp at hx⟩
  have hp : ∀ {r : Rp}, r.plain = true → r.data.length ≤ 1000 → r.data.length ≤ 1000 ∧ r.objs.length ≤ 1000 ∧ ∀ (i : Nat) (x : Ob), r.objs[i]? = some x → x.val.length ≤ 1000 := by
    intro r hr hd
    simp only [Rp.plain, Bool.and_eq_true, List.isEmpty_iff] at hr
    rw [hr.2]
    exact ⟨hd, by simp, fun i x hx => by simp at hx⟩
  unfold Rp.ok at h
  rw [Bool.and_eq_true] at h
  obtain ⟨_, h⟩ := h
  split at h
  · split at h
    · simp only [Rp.devB, Bool.and_eq_true, List.isEmpty_iff] at h
      obtain ⟨h1, h2, h3⟩ := objsB_bd h.1.2
      have hd : data = [] := h.1.1.1.1.1.1.1
      exact ⟨by rw [hd]; simp, by show objs.length ≤ 1000; omega, fun i x hx => by have := (h3 i x hx).2.2; omega⟩
    · split at h
      · simp only [Bool.and_eq_true, decide_eq_true_eq] at h
        exact hp (r := ⟨fn, exc, data, code, level, more, next, objs⟩) h.2 (by have := h.1.2; show data.length ≤ 1000; omega)
      · simp only [Bool.and_eq_true, decide_eq_true_eq] at h
        exact hp (r := ⟨fn, exc, data, code, level, more, next, objs⟩) h.2 (by have := h.1.2; show data.length ≤ 1000; omega)
  · simp only [Bool.and_eq_true] at h
    exact hs (r := ⟨fn, exc, data, code, level, more, next, objs⟩) h.2

theorem short_zero : Rp.zero.short = true := rfl

theorem good_bare {v : Int} (h : v = 4 ∨ v = 5) : Oc.good ⟨v, Rp.zero⟩ := by
  refine ⟨?_, by show ([] : List UInt8).length ≤ _; simp, by show ([] : List Ob).length ≤ _; simp, fun i x hx => by cases hx⟩
  rcases h with rfl | rfl <;> rfl

theorem good_clean {r : Rp} (h : r.ok = true) (hx : r.exc = 0) : Oc.good ⟨1, r⟩ := by
  obtain ⟨h1, h2, h3⟩ := rp_ok_sizes h
  refine ⟨?_, h1, h2, h3⟩
  unfold Oc.strip
  rw [if_pos (.inl rfl)]
  by_cases ht : tblB r.fn = true
  · rw [if_pos (.inr ht)]
    simp [Oc.ok, hx, ht, Rp.short, Rp.plain]
  · have ht' : tblB r.fn = false := by simpa using ht
    rw [if_neg (fun h => h.elim (fun h => by cases h) ht)]
    simp [Oc.ok, hx, ht', h]

theorem good_exc {r : Rp} (h : r.ok = true) (hx : ¬ r.exc = 0) : Oc.good ⟨2, r⟩ := by
  obtain ⟨h1, h2, h3⟩ := rp_ok_sizes h
  refine ⟨?_, h1, h2, h3⟩
  unfold Oc.strip
  rw [if_pos (.inr rfl), if_pos (.inl rfl)]
  have hk : knownB r.fn = true ∧ 1 ≤ r.exc ∧ r.exc ≤ 255 := by
    unfold Rp.ok at h
    rw [Bool.and_eq_true, if_neg hx] at h
    simp only [Bool.and_eq_true, decide_eq_true_eq] at h
    exact ⟨h.1, h.2.1⟩
  simp [Oc.ok, hx, Rp.ok, hk, Rp.short, Rp.plain]

theorem good_judge (chk : List UInt8 → Bool) (u : Int) (q : Rq) (fl : Int) (b : List UInt8) : Oc.good (judgeB chk u q fl b) := by
  unfold judgeB
  split
  · split
    · rename_i p _ _
      cases hR : readB q p with
      | none => exact good_bare (.inl rfl)
      | some r =>
        have hk := readB_ok hR
        show Oc.good (if r.exc = 6 then ⟨5, Rp.zero⟩ else if r.exc = 0 then ⟨1, r⟩ else ⟨2, r⟩)
        by_cases h6 : r.exc = 6
        · rw [if_pos h6]; exact good_bare (.inr rfl)
        · by_cases h0 : r.exc = 0
          · rw [if_neg h6, if_pos h0]
            exact good_clean hk h0
          · rw [if_neg h6, if_neg h0]
            exact good_exc hk h0
    · exact good_bare (.inl rfl)
  · exact good_bare (.inl rfl)

theorem good_over {q : Rq} {r : Rp} (h : matchB q r = true) : Oc.good (if r.exc = 0 then ⟨1, r⟩ else ⟨2, r⟩) := by
  have hk : r.ok = true := by
    unfold matchB at h
    simp only [Bool.and_eq_true] at h
    exact h.1.1.2
  by_cases h0 : r.exc = 0
  · rw [if_pos h0]; exact good_clean hk h0
  · rw [if_neg h0]; exact good_exc hk h0

theorem stripW_any {w : World} {o : Oc} {da oa : Option Addr} {dc oc : Nat} (hg : o.good) (h : RpIs w o.reply da dc oa oc) :
    Calls Try.prog 12 #[.agg #[.int .i64 o.verdict, .int .i64 o.reply.fn, .int .i64 o.reply.exc, .slice da o.reply.data.length dc, .int .i64 o.reply.code, .int .i64 o.reply.level, .bool o.reply.more, .int .i64 o.reply.next, .slice oa o.reply.objs.length oc]] w (OcPost w o.strip) := by
  obtain ⟨v, ⟨fn, exc, data, code, level, more, next, objs⟩⟩ := o
  obtain ⟨_, h1, h2, h3⟩ := hg
  by_cases hs : v = 1 ∧ tblB fn = false
  · obtain ⟨rfl, ht⟩ := hs
    exact strip_deep fn exc code level more next data objs da oa dc oc w h.d h.o ht h1 h2 (hid h3)
  · exact strip_simple v fn exc code level more next data objs da oa dc oc w hs

theorem strip_level {o : Oc} (h1 : o.reply.level ≤ 9223372036854775807) (h2 : -9223372036854775808 ≤ o.reply.level) : o.strip.reply.level ≤ 9223372036854775807 ∧ -9223372036854775808 ≤ o.strip.reply.level := by
  unfold Oc.strip
  split
  · split
    · exact ⟨by show (0 : Int) ≤ _; decide, by show _ ≤ (0 : Int); decide⟩
    · exact ⟨h1, h2⟩
  · exact ⟨by show (0 : Int) ≤ _; decide, by show _ ≤ (0 : Int); decide⟩

/-- A new block of one outcome is a list of one. -/
theorem Ocs.one {w : World} {p : Nat} {t : TypeId} {fz : Nat × Nat} {x : Oc} {da : Option Addr} {dc : Nat} {oa : Option Addr} {oc : Nat} (h : w.heap[p]? = some (.cells #[.int .i64 x.verdict, .int .i64 x.reply.fn, .int .i64 x.reply.exc, .slice da x.reply.data.length dc, .int .i64 x.reply.code, .int .i64 x.reply.level, .bool x.reply.more, .int .i64 x.reply.next, .slice oa x.reply.objs.length oc] t fz)) (hi : RpIs w x.reply da dc oa oc) :
    Ocs w (.slice (some ⟨p, 0, none⟩) 1 1) [x] := by
  refine ⟨some ⟨p, 0, none⟩, 1, rfl, Nat.le_refl _, by unfold maxLen; exact Nat.le_of_ble_eq_true rfl, (fun h => by cases h), fun _ => ⟨p, 0, rfl, fun i y hy => ?_⟩⟩
  have hi0 : i = 0 := by
    have := (List.getElem?_eq_some_iff.1 hy).1
    simpa using this
  subst hi0
  have hyx : x = y := by simpa using hy
  subst hyx
  refine ⟨_, rfl, ⟨da, dc, oa, oc, rfl, hi.d, hi.o, hi.hi, hi.lo⟩, fun j u hj => ?_⟩
  rw [hpCell h]
  rw [← hj]
  simp

end Go.Proofs.Ytlaaoifjiogogaa
