/-
  The contract of record.Strip.
-/
import Derived.Test.YtlaaoifjiogogaaRecK
namespace Go.Proofs.Ytlaaoifjiogogaa
open Go.RowKit

/-- Cells that read as objects whose bytes lie in no block of F. -/
def ObCg (F : Nat → Prop) (w : World) (cs : List Value) (l : List Ob) : Prop :=
  cs.length = l.length * 2 ∧ ∀ (i : Nat) (x : Ob), l[i]? = some x → cs[i * 2]? = some (.int .i64 x.id) ∧ ∃ a c, cs[i * 2 + 1]? = some (.slice a x.val.length c) ∧ Bs w (.slice a x.val.length c) x.val ∧ (x.val ≠ [] → ∀ ad, a = some ad → ¬ F ad.block)

theorem ObCg.cs {F : Nat → Prop} {w : World} {cs : List Value} {l : List Ob} (h : ObCg F w cs l) : ObCs w cs l :=
  ⟨h.1, fun i x hx => by
    obtain ⟨h1, a, c, h2, h3, _⟩ := h.2 i x hx
    exact ⟨h1, a, c, h2, h3⟩⟩

theorem Bs.block {w : World} {a : Option Addr} {n c : Nat} {l : List UInt8} (h : Bs w (.slice a n c) l) (hl : l ≠ []) : ∀ ad, a = some ad → ad.block < w.heap.size := by
  obtain ⟨a', c', hv, h1, h2, h3, h4⟩ := h
  cases hv
  obtain ⟨b, o, ha, hc⟩ := h4 hl
  intro ad had
  rw [ha] at had
  cases had
  have := cell_lt (hc 0 (by cases l with | nil => exact absurd rfl hl | cons x l => simp))
  exact this

theorem Bs.keepsN {w w' : World} {F : Nat → Prop} {a : Option Addr} {n c : Nat} {l : List UInt8} (h : Bs w (.slice a n c) l) (hk : Keeps F w w') (hn : l ≠ [] → ∀ ad, a = some ad → ¬ F ad.block) : Bs w' (.slice a n c) l := by
  obtain ⟨a', c', hv, h1, h2, h3, h4⟩ := h
  cases hv
  refine ⟨a, c, rfl, h1, h2, h3, fun hl => ?_⟩
  obtain ⟨b, o, ha, hc⟩ := h4 hl
  exact ⟨b, o, ha, fun i hi => hk.cell (hc i hi) (show ¬ F b from hn hl _ ha)⟩

theorem ObCg.of {F : Nat → Prop} {w w' : World} {cs : List Value} {l : List Ob} (h : ObCs w cs l) (hb : Below w.heap.size w w') (hF : ∀ k, k < w.heap.size → ¬ F k) : ObCg F w' cs l :=
  ⟨h.1, fun i x hx => by
    obtain ⟨h1, a, c, h2, h3⟩ := h.2 i x hx
    exact ⟨h1, a, c, h2, h3.keep hb, fun hl ad had => hF _ (h3.block hl ad had)⟩⟩

theorem ObCg.keeps {F G : Nat → Prop} {w w' : World} {cs : List Value} {l : List Ob} (h : ObCg F w cs l) (hk : Keeps G w w') (hG : ∀ k, G k → F k) : ObCg F w' cs l :=
  ⟨h.1, fun i x hx => by
    obtain ⟨h1, a, c, h2, h3, h4⟩ := h.2 i x hx
    exact ⟨h1, a, c, h2, h3.keepsN hk (fun hl ad had g => h4 hl ad had (hG _ g)), h4⟩⟩

theorem ObCg.set {F : Nat → Prop} {w : World} {cs : List Value} {l : List Ob} (h : ObCg F w cs l) {k : Nat} {x : Ob} (hx : l[k]? = some x) {a : Option Addr} {c : Nat} (hb : Bs w (.slice a x.val.length c) x.val) (hF : x.val ≠ [] → ∀ ad, a = some ad → ¬ F ad.block) :
    ObCg F w (cs.set (k * 2 + 1) (.slice a x.val.length c)) l := by
  refine ⟨by simpa using h.1, fun i y hy => ?_⟩
  obtain ⟨h1, a', c', h2, h3, h4⟩ := h.2 i y hy
  have hi := (List.getElem?_eq_some_iff.1 hy).1
  have hk := (List.getElem?_eq_some_iff.1 hx).1
  by_cases hik : i = k
  · subst hik
    rw [hx] at hy
    cases hy
    refine ⟨?_, a, c, ?_, hb, hF⟩
    · rw [List.getElem?_set_ne (by omega)]; exact h1
    · rw [List.getElem?_set_self (by have := h.1; omega)]
  · refine ⟨?_, a', c', ?_, h3, h4⟩
    · rw [List.getElem?_set_ne (by omega)]; exact h1
    · rw [List.getElem?_set_ne (by omega)]; exact h2

theorem heap3 (w : World) (A B C : Obj) : (((w.alloc A).alloc B).alloc C).heap[w.heap.size]? = some A ∧ (((w.alloc A).alloc B).alloc C).heap[w.heap.size + 1]? = some B ∧ (((w.alloc A).alloc B).alloc C).heap[w.heap.size + 2]? = some C := by
  refine ⟨?_, ?_, ?_⟩
  · rw [Below.heap_alloc _ _ _ (by simp; omega), Below.heap_alloc _ _ _ (by simp)]; exact heap_alloc_new _ _
  · rw [Below.heap_alloc _ _ _ (by simp)]
    have := heap_alloc_new (w.alloc A) B
    rwa [show (w.alloc A).heap.size = w.heap.size + 1 by simp] at this
  · have := heap_alloc_new ((w.alloc A).alloc B) C
    rwa [show ((w.alloc A).alloc B).heap.size = w.heap.size + 2 by simp] at this

theorem heap_setR {w : World} {b : Nat} {c : Array Value} {t : TypeId} {fz : Nat × Nat} (h : w.heap[b]? = some (.cells c t fz)) (i : Nat) (u : Value) :
    (w.setCell ⟨b, i, none⟩ u).heap[b]? = some (.cells (c.setIfInBounds i u) t fz) := by
  simp [World.setCell, Array.getElem?_modify, h]
theorem heap_setO {w : World} {b k i : Nat} {u : Value} (h : k ≠ b) : (w.setCell ⟨b, i, none⟩ u).heap[k]? = w.heap[k]? := Below.heap_setCell _ _ _ _ h

theorem cell_heap {w : World} {b : Nat} {c : Array Value} {t : TypeId} {fz : Nat × Nat} (h : w.heap[b]? = some (.cells c t fz)) (i : Nat) : w.cell? ⟨b, i, none⟩ = c[i]? := by simp [World.cell?, h]
theorem free_heap {w : World} {b : Nat} {c : Array Value} {t : TypeId} (h : w.heap[b]? = some (.cells c t (0, 0))) (i : Nat) : w.frozen? ⟨b, i, none⟩ = false := by simp [World.frozen?, h]

set_option maxRecDepth 100000 in
set_option maxHeartbeats 3200000 in
theorem strip_simple (v : Int) (fn exc : Int) (code level : Int) (more : Bool) (next : Int) (data : List UInt8) (objs : List Ob) (da oa : Option Addr) (dc oc : Nat) (w : World) (h : ¬ (v = 1 ∧ tblB fn = false)) :
    Calls Try.prog 12 #[.agg #[.int .i64 v, .int .i64 fn, .int .i64 exc, .slice da data.length dc, .int .i64 code, .int .i64 level, .bool more, .int .i64 next, .slice oa objs.length oc]] w (OcPost w (Oc.strip ⟨v, ⟨fn, exc, data, code, level, more, next, objs⟩⟩)) := by
  rcases strip_cases v fn with ⟨h0, h1, h2, h3, h4⟩ | rfl | ⟨rfl, ⟨t1, t2, t3⟩ | ⟨t1, t3⟩ | ⟨t1, t2, t3⟩⟩
  · have HE := hid (Oc.strip_no (r := ⟨fn, exc, data, code, level, more, next, objs⟩) h0)
    clear h h0
    go_enter Try.func12, Try.ntmps12
    go_wp2
    refine bodyPost_ret (v := .agg #[.int .i64 v, .int .i64 0, .int .i64 0, .slice none 0 0, .int .i64 0, .int .i64 0, .bool false, .int .i64 0, .slice none 0 0]) (by simp [results, Try.results12, go_sem]) rfl ?_
    rw [HE.out]
    exact ⟨_, rfl, ⟨_, _, _, _, rfl, Bs.nil _, Obs.nil _⟩, b3 w _ _ _⟩
  · have HE := hid (Oc.strip_short (v := 2) (r := ⟨fn, exc, data, code, level, more, next, objs⟩) (.inl rfl))
    clear h
    go_enter Try.func12, Try.ntmps12
    go_wp2
    refine bodyPost_ret (v := .agg #[.int .i64 2, .int .i64 fn, .int .i64 exc, .slice none 0 0, .int .i64 0, .int .i64 0, .bool false, .int .i64 0, .slice none 0 0]) (by simp [results, Try.results12, go_sem]) rfl ?_
    rw [HE.out]
    exact ⟨_, rfl, ⟨_, _, _, _, rfl, Bs.nil _, Obs.nil _⟩, b3 w _ _ _⟩
  · have HE := hid (Oc.strip_short (v := 1) (r := ⟨fn, exc, data, code, level, more, next, objs⟩) (.inr ⟨rfl, t3⟩))
    clear h
    go_enter Try.func12, Try.ntmps12
    go_wp2_with (first | (go_at_call 41; refine (isTable_any _ _).mono ?_; rintro r w0 ⟨rfl, rfl⟩))
    refine bodyPost_ret (v := .agg #[.int .i64 1, .int .i64 fn, .int .i64 exc, .slice none 0 0, .int .i64 0, .int .i64 0, .bool false, .int .i64 0, .slice none 0 0]) (by simp [results, Try.results12, go_sem]) rfl ?_
    rw [HE.out]
    exact ⟨_, rfl, ⟨_, _, _, _, rfl, Bs.nil _, Obs.nil _⟩, b3 w _ _ _⟩
  · exact absurd ⟨rfl, t3⟩ h
  · exact absurd ⟨rfl, t3⟩ h

end Go.Proofs.Ytlaaoifjiogogaa
