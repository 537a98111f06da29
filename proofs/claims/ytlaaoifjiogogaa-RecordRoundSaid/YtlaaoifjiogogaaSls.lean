/-
  Slices of structures that read as lists, for every program: 'R w cs x': the cells cs hold the element x.
-/
import Derived.Test.YtlaaoifjiogogaaRead
import Derived.Test.YtlaaoifjiogogaaObj
namespace Go.Proofs.Ytlaaoifjiogogaa
open Go.RowKit

/-- A slice whose elements take sz cells each, and read as a list. -/
def Sls {α : Type} (sz : Nat) (R : World → List Value → α → Prop) (w : World) (v : Value) (l : List α) : Prop :=
  ∃ a c, v = .slice a l.length c ∧ l.length ≤ c ∧ c ≤ maxLen ∧ (a = none → c = 0) ∧
    (l ≠ [] → ∃ b o, a = some ⟨b, o, none⟩ ∧ ∀ (i : Nat) (x : α), l[i]? = some x → ∃ r, r.length = sz ∧ R w r x ∧ ∀ j u, r[j]? = some u → w.cell? ⟨b, o + i * sz + j, none⟩ = some u)

section
variable {α : Type} {sz : Nat} {R : World → List Value → α → Prop}

theorem Sls.nil (w : World) : Sls sz R w (.slice none 0 0) [] := ⟨none, 0, rfl, Nat.le_refl _, Nat.zero_le _, fun _ => rfl, fun h => absurd rfl h⟩
theorem Sls.len {w : World} {v : Value} {l : List α} (h : Sls sz R w v l) : l.length ≤ maxLen := by
  obtain ⟨a, c, _, h1, h2, _⟩ := h; exact Nat.le_trans h1 h2
theorem Sls.keep (hR : ∀ w w' r x, R w r x → Below w.heap.size w w' → R w' r x) {w w' : World} {v : Value} {l : List α} (h : Sls sz R w v l) (hb : Below w.heap.size w w') : Sls sz R w' v l := by
  obtain ⟨a, c, hv, h1, h2, h3, h4⟩ := h
  refine ⟨a, c, hv, h1, h2, h3, fun hl => ?_⟩
  obtain ⟨b, o, ha, hc⟩ := h4 hl
  refine ⟨b, o, ha, fun i x hx => ?_⟩
  obtain ⟨r, c1, c2, c3⟩ := hc i x hx
  exact ⟨r, c1, hR _ _ _ _ c2 hb, fun j u hj => cell_keep hb (c3 j u hj)⟩
/-- The cells of one element. -/
theorem Sls.get {w : World} {a : Option Addr} {n c : Nat} {l : List α} (h : Sls sz R w (.slice a n c) l) :
    l.length = n ∧ n ≤ c ∧ c ≤ maxLen ∧ ∀ i x, l[i]? = some x → ∃ b o, a = some ⟨b, o, none⟩ ∧ ∃ r, r.length = sz ∧ R w r x ∧ ∀ j u, r[j]? = some u → w.cell? ⟨b, o + i * sz + j, none⟩ = some u := by
  obtain ⟨a', c', hv, h1, h2, h3, h4⟩ := h
  cases hv
  refine ⟨rfl, h1, h2, fun i x hx => ?_⟩
  obtain ⟨b, o, ha, hc⟩ := h4 (by rintro rfl; simp at hx)
  exact ⟨b, o, ha, hc i x hx⟩

/-- Cells that read as elements, one behind the other. -/
def CsL (sz : Nat) (Q : List Value → α → Prop) : List Value → List α → Prop
  | cs, [] => cs = []
  | cs, x :: l => ∃ r rest, cs = r ++ rest ∧ r.length = sz ∧ Q r x ∧ CsL sz Q rest l

theorem CsL.snoc {Q : List Value → α → Prop} {r : List Value} {x : α} (hr : r.length = sz) (hq : Q r x) : ∀ (l : List α) (cs : List Value), CsL sz Q cs l → CsL sz Q (cs ++ r) (l ++ [x])
  | [], cs, h => by
    have h' : cs = [] := h
    subst h'
    exact ⟨r, [], by simp, hr, hq, rfl⟩
  | y :: l, cs, h => by
    obtain ⟨r', rest, rfl, h1, h2, h3⟩ := h
    exact ⟨r', rest ++ r, by simp, h1, h2, CsL.snoc hr hq l rest h3⟩
theorem CsL.mono {Q Q' : List Value → α → Prop} (hQ : ∀ r x, Q r x → Q' r x) : ∀ (l : List α) (cs : List Value), CsL sz Q cs l → CsL sz Q' cs l
  | [], _, h => h
  | _ :: l, _, h => by
    obtain ⟨r', rest, h0, h1, h2, h3⟩ := h
    exact ⟨r', rest, h0, h1, hQ _ _ h2, CsL.mono hQ l rest h3⟩
theorem CsL.len {Q : List Value → α → Prop} : ∀ (l : List α) (cs : List Value), CsL sz Q cs l → cs.length = l.length * sz
  | [], cs, h => by
    have h' : cs = [] := h
    subst h'; simp
  | y :: l, cs, h => by
    obtain ⟨r', rest, rfl, h1, h2, h3⟩ := h
    have := CsL.len l rest h3
    rw [List.length_append, h1, this, List.length_cons, Nat.add_mul, Nat.one_mul, Nat.add_comm]
theorem CsL.get {Q : List Value → α → Prop} : ∀ (l : List α) (cs : List Value), CsL sz Q cs l → ∀ (i : Nat) (x : α), l[i]? = some x → ∃ r, r.length = sz ∧ Q r x ∧ ∀ (j : Nat) (u : Value), r[j]? = some u → cs[i * sz + j]? = some u
  | [], _, _, i, x, hx => by simp at hx
  | y :: l, cs, h, i, x, hx => by
    obtain ⟨r', rest, rfl, h1, h2, h3⟩ := h
    cases i with
    | zero =>
      simp only [List.getElem?_cons_zero, Option.some.injEq] at hx
      subst hx
      refine ⟨r', h1, h2, fun j u hj => ?_⟩
      rw [Nat.zero_mul, Nat.zero_add, List.getElem?_append_left (List.getElem?_eq_some_iff.1 hj).1]
      exact hj
    | succ i =>
      obtain ⟨r, g1, g2, g3⟩ := CsL.get l rest h3 i x (by simpa using hx)
      refine ⟨r, g1, g2, fun j u hj => ?_⟩
      have h4 := g3 j u hj
      rw [List.getElem?_append_right (by rw [h1, Nat.add_mul]; omega), h1]
      rw [show (i + 1) * sz + j - sz = i * sz + j by rw [Nat.add_mul]; omega]
      exact h4
theorem CsL.one {Q : List Value → α → Prop} (hQ : ∀ r x, Q r x → ∀ u ∈ r, u.oneCell' = true) : ∀ (l : List α) (cs : List Value), CsL sz Q cs l → ∀ u ∈ cs, u.oneCell' = true
  | [], cs, h, u, hu => by
    have h' : cs = [] := h
    subst h'; cases hu
  | y :: l, cs, h, u, hu => by
    obtain ⟨r', rest, rfl, h1, h2, h3⟩ := h
    rcases List.mem_append.1 hu with hu | hu
    · exact hQ _ _ h2 u hu
    · exact CsL.one hQ l rest h3 u hu

/-- A row of the call's own reads as a list. -/
theorem Sls.of_own {w : World} {base : Nat} {E : TypeId} {v : Value} {n : Nat} {cs : List Value} {l : List α} (h : w.ownsRow base E sz v n cs) (hc : CsL sz (R w) cs l) (hn : l.length = n) : Sls sz R w v l := by
  subst hn
  obtain ⟨hlen, h | ⟨g, cap, cur, hv, hb, hh, hnc, hcm, hcs, ht⟩⟩ := h
  · obtain ⟨rfl, h0⟩ := h
    have : l = [] := List.eq_nil_of_length_eq_zero h0
    subst this
    exact Sls.nil w
  · refine ⟨_, _, hv, hnc, hcm, fun h => by simp at h, fun hl => ⟨g, 0, rfl, fun i x hx => ?_⟩⟩
    obtain ⟨r, g1, g2, g3⟩ := CsL.get l cs hc i x hx
    refine ⟨r, g1, g2, fun j u hj => ?_⟩
    have h4 := g3 j u hj
    have hlt := (List.getElem?_eq_some_iff.1 h4).1
    have h5 := take_get (n := l.length * sz) (xs := cs) ht (i * sz + j) hlt
    rw [Nat.zero_add]
    simp only [World.cell?, hh, Option.isSome_none]
    show cur[i * sz + j]? = some u
    rw [h5]
    exact h4

/-- The same cells, as one row: what an append takes. -/
theorem Sls.row {w : World} {b o n c : Nat} {l : List α} (h : Sls sz R w (.slice (some ⟨b, o, none⟩) n c) l) : ∃ cs, CsL sz (R w) cs l ∧ l.length = n ∧ ∀ j u, cs[j]? = some u → w.cell? ⟨b, o + j, none⟩ = some u := by
  obtain ⟨hl, _, _, hel⟩ := h.get
  clear h
  subst hl
  have main : ∀ (l : List α) (o : Nat), (∀ i x, l[i]? = some x → ∃ r, r.length = sz ∧ R w r x ∧ ∀ j u, r[j]? = some u → w.cell? ⟨b, o + i * sz + j, none⟩ = some u) →
      ∃ cs, CsL sz (R w) cs l ∧ ∀ j u, cs[j]? = some u → w.cell? ⟨b, o + j, none⟩ = some u := by
    intro l
    induction l with
    | nil => intro o _; exact ⟨[], rfl, fun j u hj => by simp at hj⟩
    | cons x l ih =>
      intro o h
      obtain ⟨r, h1, h2, h3⟩ := h 0 x rfl
      obtain ⟨cs, h4, h5⟩ := ih (o + sz) (fun i y hy => by
        obtain ⟨r, g1, g2, g3⟩ := h (i + 1) y (by simpa using hy)
        exact ⟨r, g1, g2, fun j u hj => by
          have := g3 j u hj
          rwa [show o + (i + 1) * sz + j = o + sz + i * sz + j by rw [Nat.add_mul]; omega] at this⟩)
      refine ⟨r ++ cs, ⟨r, cs, rfl, h1, h2, h4⟩, fun j u hj => ?_⟩
      by_cases hjr : j < r.length
      · rw [List.getElem?_append_left hjr] at hj
        have := h3 j u hj
        rwa [Nat.zero_mul, Nat.add_zero] at this
      · rw [List.getElem?_append_right (by omega), h1] at hj
        have := h5 (j - sz) u hj
        rwa [show o + sz + (j - sz) = o + j by omega] at this
  obtain ⟨cs, h1, h2⟩ := main l o (fun i x hx => by
    obtain ⟨b', o', ha, r, hr⟩ := hel i x hx
    cases ha
    exact ⟨r, hr⟩)
  exact ⟨cs, h1, rfl, h2⟩

theorem list_ofP (n : Nat) (P : Nat → α → Prop) (h : ∀ i, i < n → ∃ x, P i x) : ∃ l : List α, l.length = n ∧ ∀ i x, l[i]? = some x → P i x := by
  induction n with
  | zero => exact ⟨[], rfl, fun i x hx => by simp at hx⟩
  | succ n ih =>
    obtain ⟨l, hl, hp⟩ := ih (fun i hi => h i (by omega))
    obtain ⟨x, hx⟩ := h n (by omega)
    refine ⟨l ++ [x], by simp [hl], fun i y hy => ?_⟩
    by_cases hi : i < n
    · rw [List.getElem?_append_left (by omega)] at hy; exact hp i y hy
    · have hlt := (List.getElem?_eq_some_iff.1 hy).1
      have : i = n := by simp at hlt; omega
      subst this
      rw [List.getElem?_append_right (by omega), hl] at hy
      simp at hy
      subst hy
      exact hx

/-- A slice that can be read. -/
theorem Sls.of_rd {P : Program} {t e : TypeId} {w : World} {v : Value} (ht : P.underlying t = some (.slice e)) (hc : P.cellsOf e = sz) (hpos : 0 < sz) (hE : ∀ cs, Rd P w e cs → ∃ x, R w cs x) (h : Rd P w t [v]) : ∃ l, Sls sz R w v l := by
  rcases h.slice ht with h | ⟨a, len, cap, h, hl, hm, hel⟩
  · cases h; exact ⟨[], Sls.nil w⟩
  · cases h
    have hb : ∀ i, i < len → ∃ x, ∃ r, r.length = sz ∧ R w r x ∧ ∀ j u, r[j]? = some u → w.cell? ((a.add (i * sz)).add j) = some u := by
      intro i hi
      obtain ⟨ds, hd, hcell, hr⟩ := hel i hi
      rw [hc] at hd hcell
      obtain ⟨x, hx⟩ := hE ds hr
      refine ⟨x, ds, hd, hx, fun j u hj => ?_⟩
      have hjl := (List.getElem?_eq_some_iff.1 hj).1
      rw [hcell j (by omega)]
      exact hj
    obtain ⟨l, hll, hlp⟩ := list_ofP len _ hb
    refine ⟨l, some a, cap, by rw [hll], by omega, hm, fun h => by simp at h, fun hne => ?_⟩
    have hpos2 : 0 < l.length := by
      cases l with
      | nil => exact absurd rfl hne
      | cons _ _ => simp
    have hs2 : a = ⟨a.block, a.off, none⟩ := by
      obtain ⟨r, h1, _, h3⟩ := hlp 0 l[0] (List.getElem?_eq_getElem hpos2)
      have h4 := h3 0 (r[0]'(by omega)) (List.getElem?_eq_getElem (by omega))
      exact spot_of (by simpa [Addr.add] using h4)
    refine ⟨a.block, a.off, by rw [← hs2], fun i x hx => ?_⟩
    obtain ⟨r, h1, h2, h3⟩ := hlp i x hx
    refine ⟨r, h1, h2, fun j u hj => ?_⟩
    have := h3 j u hj
    rw [hs2, add_lit, add_lit] at this
    exact this
end

end Go.Proofs.Ytlaaoifjiogogaa
