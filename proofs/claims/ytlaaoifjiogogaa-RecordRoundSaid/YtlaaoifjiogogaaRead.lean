/-
  What the form's reading of an argument gives, type by type, for every program: 'Rd P w t cs': the cells cs can be read as a value of type t.
-/
import Derived.Test.YtlaaoifjiogogaaBase
import Derived.ProofKit
namespace Go.Proofs.Ytlaaoifjiogogaa
open Go.RowKit

def Rd (P : Program) (w : World) (t : TypeId) (cs : List Value) : Prop :=
  ∃ (H : Type) (enc : TypeId × Value → H) (base : Nat) (spare : Nat → Bool) (held : Bool) (fuel : Nat) (x : DataW H × List MemPlace), DataW.trod enc P w base spare held fuel t cs = some x

theorem mapM_some {α β : Type} {f : α → Option β} : ∀ {l : List α} {ys : List β}, l.mapM f = some ys → ∀ x ∈ l, ∃ y, f x = some y := by
  intro l
  induction l with
  | nil => intro ys _ x hx; cases hx
  | cons a l ih =>
    intro ys h x hx
    rw [List.mapM_cons] at h
    cases hfa : f a with
    | none => rw [hfa] at h; exact absurd h (by simp)
    | some b =>
      rw [hfa] at h
      cases hl : l.mapM f with
      | none => rw [hl] at h; exact absurd h (by simp)
      | some bs =>
        rcases List.mem_cons.1 hx with rfl | hx
        · exact ⟨b, hfa⟩
        · exact ih hl x hx

theorem mapM_get {α β : Type} {f : α → Option β} : ∀ {l : List α} {ys : List β}, l.mapM f = some ys → ys.length = l.length ∧ ∀ (i : Nat) (x : α), l[i]? = some x → f x = ys[i]? := by
  intro l
  induction l with
  | nil =>
    intro ys h
    obtain rfl : ys = [] := by simpa [eq_comm] using h
    exact ⟨rfl, fun i x hx => by simp at hx⟩
  | cons a l ih =>
    intro ys h
    rw [List.mapM_cons] at h
    cases hfa : f a with
    | none => rw [hfa] at h; exact absurd h (by simp)
    | some b =>
      rw [hfa] at h
      cases hl : l.mapM f with
      | none => rw [hl] at h; exact absurd h (by simp)
      | some bs =>
        rw [hl] at h
        obtain rfl : ys = b :: bs := by simpa [eq_comm] using h
        obtain ⟨h1, h2⟩ := ih hl
        refine ⟨by simp [h1], fun i x hx => ?_⟩
        cases i with
        | zero => simp at hx; subst hx; simpa using hfa
        | succ i => simp at hx; simpa using h2 i x hx

section
variable {P : Program} {w : World} {t : TypeId} {cs : List Value}

theorem Rd.int {k : IntKind} (ht : P.underlying t = some (.int k)) (h : Rd P w t cs) : ∃ n, cs = [.int k n] ∧ (Lit.int k n).wf = true := by
  obtain ⟨H, enc, base, spare, held, fuel, x, h⟩ := h
  cases fuel with
  | zero => simp [DataW.trod] at h
  | succ fuel =>
    unfold DataW.trod at h
    rw [ht] at h
    split at h <;> simp_all

theorem Rd.bool (ht : P.underlying t = some .bool) (h : Rd P w t cs) : ∃ b, cs = [.bool b] := by
  obtain ⟨H, enc, base, spare, held, fuel, x, h⟩ := h
  cases fuel with
  | zero => simp [DataW.trod] at h
  | succ fuel =>
    unfold DataW.trod at h
    rw [ht] at h
    split at h <;> simp_all

theorem Rd.string (ht : P.underlying t = some .string) (h : Rd P w t cs) : ∃ s, cs = [.string s] ∧ s.size ≤ maxLen := by
  obtain ⟨H, enc, base, spare, held, fuel, x, h⟩ := h
  cases fuel with
  | zero => simp [DataW.trod] at h
  | succ fuel =>
    unfold DataW.trod at h
    rw [ht] at h
    split at h <;> simp_all

theorem Rd.struct {fs : Array Field} (ht : P.underlying t = some (.struct fs)) (h : Rd P w t cs) :
    cs.length = P.cellsOf t ∧ ∀ f ∈ fs.toList, Rd P w f.type ((cs.drop f.offset).take (P.cellsOf f.type)) := by
  obtain ⟨H, enc, base, spare, held, fuel, x, h⟩ := h
  cases fuel with
  | zero => simp [DataW.trod] at h
  | succ fuel =>
    unfold DataW.trod at h
    rw [ht] at h
    dsimp only at h
    split at h
    · rename_i hl
      refine ⟨hl, fun f hf => ?_⟩
      cases hm : (fs.toList.mapM fun f => DataW.trod enc P w base spare held fuel f.type ((cs.drop f.offset).take (P.cellsOf f.type))) with
      | none => rw [hm] at h; cases h
      | some ys =>
        obtain ⟨y, hy⟩ := mapM_some hm f hf
        exact ⟨H, enc, base, spare, held, fuel, y, hy⟩
    · cases h

theorem Rd.array {n : Nat} {e : TypeId} (ht : P.underlying t = some (.array n e)) (h : Rd P w t cs) :
    cs.length = P.cellsOf t ∧ ∀ i, i < n → Rd P w e ((cs.drop (i * P.cellsOf e)).take (P.cellsOf e)) := by
  obtain ⟨H, enc, base, spare, held, fuel, x, h⟩ := h
  cases fuel with
  | zero => simp [DataW.trod] at h
  | succ fuel =>
    unfold DataW.trod at h
    rw [ht] at h
    dsimp only at h
    split at h
    · rename_i hl
      refine ⟨hl, fun i hi => ?_⟩
      cases hm : ((List.range n).mapM fun i => DataW.trod enc P w base spare held fuel e ((cs.drop (i * P.cellsOf e)).take (P.cellsOf e))) with
      | none => rw [hm] at h; cases h
      | some ys =>
        obtain ⟨y, hy⟩ := mapM_some hm i (List.mem_range.2 hi)
        exact ⟨H, enc, base, spare, held, fuel, y, hy⟩
    · cases h

theorem Rd.slice {e : TypeId} (ht : P.underlying t = some (.slice e)) (h : Rd P w t cs) :
    cs = [.slice none 0 0] ∨ ∃ a len cap, cs = [.slice (some a) len cap] ∧ len ≤ cap ∧ cap ≤ maxLen ∧
      ∀ i, i < len → ∃ ds, ds.length = P.cellsOf e ∧ (∀ j, j < P.cellsOf e → w.cell? ((a.add (i * P.cellsOf e)).add j) = ds[j]?) ∧ Rd P w e ds := by
  obtain ⟨H, enc, base, spare, held, fuel, x, h⟩ := h
  cases fuel with
  | zero => simp [DataW.trod] at h
  | succ fuel =>
    unfold DataW.trod at h
    rw [ht] at h
    split at h
    all_goals first
      | (exfalso; simp_all; done)
      | skip
    · exact .inl rfl
    · rename_i e' a len cap hx
      cases hx
      refine .inr ⟨a, len, cap, rfl, ?_⟩
      dsimp only at h
      split at h
      · rename_i hb
        refine ⟨hb.2.1, hb.2.2, fun i hi => ?_⟩
        cases hm : ((List.range len).mapM fun i => (w.cells? base (a.add (i * P.cellsOf e)) (P.cellsOf e)).bind (DataW.trod enc P w base spare held fuel e)) with
        | none => rw [hm] at h; cases h
        | some ys =>
          obtain ⟨y, hy⟩ := mapM_some hm i (List.mem_range.2 hi)
          cases hc : w.cells? base (a.add (i * P.cellsOf e)) (P.cellsOf e) with
          | none => rw [hc] at hy; cases hy
          | some ds =>
            rw [hc] at hy
            refine ⟨ds, ?_, ?_, H, enc, base, spare, held, fuel, y, hy⟩
            · unfold World.cells? at hc
              split at hc
              · simpa using (mapM_get hc).1
              · cases hc
            · intro j hj
              unfold World.cells? at hc
              split at hc
              · exact (mapM_get hc).2 j j (by simp [hj])
              · cases hc
      · cases h

theorem add_lit (b o i : Nat) : (⟨b, o, none⟩ : Addr).add i = ⟨b, o + i, none⟩ := by unfold Addr.add; split <;> simp_all
theorem spot_of {a : Addr} {v : Value} (h : w.cell? a = some v) : a = ⟨a.block, a.off, none⟩ := by
  have := World.cell?_spot h
  cases a
  simp_all

/-- A slice of bytes that can be read. -/
theorem Bs.of_rd {E : TypeId} {v : Value} (hT : P.underlying t = some (.slice E)) (hE : P.underlying E = some (.int .u8)) (hc : P.cellsOf E = 1) (h : Rd P w t [v]) : ∃ l, Bs w v l := by
  rcases h.slice hT with h | ⟨a, len, cap, h, hl, hm, hel⟩
  · cases h; exact ⟨[], Bs.nil w⟩
  · cases h
    have hb : ∀ i, i < len → ∃ n, w.cell? (a.add i) = some (.int .u8 n) ∧ 0 ≤ n ∧ n ≤ 255 := by
      intro i hi
      obtain ⟨ds, hd, hcell, hr⟩ := hel i hi
      obtain ⟨n, rfl, hw⟩ := Rd.int hE hr
      have h0 := hcell 0 (by omega)
      rw [hc, Nat.mul_one] at h0
      exact ⟨n, by simpa [Addr.add] using h0, bounds_u8 hw⟩
    refine ⟨(List.range len).map fun i => match w.cell? (a.add i) with | some (.int _ n) => UInt8.ofNat n.toNat | _ => 0, some a, cap, by simp, by simpa using hl, hm, fun h => by simp at h, fun hne => ?_⟩
    have hpos : 0 < len := by
      rcases Nat.eq_zero_or_pos len with h | h
      · subst h; simp at hne
      · exact h
    obtain ⟨n0, h0, _⟩ := hb 0 hpos
    have hsp : a = ⟨a.block, a.off, none⟩ := spot_of (by simpa [Addr.add] using h0)
    refine ⟨a.block, a.off, by rw [← hsp], fun i hi => ?_⟩
    have hi' : i < len := by simpa using hi
    obtain ⟨n, hn, h1, h2⟩ := hb i hi'
    have e : (⟨a.block, a.off + i, none⟩ : Addr) = a.add i := by
      conv => rhs; rw [hsp]
      rw [add_lit]
    rw [e, hn]
    simp [List.getD, hi', hn]
    omega

end
end Go.Proofs.Ytlaaoifjiogogaa
