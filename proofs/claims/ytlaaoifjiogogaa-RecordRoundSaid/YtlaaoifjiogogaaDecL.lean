/-
  The contract of record.Decode at all bytes.
-/
import Derived.Test.YtlaaoifjiogogaaOutw
import Derived.Test.YtlaaoifjiogogaaOcs
namespace Go.Proofs.Ytlaaoifjiogogaa
open Go.RowKit

/-- What Decode leaves. -/
def DecLPost (w : World) (o : Option (List Oc)) (r : Ending) (w' : World) : Prop :=
  (∃ l v, o = some l ∧ r = .returned (.tuple #[v, .int .i64 0]) ∧ Ocs w' v l ∧ Below w.heap.size w w') ∨ (o = none ∧ r = .returned (.tuple #[.slice none 0 0, .int .i64 5]) ∧ Below w.heap.size w w')

/-- Nine cells that hold an outcome whose memory lies in blocks of its own, apart from those of F. -/
def OcH (F : Nat → Prop) (w : World) (r : List Value) (x : Oc) : Prop :=
  ∃ (da oa : Option Addr) (dc oc lo hi : Nat), r = [.int .i64 x.verdict, .int .i64 x.reply.fn, .int .i64 x.reply.exc, .slice da x.reply.data.length dc, .int .i64 x.reply.code, .int .i64 x.reply.level, .bool x.reply.more, .int .i64 x.reply.next, .slice oa x.reply.objs.length oc] ∧ hi ≤ w.heap.size ∧ (∀ k, lo ≤ k → k < hi → ¬ F k) ∧ ∀ W, (∀ k, lo ≤ k → k < hi → W.heap[k]? = w.heap[k]?) → w.heap.size ≤ W.heap.size → OcIs W x da dc oa oc

theorem OcH.keeps {F F2 : Nat → Prop} {w w' : World} (hk : Keeps F w w') (h2 : ∀ j, j < w.heap.size → F2 j → F j) (r : List Value) (x : Oc) (h : OcH F w r x) : OcH F2 w' r x := by
  obtain ⟨da, oa, dc, oc, lo, hi, h1, h3, h4, h5⟩ := h
  refine ⟨da, oa, dc, oc, lo, hi, h1, Nat.le_trans h3 hk.size, fun k h6 h7 f => h4 k h6 h7 (h2 k (by omega) f), fun W hW hs => h5 W (fun k h6 h7 => ?_) (Nat.le_trans hk.size hs)⟩
  rw [hW k h6 h7, hk.block k (by omega) (h4 k h6 h7)]

theorem OcH.r {F : Nat → Prop} {w : World} (r : List Value) (x : Oc) (h : OcH F w r x) : OcR w r x := by
  obtain ⟨da, oa, dc, oc, lo, hi, h1, h3, h4, h5⟩ := h
  have := h5 w (fun _ _ _ => rfl) (Nat.le_refl _)
  exact ⟨da, dc, oa, oc, h1, this.d, this.o, this.hi, this.lo⟩

theorem OcH.one {F : Nat → Prop} {w : World} (r : List Value) (x : Oc) (h : OcH F w r x) : ∀ u ∈ r, u.oneCell' = true := by
  obtain ⟨da, oa, dc, oc, lo, hi, rfl, _⟩ := h
  intro u hu
  simp at hu
  rcases hu with rfl | rfl | rfl | rfl | rfl | rfl | rfl | rfl | rfl <;> rfl

/-- One outcome more. -/
theorem ocStep {B P : Nat} {wr w5 w6 : World} {E : TypeId} {X : Obj} {v v6 : Value} {k : Nat} {cs : List Value} {acc : List Oc} {o : Oc} {da oa : Option Addr} {dc oc : Nat}
    (hB : B ≤ wr.heap.size) (hP : P < B) (hown : wr.ownsRow B E 9 v k cs) (hcs : CsL 9 (OcH (DevF B v) wr) cs acc) (hk5 : Keeps (· = P) wr w5)
    (hI : ∀ W, Agree wr.heap.size w5 W → OcIs W o da dc oa oc) (hgr : (w5.alloc X).grownBy w6 v.ownBlock) (hnew : NewOr (w5.alloc X) v v6) :
    CsL 9 (OcH (DevF B v6) w6) (cs ++ [.int .i64 o.verdict, .int .i64 o.reply.fn, .int .i64 o.reply.exc, .slice da o.reply.data.length dc, .int .i64 o.reply.code, .int .i64 o.reply.level, .bool o.reply.more, .int .i64 o.reply.next, .slice oa o.reply.objs.length oc]) (acc ++ [o]) ∧ Keeps (DevF B v) wr w6 ∧ (∀ i, i < B → i ≠ P → w6.heap[i]? = wr.heap[i]?) ∧ w6.heap[P]? = w5.heap[P]? := by
  have hs5 := hk5.size
  have hK1 : Keeps (DevF B v) wr (w5.alloc X) := (hk5.mono (G := DevF B v) (fun j _ e => .inr (by omega))).trans (Keeps.of_below (F := DevF B v) (bal'' w5 X)) (fun _ _ h => h)
  have hK2 : Keeps (fun j => v.ownBlock = some j) (w5.alloc X) w6 := Keeps.of_grown hgr (fun k hk => hk)
  have hK : Keeps (DevF B v) wr w6 := hK1.trans hK2 (fun i _ h => .inl h)
  have hvlt : ∀ j, v.ownBlock = some j → B ≤ j ∧ j < wr.heap.size := fun j hj => hown.lt j hj
  have hF2 : ∀ j, j < w5.heap.size → DevF B v6 j → DevF B v j := by
    intro j hj h
    rcases h with h | h
    · rcases hnew with h1 | ⟨i, h1, h2⟩
      · exact .inl (by rw [← h1]; exact h)
      · rw [h] at h1
        cases h1
        simp at h2
        omega
    · exact .inr h
  have h65 : ∀ i, i < w5.heap.size → v.ownBlock ≠ some i → w6.heap[i]? = w5.heap[i]? := fun i hi hne => by
    rw [hK2.block i (by simp; omega) hne, Below.heap_alloc _ _ _ hi]
  refine ⟨?_, hK, fun i hi hne => ?_, ?_⟩
  · refine CsL.snoc (sz := 9) rfl ?_ acc cs (CsL.mono (fun r x h => OcH.keeps hK (fun j hj => hF2 j (by omega)) r x h) acc cs hcs)
    have hs6 := hK2.size
    simp at hs6
    refine ⟨da, oa, dc, oc, wr.heap.size, w5.heap.size, rfl, by omega, fun k h1 h2 h => ?_, fun W hW hs => hI W ⟨by omega, fun k h1 h2 => ?_⟩⟩
    · rcases hF2 k h2 h with h | h
      · have := (hvlt _ h).2
        omega
      · omega
    · rw [hW k h1 h2]
      exact h65 k h2 (fun h => by have := (hvlt _ h).2; omega)
  · rw [h65 i (by omega) (fun h => by have := (hvlt _ h).1; omega)]
    exact hk5.block i (by omega) hne
  · exact h65 P (by omega) (fun h => by have := (hvlt _ h).1; omega)

theorem infoOc : (Try.prog.info? 27).map (fun i => (i.zero, i.size, i.bytes)) = some (some (.agg #[.int .i64 0, .int .i64 0, .int .i64 0, .slice none 0 0, .int .i64 0, .int .i64 0, .bool false, .int .i64 0, .slice none 0 0]), 9, 104) := by kernel_rfl

theorem decL_nil : decL [] = none := rfl

end Go.Proofs.Ytlaaoifjiogogaa
