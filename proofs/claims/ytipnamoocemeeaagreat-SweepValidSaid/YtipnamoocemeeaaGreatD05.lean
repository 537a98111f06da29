/-
  Texts 5 of the claim.
-/
import Derived.Test.YtipnamoocemeeaaGreatD03
import Derived.Test.YtipnamoocemeeaaGreatD01
import Derived.Test.YtipnamoocemeeaaGreatD02
namespace Go.Proofs.YtipnamoocemeeaaGreat
open Go.RowKit
structure RpIs (w : World) (x : Rp) (da : Option Addr) (dc : Nat) (oa : Option Addr) (oc : Nat) : Prop where
  d : Bs w (.slice da x.data.length dc) x.data
  o : Obs w (.slice oa x.objs.length oc) x.objs
  hi : x.level ≤ 9223372036854775807
  lo : -9223372036854775808 ≤ x.level
theorem RpIs.keep {w w' : World} {x : Rp} {da : Option Addr} {dc : Nat} {oa : Option Addr} {oc : Nat} (h : RpIs w x da dc oa oc) (hb : Below w.heap.size w w') : RpIs w' x da dc oa oc := ⟨h.d.keep hb, h.o.keep hb, h.hi, h.lo⟩
def ObQ (w : World) (r : List Value) (x : Ob) : Prop := ∃ a c, r = [.int .i64 x.id, .slice a x.val.length c] ∧ Bs w (.slice a x.val.length c) x.val
theorem ObQ.keep {w w' : World} (hb : Below w.heap.size w w') (r : List Value) (x : Ob) (h : ObQ w r x) : ObQ w' r x := by
  obtain ⟨a, c, h1, h2⟩ := h
  exact ⟨a, c, h1, h2.keep hb⟩
theorem Obs.of_csl {w : World} {base : Nat} {E : TypeId} {v : Value} {n : Nat} {cs : List Value} {l : List Ob} (h : w.ownsRow base E 2 v n cs) (hc : CsL 2 (ObQ w) cs l) (hn : l.length = n) : Obs w v l := by
  obtain ⟨a, c, hv, h1, h2, h3, h4⟩ := Sls.of_own h hc hn
  refine ⟨a, c, hv, h1, h2, h3, fun hl => ?_⟩
  obtain ⟨b, o, ha, hel⟩ := h4 hl
  refine ⟨b, o, ha, fun i x hx => ?_⟩
  obtain ⟨r, _, ⟨xa, xc, rfl, hb⟩, hr⟩ := hel i x hx
  exact ⟨hr 0 _ rfl, _, hr 1 _ rfl, hb⟩
theorem infoOb : (Tryz.prog.info? 156).map (fun i => (i.zero, i.size, i.bytes)) = some (some (.agg #[.int .i64 0, .slice none 0 0]), 2, 32) := by kernel_rfl
theorem bal'' (w : World) (o : Obj) : Below w.heap.size w (w.alloc o) := (Below.refl _ _).alloc (Nat.le_refl _) _
def ObQF (F : Nat → Prop) (w : World) (r : List Value) (x : Ob) : Prop := ∃ a c, r = [.int .i64 x.id, .slice a x.val.length c] ∧ Bs w (.slice a x.val.length c) x.val ∧ ∀ ad, a = some ad → ¬ F ad.block ∧ ad.block < w.heap.size
theorem ObQF.q {F : Nat → Prop} {w : World} (r : List Value) (x : Ob) (h : ObQF F w r x) : ObQ w r x := by
  obtain ⟨a, c, h1, h2, _⟩ := h
  exact ⟨a, c, h1, h2⟩
theorem ObQF.keeps {F F2 : Nat → Prop} {w w' : World} (hk : Keeps F w w') (h2 : ∀ j, j < w.heap.size → F2 j → F j) (r : List Value) (x : Ob) (h : ObQF F w r x) : ObQF F2 w' r x := by
  obtain ⟨a, c, h1, h3, h4⟩ := h
  refine ⟨a, c, h1, h3.keepF hk (fun ad had => (h4 ad had).1), fun ad had => ?_⟩
  obtain ⟨h5, h6⟩ := h4 ad had
  exact ⟨fun h => h5 (h2 _ h6 h), Nat.lt_of_lt_of_le h6 hk.size⟩
def DevF (B : Nat) (v : Value) (j : Nat) : Prop := v.ownBlock = some j ∨ j < B
theorem ObQF.agree {B C : Nat} {v : Value} {w W : World} (hB : B ≤ C) (hW : Agree B w W) (r : List Value) (x : Ob) (h : ObQF (DevF C v) w r x) : ObQ W r x := by
  obtain ⟨a, c, h1, h2, h3⟩ := h
  refine ⟨a, c, h1, h2.agree (fun ad had => ?_) hW⟩
  have := (h3 ad had).1
  exact Nat.le_trans hB (Nat.le_of_not_lt (fun h => this (.inr h)))
theorem devStep {B : Nat} {wr w5 w6 : World} {E U : TypeId} {X : Obj} {v v6 : Value} {k q : Nat} {cs : List Value} {acc : List Ob} {y0 : Int} {a5 : Option Addr} {c5 : Nat} {Y : List UInt8}
    (hB : B ≤ wr.heap.size) (hown : wr.ownsRow B E 2 v k cs) (hcs : CsL 2 (ObQF (DevF B v) wr) cs acc) (hb5 : Below wr.heap.size wr w5)
    (hY : Y.length = q) (hown5 : w5.ownsRow wr.heap.size U 1 (.slice a5 q c5) q (u8s Y)) (hgr : (w5.alloc X).grownBy w6 v.ownBlock) (hnew : NewOr (w5.alloc X) v v6) :
    CsL 2 (ObQF (DevF B v6) w6) (cs ++ [.int .i64 y0, .slice a5 q c5]) (acc ++ [⟨y0, Y⟩]) ∧ Keeps (DevF B v) wr w6 ∧ (∀ i, i < B → w6.heap[i]? = wr.heap[i]?) := by
  have hK1 : Keeps (DevF B v) wr (w5.alloc X) := Keeps.of_below (bta hb5 (Nat.le_refl _) X)
  have hK2 : Keeps (fun j => v.ownBlock = some j) (w5.alloc X) w6 := Keeps.of_grown hgr (fun k hk => hk)
  have hK : Keeps (DevF B v) wr w6 := hK1.trans hK2 (fun i _ h => .inl h)
  have hvlt : ∀ j, v.ownBlock = some j → B ≤ j ∧ j < wr.heap.size := fun j hj => hown.lt j hj
  have hF2 : ∀ j, j < wr.heap.size → DevF B v6 j → DevF B v j := by
    intro j hj h
    rcases h with h | h
    · rcases hnew with h1 | ⟨i, h1, h2⟩
      · exact .inl (by rw [← h1]; exact h)
      · rw [h] at h1
        cases h1
        have := hb5.size
        simp at h2
        omega
    · exact .inr h
  refine ⟨?_, hK, fun i hi => ?_⟩
  · refine CsL.snoc (sz := 2) rfl ?_ acc cs (CsL.mono (fun r x h => ObQF.keeps hK hF2 r x h) acc cs hcs)
    refine ⟨a5, c5, by show _ = [Value.int .i64 y0, .slice a5 Y.length c5]; rw [hY], ?_, fun ad had => ?_⟩
    · show Bs w6 (.slice a5 Y.length c5) Y
      rw [hY]
      have hb : Bs (w5.alloc X) (.slice a5 q c5) Y := by
        subst hY
        exact (Bs.own hown5).keep (bal'' w5 X)
      exact hb.keepF hK2 (fun ad had h => by
        have h1 := (hown5.lt ad.block (by rw [had]; rfl)).1
        have h2 := (hvlt _ h).2
        omega)
    · have h1 := hown5.lt ad.block (by rw [had]; rfl)
      refine ⟨fun h => ?_, Nat.lt_of_lt_of_le h1.2 (Nat.le_trans (by simp) hK2.size)⟩
      rcases h with h | h
      · rcases hnew with h2 | ⟨i, h2, h3⟩
        · rw [h] at h2
          have := (hvlt _ h2.symm).2
          omega
        · rw [h] at h2
          cases h2
          simp at h3
          omega
      · omega
  · have h1 : (w5.alloc X).heap[i]? = wr.heap[i]? := (bta hb5 (Nat.le_refl _) X).block i (by omega)
    rw [← h1]
    refine hK2.block i (by have := hb5.size; simp; omega) (fun h => ?_)
    have := (hvlt _ h).1
    omega
end Go.Proofs.YtipnamoocemeeaaGreat
