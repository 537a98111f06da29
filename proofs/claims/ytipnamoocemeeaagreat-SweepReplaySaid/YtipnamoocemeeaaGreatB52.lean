/-
  Texts 52 of the claim.
-/
import Derived.Test.YtipnamoocemeeaaGreatB42
import Derived.Test.YtipnamoocemeeaaGreatB43
import Derived.Test.YtipnamoocemeeaaGreatB51
import Derived.Test.YtipnamoocemeeaaGreatB39
import Derived.Test.YtipnamoocemeeaaGreatB36
import Derived.Deep.CutBlock
import Derived.Deep.CutRange
/-
  SweepReplay: a sweep and the row of the outcomes that it has been fed, plain.
-/
namespace Go.Proofs.YtipnamoocemeeaaGreat
open Go.RowKit
/-- What may change while the sweep goes on. -/
def RyF (P : Nat → Prop) (v : Value) (j : Nat) : Prop := P j ∨ v.ownBlock = some j
structure RyRel (w : World) (P : Nat → Prop) (wr : World) (g : Nat) (c : Cf) (x : Sp) (dl : List Oc) (v : Value) (cs : List Value) : Prop where
  a : SwAt P wr g c x
  lo : ∀ j, P j → w.heap.size ≤ j ∧ j < wr.heap.size
  own : wr.ownsRow w.heap.size 55 9 v dl.length cs
  dn : ∀ j, v.ownBlock = some j → ¬ P j
  rows : CsL 9 (OcH (RyF P v) wr) cs dl
  bel : Below w.heap.size w wr
  run : feedsE c Sp.ini dl = some x
  gd : SpGd c x dl.length
  fit : ∀ O ∈ dl, O.fit
theorem RyRel.keep {w : World} {P : Nat → Prop} {wr W : World} {g : Nat} {c : Cf} {x : Sp} {dl : List Oc} {v : Value} {cs : List Value} (h : RyRel w P wr g c x dl v cs) (hb : Below wr.heap.size wr W) : RyRel w P W g c x dl v cs :=
  ⟨h.a.keep (F := fun _ => False) (Keeps.of_below hb) (fun _ _ e => e.elim), fun j hj => ⟨(h.lo j hj).1, Nat.lt_of_lt_of_le (h.lo j hj).2 hb.size⟩, own_keeps (F := fun _ => False) h.own (Keeps.of_below hb) (fun _ _ e => e), h.dn,
   CsL.mono (fun r x hx => OcH.keeps (F := RyF P v) (Keeps.of_below hb) (fun _ _ e => e) r x hx) _ _ h.rows, bt h.bel hb (Nat.le_refl _), h.run, h.gd, h.fit⟩
theorem RyRel.ocs {w : World} {P : Nat → Prop} {wr : World} {g : Nat} {c : Cf} {x : Sp} {dl : List Oc} {v : Value} {cs : List Value} (h : RyRel w P wr g c x dl v cs) : Ocs wr v dl :=
  Sls.of_own h.own (CsL.mono (fun _ _ hx => hx.r) _ _ h.rows) rfl
theorem RyRel.step {w : World} {P : Nat → Prop} {wr w4 w5 w6 w7 : World} {g : Nat} {c : Cf} {x x' : Sp} {dl : List Oc} {v v2 v7 : Value} {cs cs2 : List Value} {O : Oc} (h : RyRel w P wr g c x dl v cs)
    (hb4 : Below wr.heap.size wr w4) (hb5 : Below w4.heap.size w4 w5) (hrow : CsL 9 (OcH (DevF w4.heap.size v2) w5) cs2 [O]) (hs6 : SwAt (Grw P w5 w6) w6 g c x') (hk6 : Keeps P w5 w6)
    (hgr : w6.grownBy w7 v.ownBlock) (hnew : NewOr w6 v v7) (hown7 : w7.ownsRow w.heap.size 55 9 v7 (dl.length + 1) (cs ++ cs2))
    (hnd : x.done c = false) (hx' : x.feed c O = x') (hw : WinOk c.win) (hO : O.fit) : RyRel w (Grw P w5 w6) w7 g c x' (dl ++ [O]) v7 (cs ++ cs2) := by
  have z4 := hb4.size
  have z5 := hb5.size
  have z6 := hk6.size
  have hkg : Keeps (fun j => v.ownBlock = some j) w6 w7 := Keeps.of_grown hgr (fun j e => e)
  have z7 := hkg.size
  have hvlt : ∀ j, v.ownBlock = some j → w.heap.size ≤ j ∧ j < wr.heap.size := fun j hj => h.own.lt j hj
  have h05 : Below wr.heap.size wr w5 := bt hb4 hb5 (Nat.le_refl _)
  have hv7 : ∀ j, v7.ownBlock = some j → v.ownBlock = some j ∨ w6.heap.size ≤ j := fun j hj => by
    rcases hnew with e | ⟨i, e, e2⟩
    · exact .inl (by rw [← e]; exact hj)
    · rw [hj] at e
      cases e
      exact .inr e2
  have hkF : Keeps (RyF P v) wr w7 := ((Keeps.of_below h05).trans (F := RyF P v) (hk6.mono (fun j _ e => .inl e)) (fun _ _ e => e)).trans (hkg.mono (fun j _ e => .inr e)) (fun _ _ e => e)
  have hk57 : Keeps (DevF w4.heap.size v2) w5 w7 := (hk6.mono (G := DevF w4.heap.size v2) (fun j _ e => .inr (by have := (h.lo j e).2; omega))).trans hkg (fun j _ e => .inr (by have := (hvlt j e).2; omega))
  refine ⟨?_, fun j hj => ?_, by rw [List.length_append]; exact hown7, fun j hj hP => ?_, CsL.app _ _ (CsL.mono (fun r y hy => OcH.keeps hkF (fun j hj e => ?_) r y hy) _ _ h.rows) _ _ (CsL.mono (fun r y hy => OcH.keeps hk57 (fun j hj e => ?_) r y hy) _ _ hrow), ?_, ?_, ?_, fun y hy => ?_⟩
  · exact hs6.keep hkg (fun j _ e hP => by
      rcases hP with e2 | e2
      · exact h.dn j e e2
      · have := (hvlt j e).2; omega)
  · rcases hj with e | e
    · have := h.lo j e; omega
    · have := h.bel.size; omega
  · rcases hv7 j hj with e | e
    · rcases hP with e2 | e2
      · exact h.dn j e e2
      · have := (hvlt j e).2; omega
    · rcases hP with e2 | e2
      · have := (h.lo j e2).2; omega
      · omega
  · rcases e with (e | e) | e
    · exact .inl e
    · omega
    · rcases hv7 j e with e2 | e2
      · exact .inr e2
      · omega
  · rcases e with (e | e) | e
    · exact .inr (by have := (h.lo j e).2; omega)
    · omega
    · rcases hv7 j e with e2 | e2
      · exact .inr (by have := (hvlt j e2).2; omega)
      · omega
  · have b5 := bt h.bel h05 (Nat.le_refl _)
    have b6 := b5.trans (hk6.below b5.size (fun j hj e => by have := (h.lo j e).1; omega))
    exact b6.trans (hkg.below b6.size (fun j hj e => by have := (hvlt j e).1; omega))
  · rw [feedsE_snoc h.run, if_neg (by rw [hnd]; decide), hx']
  · rw [List.length_append, ← hx']
    exact h.gd.feed hw hO
  · rcases List.mem_append.1 hy with e | e
    · exact h.fit y e
    · rw [List.mem_singleton] at e
      subst e
      exact hO
/-- The cells of a row of one outcome. -/
theorem own_cells {w : World} {B n : Nat} {a : Option Addr} {c m : Nat} {cs : List Value} (h : w.ownsRow B 55 9 (.slice a n c) m cs) (hm : 0 < m) : n = m ∧ ∃ b, a = some ⟨b, 0, none⟩ ∧ ∀ j u, cs[j]? = some u → w.cell? ((⟨b, 0, none⟩ : Addr).add j) = some u := by
  obtain ⟨hl, ⟨_, h0⟩ | ⟨g, cap, cur, hv, -, hh, -, -, -, ht⟩⟩ := h
  · omega
  · cases hv
    refine ⟨rfl, g, rfl, fun j u hj => ?_⟩
    have e : (⟨g, 0, none⟩ : Addr).add j = ⟨g, j, none⟩ := by unfold Addr.add; split <;> simp_all
    rw [← ht, List.getElem?_take] at hj
    rw [e, hpCell hh]
    split at hj
    · simpa using hj
    · cases hj

theorem run_take {P : Program} {t e : TypeId} {i5 : TypeInfo} (ht : P.underlying t = some (.slice e)) (hi : P.info? e = some i5) (a : Option Addr) (n c k : Nat) (hkc : k ≤ c) (w : World) :
    (Instr.slice t (.slice a n c) none (some (.int .i64 k)) none).run P w = .ok (.slice a k c) w := by
  have h2 : ((k : Int) ≤ (c : Int)) := by omega
  by_cases h3 : c = 0
  · cases a with
    | none => simp [Instr.slice, Instr.sliceBounds, Instr.sliceBound, run_underlying ht, asIntOf, sizeOf, typeInfo, hi, hkc]
    | some ad => cases ad; simp [Instr.slice, Instr.sliceBounds, Instr.sliceBound, run_underlying ht, asIntOf, sizeOf, typeInfo, hi, hkc, Addr.add]
  · cases a with
    | none => simp [Instr.slice, Instr.sliceBounds, Instr.sliceBound, run_underlying ht, asIntOf, sizeOf, typeInfo, hi, hkc]
    | some ad => cases ad; simp [Instr.slice, Instr.sliceBounds, Instr.sliceBound, run_underlying ht, asIntOf, sizeOf, typeInfo, hi, hkc, Addr.add]
theorem Ocs.take {w : World} {a : Option Addr} {n c m : Nat} {l : List Oc} (h : Ocs w (.slice a n c) l) (hm : m ≤ l.length) : Ocs w (.slice a m c) (l.take m) := by
  obtain ⟨a', c', hv, h1, h2, h3, h4⟩ := h
  cases hv
  have hl : (l.take m).length = m := by rw [List.length_take]; omega
  refine ⟨a, c, by rw [hl], by omega, h2, h3, fun hne => ?_⟩
  obtain ⟨b, o, ha, hc⟩ := h4 (fun e => hne (by rw [e]; simp))
  refine ⟨b, o, ha, fun i x hx => hc i x ?_⟩
  rw [List.getElem?_take] at hx
  split at hx
  · exact hx
  · cases hx

end Go.Proofs.YtipnamoocemeeaaGreat

/-
  The reference's sweep: New and Next.
-/
namespace Go.Proofs.YtipnamoocemeeaaGreat
open Go.RowKit
end Go.Proofs.YtipnamoocemeeaaGreat

/-
  The reference's sweep: Feed.
-/
namespace Go.Proofs.YtipnamoocemeeaaGreat
open Go.RowKit
end Go.Proofs.YtipnamoocemeeaaGreat
