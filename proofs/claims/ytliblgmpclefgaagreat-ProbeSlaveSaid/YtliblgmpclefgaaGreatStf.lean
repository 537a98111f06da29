/-
  The contract of record.Strip: the copies are the call's own.
-/
import Derived.Test.YtliblgmpclefgaaGreatMrech
import Derived.Test.YtliblgmpclefgaaGreatMid
import Derived.Deep.RegionWith
import Derived.StillTailTactics
namespace Go.Proofs.YtliblgmpclefgaaGreat
open Go.RowKit

/-- What a call that answers an outcome of its own leaves. -/
def StOne (w : World) (o : Oc) (r : Ending) (w' : World) : Prop :=
  ∃ (da : Option Addr) (dc : Nat) (oa : Option Addr) (oc : Nat), r = .returned (.agg #[.int .i64 o.verdict, .int .i64 o.reply.fn, .int .i64 o.reply.exc, .slice da o.reply.data.length dc, .int .i64 o.reply.code, .int .i64 o.reply.level, .bool o.reply.more, .int .i64 o.reply.next, .slice oa o.reply.objs.length oc]) ∧ (∀ W, Agree w.heap.size w' W → RpIs W o.reply da dc oa oc) ∧ Below w.heap.size w w'

theorem Bs.void {w : World} {v : Value} (h : Bs w v []) (W : World) : Bs W v [] := by
  obtain ⟨a, c, hv, h1, h2, h3, _⟩ := h
  exact ⟨a, c, hv, h1, h2, h3, fun h => absurd rfl h⟩
theorem Obs.void {w : World} {v : Value} (h : Obs w v []) (W : World) : Obs W v [] := by
  obtain ⟨a, c, hv, h1, h2, h3, _⟩ := h
  exact ⟨a, c, hv, h1, h2, h3, fun h => absurd rfl h⟩
/-- An outcome with neither bytes nor objects lies nowhere. -/
theorem StOne.void {w : World} {o : Oc} {r : Ending} {w' : World} (h : OcPost w o r w') (h1 : o.reply.data = []) (h2 : o.reply.objs = []) (h3 : o.reply.level = 0) : StOne w o r w' := by
  obtain ⟨val, e, ⟨da, dc, oa, oc, e2, hd, ho⟩, hb⟩ := h
  refine ⟨da, dc, oa, oc, by rw [e, e2], fun W _ => ⟨?_, ?_, by rw [h3]; decide, by rw [h3]; decide⟩, hb⟩
  · rw [h1] at hd ⊢
    exact hd.void W
  · rw [h2] at ho ⊢
    exact ho.void W

/-- The blocks that the loop over the copied objects, and what stands behind it, may change. -/
def SdF (w : World) (v2 : Value) : Nat → Prop := fun k => v2.ownBlock = some k ∨ k = w.heap.size + 1 ∨ k = w.heap.size + 1 + 1
/-- Where the loop over the copied objects stands. -/
def SdRel (k : Nat) (w wr : World) (A B C : Obj) (v2 : Value) (objs : List Ob) (a1 : Option Addr) (c1 : Nat) (data : List UInt8) : Prop :=
  wr.heap[w.heap.size]? = some A ∧ wr.heap[w.heap.size + 1]? = some B ∧ wr.heap[w.heap.size + 1 + 1]? = some C ∧
    (∃ cs, wr.ownsRow (w.heap.size + 3) 78 2 v2 objs.length cs ∧ ObCg (SdF w v2) wr cs objs ∧ ∀ i x, i < k → objs[i]? = some x → ∃ a c, cs[i * 2 + 1]? = some (.slice a x.val.length c) ∧ ∀ ad, a = some ad → w.heap.size ≤ ad.block) ∧ Bs wr (.slice a1 data.length c1) data ∧ (∀ ad, a1 = some ad → w.heap.size ≤ ad.block) ∧ (data ≠ [] → ∀ ad, a1 = some ad → ¬ SdF w v2 ad.block) ∧ Below w.heap.size w wr

theorem SdRel.start {w W0 W1 W : World} {O : Oc} {da oa a1 a2 : Option Addr} {dc oc c1 c2 : Nat} {B : Obj} {cs : List Value} (pA : W0.heap[w.heap.size]? = some (.cells #[.int .i64 O.verdict, .int .i64 O.reply.fn, .int .i64 O.reply.exc, .slice da O.reply.data.length dc, .int .i64 O.reply.code, .int .i64 O.reply.level, .bool O.reply.more, .int .i64 O.reply.next, .slice oa O.reply.objs.length oc] 54)) (pB : W0.heap[w.heap.size + 1]? = some B) (pC : W0.heap[w.heap.size + 1 + 1]? = some (.cells #[.int .i64 O.reply.fn, .int .i64 O.reply.exc, .slice da O.reply.data.length dc, .int .i64 O.reply.code, .int .i64 O.reply.level, .bool O.reply.more, .int .i64 O.reply.next, .slice oa O.reply.objs.length oc] 52)) (hz : W0.heap.size = w.heap.size + 3) (hb0 : Below w.heap.size w W0) (hB1 : Below W0.heap.size W0 W1)
    (o1 : W1.ownsRow W0.heap.size 5 1 (.slice a1 O.reply.data.length c1) O.reply.data.length (u8s O.reply.data)) (hB2 : Below W1.heap.size (W1.setCell ⟨w.heap.size + 1 + 1, 2, none⟩ (.slice a1 O.reply.data.length c1)) W) (o2 : W.ownsRow W1.heap.size 78 2 (.slice a2 O.reply.objs.length c2) O.reply.objs.length cs) (hcs : ObCs w cs O.reply.objs) :
    SdRel 0 w (W.setCell ⟨w.heap.size + 1 + 1, 7, none⟩ (.slice a2 O.reply.objs.length c2)) (.cells #[.int .i64 O.verdict, .int .i64 O.reply.fn, .int .i64 O.reply.exc, .slice da O.reply.data.length dc, .int .i64 O.reply.code, .int .i64 O.reply.level, .bool O.reply.more, .int .i64 O.reply.next, .slice oa O.reply.objs.length oc] 54) B (.cells #[.int .i64 O.reply.fn, .int .i64 O.reply.exc, .slice a1 O.reply.data.length c1, .int .i64 O.reply.code, .int .i64 O.reply.level, .bool O.reply.more, .int .i64 O.reply.next, .slice a2 O.reply.objs.length c2] 52) (.slice a2 O.reply.objs.length c2) O.reply.objs a1 c1 O.reply.data := by
  have hk1 : Keeps (· = w.heap.size + 1 + 1) W1 (W1.setCell ⟨w.heap.size + 1 + 1, 2, none⟩ (.slice a1 O.reply.data.length c1)) := (Keeps.refl _ _).set _ _ rfl
  have hk2 : Keeps (· = w.heap.size + 1 + 1) W (W.setCell ⟨w.heap.size + 1 + 1, 7, none⟩ (.slice a2 O.reply.objs.length c2)) := (Keeps.refl _ _).set _ _ rfl
  have hs1 := hB1.size
  have hsz : (W1.setCell ⟨w.heap.size + 1 + 1, 2, none⟩ (.slice a1 O.reply.data.length c1)).heap.size = W1.heap.size := by simp [World.setCell]
  have hb1 : Below w.heap.size w W1 := bt hb0 hB1 (Nat.le_refl _)
  have hb2 : Below w.heap.size w (W1.setCell ⟨w.heap.size + 1 + 1, 2, none⟩ (.slice a1 O.reply.data.length c1)) := hb1.trans (hk1.below hb1.size (fun k hk e => by omega))
  have hB2' : Below (W1.setCell ⟨w.heap.size + 1 + 1, 2, none⟩ (.slice a1 O.reply.data.length c1)).heap.size (W1.setCell ⟨w.heap.size + 1 + 1, 2, none⟩ (.slice a1 O.reply.data.length c1)) W := by rw [hsz]; exact hB2
  have h1 : Below w.heap.size w W := bt hb2 hB2' (Nat.le_refl _)
  have d1 := Bs.own o1
  have f1 : ∀ ad, a1 = some ad → w.heap.size + 3 ≤ ad.block ∧ ad.block < W1.heap.size := fun ad had => by have h := o1.lt ad.block (by rw [had]; rfl); omega
  have f2 : ∀ k, (Value.slice a2 O.reply.objs.length c2).ownBlock = some k → W1.heap.size ≤ k := fun k h => (o2.lt k h).1
  refine ⟨hpKeeps (hpKeep (hpKeeps (hpKeep pA hB1) hk1 (fun e => by omega)) hB2') hk2 (fun e => by omega), hpKeeps (hpKeep (hpKeeps (hpKeep pB hB1) hk1 (fun e => by omega)) hB2') hk2 (fun e => by omega), hpSetP (hpKeep (hpSetP (hpKeep pC hB1) rfl) hB2') rfl, ⟨cs, own_keeps (own_lower o2 (by omega)) hk2 (fun k hk' e => by have h := f2 k hk'; have e' : k = w.heap.size + 1 + 1 := e; omega), ?_, fun i x h => absurd h (Nat.not_lt_zero _)⟩, ?_, fun ad had => by have h := (f1 ad had).1; omega, ?_, h1.trans (hk2.below h1.size (fun k hk e => by omega))⟩
  · have h2 : ObCg (SdF w (.slice a2 O.reply.objs.length c2)) W cs O.reply.objs := ObCg.of hcs h1 (fun k hk' hF => by
      rcases hF with h | h | h
      · have := f2 k h; omega
      · omega
      · omega)
    exact h2.keeps hk2 (fun k hk' => .inr (.inr hk'))
  · exact ((d1.keepsN hk1 (fun hl ad had e => by have h := (f1 ad had).1; have e' : ad.block = w.heap.size + 1 + 1 := e; omega)).keep hB2').keepsN hk2 (fun hl ad had e => by have h := (f1 ad had).1; have e' : ad.block = w.heap.size + 1 + 1 := e; omega)
  · intro hl ad had hF
    have h := f1 ad had
    rcases hF with e | e | e
    · have := f2 _ e; omega
    · omega
    · omega

theorem SdRel.step {w wr w5 : World} {A B C : Obj} {g cap : Nat} {objs : List Ob} {a1 : Option Addr} {c1 : Nat} {data : List UInt8} {k : Nat} (h : SdRel k w wr A B C (.slice (some ⟨g, 0, none⟩) objs.length cap) objs a1 c1 data)
    (hb : Below wr.heap.size wr w5) {x : Ob} (hx : objs[k]? = some x) {E : TypeId} {a5 : Option Addr} {c5 : Nat} (hown5 : w5.ownsRow wr.heap.size E 1 (.slice a5 x.val.length c5) x.val.length (u8s x.val)) :
    SdRel (k + 1) w (w5.setCell ⟨g, k * 2 + 1, none⟩ (.slice a5 x.val.length c5)) A B C (.slice (some ⟨g, 0, none⟩) objs.length cap) objs a1 c1 data := by
  obtain ⟨gA, gB, gC, ⟨cs, hown, hcg, hfr⟩, hbs, hda, hbf, hbw⟩ := h
  have hg := hown.lt g rfl
  have hszw := hbw.size
  have lA := hpLt gA
  have lB := hpLt gB
  have lC := hpLt gC
  have hk : Keeps (fun k => k = g) w5 (w5.setCell ⟨g, k * 2 + 1, none⟩ (.slice a5 x.val.length c5)) := (Keeps.refl _ _).set _ _ rfl
  have hkF : ∀ k, k = g → SdF w (.slice (some ⟨g, 0, none⟩) objs.length cap) k := fun k hk => .inl (by rw [hk]; rfl)
  have hown' := own_keeps hown (Keeps.of_below (F := fun _ => False) hb) (fun _ _ f => f)
  have hcg' := hcg.keeps (Keeps.of_below (F := fun _ => False) hb) (fun _ f => f.elim)
  have hF5 : x.val ≠ [] → ∀ ad, a5 = some ad → ¬ SdF w (.slice (some ⟨g, 0, none⟩) objs.length cap) ad.block := fun _ ad had hF => by
    have h5 := (hown5.lt ad.block (by rw [had]; rfl)).1
    rcases hF with e | e | e
    · simp [Value.ownBlock] at e; omega
    · omega
    · omega
  refine ⟨by rw [heap_setO (by omega), hb.block _ lA]; exact gA, by rw [heap_setO (by omega), hb.block _ lB]; exact gB, by rw [heap_setO (by omega), hb.block _ lC]; exact gC, ⟨cs.set (k * 2 + 1) (.slice a5 x.val.length c5), (hown'.stored _ _).1, ?_, ?_⟩, ?_, hda, hbf, ?_⟩
  · exact (hcg'.set hx (Bs.own hown5) hF5).keeps hk hkF
  · intro i y hi hy
    have hlen := hcg.1
    have hkl := (List.getElem?_eq_some_iff.1 hx).1
    by_cases hik : i = k
    · subst hik
      rw [hx] at hy
      cases hy
      exact ⟨a5, c5, List.getElem?_set_self (by omega), fun ad had => by have h5 := (hown5.lt ad.block (by rw [had]; rfl)).1; omega⟩
    · obtain ⟨a, c, h1, h2⟩ := hfr i y (by omega) hy
      exact ⟨a, c, by rw [List.getElem?_set_ne (by omega)]; exact h1, h2⟩
  · exact (hbs.keep hb).keepsN hk (fun hl ad had e => hbf hl ad had (hkF _ e))
  · exact (bt hbw hb (Nat.le_refl _)).setCell (p := ⟨g, k * 2 + 1, none⟩) (by show w.heap.size ≤ g; omega) _

theorem SdRel.ends {k : Nat} {w wr w4 : World} {O : Oc} {A B C : Obj} {da oa a1 a2 : Option Addr} {dc oc c1 c2 : Nat} (hk : O.reply.objs.length ≤ k) (h : SdRel k w wr A B C (.slice a2 O.reply.objs.length c2) O.reply.objs a1 c1 O.reply.data) (hr : RpIs w O.reply da dc oa oc) (hk4 : Keeps (· = w.heap.size + 1) wr w4) :
    StOne w O (.returned (.agg #[.int .i64 O.verdict, .int .i64 O.reply.fn, .int .i64 O.reply.exc, .slice a1 O.reply.data.length c1, .int .i64 O.reply.code, .int .i64 O.reply.level, .bool O.reply.more, .int .i64 O.reply.next, .slice a2 O.reply.objs.length c2])) w4 := by
  obtain ⟨_, _, _, ⟨cs', hown, hcg, hfr⟩, hbs, hda, hbf, hbw⟩ := h
  have hd4 := hbs.keepsN hk4 (fun hl ad had e => hbf hl ad had (.inr (.inl e)))
  have ho4 := own_keeps hown hk4 (fun k hk' e => by have := (hown.lt k hk').1; have e' : k = w.heap.size + 1 := e; omega)
  have hc4 := (hcg.keeps hk4 (fun k e => .inr (.inl e))).cs
  refine ⟨a1, c1, a2, c2, rfl, fun W hW => ⟨hd4.agree hda hW, ?_, hr.hi, hr.lo⟩, hbw.trans (hk4.below hbw.size (fun k hk e => by omega))⟩
  refine Obs.of_own (own_agree (own_lower (base' := w.heap.size) ho4 (by omega)) (Nat.le_refl _) hW) ⟨hc4.1, fun i x hx => ?_⟩ rfl
  obtain ⟨h1, a, c, h2, h3⟩ := hc4.2 i x hx
  obtain ⟨a', c', h4, h5⟩ := hfr i x (by have := (List.getElem?_eq_some_iff.1 hx).1; omega) hx
  rw [h2] at h4
  cases h4
  exact ⟨h1, a, c, h2, h3.agree h5 hW⟩

theorem Oc.fit.strip {O : Oc} (h : O.fit) : O.strip.fit := by
  obtain ⟨v, ⟨fn, exc, data, code, level, more, next, objs⟩⟩ := O
  rcases strip_cases v fn with ⟨h0, _⟩ | e | ⟨e, ⟨_, _, t3⟩ | ⟨_, t3⟩ | ⟨_, _, t3⟩⟩
  · rw [Oc.strip_no h0]
    exact ⟨by show 0 ≤ 40; decide, fun y hy => absurd hy (by show ¬ y ∈ ([] : List Ob); simp), by show 0 ≤ 300; decide, by show (0 : Int) ≤ _; decide⟩
  · rw [Oc.strip_short (.inl e)]
    exact ⟨by show 0 ≤ 40; decide, fun y hy => absurd hy (by show ¬ y ∈ ([] : List Ob); simp), by show 0 ≤ 300; decide, by show (0 : Int) ≤ _; decide⟩
  · rw [Oc.strip_short (.inr ⟨e, t3⟩)]
    exact ⟨by show 0 ≤ 40; decide, fun y hy => absurd hy (by show ¬ y ∈ ([] : List Ob); simp), by show 0 ≤ 300; decide, by show (0 : Int) ≤ _; decide⟩
  · rw [Oc.strip_all e t3]; exact h
  · rw [Oc.strip_all e t3]; exact h

end Go.Proofs.YtliblgmpclefgaaGreat
