/-
  The contract of record.Strip: the copies are the call's own.
-/
import Derived.Test.YtliblgmpclefgaaMrech
import Derived.Test.YtliblgmpclefgaaMid
import Derived.Deep.RegionWith
import Derived.StillTailTactics
namespace Go.Proofs.Ytliblgmpclefgaa
open Go.RowKit

/-- What a call that answers an outcome of its own leaves. -/
def StOne (w : World) (o : Oc) (r : Ending) (w' : World) : Prop :=
  ∃ (da : Option Addr) (dc : Nat) (oa : Option Addr) (oc : Nat), r = .returned (.agg #[.int .i64 o.verdict, .int .i64 o.reply.fn, .int .i64 o.reply.exc, .slice da o.reply.data.length dc, .int .i64 o.reply.code, .int .i64 o.reply.level, .bool o.reply.more, .int .i64 o.reply.next, .slice oa o.reply.objs.length oc]) ∧ (∀ W, Agree w.heap.size w' W → RpIs W o.reply da dc oa oc) ∧ Below w.heap.size w w'

theorem Bs.void {w : World} {v : Value} (h : Bs w v []) (W : World) : Bs W v [] := by
  obtain ⟨a, c, hv, h1, h2, h3, _⟩ := h
  exact ⟨a, c, hv, h1, h2, h3, fun h => absurd rfl h⟩
theorem Obs.void {w : World} {v : Value} (h : Obs w v []) (W : World) : Obs W v [] := by
  obtain ⟨a, c, hv, h1, h2, h3, _⟩ := h
  exact ⟨a, c, hv, h1, h2, h3, fun h => absurd rfl h⟩
/-- An outcome with neither bytes nor objects lies nowhere. -/
theorem StOne.void {w : World} {o : Oc} {r : Ending} {w' : World} (h : OcPost w o r w') (h1 : o.reply.data = []) (h2 : o.reply.objs = []) (h3 : o.reply.level = 0) : StOne w o r w' := by
  obtain ⟨val, e, ⟨da, dc, oa, oc, e2, hd, ho⟩, hb⟩ := h
  refine ⟨da, dc, oa, oc, by rw [e, e2], fun W _ => ⟨?_, ?_, by rw [h3]; decide, by rw [h3]; decide⟩, hb⟩
  · rw [h1] at hd ⊢
    exact hd.void W
  · rw [h2] at ho ⊢
    exact ho.void W

/-- The blocks that the loop over the copied objects, and what stands behind it, may change. -/
def SdF (w : World) (v2 : Value) : Nat → Prop := fun k => v2.ownBlock = some k ∨ k = w.heap.size + 1 ∨ k = w.heap.size + 1 + 1
/-- Where the loop over the copied objects stands. -/
def SdRel (k : Nat) (w wr : World) (A B C : Obj) (v2 : Value) (objs : List Ob) (a1 : Option Addr) (c1 : Nat) (data : List UInt8) : Prop :=
  wr.heap[w.heap.size]? = some A ∧ wr.heap[w.heap.size + 1]? = some B ∧ wr.heap[w.heap.size + 1 + 1]? = some C ∧
    (∃ cs, wr.ownsRow (w.heap.size + 3) 69 2 v2 objs.length cs ∧ ObCg (SdF w v2) wr cs objs ∧ ∀ i x, i < k → objs[i]? = some x → ∃ a c, cs[i * 2 + 1]? = some (.slice a x.val.length c) ∧ ∀ ad, a = some ad → w.heap.size ≤ ad.block) ∧ Bs wr (.slice a1 data.length c1) data ∧ (∀ ad, a1 = some ad → w.heap.size ≤ ad.block) ∧ (data ≠ [] → ∀ ad, a1 = some ad → ¬ SdF w v2 ad.block) ∧ Below w.heap.size w wr

theorem SdRel.start {w W0 W1 W : World} {O : Oc} {da oa a1 a2 : Option Addr} {dc oc c1 c2 : Nat} {B : Obj} {cs : List Value} (pA : W0.heap[w.heap.size]? = some (.cells #[.int .i64 O.verdict, .int .i64 O.reply.fn, .int .i64 O.reply.exc, .slice da O.reply.data.length dc, .int .i64 O.reply.code, .int .i64 O.reply.level, .bool O.reply.more, .int .i64 O.reply.next, .slice oa O.reply.objs.length oc] 59)) (pB : W0.heap[w.heap.size + 1]? = some B) (pC : W0.heap[w.heap.size + 1 + 1]? = some (.cells #[.int .i64 O.reply.fn, .int .i64 O.reply.exc, .slice da O.reply.data.length dc, .int .i64 O.reply.code, .int .i64 O.reply.level, .bool O.reply.more, .int .i64 O.reply.next, .slice oa O.reply.objs.length oc] 57)) (hz : W0.heap.size = w.heap.size + 3) (hb0 : Below w.heap.size w W0) (hB1 : Below W0.heap.size W0 W1)
    (o1 : W1.ownsRow W0.heap.size 5 1 (.slice a1 O.reply.data.length c1) O.reply.data.length (u8s O.reply.data)) (hB2 : Below W1.heap.size (W1.setCell ⟨w.heap.size + 1 + 1, 2, none⟩ (.slice a1 O.reply.data.length c1)) W) (o2 : W.ownsRow W1.heap.size 69 2 (.slice a2 O.reply.objs.length c2) O.reply.objs.length cs) (hcs : ObCs w cs O.reply.objs) :
    SdRel 0 w (W.setCell ⟨w.heap.size + 1 + 1, 7, none⟩ (.slice a2 O.reply.objs.length c2)) (.cells #[.int .i64 O.verdict, .int .i64 O.reply.fn, .int .i64 O.reply.exc, .slice da O.reply.data.length dc, .int .i64 O.reply.code, .int .i64 O.reply.level, .bool O.reply.more, .int .i64 O.reply.next, .slice oa O.reply.objs.length oc] 59) B (.cells #[.int .i64 O.reply.fn, .int .i64 O.reply.exc, .slice a1 O.reply.data.length c1, .int .i64 O.reply.code, .int .i64 O.reply.level, .bool O.reply.more, .int .i64 O.reply.next, .slice a2 O.reply.objs.length c2] 57) (.slice a2 O.reply.objs.length c2) O.reply.objs a1 c1 O.reply.data := by
  have hk1 : Keeps (· = w.heap.size + 1 + 1) W1 (W1.setCell ⟨w.heap.size + 1 + 1, 2, none⟩ (.slice a1 O.reply.data.length c1)) := (Keeps.refl _ _).set _ _ rfl
  have hk2 : Keeps (· = w.heap.size + 1 + 1) W (W.setCell ⟨w.heap.size + 1 + 1, 7, none⟩ (.slice a2 O.reply.objs.length c2)) := (Keeps.refl _ _).set _ _ rfl
  have hs1 := hB1.size
  have hsz : (W1.setCell ⟨w.heap.size + 1 + 1, 2, none⟩ (.slice a1 O.reply.data.length c1)).heap.size = W1.heap.size := by simp [World.setCell]
  have hb1 : Below w.heap.size w W1 := bt hb0 hB1 (Nat.le_refl _)
  have hb2 : Below w.heap.size w (W1.setCell ⟨w.heap.size + 1 + 1, 2, none⟩ (.slice a1 O.reply.data.length c1)) := hb1.trans (hk1.below hb1.size (fun k hk e => by omega))
  have hB2' : Below (W1.setCell ⟨w.heap.size + 1 + 1, 2, none⟩ (.slice a1 O.reply.data.length c1)).heap.size (W1.setCell ⟨w.heap.size + 1 + 1, 2, none⟩ (.slice a1 O.reply.data.length c1)) W := by rw [hsz]; exact hB2
  have h1 : Below w.heap.size w W := bt hb2 hB2' (Nat.le_refl _)
  have d1 := Bs.own o1
  have f1 : ∀ ad, a1 = some ad → w.heap.size + 3 ≤ ad.block ∧ ad.block < W1.heap.size := fun ad had => by have h := o1.lt ad.block (by rw [had]; rfl); omega
  have f2 : ∀ k, (Value.slice a2 O.reply.objs.length c2).ownBlock = some k → W1.heap.size ≤ k := fun k h => (o2.lt k h).1
  refine ⟨hpKeeps (hpKeep (hpKeeps (hpKeep pA hB1) hk1 (fun e => by omega)) hB2') hk2 (fun e => by omega), hpKeeps (hpKeep (hpKeeps (hpKeep pB hB1) hk1 (fun e => by omega)) hB2') hk2 (fun e => by omega), hpSetP (hpKeep (hpSetP (hpKeep pC hB1) rfl) hB2') rfl, ⟨cs, own_keeps (own_lower o2 (by omega)) hk2 (fun k hk' e => by have h := f2 k hk'; have e' : k = w.heap.size + 1 + 1 := e; omega), ?_, fun i x h => absurd h (Nat.not_lt_zero _)⟩, ?_, fun ad had => by have h := (f1 ad had).1; omega, ?_, h1.trans (hk2.below h1.size (fun k hk e => by omega))⟩
  · have h2 : ObCg (SdF w (.slice a2 O.reply.objs.length c2)) W cs O.reply.objs := ObCg.of hcs h1 (fun k hk' hF => by
      rcases hF with h | h | h
      · have := f2 k h; omega
      · omega
      · omega)
    exact h2.keeps hk2 (fun k hk' => .inr (.inr hk'))
  · exact ((d1.keepsN hk1 (fun hl ad had e => by have h := (f1 ad had).1; have e' : ad.block = w.heap.size + 1 + 1 := e; omega)).keep hB2').keepsN hk2 (fun hl ad had e => by have h := (f1 ad had).1; have e' : ad.block = w.heap.size + 1 + 1 := e; omega)
  · intro hl ad had hF
    have h := f1 ad had
    rcases hF with e | e | e
    · have := f2 _ e; omega
    · omega
    · omega

theorem SdRel.step {w wr w5 : World} {A B C : Obj} {g cap : Nat} {objs : List Ob} {a1 : Option Addr} {c1 : Nat} {data : List UInt8} {k : Nat} (h : SdRel k w wr A B C (.slice (some ⟨g, 0, none⟩) objs.length cap) objs a1 c1 data)
    (hb : Below wr.heap.size wr w5) {x : Ob} (hx : objs[k]? = some x) {E : TypeId} {a5 : Option Addr} {c5 : Nat} (hown5 : w5.ownsRow wr.heap.size E 1 (.slice a5 x.val.length c5) x.val.length (u8s x.val)) :
    SdRel (k + 1) w (w5.setCell ⟨g, k * 2 + 1, none⟩ (.slice a5 x.val.length c5)) A B C (.slice (some ⟨g, 0, none⟩) objs.length cap) objs a1 c1 data := by
  obtain ⟨gA, gB, gC, ⟨cs, hown, hcg, hfr⟩, hbs, hda, hbf, hbw⟩ := h
  have hg := hown.lt g rfl
  have hszw := hbw.size
  have lA := hpLt gA
  have lB := hpLt gB
  have lC := hpLt gC
  have hk : Keeps (fun k => k = g) w5 (w5.setCell ⟨g, k * 2 + 1, none⟩ (.slice a5 x.val.length c5)) := (Keeps.refl _ _).set _ _ rfl
  have hkF : ∀ k, k = g → SdF w (.slice (some ⟨g, 0, none⟩) objs.length cap) k := fun k hk => .inl (by rw [hk]; rfl)
  have hown' := own_keeps hown (Keeps.of_below (F := fun _ => False) hb) (fun _ _ f => f)
  have hcg' := hcg.keeps (Keeps.of_below (F := fun _ => False) hb) (fun _ f => f.elim)
  have hF5 : x.val ≠ [] → ∀ ad, a5 = some ad → ¬ SdF w (.slice (some ⟨g, 0, none⟩) objs.length cap) ad.block := fun _ ad had hF => by
    have h5 := (hown5.lt ad.block (by rw [had]; rfl)).1
    rcases hF with e | e | e
    · simp [Value.ownBlock] at e; omega
    · omega
    · omega
  refine ⟨by rw [heap_setO (by omega), hb.block _ lA]; exact gA, by rw [heap_setO (by omega), hb.block _ lB]; exact gB, by rw [heap_setO (by omega), hb.block _ lC]; exact gC, ⟨cs.set (k * 2 + 1) (.slice a5 x.val.length c5), (hown'.stored _ _).1, ?_, ?_⟩, ?_, hda, hbf, ?_⟩
  · exact (hcg'.set hx (Bs.own hown5) hF5).keeps hk hkF
  · intro i y hi hy
    have hlen := hcg.1
    have hkl := (List.getElem?_eq_some_iff.1 hx).1
    by_cases hik : i = k
    · subst hik
      rw [hx] at hy
      cases hy
      exact ⟨a5, c5, List.getElem?_set_self (by omega), fun ad had => by have h5 := (hown5.lt ad.block (by rw [had]; rfl)).1; omega⟩
    · obtain ⟨a, c, h1, h2⟩ := hfr i y (by omega) hy
      exact ⟨a, c, by rw [List.getElem?_set_ne (by omega)]; exact h1, h2⟩
  · exact (hbs.keep hb).keepsN hk (fun hl ad had e => hbf hl ad had (hkF _ e))
  · exact (bt hbw hb (Nat.le_refl _)).setCell (p := ⟨g, k * 2 + 1, none⟩) (by show w.heap.size ≤ g; omega) _

theorem SdRel.ends {k : Nat} {w wr w4 : World} {O : Oc} {A B C : Obj} {da oa a1 a2 : Option Addr} {dc oc c1 c2 : Nat} (hk : O.reply.objs.length ≤ k) (h : SdRel k w wr A B C (.slice a2 O.reply.objs.length c2) O.reply.objs a1 c1 O.reply.data) (hr : RpIs w O.reply da dc oa oc) (hk4 : Keeps (· = w.heap.size + 1) wr w4) :
    StOne w O (.returned (.agg #[.int .i64 O.verdict, .int .i64 O.reply.fn, .int .i64 O.reply.exc, .slice a1 O.reply.data.length c1, .int .i64 O.reply.code, .int .i64 O.reply.level, .bool O.reply.more, .int .i64 O.reply.next, .slice a2 O.reply.objs.length c2])) w4 := by
  obtain ⟨_, _, _, ⟨cs', hown, hcg, hfr⟩, hbs, hda, hbf, hbw⟩ := h
  have hd4 := hbs.keepsN hk4 (fun hl ad had e => hbf hl ad had (.inr (.inl e)))
  have ho4 := own_keeps hown hk4 (fun k hk' e => by have := (hown.lt k hk').1; have e' : k = w.heap.size + 1 := e; omega)
  have hc4 := (hcg.keeps hk4 (fun k e => .inr (.inl e))).cs
  refine ⟨a1, c1, a2, c2, rfl, fun W hW => ⟨hd4.agree hda hW, ?_, hr.hi, hr.lo⟩, hbw.trans (hk4.below hbw.size (fun k hk e => by omega))⟩
  refine Obs.of_own (own_agree (own_lower (base' := w.heap.size) ho4 (by omega)) (Nat.le_refl _) hW) ⟨hc4.1, fun i x hx => ?_⟩ rfl
  obtain ⟨h1, a, c, h2, h3⟩ := hc4.2 i x hx
  obtain ⟨a', c', h4, h5⟩ := hfr i x (by have := (List.getElem?_eq_some_iff.1 hx).1; omega) hx
  rw [h2] at h4
  cases h4
  exact ⟨h1, a, c, h2, h3.agree h5 hW⟩

set_option maxRecDepth 100000 in
set_option maxHeartbeats 12800000 in
theorem strip_own (O : Oc) (da oa : Option Addr) (dc oc : Nat) (w : World) (hr : RpIs w O.reply da dc oa oc) (hs : O.fit) (hv : O.verdict = 1) (ht : tblB O.reply.fn = false) :
    Calls Try.prog 19 #[.agg #[.int .i64 O.verdict, .int .i64 O.reply.fn, .int .i64 O.reply.exc, .slice da O.reply.data.length dc, .int .i64 O.reply.code, .int .i64 O.reply.level, .bool O.reply.more, .int .i64 O.reply.next, .slice oa O.reply.objs.length oc]] w (StOne w O) := by
  obtain ⟨W0, hW0⟩ : ∃ W, ((w.alloc (.cells #[.int .i64 O.verdict, .int .i64 O.reply.fn, .int .i64 O.reply.exc, .slice da O.reply.data.length dc, .int .i64 O.reply.code, .int .i64 O.reply.level, .bool O.reply.more, .int .i64 O.reply.next, .slice oa O.reply.objs.length oc] 59)).alloc (.cells #[.int .i64 0, .int .i64 0, .int .i64 0, .slice none 0 0, .int .i64 0, .int .i64 0, .bool false, .int .i64 0, .slice none 0 0] 59)).alloc (.cells #[.int .i64 O.reply.fn, .int .i64 O.reply.exc, .slice da O.reply.data.length dc, .int .i64 O.reply.code, .int .i64 O.reply.level, .bool O.reply.more, .int .i64 O.reply.next, .slice oa O.reply.objs.length oc] 57) = W := ⟨_, rfl⟩
  have hb0 : Below w.heap.size w W0 := by rw [← hW0]; exact b3 w _ _ _
  have hz0 : W0.heap.size = w.heap.size + 3 := by rw [← hW0]; simp
  obtain ⟨pA, pB, pC⟩ := heap3 w (.cells #[.int .i64 O.verdict, .int .i64 O.reply.fn, .int .i64 O.reply.exc, .slice da O.reply.data.length dc, .int .i64 O.reply.code, .int .i64 O.reply.level, .bool O.reply.more, .int .i64 O.reply.next, .slice oa O.reply.objs.length oc] 59) (.cells #[.int .i64 0, .int .i64 0, .int .i64 0, .slice none 0 0, .int .i64 0, .int .i64 0, .bool false, .int .i64 0, .slice none 0 0] 59) (.cells #[.int .i64 O.reply.fn, .int .i64 O.reply.exc, .slice da O.reply.data.length dc, .int .i64 O.reply.code, .int .i64 O.reply.level, .bool O.reply.more, .int .i64 O.reply.next, .slice oa O.reply.objs.length oc] 57)
  rw [hW0] at pA pB pC
  have HT : Hid (∀ W, Calls Try.prog 45 #[.int .i64 O.reply.fn] W fun r w' => r = .returned (.bool false) ∧ W = w') := fun W => by rw [← ht]; exact isTable_any _ _
  have d1 := b1 hv
  have d2 : (O.verdict == 2) = false := by rw [hv]; rfl
  have d3 : (O.verdict != 1) = false := by rw [hv]; rfl
  have HS := hid hs
  have HR := hid hr
  have HPA := hid pA
  have HPB := hid pB
  have HPC := hid pC
  have HB0 := hid hb0
  have HZ0 := hid hz0
  have c2 : W0.cell? ⟨w.heap.size + 1 + 1, 2, none⟩ = some (.slice da O.reply.data.length dc) := hpCell pC 2
  have HC1 : Hid (Calls Try.prog 46 #[.slice da O.reply.data.length dc] W0 fun r w' => ∃ a c, r = .returned (.slice a O.reply.data.length c) ∧ w'.ownsRow W0.heap.size 5 1 (.slice a O.reply.data.length c) O.reply.data.length (u8s O.reply.data) ∧ Below W0.heap.size W0 w') := by
    refine (clone_any _ O.reply.data W0 (hr.d.keep hb0) (by have := hs.data; omega)).mono ?_
    rintro r w' ⟨v', rfl, hown, hb⟩
    obtain ⟨a, c, rfl⟩ := own_slice hown
    exact ⟨a, c, rfl, hown, hb⟩
  have HC2 : Hid (∀ W, Below w.heap.size w W → Calls Try.prog 47 #[.slice oa O.reply.objs.length oc] W fun r w' => ∃ a c cs, r = .returned (.slice a O.reply.objs.length c) ∧ w'.ownsRow W.heap.size 69 2 (.slice a O.reply.objs.length c) O.reply.objs.length cs ∧ ObCs w cs O.reply.objs ∧ Below W.heap.size W w') := fun W hW => by
    refine (cloneO_any _ O.reply.objs w W HR.out.o hW (by have := HS.out.objs; omega)).mono ?_
    rintro r w' ⟨v', cs, rfl, hown, hcs, hb⟩
    obtain ⟨a, c, rfl⟩ := own_slice hown
    exact ⟨a, c, cs, rfl, hown, hcs, hb⟩
  have HW0 := hid hW0
  clear hW0 hr hs hv ht pA pB pC hb0 hz0
  go_enter Try.func19, Try.ntmps19
  go_upto_region 2 with (go_at_call 45; (with_reducible refine (HT.out _).mono ?_); rintro r w0 ⟨rfl, rfl⟩)
  rw [HW0.out]
  go_upto_region 3 with (go_at_call 46; (with_reducible refine HC1.out.mono ?_); rintro r w1 ⟨a1, c1, rfl, hown1, hb1⟩; have z2 := hpCell (hpKeep HPC.out hb1) 2; have y2 := hpFree (hpKeep HPC.out hb1) 2)
  have hk1 : Keeps (· = w.heap.size + 1 + 1) w1 (w1.setCell ⟨w.heap.size + 1 + 1, 2, none⟩ (.slice a1 O.reply.data.length c1)) := (Keeps.refl _ _).set _ _ rfl
  have hsz1 : (w1.setCell ⟨w.heap.size + 1 + 1, 2, none⟩ (.slice a1 O.reply.data.length c1)).heap.size = w1.heap.size := by simp [World.setCell]
  have hbw1 : Below w.heap.size w (w1.setCell ⟨w.heap.size + 1 + 1, 2, none⟩ (.slice a1 O.reply.data.length c1)) := (bt HB0.out hb1 (Nat.le_refl _)).trans (hk1.below (bt HB0.out hb1 (Nat.le_refl _)).size (fun k hk e => by omega))
  have gC1 := hpSetP (C := #[.int .i64 O.reply.fn, .int .i64 O.reply.exc, .slice a1 O.reply.data.length c1, .int .i64 O.reply.code, .int .i64 O.reply.level, .bool O.reply.more, .int .i64 O.reply.next, .slice oa O.reply.objs.length oc]) (i := 2) (u := .slice a1 O.reply.data.length c1) (hpKeep HPC.out hb1) rfl
  obtain ⟨W1, hW1⟩ : ∃ W, w1.setCell ⟨w.heap.size + 1 + 1, 2, none⟩ (.slice a1 O.reply.data.length c1) = W := ⟨_, rfl⟩
  rw [hW1] at gC1 hbw1 hsz1
  rw [hW1]
  have HC3 := hid (HC2.out W1 hbw1)
  have z7 : W1.cell? ⟨w.heap.size + 1 + 1, 7, none⟩ = some (.slice oa O.reply.objs.length oc) := hpCell gC1 7
  have HG1 := hid gC1
  have HW1 := hid hW1
  have HB1 := hid hb1
  have HO1 := hid hown1
  have HZ1 := hid hsz1
  clear gC1 hW1 hbw1 hk1 hb1 hown1 z2 y2 c2 HC1 HC2 HW0 hsz1
  go_upto_region 4 with (go_at_call 47; (with_reducible refine HC3.out.mono ?_); rintro r w2 ⟨a2, k2, cs2, rfl, hown2, hcs2, hb2⟩; have z8 := hpCell (hpKeep HG1.out hb2) 7; have y8 := hpFree (hpKeep HG1.out hb2) 7)
  have HRL : Hid (SdRel 0 w (w2.setCell ⟨w.heap.size + 1 + 1, 7, none⟩ (.slice a2 O.reply.objs.length k2)) (.cells #[.int .i64 O.verdict, .int .i64 O.reply.fn, .int .i64 O.reply.exc, .slice da O.reply.data.length dc, .int .i64 O.reply.code, .int .i64 O.reply.level, .bool O.reply.more, .int .i64 O.reply.next, .slice oa O.reply.objs.length oc] 59) (.cells #[.int .i64 0, .int .i64 0, .int .i64 0, .slice none 0 0, .int .i64 0, .int .i64 0, .bool false, .int .i64 0, .slice none 0 0] 59) (.cells #[.int .i64 O.reply.fn, .int .i64 O.reply.exc, .slice a1 O.reply.data.length c1, .int .i64 O.reply.code, .int .i64 O.reply.level, .bool O.reply.more, .int .i64 O.reply.next, .slice a2 O.reply.objs.length k2] 57) (.slice a2 O.reply.objs.length k2) O.reply.objs a1 c1 O.reply.data) := by
    rw [HZ1.out] at hown2 hb2
    exact SdRel.start HPA.out HPB.out HPC.out HZ0.out HB0.out HB1.out HO1.out (by rw [HW1.out]; exact hb2) hown2 hcs2
  clear hown2 hcs2 hb2 z7 z8 y8 HC3 HG1 HW1 HB1 HO1 HZ1 HPA HPB HPC
  obtain ⟨n, hN⟩ : ∃ n, O.reply.objs.length = n := ⟨_, rfl⟩
  have HNN := hid hN
  have h63 : n ≤ 40 := by have := HS.out.objs; omega
  obtain ⟨W2, hW2⟩ : ∃ W, w2.setCell ⟨w.heap.size + 1 + 1, 7, none⟩ (.slice a2 O.reply.objs.length k2) = W := ⟨_, rfl⟩
  rw [hW2] at HRL
  rw [hW2]
  have c8' : W2.cell? ⟨w.heap.size + 1 + 1, 7, none⟩ = some (.slice a2 n k2) := by rw [← hN]; exact hpCell HRL.out.2.2.1 7
  clear hW2
  rw [hN]
  clear hN
  go_wp2_with fail
  clear c8'
  go_loopw [18] (fun idx wr => ∃ k : Nat, k ≤ n ∧ idx = .int .i64 k ∧ Hid (SdRel k w wr (.cells #[.int .i64 O.verdict, .int .i64 O.reply.fn, .int .i64 O.reply.exc, .slice da O.reply.data.length dc, .int .i64 O.reply.code, .int .i64 O.reply.level, .bool O.reply.more, .int .i64 O.reply.next, .slice oa O.reply.objs.length oc] 59) (.cells #[.int .i64 0, .int .i64 0, .int .i64 0, .slice none 0 0, .int .i64 0, .int .i64 0, .bool false, .int .i64 0, .slice none 0 0] 59) (.cells #[.int .i64 O.reply.fn, .int .i64 O.reply.exc, .slice a1 O.reply.data.length c1, .int .i64 O.reply.code, .int .i64 O.reply.level, .bool O.reply.more, .int .i64 O.reply.next, .slice a2 O.reply.objs.length k2] 57) (.slice a2 O.reply.objs.length k2) O.reply.objs a1 c1 O.reply.data)) (fun idx _ => n - (intOf idx).toNat)
  case atStart => exact ⟨0, Nat.zero_le _, rfl, HRL.out⟩
  case round =>
    obtain ⟨k, hk, rfl, hrel⟩ := hrel
    clear HRL
    by_cases hlt : k < n
    · obtain ⟨x, hgx⟩ := get_some (l := O.reply.objs) rfl (by rw [HNN.out]; exact hlt)
      obtain ⟨gA, gB, gC, ⟨cs', hown, hcg, hfr⟩, hbs, hda, hbf, hbw⟩ := hrel.out
      obtain ⟨g, cap, hv, hg, hnc, hcm⟩ := own_shapeR hown (by rw [HNN.out]; omega)
      simp only [Value.slice.injEq, true_and] at hv
      obtain ⟨rfl, rfl⟩ := hv
      obtain ⟨_, xa, xc, hx2, hxb, _⟩ := hcg.2 k x hgx
      have e1 : wr.cell? ⟨w.heap.size + 1 + 1, 7, none⟩ = some (.slice (some ⟨g, 0, none⟩) n k2) := by rw [← HNN.out]; exact cell_heap gC 7
      have e2 : wr.cell? ⟨g, k * 2 + 1, none⟩ = some (.slice xa x.val.length xc) := by rw [hown.cellAt _ (by rw [HNN.out]; omega)]; exact hx2
      have e3 : wr.frozen? ⟨g, k * 2 + 1, none⟩ = false := hown.frozenAt _
      have hgl := (hown.lt g rfl).2
      have hxl := HS.out.vals x (List.mem_of_getElem? hgx)
      have HCL : Hid (∀ W, Below wr.heap.size wr W → Calls Try.prog 46 #[.slice xa x.val.length xc] W fun r w' => ∃ v', r = .returned v' ∧ w'.ownsRow W.heap.size 5 1 v' x.val.length (u8s x.val) ∧ Below W.heap.size W w') := fun W hW => clone_any _ x.val W (hxb.keep hW) (by omega)
      have HX := hid hgx
      clear gA gB gC hown hcg hfr hbs hda hbf hbw hgx hx2 hxb
      have hkl : (k : Int) < (n : Int) := by omega
      have hk0 : (0 : Int) ≤ (k : Int) := Int.natCast_nonneg _
      go_wp2_with fail
      go_region_with (go_at_call 46; refine (HCL.out _ (Below.refl _ _).drew).mono ?_; rintro r w5 ⟨v5, rfl, hown5, hbel5⟩; obtain ⟨a5, c5, rfl⟩ := own_slice hown5; have hf5 : w5.frozen? ⟨g, k * 2 + 1, none⟩ = false := (by rw [hbel5.frozen (p := ⟨g, k * 2 + 1, none⟩) hgl]; exact e3); have e1' : w5.cell? ⟨w.heap.size + 1 + 1, 7, none⟩ = some (.slice (some ⟨g, 0, none⟩) n k2) := cell_keep (w1 := wr.drew) hbel5 e1; have e2' : w5.cell? ⟨g, k * 2 + 1, none⟩ = some (.slice xa x.val.length xc) := cell_keep (w1 := wr.drew) hbel5 e2)
      all_goals
        have HN : Hid (SdRel (k + 1) w (w5.setCell ⟨g, k * 2 + 1, none⟩ (.slice a5 x.val.length c5)) (.cells #[.int .i64 O.verdict, .int .i64 O.reply.fn, .int .i64 O.reply.exc, .slice da O.reply.data.length dc, .int .i64 O.reply.code, .int .i64 O.reply.level, .bool O.reply.more, .int .i64 O.reply.next, .slice oa O.reply.objs.length oc] 59) (.cells #[.int .i64 0, .int .i64 0, .int .i64 0, .slice none 0 0, .int .i64 0, .int .i64 0, .bool false, .int .i64 0, .slice none 0 0] 59) (.cells #[.int .i64 O.reply.fn, .int .i64 O.reply.exc, .slice a1 O.reply.data.length c1, .int .i64 O.reply.code, .int .i64 O.reply.level, .bool O.reply.more, .int .i64 O.reply.next, .slice (some ⟨g, 0, none⟩) O.reply.objs.length k2] 57) (.slice (some ⟨g, 0, none⟩) O.reply.objs.length k2) O.reply.objs a1 c1 O.reply.data) := hrel.out.step (w5 := w5) (show Below wr.heap.size wr w5 from (Below.refl _ _).drew.trans hbel5) HX.out hown5
        go_wp2
        go_roundw
        case rel => exact ⟨k + 1, by omega, by go_num, HN.out⟩
        case measure => simp [intOf]; omega
    · obtain ⟨gA, gB, gC, _⟩ := hrel.out
      have hsz := hpLt gC
      have a0 : wr.cell? ⟨w.heap.size, 0, none⟩ = some (.int .i64 O.verdict) := hpCell gA 0
      obtain ⟨e0, e1, e2, e3, e4, e5, e6, e7⟩ : wr.cell? ⟨w.heap.size + 1 + 1, 0, none⟩ = some (.int .i64 O.reply.fn) ∧ wr.cell? ⟨w.heap.size + 1 + 1, 1, none⟩ = some (.int .i64 O.reply.exc) ∧ wr.cell? ⟨w.heap.size + 1 + 1, 2, none⟩ = some (.slice a1 O.reply.data.length c1) ∧ wr.cell? ⟨w.heap.size + 1 + 1, 3, none⟩ = some (.int .i64 O.reply.code) ∧ wr.cell? ⟨w.heap.size + 1 + 1, 4, none⟩ = some (.int .i64 O.reply.level) ∧ wr.cell? ⟨w.heap.size + 1 + 1, 5, none⟩ = some (.bool O.reply.more) ∧ wr.cell? ⟨w.heap.size + 1 + 1, 6, none⟩ = some (.int .i64 O.reply.next) ∧ wr.cell? ⟨w.heap.size + 1 + 1, 7, none⟩ = some (.slice a2 O.reply.objs.length k2) := ⟨hpCell gC 0, hpCell gC 1, hpCell gC 2, hpCell gC 3, hpCell gC 4, hpCell gC 5, hpCell gC 6, hpCell gC 7⟩
      clear gA gC
      go_wp2_with (refine wpList_storeW rfl 59 (.tmp 2) (.tmp 61) rfl (w.heap.size + 1) 0 _ _ (#[.int .i64 O.verdict, .int .i64 O.reply.fn, .int .i64 O.reply.exc, .slice a1 O.reply.data.length c1, .int .i64 O.reply.code, .int .i64 O.reply.level, .bool O.reply.more, .int .i64 O.reply.next, .slice a2 O.reply.objs.length k2]) rfl rfl gB (by simp) (by kernel_rfl) (by rfl) ?_; intro w4 g4 hk4 hz4)
      clear a0 e0 e1 e2 e3 e4 e5 e6 e7
      obtain ⟨q0, q1, q2, q3, q4, q5, q6, q7, q8⟩ : w4.cell? ⟨(w.heap.size + 1), 0, none⟩ = some (.int .i64 O.verdict) ∧ w4.cell? ⟨(w.heap.size + 1), 1, none⟩ = some (.int .i64 O.reply.fn) ∧ w4.cell? ⟨(w.heap.size + 1), 2, none⟩ = some (.int .i64 O.reply.exc) ∧ w4.cell? ⟨(w.heap.size + 1), 3, none⟩ = some (.slice a1 O.reply.data.length c1) ∧ w4.cell? ⟨(w.heap.size + 1), 4, none⟩ = some (.int .i64 O.reply.code) ∧ w4.cell? ⟨(w.heap.size + 1), 5, none⟩ = some (.int .i64 O.reply.level) ∧ w4.cell? ⟨(w.heap.size + 1), 6, none⟩ = some (.bool O.reply.more) ∧ w4.cell? ⟨(w.heap.size + 1), 7, none⟩ = some (.int .i64 O.reply.next) ∧ w4.cell? ⟨(w.heap.size + 1), 8, none⟩ = some (.slice a2 O.reply.objs.length k2) := ⟨hpCell g4 0, hpCell g4 1, hpCell g4 2, hpCell g4 3, hpCell g4 4, hpCell g4 5, hpCell g4 6, hpCell g4 7, hpCell g4 8⟩
      refine bodyPost_ret (v := .agg #[.int .i64 O.verdict, .int .i64 O.reply.fn, .int .i64 O.reply.exc, .slice a1 O.reply.data.length c1, .int .i64 O.reply.code, .int .i64 O.reply.level, .bool O.reply.more, .int .i64 O.reply.next, .slice a2 O.reply.objs.length k2]) (by simp [results, Try.results19, go_sem, q0, q1, q2, q3, q4, q5, q6, q7, q8]) rfl ?_
      have hnk : n ≤ k := by omega
      exact SdRel.ends (by rw [HNN.out]; exact hnk) hrel.out HR.out hk4

/-- Strip's answer, whatever comes in. -/
theorem strip_one (O : Oc) (da oa : Option Addr) (dc oc : Nat) (w : World) (hr : RpIs w O.reply da dc oa oc) (hs : O.fit) :
    Calls Try.prog 19 #[.agg #[.int .i64 O.verdict, .int .i64 O.reply.fn, .int .i64 O.reply.exc, .slice da O.reply.data.length dc, .int .i64 O.reply.code, .int .i64 O.reply.level, .bool O.reply.more, .int .i64 O.reply.next, .slice oa O.reply.objs.length oc]] w (StOne w O.strip) := by
  obtain ⟨v, ⟨fn, exc, data, code, level, more, next, objs⟩⟩ := O
  by_cases h : v = 1 ∧ tblB fn = false
  · rw [Oc.strip_all h.1 h.2]
    exact strip_own _ da oa dc oc w hr hs h.1 h.2
  · refine (strip_simple v fn exc code level more next data objs da oa dc oc w h).mono (fun r w' hp => ?_)
    rcases strip_cases v fn with ⟨h0, _⟩ | e | ⟨e, ⟨_, _, t3⟩ | ⟨_, t3⟩ | ⟨_, _, t3⟩⟩
    · refine StOne.void hp ?_ ?_ ?_ <;> (rw [Oc.strip_no h0]; rfl)
    · refine StOne.void hp ?_ ?_ ?_ <;> (rw [Oc.strip_short (.inl e)])
    · refine StOne.void hp ?_ ?_ ?_ <;> (rw [Oc.strip_short (.inr ⟨e, t3⟩)])
    · exact absurd ⟨e, t3⟩ h
    · exact absurd ⟨e, t3⟩ h

theorem Oc.fit.strip {O : Oc} (h : O.fit) : O.strip.fit := by
  obtain ⟨v, ⟨fn, exc, data, code, level, more, next, objs⟩⟩ := O
  rcases strip_cases v fn with ⟨h0, _⟩ | e | ⟨e, ⟨_, _, t3⟩ | ⟨_, t3⟩ | ⟨_, _, t3⟩⟩
  · rw [Oc.strip_no h0]
    exact ⟨by show 0 ≤ 40; decide, fun y hy => absurd hy (by show ¬ y ∈ ([] : List Ob); simp), by show 0 ≤ 300; decide, by show (0 : Int) ≤ _; decide⟩
  · rw [Oc.strip_short (.inl e)]
    exact ⟨by show 0 ≤ 40; decide, fun y hy => absurd hy (by show ¬ y ∈ ([] : List Ob); simp), by show 0 ≤ 300; decide, by show (0 : Int) ≤ _; decide⟩
  · rw [Oc.strip_short (.inr ⟨e, t3⟩)]
    exact ⟨by show 0 ≤ 40; decide, fun y hy => absurd hy (by show ¬ y ∈ ([] : List Ob); simp), by show 0 ≤ 300; decide, by show (0 : Int) ≤ _; decide⟩
  · rw [Oc.strip_all e t3]; exact h
  · rw [Oc.strip_all e t3]; exact h

end Go.Proofs.Ytliblgmpclefgaa
