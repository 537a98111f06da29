/-
  The contract of the identification's Feed.
-/
import Derived.Test.YtliblgmpclefgaaIda
import Derived.Deep.RegionLaw
import Derived.Deep.RegionHeld3
import Derived.Deep.CutRange
namespace Go.Proofs.Ytliblgmpclefgaa
open Go.RowKit

/-- An outcome whose slices read as long as no block of P changes. -/
def InAt (P : Nat → Prop) (w : World) (o : Oc) (da : Option Addr) (dc : Nat) (oa : Option Addr) (oc : Nat) : Prop := ∀ W, Keeps P w W → RpIs W o.reply da dc oa oc
theorem InAt.keeps {P : Nat → Prop} {w w' : World} {o : Oc} {da : Option Addr} {dc : Nat} {oa : Option Addr} {oc : Nat} (h : InAt P w o da dc oa oc) (hk : Keeps P w w') (Q : Nat → Prop) (hQ : ∀ j, j < w.heap.size → Q j → P j) : InAt Q w' o da dc oa oc :=
  fun W hW => h W (hk.trans hW hQ)
/-- What an outcome's size and range must be. -/
structure Oc.fit (o : Oc) : Prop where
  objs : o.reply.objs.length ≤ 40
  vals : ∀ y ∈ o.reply.objs, y.val.length ≤ 300
  data : o.reply.data.length ≤ 300
  next : o.reply.next ≤ 9223372036854775807

/-- A set of blocks, and all that are new. -/
def Up (P : Nat → Prop) (W : World) (j : Nat) : Prop := P j ∨ W.heap.size ≤ j
def Grw (P : Nat → Prop) (W w' : World) (j : Nat) : Prop := P j ∨ (W.heap.size ≤ j ∧ j < w'.heap.size)

/-- What Feed leaves. -/
def IdFed (P : Nat → Prop) (w : World) (g : Nat) (y : Idn) (r : Ending) (w' : World) : Prop := r = .returned (.int .i64 0) ∧ (∃ v cs, IdAt (Grw P w w') w' g y v cs) ∧ Keeps P w w'

theorem IdAt.lt {P : Nat → Prop} {W : World} {g : Nat} {x : Idn} {v : Value} {cs : List Value} (h : IdAt P W g x v cs) : g < W.heap.size := hpLt h.at_
/-- Only the first cell has changed. -/
theorem IdAt.fed {P : Nat → Prop} {w W w' : World} {g : Nat} {x y : Idn} {v : Value} {cs : List Value} (h : IdAt P w g x v cs) (hb : Below w.heap.size w W) (e : Int) (hw : w' = W.setCell ⟨g, 0, none⟩ (.int .i64 e)) (hy : y = { x with st := e }) :
    IdFed P w g y (.returned (.int .i64 0)) w' := by
  subst hw hy
  have hk : Keeps (· = g) W (W.setCell ⟨g, 0, none⟩ (.int .i64 e)) := (Keeps.refl _ _).set _ _ rfl
  have hk2 : Keeps (· = g) w (W.setCell ⟨g, 0, none⟩ (.int .i64 e)) := (Keeps.of_below hb).trans hk (fun _ _ h => h)
  refine ⟨rfl, ⟨v, cs, ?_, ?_, ?_, .inl h.pg, fun j hj => ⟨.inl (h.pv j hj).1, (h.pv j hj).2⟩⟩, hk2.mono (fun k _ hk => by subst hk; exact h.pg)⟩
  · rw [hpSet (hpKeep h.at_ hb) 0 _]; rfl
  · exact own_keeps h.own hk2 (fun k hk e => (h.pv k hk).2 e)
  · exact CsL.mono (fun r z hz => ObQF.keeps (F := ObF P g v) (hk2.mono (fun k _ e => .inr (.inl e))) (fun j _ hj => by
      rcases hj with hj | hj | hj
      · exact .inl (fun h => hj (.inl h))
      · exact .inr (.inl hj)
      · exact .inr (.inr hj)) r z hz) _ _ h.obs


set_option maxRecDepth 100000 in
set_option maxHeartbeats 3200000 in
theorem ifeed_a {P : Nat → Prop} {w : World} {g : Nat} {x : Idn} {v : Value} {cs : List Value} (h : IdAt P w g x v cs) (hst : x.st = 0) (O : Oc) (da : Option Addr) (dc : Nat) (oa : Option Addr) (oc : Nat) (hA : O.verdict = 2 ∧ O.reply.exc = 1 ∧ x.cnt = 0) (y : Idn) (hy : y = { x with st := 5 }) :
    Calls Try.prog 119 #[.pointer (some ⟨g, 0, none⟩), .agg #[.int .i64 O.verdict, .int .i64 O.reply.fn, .int .i64 O.reply.exc, .slice da O.reply.data.length dc, .int .i64 O.reply.code, .int .i64 O.reply.level, .bool O.reply.more, .int .i64 O.reply.next, .slice oa O.reply.objs.length oc]] w (IdFed P w g y) := by
  have HST := hid hst
  obtain ⟨W0, hW0⟩ : ∃ W, (w.alloc (.cells #[.int .i64 O.verdict, .int .i64 O.reply.fn, .int .i64 O.reply.exc, .slice da O.reply.data.length dc, .int .i64 O.reply.code, .int .i64 O.reply.level, .bool O.reply.more, .int .i64 O.reply.next, .slice oa O.reply.objs.length oc] 59)).alloc (.cells #[.int .i64 O.reply.fn, .int .i64 O.reply.exc, .slice da O.reply.data.length dc, .int .i64 O.reply.code, .int .i64 O.reply.level, .bool O.reply.more, .int .i64 O.reply.next, .slice oa O.reply.objs.length oc] 57) = W := ⟨_, rfl⟩; have hb0 : Below w.heap.size w W0 := (by rw [← hW0]; exact bta (bal' w _) (Nat.le_refl _) _); have hz0 : W0.heap.size = w.heap.size + 2 := (by rw [← hW0]; simp); have pA : W0.heap[w.heap.size]? = some (.cells #[.int .i64 O.verdict, .int .i64 O.reply.fn, .int .i64 O.reply.exc, .slice da O.reply.data.length dc, .int .i64 O.reply.code, .int .i64 O.reply.level, .bool O.reply.more, .int .i64 O.reply.next, .slice oa O.reply.objs.length oc] 59) := (by rw [← hW0]; exact hpKeep (hpNew w _) (bal' _ _)); have pB : W0.heap[w.heap.size + 1]? = some (.cells #[.int .i64 O.reply.fn, .int .i64 O.reply.exc, .slice da O.reply.data.length dc, .int .i64 O.reply.code, .int .i64 O.reply.level, .bool O.reply.more, .int .i64 O.reply.next, .slice oa O.reply.objs.length oc] 57) := (by rw [← hW0]; have := hpNew (w.alloc (.cells #[.int .i64 O.verdict, .int .i64 O.reply.fn, .int .i64 O.reply.exc, .slice da O.reply.data.length dc, .int .i64 O.reply.code, .int .i64 O.reply.level, .bool O.reply.more, .int .i64 O.reply.next, .slice oa O.reply.objs.length oc] 59)) (.cells #[.int .i64 O.reply.fn, .int .i64 O.reply.exc, .slice da O.reply.data.length dc, .int .i64 O.reply.code, .int .i64 O.reply.level, .bool O.reply.more, .int .i64 O.reply.next, .slice oa O.reply.objs.length oc] 57); simpa using this); have l0 := hpKeep h.at_ hb0; have hgl : g < w.heap.size := h.lt; have HW0 := hid hW0; have HB0 := hid hb0; have HZ0 := hid hz0; have PA := hid pA; have PB := hid pB; have L0 := hid l0; clear hW0 hb0 hz0 pA pB l0
  obtain ⟨c, hcn⟩ : ∃ c : Int, (x.cnt : Int) = c := ⟨_, rfl⟩; have HCN := hid hcn; have a0 : (w.alloc (.cells #[.int .i64 O.verdict, .int .i64 O.reply.fn, .int .i64 O.reply.exc, .slice da O.reply.data.length dc, .int .i64 O.reply.code, .int .i64 O.reply.level, .bool O.reply.more, .int .i64 O.reply.next, .slice oa O.reply.objs.length oc] 59)).cell? ⟨g, 0, none⟩ = some (.int .i64 0) := (by have := hpCell (hpKeep h.at_ (bal' w (.cells #[.int .i64 O.verdict, .int .i64 O.reply.fn, .int .i64 O.reply.exc, .slice da O.reply.data.length dc, .int .i64 O.reply.code, .int .i64 O.reply.level, .bool O.reply.more, .int .i64 O.reply.next, .slice oa O.reply.objs.length oc] 59))) 0; rw [HST.out] at this; exact this); have k0 : Below W0.heap.size W0 W0 := Below.refl _ _; have kD : Below W0.heap.size W0 W0.drew := (Below.refl _ _).drew; have g1 : ∀ X, Below W0.heap.size W0 X → X.cell? ⟨g, 1, none⟩ = some (.int .i64 x.level) := fun X h => hpCell (hpKeep L0.out h) 1; have g3 : ∀ X, Below W0.heap.size W0 X → X.cell? ⟨g, 3, none⟩ = some (.int .i64 x.next) := fun X h => hpCell (hpKeep L0.out h) 3; have g4 : ∀ X, Below W0.heap.size W0 X → X.cell? ⟨g, 4, none⟩ = some (.int .i64 c) := (fun X h => (by rw [← hcn]; exact hpCell (hpKeep L0.out h) 4)); have g0 : ∀ X, Below W0.heap.size W0 X → X.frozen? ⟨g, 0, none⟩ = false := fun X h => hpFree (hpKeep L0.out h) 0; have gc0 : ∀ X, Below W0.heap.size W0 X → X.cell? ⟨g, 0, none⟩ = some (.int .i64 x.st) := fun X h => hpCell (hpKeep L0.out h) 0; have o0 : ∀ X, Below W0.heap.size W0 X → X.cell? ⟨w.heap.size, 0, none⟩ = some (.int .i64 O.verdict) := fun X h => hpCell (hpKeep PA.out h) 0; have r0 : ∀ X, Below W0.heap.size W0 X → X.cell? ⟨w.heap.size + 1, 0, none⟩ = some (.int .i64 O.reply.fn) := fun X h => hpCell (hpKeep PB.out h) 0; have r1 : ∀ X, Below W0.heap.size W0 X → X.cell? ⟨w.heap.size + 1, 1, none⟩ = some (.int .i64 O.reply.exc) := fun X h => hpCell (hpKeep PB.out h) 1; have r2 : ∀ X, Below W0.heap.size W0 X → X.cell? ⟨w.heap.size + 1, 2, none⟩ = some (.slice da O.reply.data.length dc) := fun X h => hpCell (hpKeep PB.out h) 2; have r3 : ∀ X, Below W0.heap.size W0 X → X.cell? ⟨w.heap.size + 1, 3, none⟩ = some (.int .i64 O.reply.code) := fun X h => hpCell (hpKeep PB.out h) 3; have r4 : ∀ X, Below W0.heap.size W0 X → X.cell? ⟨w.heap.size + 1, 4, none⟩ = some (.int .i64 O.reply.level) := fun X h => hpCell (hpKeep PB.out h) 4; have r5 : ∀ X, Below W0.heap.size W0 X → X.cell? ⟨w.heap.size + 1, 5, none⟩ = some (.bool O.reply.more) := fun X h => hpCell (hpKeep PB.out h) 5; have r6 : ∀ X, Below W0.heap.size W0 X → X.cell? ⟨w.heap.size + 1, 6, none⟩ = some (.int .i64 O.reply.next) := fun X h => hpCell (hpKeep PB.out h) 6; have r7 : ∀ X, Below W0.heap.size W0 X → X.cell? ⟨w.heap.size + 1, 7, none⟩ = some (.slice oa O.reply.objs.length oc) := (fun X h => hpCell (hpKeep PB.out h) 7); clear hcn
  have H := hid h
  have HY := hid hy
  have d1 := b1 hA.1
  have d2 := b1 hA.2.1
  have d3 : (c == 0) = true := b1 (by have := hA.2.2; have := HCN.out; omega)
  clear h hy hA hst
  go_enter Try.func119, Try.ntmps119; go_upto_region 6 with (fail); rw [HW0.out]
  go_wp2
  go_ret
  exact H.out.fed HB0.out 5 rfl HY.out

set_option maxRecDepth 100000 in
set_option maxHeartbeats 3200000 in
theorem ifeed_v {P : Nat → Prop} {w : World} {g : Nat} {x : Idn} {v : Value} {cs : List Value} (h : IdAt P w g x v cs) (hst : x.st = 0) (O : Oc) (da : Option Addr) (dc : Nat) (oa : Option Addr) (oc : Nat) (hA : ¬ (O.verdict = 2 ∧ O.reply.exc = 1 ∧ x.cnt = 0)) (hv : O.verdict ≠ 1) (y : Idn) (hy : y = { x with st := 4 }) :
    Calls Try.prog 119 #[.pointer (some ⟨g, 0, none⟩), .agg #[.int .i64 O.verdict, .int .i64 O.reply.fn, .int .i64 O.reply.exc, .slice da O.reply.data.length dc, .int .i64 O.reply.code, .int .i64 O.reply.level, .bool O.reply.more, .int .i64 O.reply.next, .slice oa O.reply.objs.length oc]] w (IdFed P w g y) := by
  have HST := hid hst
  obtain ⟨W0, hW0⟩ : ∃ W, (w.alloc (.cells #[.int .i64 O.verdict, .int .i64 O.reply.fn, .int .i64 O.reply.exc, .slice da O.reply.data.length dc, .int .i64 O.reply.code, .int .i64 O.reply.level, .bool O.reply.more, .int .i64 O.reply.next, .slice oa O.reply.objs.length oc] 59)).alloc (.cells #[.int .i64 O.reply.fn, .int .i64 O.reply.exc, .slice da O.reply.data.length dc, .int .i64 O.reply.code, .int .i64 O.reply.level, .bool O.reply.more, .int .i64 O.reply.next, .slice oa O.reply.objs.length oc] 57) = W := ⟨_, rfl⟩; have hb0 : Below w.heap.size w W0 := (by rw [← hW0]; exact bta (bal' w _) (Nat.le_refl _) _); have hz0 : W0.heap.size = w.heap.size + 2 := (by rw [← hW0]; simp); have pA : W0.heap[w.heap.size]? = some (.cells #[.int .i64 O.verdict, .int .i64 O.reply.fn, .int .i64 O.reply.exc, .slice da O.reply.data.length dc, .int .i64 O.reply.code, .int .i64 O.reply.level, .bool O.reply.more, .int .i64 O.reply.next, .slice oa O.reply.objs.length oc] 59) := (by rw [← hW0]; exact hpKeep (hpNew w _) (bal' _ _)); have pB : W0.heap[w.heap.size + 1]? = some (.cells #[.int .i64 O.reply.fn, .int .i64 O.reply.exc, .slice da O.reply.data.length dc, .int .i64 O.reply.code, .int .i64 O.reply.level, .bool O.reply.more, .int .i64 O.reply.next, .slice oa O.reply.objs.length oc] 57) := (by rw [← hW0]; have := hpNew (w.alloc (.cells #[.int .i64 O.verdict, .int .i64 O.reply.fn, .int .i64 O.reply.exc, .slice da O.reply.data.length dc, .int .i64 O.reply.code, .int .i64 O.reply.level, .bool O.reply.more, .int .i64 O.reply.next, .slice oa O.reply.objs.length oc] 59)) (.cells #[.int .i64 O.reply.fn, .int .i64 O.reply.exc, .slice da O.reply.data.length dc, .int .i64 O.reply.code, .int .i64 O.reply.level, .bool O.reply.more, .int .i64 O.reply.next, .slice oa O.reply.objs.length oc] 57); simpa using this); have l0 := hpKeep h.at_ hb0; have hgl : g < w.heap.size := h.lt; have HW0 := hid hW0; have HB0 := hid hb0; have HZ0 := hid hz0; have PA := hid pA; have PB := hid pB; have L0 := hid l0; clear hW0 hb0 hz0 pA pB l0
  obtain ⟨c, hcn⟩ : ∃ c : Int, (x.cnt : Int) = c := ⟨_, rfl⟩; have HCN := hid hcn; have a0 : (w.alloc (.cells #[.int .i64 O.verdict, .int .i64 O.reply.fn, .int .i64 O.reply.exc, .slice da O.reply.data.length dc, .int .i64 O.reply.code, .int .i64 O.reply.level, .bool O.reply.more, .int .i64 O.reply.next, .slice oa O.reply.objs.length oc] 59)).cell? ⟨g, 0, none⟩ = some (.int .i64 0) := (by have := hpCell (hpKeep h.at_ (bal' w (.cells #[.int .i64 O.verdict, .int .i64 O.reply.fn, .int .i64 O.reply.exc, .slice da O.reply.data.length dc, .int .i64 O.reply.code, .int .i64 O.reply.level, .bool O.reply.more, .int .i64 O.reply.next, .slice oa O.reply.objs.length oc] 59))) 0; rw [HST.out] at this; exact this); have k0 : Below W0.heap.size W0 W0 := Below.refl _ _; have kD : Below W0.heap.size W0 W0.drew := (Below.refl _ _).drew; have g1 : ∀ X, Below W0.heap.size W0 X → X.cell? ⟨g, 1, none⟩ = some (.int .i64 x.level) := fun X h => hpCell (hpKeep L0.out h) 1; have g3 : ∀ X, Below W0.heap.size W0 X → X.cell? ⟨g, 3, none⟩ = some (.int .i64 x.next) := fun X h => hpCell (hpKeep L0.out h) 3; have g4 : ∀ X, Below W0.heap.size W0 X → X.cell? ⟨g, 4, none⟩ = some (.int .i64 c) := (fun X h => (by rw [← hcn]; exact hpCell (hpKeep L0.out h) 4)); have g0 : ∀ X, Below W0.heap.size W0 X → X.frozen? ⟨g, 0, none⟩ = false := fun X h => hpFree (hpKeep L0.out h) 0; have gc0 : ∀ X, Below W0.heap.size W0 X → X.cell? ⟨g, 0, none⟩ = some (.int .i64 x.st) := fun X h => hpCell (hpKeep L0.out h) 0; have o0 : ∀ X, Below W0.heap.size W0 X → X.cell? ⟨w.heap.size, 0, none⟩ = some (.int .i64 O.verdict) := fun X h => hpCell (hpKeep PA.out h) 0; have r0 : ∀ X, Below W0.heap.size W0 X → X.cell? ⟨w.heap.size + 1, 0, none⟩ = some (.int .i64 O.reply.fn) := fun X h => hpCell (hpKeep PB.out h) 0; have r1 : ∀ X, Below W0.heap.size W0 X → X.cell? ⟨w.heap.size + 1, 1, none⟩ = some (.int .i64 O.reply.exc) := fun X h => hpCell (hpKeep PB.out h) 1; have r2 : ∀ X, Below W0.heap.size W0 X → X.cell? ⟨w.heap.size + 1, 2, none⟩ = some (.slice da O.reply.data.length dc) := fun X h => hpCell (hpKeep PB.out h) 2; have r3 : ∀ X, Below W0.heap.size W0 X → X.cell? ⟨w.heap.size + 1, 3, none⟩ = some (.int .i64 O.reply.code) := fun X h => hpCell (hpKeep PB.out h) 3; have r4 : ∀ X, Below W0.heap.size W0 X → X.cell? ⟨w.heap.size + 1, 4, none⟩ = some (.int .i64 O.reply.level) := fun X h => hpCell (hpKeep PB.out h) 4; have r5 : ∀ X, Below W0.heap.size W0 X → X.cell? ⟨w.heap.size + 1, 5, none⟩ = some (.bool O.reply.more) := fun X h => hpCell (hpKeep PB.out h) 5; have r6 : ∀ X, Below W0.heap.size W0 X → X.cell? ⟨w.heap.size + 1, 6, none⟩ = some (.int .i64 O.reply.next) := fun X h => hpCell (hpKeep PB.out h) 6; have r7 : ∀ X, Below W0.heap.size W0 X → X.cell? ⟨w.heap.size + 1, 7, none⟩ = some (.slice oa O.reply.objs.length oc) := (fun X h => hpCell (hpKeep PB.out h) 7); clear hcn
  have H := hid h
  have HY := hid hy
  have d9 : (O.verdict != 1) = true := by rw [bne_iff_ne]; exact hv
  have hd : (O.verdict == 2) = false ∨ ((O.verdict == 2) = true ∧ (O.reply.exc == 1) = false) ∨ ((O.verdict == 2) = true ∧ (O.reply.exc == 1) = true ∧ (c == 0) = false) := by
    by_cases h2 : O.verdict = 2
    · by_cases h3 : O.reply.exc = 1
      · exact .inr (.inr ⟨b1 h2, b1 h3, b0 (fun e => hA ⟨h2, h3, by have := HCN.out; omega⟩)⟩)
      · exact .inr (.inl ⟨b1 h2, b0 h3⟩)
    · exact .inl (b0 h2)
  clear h hy hA hst hv
  rcases hd with d1 | ⟨d1, d2⟩ | ⟨d1, d2, d3⟩
  all_goals
    go_enter Try.func119, Try.ntmps119; go_upto_region 6 with (fail); rw [HW0.out]
    go_upto_region 9 with (fail)
    go_quiet (fail)
    go_wp2
    go_ret
    exact H.out.fed (bt HB0.out (below_drewN (Below.refl _ _) _) (Nat.le_refl _)) 4 rfl HY.out

set_option maxRecDepth 100000 in
set_option maxHeartbeats 3200000 in
theorem ifeed_f {P : Nat → Prop} {w : World} {g : Nat} {x : Idn} {v : Value} {cs : List Value} (h : IdAt P w g x v cs) (hst : x.st = 0) (O : Oc) (da : Option Addr) (dc : Nat) (oa : Option Addr) (oc : Nat) (hv : O.verdict = 1) (hf : O.reply.fn ≠ 43) (y : Idn) (hy : y = { x with st := 4 }) :
    Calls Try.prog 119 #[.pointer (some ⟨g, 0, none⟩), .agg #[.int .i64 O.verdict, .int .i64 O.reply.fn, .int .i64 O.reply.exc, .slice da O.reply.data.length dc, .int .i64 O.reply.code, .int .i64 O.reply.level, .bool O.reply.more, .int .i64 O.reply.next, .slice oa O.reply.objs.length oc]] w (IdFed P w g y) := by
  have HST := hid hst
  obtain ⟨W0, hW0⟩ : ∃ W, (w.alloc (.cells #[.int .i64 O.verdict, .int .i64 O.reply.fn, .int .i64 O.reply.exc, .slice da O.reply.data.length dc, .int .i64 O.reply.code, .int .i64 O.reply.level, .bool O.reply.more, .int .i64 O.reply.next, .slice oa O.reply.objs.length oc] 59)).alloc (.cells #[.int .i64 O.reply.fn, .int .i64 O.reply.exc, .slice da O.reply.data.length dc, .int .i64 O.reply.code, .int .i64 O.reply.level, .bool O.reply.more, .int .i64 O.reply.next, .slice oa O.reply.objs.length oc] 57) = W := ⟨_, rfl⟩; have hb0 : Below w.heap.size w W0 := (by rw [← hW0]; exact bta (bal' w _) (Nat.le_refl _) _); have hz0 : W0.heap.size = w.heap.size + 2 := (by rw [← hW0]; simp); have pA : W0.heap[w.heap.size]? = some (.cells #[.int .i64 O.verdict, .int .i64 O.reply.fn, .int .i64 O.reply.exc, .slice da O.reply.data.length dc, .int .i64 O.reply.code, .int .i64 O.reply.level, .bool O.reply.more, .int .i64 O.reply.next, .slice oa O.reply.objs.length oc] 59) := (by rw [← hW0]; exact hpKeep (hpNew w _) (bal' _ _)); have pB : W0.heap[w.heap.size + 1]? = some (.cells #[.int .i64 O.reply.fn, .int .i64 O.reply.exc, .slice da O.reply.data.length dc, .int .i64 O.reply.code, .int .i64 O.reply.level, .bool O.reply.more, .int .i64 O.reply.next, .slice oa O.reply.objs.length oc] 57) := (by rw [← hW0]; have := hpNew (w.alloc (.cells #[.int .i64 O.verdict, .int .i64 O.reply.fn, .int .i64 O.reply.exc, .slice da O.reply.data.length dc, .int .i64 O.reply.code, .int .i64 O.reply.level, .bool O.reply.more, .int .i64 O.reply.next, .slice oa O.reply.objs.length oc] 59)) (.cells #[.int .i64 O.reply.fn, .int .i64 O.reply.exc, .slice da O.reply.data.length dc, .int .i64 O.reply.code, .int .i64 O.reply.level, .bool O.reply.more, .int .i64 O.reply.next, .slice oa O.reply.objs.length oc] 57); simpa using this); have l0 := hpKeep h.at_ hb0; have hgl : g < w.heap.size := h.lt; have HW0 := hid hW0; have HB0 := hid hb0; have HZ0 := hid hz0; have PA := hid pA; have PB := hid pB; have L0 := hid l0; clear hW0 hb0 hz0 pA pB l0
  obtain ⟨c, hcn⟩ : ∃ c : Int, (x.cnt : Int) = c := ⟨_, rfl⟩; have HCN := hid hcn; have a0 : (w.alloc (.cells #[.int .i64 O.verdict, .int .i64 O.reply.fn, .int .i64 O.reply.exc, .slice da O.reply.data.length dc, .int .i64 O.reply.code, .int .i64 O.reply.level, .bool O.reply.more, .int .i64 O.reply.next, .slice oa O.reply.objs.length oc] 59)).cell? ⟨g, 0, none⟩ = some (.int .i64 0) := (by have := hpCell (hpKeep h.at_ (bal' w (.cells #[.int .i64 O.verdict, .int .i64 O.reply.fn, .int .i64 O.reply.exc, .slice da O.reply.data.length dc, .int .i64 O.reply.code, .int .i64 O.reply.level, .bool O.reply.more, .int .i64 O.reply.next, .slice oa O.reply.objs.length oc] 59))) 0; rw [HST.out] at this; exact this); have k0 : Below W0.heap.size W0 W0 := Below.refl _ _; have kD : Below W0.heap.size W0 W0.drew := (Below.refl _ _).drew; have g1 : ∀ X, Below W0.heap.size W0 X → X.cell? ⟨g, 1, none⟩ = some (.int .i64 x.level) := fun X h => hpCell (hpKeep L0.out h) 1; have g3 : ∀ X, Below W0.heap.size W0 X → X.cell? ⟨g, 3, none⟩ = some (.int .i64 x.next) := fun X h => hpCell (hpKeep L0.out h) 3; have g4 : ∀ X, Below W0.heap.size W0 X → X.cell? ⟨g, 4, none⟩ = some (.int .i64 c) := (fun X h => (by rw [← hcn]; exact hpCell (hpKeep L0.out h) 4)); have g0 : ∀ X, Below W0.heap.size W0 X → X.frozen? ⟨g, 0, none⟩ = false := fun X h => hpFree (hpKeep L0.out h) 0; have gc0 : ∀ X, Below W0.heap.size W0 X → X.cell? ⟨g, 0, none⟩ = some (.int .i64 x.st) := fun X h => hpCell (hpKeep L0.out h) 0; have o0 : ∀ X, Below W0.heap.size W0 X → X.cell? ⟨w.heap.size, 0, none⟩ = some (.int .i64 O.verdict) := fun X h => hpCell (hpKeep PA.out h) 0; have r0 : ∀ X, Below W0.heap.size W0 X → X.cell? ⟨w.heap.size + 1, 0, none⟩ = some (.int .i64 O.reply.fn) := fun X h => hpCell (hpKeep PB.out h) 0; have r1 : ∀ X, Below W0.heap.size W0 X → X.cell? ⟨w.heap.size + 1, 1, none⟩ = some (.int .i64 O.reply.exc) := fun X h => hpCell (hpKeep PB.out h) 1; have r2 : ∀ X, Below W0.heap.size W0 X → X.cell? ⟨w.heap.size + 1, 2, none⟩ = some (.slice da O.reply.data.length dc) := fun X h => hpCell (hpKeep PB.out h) 2; have r3 : ∀ X, Below W0.heap.size W0 X → X.cell? ⟨w.heap.size + 1, 3, none⟩ = some (.int .i64 O.reply.code) := fun X h => hpCell (hpKeep PB.out h) 3; have r4 : ∀ X, Below W0.heap.size W0 X → X.cell? ⟨w.heap.size + 1, 4, none⟩ = some (.int .i64 O.reply.level) := fun X h => hpCell (hpKeep PB.out h) 4; have r5 : ∀ X, Below W0.heap.size W0 X → X.cell? ⟨w.heap.size + 1, 5, none⟩ = some (.bool O.reply.more) := fun X h => hpCell (hpKeep PB.out h) 5; have r6 : ∀ X, Below W0.heap.size W0 X → X.cell? ⟨w.heap.size + 1, 6, none⟩ = some (.int .i64 O.reply.next) := fun X h => hpCell (hpKeep PB.out h) 6; have r7 : ∀ X, Below W0.heap.size W0 X → X.cell? ⟨w.heap.size + 1, 7, none⟩ = some (.slice oa O.reply.objs.length oc) := (fun X h => hpCell (hpKeep PB.out h) 7); clear hcn
  have H := hid h
  have HY := hid hy
  have d1 : (O.verdict == 2) = false := b0 (by omega)
  have d9 : (O.verdict != 1) = false := by rw [bne_eq_false_iff_eq]; exact hv
  have d8 : (O.reply.fn != 43) = true := by rw [bne_iff_ne]; exact hf
  clear h hy hst hv hf
  go_enter Try.func119, Try.ntmps119; go_upto_region 6 with (fail); rw [HW0.out]
  go_upto_region 9 with (fail)
  go_quiet (fail)
  go_wp2
  go_ret
  exact H.out.fed (bt HB0.out (below_drewN (Below.refl _ _) _) (Nat.le_refl _)) 4 rfl HY.out


set_option maxRecDepth 100000 in
set_option maxHeartbeats 3200000 in
theorem ifeed_o {P : Nat → Prop} {w : World} {g : Nat} {x : Idn} {v : Value} {cs : List Value} (h : IdAt P w g x v cs) (hst : x.st = 0) (hk : x.ok) (O : Oc) (da : Option Addr) (dc : Nat) (oa : Option Addr) (oc : Nat) (HI : InAt P w O da dc oa oc) (hv : O.verdict = 1) (hf : O.reply.fn = 43) (hb : O.reply.ordB x.next = false ∨ (O.reply.ordB x.next = true ∧ 0 < x.cnt ∧ O.reply.level ≠ x.level)) (y : Idn) (hy : y = { x with st := 4 }) :
    Calls Try.prog 119 #[.pointer (some ⟨g, 0, none⟩), .agg #[.int .i64 O.verdict, .int .i64 O.reply.fn, .int .i64 O.reply.exc, .slice da O.reply.data.length dc, .int .i64 O.reply.code, .int .i64 O.reply.level, .bool O.reply.more, .int .i64 O.reply.next, .slice oa O.reply.objs.length oc]] w (IdFed P w g y) := by
  obtain ⟨V, hV⟩ : ∃ V, Hid (O.reply.ordB x.next = V) := ⟨_, rfl⟩
  have HST := hid hst
  obtain ⟨W0, hW0⟩ : ∃ W, (w.alloc (.cells #[.int .i64 O.verdict, .int .i64 O.reply.fn, .int .i64 O.reply.exc, .slice da O.reply.data.length dc, .int .i64 O.reply.code, .int .i64 O.reply.level, .bool O.reply.more, .int .i64 O.reply.next, .slice oa O.reply.objs.length oc] 59)).alloc (.cells #[.int .i64 O.reply.fn, .int .i64 O.reply.exc, .slice da O.reply.data.length dc, .int .i64 O.reply.code, .int .i64 O.reply.level, .bool O.reply.more, .int .i64 O.reply.next, .slice oa O.reply.objs.length oc] 57) = W := ⟨_, rfl⟩; have hb0 : Below w.heap.size w W0 := (by rw [← hW0]; exact bta (bal' w _) (Nat.le_refl _) _); have hz0 : W0.heap.size = w.heap.size + 2 := (by rw [← hW0]; simp); have pA : W0.heap[w.heap.size]? = some (.cells #[.int .i64 O.verdict, .int .i64 O.reply.fn, .int .i64 O.reply.exc, .slice da O.reply.data.length dc, .int .i64 O.reply.code, .int .i64 O.reply.level, .bool O.reply.more, .int .i64 O.reply.next, .slice oa O.reply.objs.length oc] 59) := (by rw [← hW0]; exact hpKeep (hpNew w _) (bal' _ _)); have pB : W0.heap[w.heap.size + 1]? = some (.cells #[.int .i64 O.reply.fn, .int .i64 O.reply.exc, .slice da O.reply.data.length dc, .int .i64 O.reply.code, .int .i64 O.reply.level, .bool O.reply.more, .int .i64 O.reply.next, .slice oa O.reply.objs.length oc] 57) := (by rw [← hW0]; have := hpNew (w.alloc (.cells #[.int .i64 O.verdict, .int .i64 O.reply.fn, .int .i64 O.reply.exc, .slice da O.reply.data.length dc, .int .i64 O.reply.code, .int .i64 O.reply.level, .bool O.reply.more, .int .i64 O.reply.next, .slice oa O.reply.objs.length oc] 59)) (.cells #[.int .i64 O.reply.fn, .int .i64 O.reply.exc, .slice da O.reply.data.length dc, .int .i64 O.reply.code, .int .i64 O.reply.level, .bool O.reply.more, .int .i64 O.reply.next, .slice oa O.reply.objs.length oc] 57); simpa using this); have l0 := hpKeep h.at_ hb0; have hgl : g < w.heap.size := h.lt; have HW0 := hid hW0; have HB0 := hid hb0; have HZ0 := hid hz0; have PA := hid pA; have PB := hid pB; have L0 := hid l0; clear hW0 hb0 hz0 pA pB l0
  obtain ⟨c, hcn⟩ : ∃ c : Int, (x.cnt : Int) = c := ⟨_, rfl⟩; have HCN := hid hcn; have a0 : (w.alloc (.cells #[.int .i64 O.verdict, .int .i64 O.reply.fn, .int .i64 O.reply.exc, .slice da O.reply.data.length dc, .int .i64 O.reply.code, .int .i64 O.reply.level, .bool O.reply.more, .int .i64 O.reply.next, .slice oa O.reply.objs.length oc] 59)).cell? ⟨g, 0, none⟩ = some (.int .i64 0) := (by have := hpCell (hpKeep h.at_ (bal' w (.cells #[.int .i64 O.verdict, .int .i64 O.reply.fn, .int .i64 O.reply.exc, .slice da O.reply.data.length dc, .int .i64 O.reply.code, .int .i64 O.reply.level, .bool O.reply.more, .int .i64 O.reply.next, .slice oa O.reply.objs.length oc] 59))) 0; rw [HST.out] at this; exact this); have k0 : Below W0.heap.size W0 W0 := Below.refl _ _; have kD : Below W0.heap.size W0 W0.drew := (Below.refl _ _).drew; have g1 : ∀ X, Below W0.heap.size W0 X → X.cell? ⟨g, 1, none⟩ = some (.int .i64 x.level) := fun X h => hpCell (hpKeep L0.out h) 1; have g3 : ∀ X, Below W0.heap.size W0 X → X.cell? ⟨g, 3, none⟩ = some (.int .i64 x.next) := fun X h => hpCell (hpKeep L0.out h) 3; have g4 : ∀ X, Below W0.heap.size W0 X → X.cell? ⟨g, 4, none⟩ = some (.int .i64 c) := (fun X h => (by rw [← hcn]; exact hpCell (hpKeep L0.out h) 4)); have g0 : ∀ X, Below W0.heap.size W0 X → X.frozen? ⟨g, 0, none⟩ = false := fun X h => hpFree (hpKeep L0.out h) 0; have gc0 : ∀ X, Below W0.heap.size W0 X → X.cell? ⟨g, 0, none⟩ = some (.int .i64 x.st) := fun X h => hpCell (hpKeep L0.out h) 0; have o0 : ∀ X, Below W0.heap.size W0 X → X.cell? ⟨w.heap.size, 0, none⟩ = some (.int .i64 O.verdict) := fun X h => hpCell (hpKeep PA.out h) 0; have r0 : ∀ X, Below W0.heap.size W0 X → X.cell? ⟨w.heap.size + 1, 0, none⟩ = some (.int .i64 O.reply.fn) := fun X h => hpCell (hpKeep PB.out h) 0; have r1 : ∀ X, Below W0.heap.size W0 X → X.cell? ⟨w.heap.size + 1, 1, none⟩ = some (.int .i64 O.reply.exc) := fun X h => hpCell (hpKeep PB.out h) 1; have r2 : ∀ X, Below W0.heap.size W0 X → X.cell? ⟨w.heap.size + 1, 2, none⟩ = some (.slice da O.reply.data.length dc) := fun X h => hpCell (hpKeep PB.out h) 2; have r3 : ∀ X, Below W0.heap.size W0 X → X.cell? ⟨w.heap.size + 1, 3, none⟩ = some (.int .i64 O.reply.code) := fun X h => hpCell (hpKeep PB.out h) 3; have r4 : ∀ X, Below W0.heap.size W0 X → X.cell? ⟨w.heap.size + 1, 4, none⟩ = some (.int .i64 O.reply.level) := fun X h => hpCell (hpKeep PB.out h) 4; have r5 : ∀ X, Below W0.heap.size W0 X → X.cell? ⟨w.heap.size + 1, 5, none⟩ = some (.bool O.reply.more) := fun X h => hpCell (hpKeep PB.out h) 5; have r6 : ∀ X, Below W0.heap.size W0 X → X.cell? ⟨w.heap.size + 1, 6, none⟩ = some (.int .i64 O.reply.next) := fun X h => hpCell (hpKeep PB.out h) 6; have r7 : ∀ X, Below W0.heap.size W0 X → X.cell? ⟨w.heap.size + 1, 7, none⟩ = some (.slice oa O.reply.objs.length oc) := (fun X h => hpCell (hpKeep PB.out h) 7); clear hcn
  have H := hid h
  have HY := hid hy
  have d1 : (O.verdict == 2) = false := b0 (by omega)
  have d9 : (O.verdict != 1) = false := by rw [bne_eq_false_iff_eq]; exact hv
  have d8 : (O.reply.fn != 43) = false := by rw [bne_eq_false_iff_eq]; exact hf
  have HCO : Hid (∀ X, Below W0.heap.size W0 X → Calls Try.prog 121 #[.agg #[.int .i64 O.reply.fn, .int .i64 O.reply.exc, .slice da O.reply.data.length dc, .int .i64 O.reply.code, .int .i64 O.reply.level, .bool O.reply.more, .int .i64 O.reply.next, .slice oa O.reply.objs.length oc], .int .i64 x.next] X fun r w' => r = .returned (.bool V) ∧ Below X.heap.size X w') := fun X hX => ordered_any O.reply da dc oa oc x.next hk.n0 hk.n1 X (HI X (Keeps.of_below (bt HB0.out hX (Nat.le_refl _)))).o V hV
  rw [hV.out] at hb
  clear h hy hst hv hf HI hk
  rcases hb with rfl | ⟨rfl, hc, hlv⟩
  · clear hV
    go_enter Try.func119, Try.ntmps119; go_upto_region 6 with (fail); rw [HW0.out]
    go_upto_region 9 with (fail)
    go_region_held3 (fun X => Below W0.heap.size W0 X) ((first | exact k0 | exact kD | exact bt ‹_› ‹_› (Nat.le_refl _) | assumption)) ((go_at_call 121; (with_reducible refine (HCO.out _ kD).mono ?_); rintro r w5 ⟨rfl, hb5⟩; have hB5 := bt kD hb5 (Nat.le_refl _)))
    all_goals
      go_wp2
      go_ret
      exact H.out.fed (bt HB0.out (by assumption) (Nat.le_refl _)) 4 rfl HY.out
  · have d5 : 0 < c := by have := HCN.out; omega
    have d6 : (O.reply.level != x.level) = true := by rw [bne_iff_ne]; exact hlv
    clear hV hc hlv
    go_enter Try.func119, Try.ntmps119; go_upto_region 6 with (fail); rw [HW0.out]
    go_upto_region 9 with (fail)
    go_region_held3 (fun X => Below W0.heap.size W0 X) ((first | exact k0 | exact kD | exact bt ‹_› ‹_› (Nat.le_refl _) | assumption)) ((go_at_call 121; (with_reducible refine (HCO.out _ kD).mono ?_); rintro r w5 ⟨rfl, hb5⟩; have hB5 := bt kD hb5 (Nat.le_refl _)))
    all_goals
      go_upto_region 10 with (fail)
      go_quiet (fail)
      go_wp2
      go_ret
      exact H.out.fed (bt HB0.out (below_drewN (by assumption) _) (Nat.le_refl _)) 4 rfl HY.out

end Go.Proofs.Ytliblgmpclefgaa
