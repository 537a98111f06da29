/-
  The program's map: the contracts of Next and New.
-/
import Derived.Test.YtliblgmpclefgaaMpb
namespace Go.Proofs.Ytliblgmpclefgaa
open Go.RowKit

def Mp.ask (m : Mp) : Rq := if m.rest = 0 then ⟨0, 0, 0, 0, 0⟩ else ⟨m.tb, m.first + m.ks.length, m.size, 0, 0⟩

set_option maxRecDepth 100000 in
set_option maxHeartbeats 3200000 in
theorem mnext_any {P : Nat → Prop} {w : World} {g : Nat} {m : Mp} {v : Value} {q : Int} (h : MpAt P w g m v q) (hm : m.ok) (Q : Rq) (V : Bool) (hq : Hid (Q = m.ask)) (hV : Hid (V = !decide (m.rest = 0))) :
    Calls Try.prog 127 #[.pointer (some ⟨g, 0, none⟩)] w (AskPost w Q V) := by
  obtain ⟨W0, hW0⟩ : ∃ W, w.alloc (.cells #[.int .i64 0, .int .i64 0, .int .i64 0, .int .i64 0, .int .i64 0] 34) = W := ⟨_, rfl⟩
  have hb0 : Below w.heap.size w W0 := by rw [← hW0]; exact bal' w _
  have p0 : W0.heap[w.heap.size]? = some (.cells #[.int .i64 0, .int .i64 0, .int .i64 0, .int .i64 0, .int .i64 0] 34) := by rw [← hW0]; exact hpNew w _
  have hgl := h.lt
  have hgn : g ≠ w.heap.size := by omega
  have HAT := hid h.at_
  obtain ⟨s, hs⟩ : ∃ s : Int, (m.ks.length : Int) = s := ⟨_, rfl⟩
  obtain ⟨N, hN⟩ : ∃ N, m.size = N := ⟨_, rfl⟩
  have HEN : Hid (∀ X, Below w.heap.size w X → Calls Try.prog 98 #[.pointer (some ⟨g, 0, none⟩)] X (BoolPost X (decide (m.rest = 0)))) := fun X hX => mended_any (h.grow hX P (fun _ e => e)) hm _ rfl
  have HLN : Hid (∀ X, Below w.heap.size w X → Calls Try.prog 100 #[.agg #[v]] X (IntPost X s)) := fun X hX => by rw [← hs, ← rle_sum]; exact rlen_any v (rle m.ks) X (h.own.keep hX) hm.rn
  have HSZ : Hid (∀ X, Below w.heap.size w X → Calls Try.prog 129 #[.pointer (some ⟨g, 0, none⟩)] X (IntPost X N)) := fun X hX => msize_any (h.grow hX P (fun _ e => e)) hm N hN
  have k0 : Below w.heap.size w W0 := hb0
  by_cases hr : m.rest = 0
  · have z0 : ∀ X, Below W0.heap.size W0 X → X.cell? ⟨w.heap.size, 0, none⟩ = some (.int .i64 0) := fun X k => hpCell (hpKeep p0 k) 0
    have z1 : ∀ X, Below W0.heap.size W0 X → X.cell? ⟨w.heap.size, 1, none⟩ = some (.int .i64 0) := fun X k => hpCell (hpKeep p0 k) 1
    have z2 : ∀ X, Below W0.heap.size W0 X → X.cell? ⟨w.heap.size, 2, none⟩ = some (.int .i64 0) := fun X k => hpCell (hpKeep p0 k) 2
    have z3 : ∀ X, Below W0.heap.size W0 X → X.cell? ⟨w.heap.size, 3, none⟩ = some (.int .i64 0) := fun X k => hpCell (hpKeep p0 k) 3
    have z4 : ∀ X, Below W0.heap.size W0 X → X.cell? ⟨w.heap.size, 4, none⟩ = some (.int .i64 0) := fun X k => hpCell (hpKeep p0 k) 4
    have y0 : ∀ X, Below W0.heap.size W0 X → ∀ i, X.frozen? ⟨w.heap.size, i, none⟩ = false := fun X k i => hpFree (hpKeep p0 k) i
    have HE : Hid (Q = ⟨0, 0, 0, 0, 0⟩ ∧ V = false) := ⟨by rw [hq.out]; unfold Mp.ask; rw [if_pos hr], by rw [hV.out, decide_eq_true hr]; rfl⟩
    have HEN1 : Hid (Calls Try.prog 98 #[.pointer (some ⟨g, 0, none⟩)] W0 (BoolPost W0 true)) := by have := HEN.out W0 k0; rw [decide_eq_true hr] at this; exact this
    have HW0 := hid hW0
    have HB0 := hid hb0
    clear hW0 hb0 p0 h hm hq hV HEN HLN HSZ hs hN hr
    go_enter Try.func127, Try.ntmps127
    go_upto_region 1 with (fail)
    rw [HW0.out]
    go_wp2_with (go_at_call 98; (with_reducible refine HEN1.out.mono ?_); rintro r w2 ⟨rfl, hb2⟩; have x0 := z0 _ hb2; have x1 := z1 _ hb2; have x2 := z2 _ hb2; have x3 := z3 _ hb2; have x4 := z4 _ hb2; have v0 := y0 _ hb2 0; have v1 := y0 _ hb2 1; have v2 := y0 _ hb2 2; have v3 := y0 _ hb2 3; have v4 := y0 _ hb2 4)
    refine bodyPost_ret (v := .tuple #[.agg #[.int .i64 0, .int .i64 0, .int .i64 0, .int .i64 0, .int .i64 0], .bool false]) (by simp [results, Try.results127, go_sem, x0, x1, x2, x3, x4]) rfl ⟨by rw [HE.out.1, HE.out.2], ?_⟩
    exact (((((bt HB0.out hb2 (Nat.le_refl _)).setCell (p := ⟨w.heap.size, 0, none⟩) (Nat.le_refl _) _).setCell (p := ⟨w.heap.size, 1, none⟩) (Nat.le_refl _) _).setCell (p := ⟨w.heap.size, 2, none⟩) (Nat.le_refl _) _).setCell (p := ⟨w.heap.size, 3, none⟩) (Nat.le_refl _) _).setCell (p := ⟨w.heap.size, 4, none⟩) (Nat.le_refl _) _
  · have HE : Hid (Q = ⟨m.tb, m.first + s, N, 0, 0⟩ ∧ V = true) := ⟨by rw [hq.out]; unfold Mp.ask; rw [if_neg hr, hs, hN], by rw [hV.out, decide_eq_false hr]; rfl⟩
    have HEN1 : Hid (Calls Try.prog 98 #[.pointer (some ⟨g, 0, none⟩)] W0 (BoolPost W0 false)) := by have := HEN.out W0 k0; rw [decide_eq_false hr] at this; exact this
    have sw : IntKind.i64.wrap (m.first + s) = m.first + s := IntWalk.i64_in _ (by have := hm.f0; have := hm.f1; have := hm.kl; have := hm.c1; have := hm.c0; omega)
    have HW0 := hid hW0
    have HB0 := hid hb0
    have P0 := hid p0
    clear hW0 hb0 p0 h hm hq hV HEN hs hN hr
    go_enter Try.func127, Try.ntmps127
    go_upto_region 1 with (fail)
    rw [HW0.out]
    go_upto_region 3 with (go_at_call 98; (with_reducible refine HEN1.out.mono ?_); rintro r w2 ⟨rfl, hb2⟩)
    have c0 : ∀ X, Below w.heap.size w X → X.cell? ⟨g, 0, none⟩ = some (.int .i64 m.tb) := fun X k => hpCell (hpKeep HAT.out k) 0
    have c1 : ∀ X, Below w.heap.size w X → X.cell? ⟨g, 1, none⟩ = some (.int .i64 m.first) := fun X k => hpCell (hpKeep HAT.out k) 1
    have c7 : ∀ X, Below w.heap.size w X → X.cell? ⟨g, 7, none⟩ = some v := fun X k => hpCell (hpKeep HAT.out k) 7
    have hB2 : Below w.heap.size w w2 := bt HB0.out hb2 (Nat.le_refl _)
    have kD : Below w.heap.size w w2.drew := hB2.drew
    have kC : Below W0.heap.size W0 w2.drew := hb2.drew
    have p2 : ∀ X, Below W0.heap.size W0 X → X.heap[w.heap.size]? = some (.cells #[.int .i64 0, .int .i64 0, .int .i64 0, .int .i64 0, .int .i64 0] 34) := fun X k => hpKeep P0.out k
    have kL : ∀ X, Below w.heap.size w X → Below w.heap.size w (((((X.setCell ⟨w.heap.size, 0, none⟩ (.int .i64 m.tb)).setCell ⟨w.heap.size, 1, none⟩ (.int .i64 (m.first + s))).setCell ⟨w.heap.size, 2, none⟩ (.int .i64 N)).setCell ⟨w.heap.size, 3, none⟩ (.int .i64 0)).setCell ⟨w.heap.size, 4, none⟩ (.int .i64 0)) := fun X k => ((((k.setCell (p := ⟨w.heap.size, 0, none⟩) (Nat.le_refl _) _).setCell (p := ⟨w.heap.size, 1, none⟩) (Nat.le_refl _) _).setCell (p := ⟨w.heap.size, 2, none⟩) (Nat.le_refl _) _).setCell (p := ⟨w.heap.size, 3, none⟩) (Nat.le_refl _) _).setCell (p := ⟨w.heap.size, 4, none⟩) (Nat.le_refl _) _
    clear k0
    go_region_held3 (fun X => Below w.heap.size w X) ((with_reducible (first | exact kD | assumption | exact kL _ hBL))) (first
      | (go_at_call 100; (with_reducible refine (HLN.out w2.drew kD).mono ?_); rintro r w4 ⟨rfl, hb4⟩; have hB4 := bt kD hb4 (Nat.le_refl _); have hC4 := bt kC hb4 (Nat.le_refl _))
      | (go_at_call 129; (with_reducible refine (HSZ.out w2.drew kD).mono ?_); rintro r w5 ⟨rfl, hb5⟩; have hB5 := bt kD hb5 (Nat.le_refl _); have hC5 := bt kC hb5 (Nat.le_refl _))
      | (go_at_call 100; (with_reducible refine (HLN.out w5 hB5).mono ?_); rintro r w4 ⟨rfl, hb4⟩; have hBL := bt hB5 hb4 (Nat.le_refl _); have hCL := p2 _ (bt hC5 hb4 (Nat.le_refl _)); have x0 := hpCell hCL 0; have x1 := hpCell hCL 1; have x2 := hpCell hCL 2; have x3 := hpCell hCL 3; have x4 := hpCell hCL 4; have v0 := hpFree hCL 0; have v1 := hpFree hCL 1; have v2 := hpFree hCL 2; have v3 := hpFree hCL 3; have v4 := hpFree hCL 4)
      | (go_at_call 129; (with_reducible refine (HSZ.out w4 hB4).mono ?_); rintro r w5 ⟨rfl, hb5⟩; have hBL := bt hB4 hb5 (Nat.le_refl _); have hCL := p2 _ (bt hC4 hb5 (Nat.le_refl _)); have x0 := hpCell hCL 0; have x1 := hpCell hCL 1; have x2 := hpCell hCL 2; have x3 := hpCell hCL 3; have x4 := hpCell hCL 4; have v0 := hpFree hCL 0; have v1 := hpFree hCL 1; have v2 := hpFree hCL 2; have v3 := hpFree hCL 3; have v4 := hpFree hCL 4))
    all_goals
      go_wp2_with (fail)
      refine bodyPost_ret (v := .tuple #[.agg #[.int .i64 m.tb, .int .i64 (m.first + s), .int .i64 N, .int .i64 0, .int .i64 0], .bool true]) (by simp [results, Try.results127, go_sem, x0, x1, x2, x3, x4]) rfl ⟨by rw [HE.out.1, HE.out.2], ?_⟩
      exact kL _ hBL

end Go.Proofs.Ytliblgmpclefgaa
