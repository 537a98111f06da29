/-
  The program's map: the contract of Feed.
-/
import Derived.Test.YtliblgmpclefgaaMpc
namespace Go.Proofs.Ytliblgmpclefgaa
open Go.RowKit

/-- What Feed leaves. -/
def MpFeed (P : Nat → Prop) (w : World) (g : Nat) (y : Mp) (r : Ending) (w' : World) : Prop := r = .returned (.int .i64 0) ∧ MpFed P w g y w'

set_option maxRecDepth 100000 in
set_option maxHeartbeats 6400000 in
theorem mfeed_seek {P : Nat → Prop} {w : World} {g : Nat} {m : Mp} {v : Value} {q : Int} (h : MpAt P w g m v q) (hm : m.ok) (hr : ¬ m.rest = 0) (h2 : m.mode = 2) (vd x : Int) (f d c l mm n ob : Value) (y : Mp) (hy : y = m.halved (decide (vd = 1)) (decide (vd = 2 ∧ x = 2))) :
    Calls Try.prog 126 #[.pointer (some ⟨g, 0, none⟩), .agg #[.int .i64 vd, f, .int .i64 x, d, c, l, mm, n, ob]] w (MpFeed P w g y) := by
  have dm := b1 h2
  have hH2 := hid h2
  have hd : ((vd == 1) = true ∧ decide (vd = 1) = true) ∨ (decide (vd = 1) = false ∧ (vd == 1) = false ∧ (vd == 2) = true ∧ (x == 2) = true ∧ decide (vd = 2 ∧ x = 2) = true) ∨ (decide (vd = 1) = false ∧ (vd == 1) = false ∧ (vd == 2) = true ∧ (x == 2) = false ∧ decide (vd = 2 ∧ x = 2) = false) ∨ (decide (vd = 1) = false ∧ (vd == 1) = false ∧ (vd == 2) = false ∧ decide (vd = 2 ∧ x = 2) = false) := by
    by_cases h1 : vd = 1
    · exact .inl ⟨b1 h1, decide_eq_true h1⟩
    · by_cases h2 : vd = 2
      · by_cases h3 : x = 2
        · exact .inr (.inl ⟨decide_eq_false h1, b0 h1, b1 h2, b1 h3, decide_eq_true ⟨h2, h3⟩⟩)
        · exact .inr (.inr (.inl ⟨decide_eq_false h1, b0 h1, b1 h2, b0 h3, decide_eq_false (fun e => h3 e.2)⟩))
      · exact .inr (.inr (.inr ⟨decide_eq_false h1, b0 h1, b0 h2, decide_eq_false (fun e => h2 e.1)⟩))
  clear h2
  obtain ⟨W0, hW0⟩ : ∃ W, w.alloc (.cells #[.int .i64 vd, f, .int .i64 x, d, c, l, mm, n, ob] 59) = W := ⟨_, rfl⟩; have hb0 : Below w.heap.size w W0 := (by rw [← hW0]; exact bal' w _); have p0 : W0.heap[w.heap.size]? = some (.cells #[.int .i64 vd, f, .int .i64 x, d, c, l, mm, n, ob] 59) := (by rw [← hW0]; exact hpNew w _); have hgl := h.lt; have hgn : g ≠ w.heap.size := (by omega); obtain ⟨q', sw⟩ : ∃ q', IntKind.i64.wrap (q + 1) = q' := ⟨_, rfl⟩; obtain ⟨N, hN⟩ : ∃ N, m.size = N := ⟨_, rfl⟩; have HEN1 : Hid (Calls Try.prog 98 #[.pointer (some ⟨g, 0, none⟩)] W0 (BoolPost W0 false)) := (mended_any (h.grow hb0 P (fun _ e => e)) hm _ (decide_eq_false hr)); have c8 : ∀ X, Below W0.heap.size W0 X → X.cell? ⟨g, 8, none⟩ = some (.int .i64 q) := (fun X k => hpCell (hpKeep h.at_ (bt hb0 k (Nat.le_refl _))) 8); have f8 : ∀ X, Below W0.heap.size W0 X → X.frozen? ⟨g, 8, none⟩ = false := (fun X k => hpFree (hpKeep h.at_ (bt hb0 k (Nat.le_refl _))) 8); have HW0 := hid hW0; have HB0 := hid hb0; have P0 := hid p0; have H := hid h; have HM := hid hm; have HN := hid hN; clear hW0 hb0 p0 h hm hr hN
  rcases hd with ⟨d1, t1⟩ | ⟨t1, d1, d2, d3, t2⟩ | ⟨t1, d1, d2, d3, t2⟩ | ⟨t1, d1, d2, t2⟩
  · have d23 : ((vd == 2) = false) ∨ ((vd == 2) = true ∧ (x == 2) = false) ∨ ((vd == 2) = true ∧ (x == 2) = true) := by cases vd == 2 <;> cases x == 2 <;> simp
    rcases d23 with d2 | ⟨d2, d3⟩ | ⟨d2, d3⟩
    all_goals
      rw [t1] at hy
      have HHV : Hid (∀ n X, MpAt P X g m v q' → Calls Try.prog 130 #[.pointer (some ⟨g, 0, none⟩), .int .i64 N, .bool true, .bool n] X (EndPost P X g y)) := fun n X hX => mhalve_any hX HM.out hH2.out true n N HN.out y (by rw [hy]; unfold Mp.halved; rw [if_pos rfl, if_pos rfl])
      clear hy t1
      go_enter Try.func126, Try.ntmps126; go_upto_region 1 with (fail); rw [HW0.out]; go_upto_region 6 with (go_at_call 98; (with_reducible refine HEN1.out.mono ?_); rintro r w1 ⟨rfl, hb1⟩); have hA8 : MpAt P (w1.setCell ⟨g, 8, none⟩ (.int .i64 q')) g m v q' := (H.out.grow (bt HB0.out hb1 (Nat.le_refl _)) P (fun _ e => e)).cell_set 8 _ m q' rfl rfl; have p8 : (w1.setCell ⟨g, 8, none⟩ (.int .i64 q')).heap[w.heap.size]? = some (.cells #[.int .i64 vd, f, .int .i64 x, d, c, l, mm, n, ob] 59) := (hpOther (Ne.symm hgn)).trans (hpKeep P0.out hb1); have hk8 : Keeps (· = g) w (w1.setCell ⟨g, 8, none⟩ (.int .i64 q')) := ks1 (Keeps.of_below (bt HB0.out hb1 (Nat.le_refl _))) _ _; clear c8 f8; generalize w1.setCell ⟨g, 8, none⟩ (.int .i64 q') = W8 at *; have e0 : W8.cell? ⟨w.heap.size, 0, none⟩ = some (.int .i64 vd) := hpCell p8 0; have e2 : W8.cell? ⟨w.heap.size, 2, none⟩ = some (.int .i64 x) := hpCell p8 2; have c4 : ∀ X, Below W8.heap.size W8 X → X.cell? ⟨g, 4, none⟩ = some (.int .i64 m.mode) := (fun X k => hpCell (hpKeep hA8.at_ k) 4); have HSZ : Hid (Calls Try.prog 129 #[.pointer (some ⟨g, 0, none⟩)] W8 (IntPost W8 N)) := (msize_any hA8 HM.out N HN.out); have HP8 := hid p8; have HA8 := hid hA8; have HK8 := hid hk8; clear p8 hA8 hk8; go_upto_region 10 with (go_at_call 129; (with_reducible refine HSZ.out.mono ?_); rintro r w9 ⟨rfl, hb9⟩); have HA9 : Hid (MpAt P w9 g m v q') := HA8.out.grow hb9 P (fun _ e => e); have hk9 : Keeps (· = g) w w9 := HK8.out.trans (Keeps.of_below hb9) (fun _ _ e => e)
      go_wp2_with (go_at_call 130; (with_reducible refine (HHV.out _ _ HA9.out).mono ?_); rintro r w5 ⟨rfl, hF5⟩)
      go_ret
      exact ⟨rfl, hF5.from hk9⟩
  · rw [t1, t2] at hy
    have HHV : Hid (∀ X, MpAt P X g m v q' → Calls Try.prog 130 #[.pointer (some ⟨g, 0, none⟩), .int .i64 N, .bool false, .bool true] X (EndPost P X g y)) := fun X hX => mhalve_any hX HM.out hH2.out false true N HN.out y hy
    clear hy t1 t2
    go_enter Try.func126, Try.ntmps126; go_upto_region 1 with (fail); rw [HW0.out]; go_upto_region 6 with (go_at_call 98; (with_reducible refine HEN1.out.mono ?_); rintro r w1 ⟨rfl, hb1⟩); have hA8 : MpAt P (w1.setCell ⟨g, 8, none⟩ (.int .i64 q')) g m v q' := (H.out.grow (bt HB0.out hb1 (Nat.le_refl _)) P (fun _ e => e)).cell_set 8 _ m q' rfl rfl; have p8 : (w1.setCell ⟨g, 8, none⟩ (.int .i64 q')).heap[w.heap.size]? = some (.cells #[.int .i64 vd, f, .int .i64 x, d, c, l, mm, n, ob] 59) := (hpOther (Ne.symm hgn)).trans (hpKeep P0.out hb1); have hk8 : Keeps (· = g) w (w1.setCell ⟨g, 8, none⟩ (.int .i64 q')) := ks1 (Keeps.of_below (bt HB0.out hb1 (Nat.le_refl _))) _ _; clear c8 f8; generalize w1.setCell ⟨g, 8, none⟩ (.int .i64 q') = W8 at *; have e0 : W8.cell? ⟨w.heap.size, 0, none⟩ = some (.int .i64 vd) := hpCell p8 0; have e2 : W8.cell? ⟨w.heap.size, 2, none⟩ = some (.int .i64 x) := hpCell p8 2; have c4 : ∀ X, Below W8.heap.size W8 X → X.cell? ⟨g, 4, none⟩ = some (.int .i64 m.mode) := (fun X k => hpCell (hpKeep hA8.at_ k) 4); have HSZ : Hid (Calls Try.prog 129 #[.pointer (some ⟨g, 0, none⟩)] W8 (IntPost W8 N)) := (msize_any hA8 HM.out N HN.out); have HP8 := hid p8; have HA8 := hid hA8; have HK8 := hid hk8; clear p8 hA8 hk8; go_upto_region 10 with (go_at_call 129; (with_reducible refine HSZ.out.mono ?_); rintro r w9 ⟨rfl, hb9⟩); have HA9 : Hid (MpAt P w9 g m v q') := HA8.out.grow hb9 P (fun _ e => e); have hk9 : Keeps (· = g) w w9 := HK8.out.trans (Keeps.of_below hb9) (fun _ _ e => e)
    go_wp2_with (go_at_call 130; (with_reducible refine (HHV.out _ HA9.out).mono ?_); rintro r w5 ⟨rfl, hF5⟩)
    go_ret
    exact ⟨rfl, hF5.from hk9⟩
  all_goals
    rw [t1, t2] at hy
    have HHV : Hid (∀ X, MpAt P X g m v q' → Calls Try.prog 130 #[.pointer (some ⟨g, 0, none⟩), .int .i64 N, .bool false, .bool false] X (EndPost P X g y)) := fun X hX => mhalve_any hX HM.out hH2.out false false N HN.out y hy
    clear hy t1 t2
    go_enter Try.func126, Try.ntmps126; go_upto_region 1 with (fail); rw [HW0.out]; go_upto_region 6 with (go_at_call 98; (with_reducible refine HEN1.out.mono ?_); rintro r w1 ⟨rfl, hb1⟩); have hA8 : MpAt P (w1.setCell ⟨g, 8, none⟩ (.int .i64 q')) g m v q' := (H.out.grow (bt HB0.out hb1 (Nat.le_refl _)) P (fun _ e => e)).cell_set 8 _ m q' rfl rfl; have p8 : (w1.setCell ⟨g, 8, none⟩ (.int .i64 q')).heap[w.heap.size]? = some (.cells #[.int .i64 vd, f, .int .i64 x, d, c, l, mm, n, ob] 59) := (hpOther (Ne.symm hgn)).trans (hpKeep P0.out hb1); have hk8 : Keeps (· = g) w (w1.setCell ⟨g, 8, none⟩ (.int .i64 q')) := ks1 (Keeps.of_below (bt HB0.out hb1 (Nat.le_refl _))) _ _; clear c8 f8; generalize w1.setCell ⟨g, 8, none⟩ (.int .i64 q') = W8 at *; have e0 : W8.cell? ⟨w.heap.size, 0, none⟩ = some (.int .i64 vd) := hpCell p8 0; have e2 : W8.cell? ⟨w.heap.size, 2, none⟩ = some (.int .i64 x) := hpCell p8 2; have c4 : ∀ X, Below W8.heap.size W8 X → X.cell? ⟨g, 4, none⟩ = some (.int .i64 m.mode) := (fun X k => hpCell (hpKeep hA8.at_ k) 4); have HSZ : Hid (Calls Try.prog 129 #[.pointer (some ⟨g, 0, none⟩)] W8 (IntPost W8 N)) := (msize_any hA8 HM.out N HN.out); have HP8 := hid p8; have HA8 := hid hA8; have HK8 := hid hk8; clear p8 hA8 hk8; go_upto_region 10 with (go_at_call 129; (with_reducible refine HSZ.out.mono ?_); rintro r w9 ⟨rfl, hb9⟩); have HA9 : Hid (MpAt P w9 g m v q') := HA8.out.grow hb9 P (fun _ e => e); have hk9 : Keeps (· = g) w w9 := HK8.out.trans (Keeps.of_below hb9) (fun _ _ e => e)
    go_wp2_with (go_at_call 130; (with_reducible refine (HHV.out _ HA9.out).mono ?_); rintro r w5 ⟨rfl, hF5⟩)
    go_ret
    exact ⟨rfl, hF5.from hk9⟩

set_option maxRecDepth 100000 in
set_option maxHeartbeats 6400000 in
theorem mfeed_else {P : Nat → Prop} {w : World} {g : Nat} {m : Mp} {v : Value} {q : Int} (h : MpAt P w g m v q) (hm : m.ok) (hr : ¬ m.rest = 0) (h2 : ¬ m.mode = 2) (vd x : Int) (f d c l mm n ob : Value) (y : Mp)
    (hy : y = if vd = 1 then m.learn m.size 1 1 else if vd = 2 ∧ x = 2 then (if 1 < m.size then { m with mode := 2, lo := 0, hi := m.size } else m.learn 1 2 0) else if 1 < m.size then { m with mode := 0 } else m.learn 1 3 0) :
    Calls Try.prog 126 #[.pointer (some ⟨g, 0, none⟩), .agg #[.int .i64 vd, f, .int .i64 x, d, c, l, mm, n, ob]] w (MpFeed P w g y) := by
  have dm := b0 h2
  have hR : 1 ≤ m.rest := by have := hm.kl; unfold Mp.rest at *; omega
  have hsz : 1 ≤ m.size ∧ m.size ≤ m.rest := by
    unfold Mp.size
    have := hm.m0
    split
    · split <;> omega
    · omega
  have HR : Hid (1 ≤ m.rest) := hR
  have HS := hid hsz
  have hlen : (m.ks.length : Int) + m.rest ≤ 512 := by have := hm.c1; unfold Mp.rest; omega
  have HLEN := hid hlen
  clear h2 hR hsz hlen
  by_cases h1 : vd = 1
  · rw [if_pos h1] at hy
    have d1 := b1 h1
    clear h1
    have hd : ((vd == 2) = false) ∨ ((vd == 2) = true ∧ (x == 2) = false) ∨ ((vd == 2) = true ∧ (x == 2) = true) := by cases vd == 2 <;> cases x == 2 <;> simp
    obtain ⟨W0, hW0⟩ : ∃ W, w.alloc (.cells #[.int .i64 vd, f, .int .i64 x, d, c, l, mm, n, ob] 59) = W := ⟨_, rfl⟩; have hb0 : Below w.heap.size w W0 := (by rw [← hW0]; exact bal' w _); have p0 : W0.heap[w.heap.size]? = some (.cells #[.int .i64 vd, f, .int .i64 x, d, c, l, mm, n, ob] 59) := (by rw [← hW0]; exact hpNew w _); have hgl := h.lt; have hgn : g ≠ w.heap.size := (by omega); obtain ⟨q', sw⟩ : ∃ q', IntKind.i64.wrap (q + 1) = q' := ⟨_, rfl⟩; obtain ⟨N, hN⟩ : ∃ N, m.size = N := ⟨_, rfl⟩; have HEN1 : Hid (Calls Try.prog 98 #[.pointer (some ⟨g, 0, none⟩)] W0 (BoolPost W0 false)) := (mended_any (h.grow hb0 P (fun _ e => e)) hm _ (decide_eq_false hr)); have c8 : ∀ X, Below W0.heap.size W0 X → X.cell? ⟨g, 8, none⟩ = some (.int .i64 q) := (fun X k => hpCell (hpKeep h.at_ (bt hb0 k (Nat.le_refl _))) 8); have f8 : ∀ X, Below W0.heap.size W0 X → X.frozen? ⟨g, 8, none⟩ = false := (fun X k => hpFree (hpKeep h.at_ (bt hb0 k (Nat.le_refl _))) 8); have HW0 := hid hW0; have HB0 := hid hb0; have P0 := hid p0; have H := hid h; have HM := hid hm; have HN := hid hN; clear hW0 hb0 p0 h hm hr hN
    have HLE : Hid (∀ X, MpAt P X g m v q' → Calls Try.prog 131 #[.pointer (some ⟨g, 0, none⟩), .int .i64 N, .int .i64 1, .int .i64 1] X (EndPost P X g y)) := fun X hX => mlearn_any hX N 1 1 (by have := HS.out; have := HN.out; omega) (by have := HS.out; have := HN.out; have := HLEN.out; omega) y (by rw [hy, HN.out])
    clear hy
    rcases hd with d2 | ⟨d2, d3⟩ | ⟨d2, d3⟩
    all_goals
      go_enter Try.func126, Try.ntmps126; go_upto_region 1 with (fail); rw [HW0.out]; go_upto_region 6 with (go_at_call 98; (with_reducible refine HEN1.out.mono ?_); rintro r w1 ⟨rfl, hb1⟩); have hA8 : MpAt P (w1.setCell ⟨g, 8, none⟩ (.int .i64 q')) g m v q' := (H.out.grow (bt HB0.out hb1 (Nat.le_refl _)) P (fun _ e => e)).cell_set 8 _ m q' rfl rfl; have p8 : (w1.setCell ⟨g, 8, none⟩ (.int .i64 q')).heap[w.heap.size]? = some (.cells #[.int .i64 vd, f, .int .i64 x, d, c, l, mm, n, ob] 59) := (hpOther (Ne.symm hgn)).trans (hpKeep P0.out hb1); have hk8 : Keeps (· = g) w (w1.setCell ⟨g, 8, none⟩ (.int .i64 q')) := ks1 (Keeps.of_below (bt HB0.out hb1 (Nat.le_refl _))) _ _; clear c8 f8; generalize w1.setCell ⟨g, 8, none⟩ (.int .i64 q') = W8 at *; have e0 : W8.cell? ⟨w.heap.size, 0, none⟩ = some (.int .i64 vd) := hpCell p8 0; have e2 : W8.cell? ⟨w.heap.size, 2, none⟩ = some (.int .i64 x) := hpCell p8 2; have c4 : ∀ X, Below W8.heap.size W8 X → X.cell? ⟨g, 4, none⟩ = some (.int .i64 m.mode) := (fun X k => hpCell (hpKeep hA8.at_ k) 4); have HSZ : Hid (Calls Try.prog 129 #[.pointer (some ⟨g, 0, none⟩)] W8 (IntPost W8 N)) := (msize_any hA8 HM.out N HN.out); have HP8 := hid p8; have HA8 := hid hA8; have HK8 := hid hk8; clear p8 hA8 hk8; go_upto_region 10 with (go_at_call 129; (with_reducible refine HSZ.out.mono ?_); rintro r w9 ⟨rfl, hb9⟩); have HA9 : Hid (MpAt P w9 g m v q') := HA8.out.grow hb9 P (fun _ e => e); have hk9 : Keeps (· = g) w w9 := HK8.out.trans (Keeps.of_below hb9) (fun _ _ e => e)
      go_wp2_with (go_at_call 131; (with_reducible refine (HLE.out _ HA9.out).mono ?_); rintro r w5 ⟨rfl, hF5⟩)
      go_ret
      exact ⟨rfl, hF5.from hk9⟩
  · rw [if_neg h1] at hy
    have d1 := b0 h1
    clear h1
    by_cases hn : vd = 2 ∧ x = 2
    · rw [if_pos hn] at hy
      have d2 := b1 hn.1
      have d3 := b1 hn.2
      clear hn
      by_cases hs : 1 < m.size
      · rw [if_pos hs] at hy
        have HSS := hid hs
        clear hs
        obtain ⟨W0, hW0⟩ : ∃ W, w.alloc (.cells #[.int .i64 vd, f, .int .i64 x, d, c, l, mm, n, ob] 59) = W := ⟨_, rfl⟩; have hb0 : Below w.heap.size w W0 := (by rw [← hW0]; exact bal' w _); have p0 : W0.heap[w.heap.size]? = some (.cells #[.int .i64 vd, f, .int .i64 x, d, c, l, mm, n, ob] 59) := (by rw [← hW0]; exact hpNew w _); have hgl := h.lt; have hgn : g ≠ w.heap.size := (by omega); obtain ⟨q', sw⟩ : ∃ q', IntKind.i64.wrap (q + 1) = q' := ⟨_, rfl⟩; obtain ⟨N, hN⟩ : ∃ N, m.size = N := ⟨_, rfl⟩; have HEN1 : Hid (Calls Try.prog 98 #[.pointer (some ⟨g, 0, none⟩)] W0 (BoolPost W0 false)) := (mended_any (h.grow hb0 P (fun _ e => e)) hm _ (decide_eq_false hr)); have c8 : ∀ X, Below W0.heap.size W0 X → X.cell? ⟨g, 8, none⟩ = some (.int .i64 q) := (fun X k => hpCell (hpKeep h.at_ (bt hb0 k (Nat.le_refl _))) 8); have f8 : ∀ X, Below W0.heap.size W0 X → X.frozen? ⟨g, 8, none⟩ = false := (fun X k => hpFree (hpKeep h.at_ (bt hb0 k (Nat.le_refl _))) 8); have HW0 := hid hW0; have HB0 := hid hb0; have P0 := hid p0; have H := hid h; have HM := hid hm; have HN := hid hN; clear hW0 hb0 p0 h hm hr hN
        have ds : 1 < N := by have := HSS.out; have := HN.out; omega
        rw [HN.out] at hy
        have HY := hid hy
        clear hy
        go_enter Try.func126, Try.ntmps126; go_upto_region 1 with (fail); rw [HW0.out]; go_upto_region 6 with (go_at_call 98; (with_reducible refine HEN1.out.mono ?_); rintro r w1 ⟨rfl, hb1⟩); have hA8 : MpAt P (w1.setCell ⟨g, 8, none⟩ (.int .i64 q')) g m v q' := (H.out.grow (bt HB0.out hb1 (Nat.le_refl _)) P (fun _ e => e)).cell_set 8 _ m q' rfl rfl; have p8 : (w1.setCell ⟨g, 8, none⟩ (.int .i64 q')).heap[w.heap.size]? = some (.cells #[.int .i64 vd, f, .int .i64 x, d, c, l, mm, n, ob] 59) := (hpOther (Ne.symm hgn)).trans (hpKeep P0.out hb1); have hk8 : Keeps (· = g) w (w1.setCell ⟨g, 8, none⟩ (.int .i64 q')) := ks1 (Keeps.of_below (bt HB0.out hb1 (Nat.le_refl _))) _ _; clear c8 f8; generalize w1.setCell ⟨g, 8, none⟩ (.int .i64 q') = W8 at *; have e0 : W8.cell? ⟨w.heap.size, 0, none⟩ = some (.int .i64 vd) := hpCell p8 0; have e2 : W8.cell? ⟨w.heap.size, 2, none⟩ = some (.int .i64 x) := hpCell p8 2; have c4 : ∀ X, Below W8.heap.size W8 X → X.cell? ⟨g, 4, none⟩ = some (.int .i64 m.mode) := (fun X k => hpCell (hpKeep hA8.at_ k) 4); have HSZ : Hid (Calls Try.prog 129 #[.pointer (some ⟨g, 0, none⟩)] W8 (IntPost W8 N)) := (msize_any hA8 HM.out N HN.out); have HP8 := hid p8; have HA8 := hid hA8; have HK8 := hid hk8; clear p8 hA8 hk8; go_upto_region 10 with (go_at_call 129; (with_reducible refine HSZ.out.mono ?_); rintro r w9 ⟨rfl, hb9⟩); have HA9 : Hid (MpAt P w9 g m v q') := HA8.out.grow hb9 P (fun _ e => e); have hk9 : Keeps (· = g) w w9 := HK8.out.trans (Keeps.of_below hb9) (fun _ _ e => e)
        have f9 : ∀ i, w9.frozen? ⟨g, i, none⟩ = false := fun i => hpFree HA9.out.at_ i
        have c9 := hpCell HA9.out.at_
        have f94 := f9 4
        have f95 := f9 5
        have f96 := f9 6
        have c94 : w9.cell? ⟨g, 4, none⟩ = some (.int .i64 m.mode) := c9 4
        have c95 : w9.cell? ⟨g, 5, none⟩ = some (.int .i64 m.lo) := c9 5
        have c96 : w9.cell? ⟨g, 6, none⟩ = some (.int .i64 m.hi) := c9 6
        clear f9 c9
        go_wp2
        go_ret
        refine ⟨rfl, ?_⟩
        rw [HY.out]
        exact MpFed.of (((HA9.out.cell_set 4 (.int .i64 2) { m with mode := 2 } q' rfl rfl).cell_set 5 (.int .i64 0) { m with mode := 2, lo := 0 } q' rfl rfl).cell_set 6 (.int .i64 N) { m with mode := 2, lo := 0, hi := N } q' rfl rfl) (ks1 (ks1 (ks1 hk9 _ _) _ _) _ _)
      · rw [if_neg hs] at hy
        have HSS := hid hs
        clear hs
        obtain ⟨W0, hW0⟩ : ∃ W, w.alloc (.cells #[.int .i64 vd, f, .int .i64 x, d, c, l, mm, n, ob] 59) = W := ⟨_, rfl⟩; have hb0 : Below w.heap.size w W0 := (by rw [← hW0]; exact bal' w _); have p0 : W0.heap[w.heap.size]? = some (.cells #[.int .i64 vd, f, .int .i64 x, d, c, l, mm, n, ob] 59) := (by rw [← hW0]; exact hpNew w _); have hgl := h.lt; have hgn : g ≠ w.heap.size := (by omega); obtain ⟨q', sw⟩ : ∃ q', IntKind.i64.wrap (q + 1) = q' := ⟨_, rfl⟩; obtain ⟨N, hN⟩ : ∃ N, m.size = N := ⟨_, rfl⟩; have HEN1 : Hid (Calls Try.prog 98 #[.pointer (some ⟨g, 0, none⟩)] W0 (BoolPost W0 false)) := (mended_any (h.grow hb0 P (fun _ e => e)) hm _ (decide_eq_false hr)); have c8 : ∀ X, Below W0.heap.size W0 X → X.cell? ⟨g, 8, none⟩ = some (.int .i64 q) := (fun X k => hpCell (hpKeep h.at_ (bt hb0 k (Nat.le_refl _))) 8); have f8 : ∀ X, Below W0.heap.size W0 X → X.frozen? ⟨g, 8, none⟩ = false := (fun X k => hpFree (hpKeep h.at_ (bt hb0 k (Nat.le_refl _))) 8); have HW0 := hid hW0; have HB0 := hid hb0; have P0 := hid p0; have H := hid h; have HM := hid hm; have HN := hid hN; clear hW0 hb0 p0 h hm hr hN
        have ds : ¬ 1 < N := by have := HSS.out; have := HN.out; omega
        have HLE : Hid (∀ X, MpAt P X g m v q' → Calls Try.prog 131 #[.pointer (some ⟨g, 0, none⟩), .int .i64 1, .int .i64 2, .int .i64 0] X (EndPost P X g y)) := fun X hX => mlearn_any hX 1 2 0 (by decide) (by have := HLEN.out; have := HR.out; omega) y hy
        clear hy
        go_enter Try.func126, Try.ntmps126; go_upto_region 1 with (fail); rw [HW0.out]; go_upto_region 6 with (go_at_call 98; (with_reducible refine HEN1.out.mono ?_); rintro r w1 ⟨rfl, hb1⟩); have hA8 : MpAt P (w1.setCell ⟨g, 8, none⟩ (.int .i64 q')) g m v q' := (H.out.grow (bt HB0.out hb1 (Nat.le_refl _)) P (fun _ e => e)).cell_set 8 _ m q' rfl rfl; have p8 : (w1.setCell ⟨g, 8, none⟩ (.int .i64 q')).heap[w.heap.size]? = some (.cells #[.int .i64 vd, f, .int .i64 x, d, c, l, mm, n, ob] 59) := (hpOther (Ne.symm hgn)).trans (hpKeep P0.out hb1); have hk8 : Keeps (· = g) w (w1.setCell ⟨g, 8, none⟩ (.int .i64 q')) := ks1 (Keeps.of_below (bt HB0.out hb1 (Nat.le_refl _))) _ _; clear c8 f8; generalize w1.setCell ⟨g, 8, none⟩ (.int .i64 q') = W8 at *; have e0 : W8.cell? ⟨w.heap.size, 0, none⟩ = some (.int .i64 vd) := hpCell p8 0; have e2 : W8.cell? ⟨w.heap.size, 2, none⟩ = some (.int .i64 x) := hpCell p8 2; have c4 : ∀ X, Below W8.heap.size W8 X → X.cell? ⟨g, 4, none⟩ = some (.int .i64 m.mode) := (fun X k => hpCell (hpKeep hA8.at_ k) 4); have HSZ : Hid (Calls Try.prog 129 #[.pointer (some ⟨g, 0, none⟩)] W8 (IntPost W8 N)) := (msize_any hA8 HM.out N HN.out); have HP8 := hid p8; have HA8 := hid hA8; have HK8 := hid hk8; clear p8 hA8 hk8; go_upto_region 10 with (go_at_call 129; (with_reducible refine HSZ.out.mono ?_); rintro r w9 ⟨rfl, hb9⟩); have HA9 : Hid (MpAt P w9 g m v q') := HA8.out.grow hb9 P (fun _ e => e); have hk9 : Keeps (· = g) w w9 := HK8.out.trans (Keeps.of_below hb9) (fun _ _ e => e)
        go_wp2_with (go_at_call 131; (with_reducible refine (HLE.out _ HA9.out).mono ?_); rintro r w5 ⟨rfl, hF5⟩)
        go_ret
        exact ⟨rfl, hF5.from hk9⟩
    · rw [if_neg hn] at hy
      have hd : ((vd == 2) = false) ∨ ((vd == 2) = true ∧ (x == 2) = false) := by
        by_cases h2 : vd = 2
        · exact .inr ⟨b1 h2, b0 (fun e => hn ⟨h2, e⟩)⟩
        · exact .inl (b0 h2)
      clear hn
      by_cases hs : 1 < m.size
      · rw [if_pos hs] at hy
        have HSS := hid hs
        clear hs
        obtain ⟨W0, hW0⟩ : ∃ W, w.alloc (.cells #[.int .i64 vd, f, .int .i64 x, d, c, l, mm, n, ob] 59) = W := ⟨_, rfl⟩; have hb0 : Below w.heap.size w W0 := (by rw [← hW0]; exact bal' w _); have p0 : W0.heap[w.heap.size]? = some (.cells #[.int .i64 vd, f, .int .i64 x, d, c, l, mm, n, ob] 59) := (by rw [← hW0]; exact hpNew w _); have hgl := h.lt; have hgn : g ≠ w.heap.size := (by omega); obtain ⟨q', sw⟩ : ∃ q', IntKind.i64.wrap (q + 1) = q' := ⟨_, rfl⟩; obtain ⟨N, hN⟩ : ∃ N, m.size = N := ⟨_, rfl⟩; have HEN1 : Hid (Calls Try.prog 98 #[.pointer (some ⟨g, 0, none⟩)] W0 (BoolPost W0 false)) := (mended_any (h.grow hb0 P (fun _ e => e)) hm _ (decide_eq_false hr)); have c8 : ∀ X, Below W0.heap.size W0 X → X.cell? ⟨g, 8, none⟩ = some (.int .i64 q) := (fun X k => hpCell (hpKeep h.at_ (bt hb0 k (Nat.le_refl _))) 8); have f8 : ∀ X, Below W0.heap.size W0 X → X.frozen? ⟨g, 8, none⟩ = false := (fun X k => hpFree (hpKeep h.at_ (bt hb0 k (Nat.le_refl _))) 8); have HW0 := hid hW0; have HB0 := hid hb0; have P0 := hid p0; have H := hid h; have HM := hid hm; have HN := hid hN; clear hW0 hb0 p0 h hm hr hN
        have ds : 1 < N := by have := HSS.out; have := HN.out; omega
        have HY := hid hy
        clear hy
        rcases hd with d2 | ⟨d2, d3⟩
        all_goals
          go_enter Try.func126, Try.ntmps126; go_upto_region 1 with (fail); rw [HW0.out]; go_upto_region 6 with (go_at_call 98; (with_reducible refine HEN1.out.mono ?_); rintro r w1 ⟨rfl, hb1⟩); have hA8 : MpAt P (w1.setCell ⟨g, 8, none⟩ (.int .i64 q')) g m v q' := (H.out.grow (bt HB0.out hb1 (Nat.le_refl _)) P (fun _ e => e)).cell_set 8 _ m q' rfl rfl; have p8 : (w1.setCell ⟨g, 8, none⟩ (.int .i64 q')).heap[w.heap.size]? = some (.cells #[.int .i64 vd, f, .int .i64 x, d, c, l, mm, n, ob] 59) := (hpOther (Ne.symm hgn)).trans (hpKeep P0.out hb1); have hk8 : Keeps (· = g) w (w1.setCell ⟨g, 8, none⟩ (.int .i64 q')) := ks1 (Keeps.of_below (bt HB0.out hb1 (Nat.le_refl _))) _ _; clear c8 f8; generalize w1.setCell ⟨g, 8, none⟩ (.int .i64 q') = W8 at *; have e0 : W8.cell? ⟨w.heap.size, 0, none⟩ = some (.int .i64 vd) := hpCell p8 0; have e2 : W8.cell? ⟨w.heap.size, 2, none⟩ = some (.int .i64 x) := hpCell p8 2; have c4 : ∀ X, Below W8.heap.size W8 X → X.cell? ⟨g, 4, none⟩ = some (.int .i64 m.mode) := (fun X k => hpCell (hpKeep hA8.at_ k) 4); have HSZ : Hid (Calls Try.prog 129 #[.pointer (some ⟨g, 0, none⟩)] W8 (IntPost W8 N)) := (msize_any hA8 HM.out N HN.out); have HP8 := hid p8; have HA8 := hid hA8; have HK8 := hid hk8; clear p8 hA8 hk8; go_upto_region 10 with (go_at_call 129; (with_reducible refine HSZ.out.mono ?_); rintro r w9 ⟨rfl, hb9⟩); have HA9 : Hid (MpAt P w9 g m v q') := HA8.out.grow hb9 P (fun _ e => e); have hk9 : Keeps (· = g) w w9 := HK8.out.trans (Keeps.of_below hb9) (fun _ _ e => e)
          have f94 : w9.frozen? ⟨g, 4, none⟩ = false := hpFree HA9.out.at_ 4
          have c94 : w9.cell? ⟨g, 4, none⟩ = some (.int .i64 m.mode) := hpCell HA9.out.at_ 4
          go_wp2
          go_ret
          refine ⟨rfl, ?_⟩
          rw [HY.out]
          exact MpFed.of (HA9.out.cell_set 4 (.int .i64 0) { m with mode := 0 } q' rfl rfl) (ks1 hk9 _ _)
      · rw [if_neg hs] at hy
        have HSS := hid hs
        clear hs
        obtain ⟨W0, hW0⟩ : ∃ W, w.alloc (.cells #[.int .i64 vd, f, .int .i64 x, d, c, l, mm, n, ob] 59) = W := ⟨_, rfl⟩; have hb0 : Below w.heap.size w W0 := (by rw [← hW0]; exact bal' w _); have p0 : W0.heap[w.heap.size]? = some (.cells #[.int .i64 vd, f, .int .i64 x, d, c, l, mm, n, ob] 59) := (by rw [← hW0]; exact hpNew w _); have hgl := h.lt; have hgn : g ≠ w.heap.size := (by omega); obtain ⟨q', sw⟩ : ∃ q', IntKind.i64.wrap (q + 1) = q' := ⟨_, rfl⟩; obtain ⟨N, hN⟩ : ∃ N, m.size = N := ⟨_, rfl⟩; have HEN1 : Hid (Calls Try.prog 98 #[.pointer (some ⟨g, 0, none⟩)] W0 (BoolPost W0 false)) := (mended_any (h.grow hb0 P (fun _ e => e)) hm _ (decide_eq_false hr)); have c8 : ∀ X, Below W0.heap.size W0 X → X.cell? ⟨g, 8, none⟩ = some (.int .i64 q) := (fun X k => hpCell (hpKeep h.at_ (bt hb0 k (Nat.le_refl _))) 8); have f8 : ∀ X, Below W0.heap.size W0 X → X.frozen? ⟨g, 8, none⟩ = false := (fun X k => hpFree (hpKeep h.at_ (bt hb0 k (Nat.le_refl _))) 8); have HW0 := hid hW0; have HB0 := hid hb0; have P0 := hid p0; have H := hid h; have HM := hid hm; have HN := hid hN; clear hW0 hb0 p0 h hm hr hN
        have ds : ¬ 1 < N := by have := HSS.out; have := HN.out; omega
        have HLE : Hid (∀ X, MpAt P X g m v q' → Calls Try.prog 131 #[.pointer (some ⟨g, 0, none⟩), .int .i64 1, .int .i64 3, .int .i64 0] X (EndPost P X g y)) := fun X hX => mlearn_any hX 1 3 0 (by decide) (by have := HLEN.out; have := HR.out; omega) y hy
        clear hy
        rcases hd with d2 | ⟨d2, d3⟩
        all_goals
          go_enter Try.func126, Try.ntmps126; go_upto_region 1 with (fail); rw [HW0.out]; go_upto_region 6 with (go_at_call 98; (with_reducible refine HEN1.out.mono ?_); rintro r w1 ⟨rfl, hb1⟩); have hA8 : MpAt P (w1.setCell ⟨g, 8, none⟩ (.int .i64 q')) g m v q' := (H.out.grow (bt HB0.out hb1 (Nat.le_refl _)) P (fun _ e => e)).cell_set 8 _ m q' rfl rfl; have p8 : (w1.setCell ⟨g, 8, none⟩ (.int .i64 q')).heap[w.heap.size]? = some (.cells #[.int .i64 vd, f, .int .i64 x, d, c, l, mm, n, ob] 59) := (hpOther (Ne.symm hgn)).trans (hpKeep P0.out hb1); have hk8 : Keeps (· = g) w (w1.setCell ⟨g, 8, none⟩ (.int .i64 q')) := ks1 (Keeps.of_below (bt HB0.out hb1 (Nat.le_refl _))) _ _; clear c8 f8; generalize w1.setCell ⟨g, 8, none⟩ (.int .i64 q') = W8 at *; have e0 : W8.cell? ⟨w.heap.size, 0, none⟩ = some (.int .i64 vd) := hpCell p8 0; have e2 : W8.cell? ⟨w.heap.size, 2, none⟩ = some (.int .i64 x) := hpCell p8 2; have c4 : ∀ X, Below W8.heap.size W8 X → X.cell? ⟨g, 4, none⟩ = some (.int .i64 m.mode) := (fun X k => hpCell (hpKeep hA8.at_ k) 4); have HSZ : Hid (Calls Try.prog 129 #[.pointer (some ⟨g, 0, none⟩)] W8 (IntPost W8 N)) := (msize_any hA8 HM.out N HN.out); have HP8 := hid p8; have HA8 := hid hA8; have HK8 := hid hk8; clear p8 hA8 hk8; go_upto_region 10 with (go_at_call 129; (with_reducible refine HSZ.out.mono ?_); rintro r w9 ⟨rfl, hb9⟩); have HA9 : Hid (MpAt P w9 g m v q') := HA8.out.grow hb9 P (fun _ e => e); have hk9 : Keeps (· = g) w w9 := HK8.out.trans (Keeps.of_below hb9) (fun _ _ e => e)
          go_wp2_with (go_at_call 131; (with_reducible refine (HLE.out _ HA9.out).mono ?_); rintro r w5 ⟨rfl, hF5⟩)
          go_ret
          exact ⟨rfl, hF5.from hk9⟩

theorem mfeed_any {P : Nat → Prop} {w : World} {g : Nat} {m : Mp} {v : Value} {q : Int} (h : MpAt P w g m v q) (hm : m.ok) (hr : ¬ m.rest = 0) (vd x : Int) (f d c l mm n ob : Value) :
    Calls Try.prog 126 #[.pointer (some ⟨g, 0, none⟩), .agg #[.int .i64 vd, f, .int .i64 x, d, c, l, mm, n, ob]] w (MpFeed P w g (m.feed vd x)) := by
  by_cases h2 : m.mode = 2
  · refine mfeed_seek h hm hr h2 vd x f d c l mm n ob _ ?_
    unfold Mp.feed Mp.halved
    rw [if_pos h2]
    by_cases h1 : vd = 1 <;> by_cases h3 : vd = 2 ∧ x = 2 <;> simp [h1, h3]
  · refine mfeed_else h hm hr h2 vd x f d c l mm n ob _ ?_
    unfold Mp.feed
    rw [if_neg h2]

theorem Mp.size_bd {m : Mp} (h : m.ok) (hr : ¬ m.rest = 0) : 1 ≤ m.size ∧ m.size ≤ m.rest := by
  have hR : 1 ≤ m.rest := by have := h.kl; unfold Mp.rest at *; omega
  have := h.m0
  unfold Mp.size
  split
  · split <;> omega
  · split
    · rename_i h2
      have := h.se h2
      omega
    · omega
theorem Mp.ok.learn_ok {m : Mp} (h : m.ok) {n k mo : Int} (hn : 0 ≤ n) (hr : n ≤ m.rest) (hmo : mo ≠ 2) : (m.learn n k mo).ok := by
  refine ⟨h.t0, h.t1, h.c0, h.c1, h.f0, h.f1, h.m0, h.m1, ?_, fun e => absurd e hmo⟩
  rw [Mp.learn_len _ _ _ _ hn]
  show _ ≤ m.cnt
  unfold Mp.rest at hr
  omega
theorem Mp.learn_rest (m : Mp) (n k mo : Int) (hn : 0 ≤ n) : (m.learn n k mo).rest = m.rest - n := by
  unfold Mp.rest
  rw [Mp.learn_len _ _ _ _ hn]
  show m.cnt - _ = _
  omega
theorem Mp.feed_ok {m : Mp} (h : m.ok) (hr : ¬ m.rest = 0) (vd x : Int) : (m.feed vd x).ok := by
  have hsz := Mp.size_bd h hr
  unfold Mp.feed
  split
  · rename_i h2
    have hse := h.se h2
    have hhf := h.half h2
    have hlo : Mp.ok { m with lo := m.size, mode := 0 } := ⟨h.t0, h.t1, h.c0, h.c1, h.f0, h.f1, h.m0, h.m1, h.kl, fun e => absurd (show (0 : Int) = 2 from e) (by decide)⟩
    have hhi : Mp.ok { m with hi := m.size, mode := 0 } := ⟨h.t0, h.t1, h.c0, h.c1, h.f0, h.f1, h.m0, h.m1, h.kl, fun e => absurd (show (0 : Int) = 2 from e) (by decide)⟩
    split
    · split
      · have h1 : Mp.ok ({ m with lo := m.size, mode := 0 }.learn m.size 1 0) := hlo.learn_ok (by omega) (by show m.size ≤ m.rest; omega) (by decide)
        have h3 := Mp.learn_rest { m with lo := m.size, mode := 0 } m.size 1 0 (by omega)
        exact h1.learn_ok (n := 1) (k := 2) (mo := 0) (by decide) (by rw [h3]; show 1 ≤ m.rest - m.size; omega) (by decide)
      · exact ⟨h.t0, h.t1, h.c0, h.c1, h.f0, h.f1, h.m0, h.m1, h.kl, fun _ => ⟨by show 0 ≤ m.size; omega, by show m.size + 2 ≤ m.hi; omega, hse.2.2⟩⟩
    · split
      · split
        · have h1 : Mp.ok ({ m with hi := m.size, mode := 0 }.learn m.lo 1 0) := hhi.learn_ok (by omega) (by show m.lo ≤ m.rest; omega) (by decide)
          have h3 := Mp.learn_rest { m with hi := m.size, mode := 0 } m.lo 1 0 (by omega)
          exact h1.learn_ok (n := 1) (k := 2) (mo := 0) (by decide) (by rw [h3]; show 1 ≤ m.rest - m.lo; omega) (by decide)
        · exact ⟨h.t0, h.t1, h.c0, h.c1, h.f0, h.f1, h.m0, h.m1, h.kl, fun _ => ⟨hse.1, by show m.lo + 2 ≤ m.size; omega, by show m.size ≤ m.rest; omega⟩⟩
      · exact h.learn_ok hse.1 (by omega) (by decide)
  · split
    · exact h.learn_ok (by omega) (by omega) (by decide)
    · split
      · split
        · exact ⟨h.t0, h.t1, h.c0, h.c1, h.f0, h.f1, h.m0, h.m1, h.kl, fun _ => ⟨by show (0 : Int) ≤ 0; decide, by show (0 : Int) + 2 ≤ m.size; omega, by show m.size ≤ m.rest; omega⟩⟩
        · exact h.learn_ok (by decide) (by omega) (by decide)
      · split
        · exact ⟨h.t0, h.t1, h.c0, h.c1, h.f0, h.f1, h.m0, h.m1, h.kl, fun e => absurd (show (0 : Int) = 2 from e) (by decide)⟩
        · exact h.learn_ok (by decide) (by omega) (by decide)

end Go.Proofs.Ytliblgmpclefgaa
