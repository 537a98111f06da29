/-
  Texts 4 of the claim.
-/
import Derived.Test.YtipnamoocemeeaaGreatD03
import Derived.Test.YtipnamoocemeeaaGreatD01
import Derived.BigQuiet
import Derived.Deep.QuietTactic
namespace Go.Proofs.YtipnamoocemeeaaGreat
open Go.RowKit
structure Sr where
  tb : Int
  lo : Int
  hi : Int
  cnt : Int
  st : Int
def Sr.qty (s : Sr) : Int := if s.cnt = 0 then 1 else (s.lo + s.hi) / 2
def Sr.took (s : Sr) (v x : Int) : Sr :=
  if v = 1 ∨ (v = 2 ∧ x = 2) then { s with cnt := s.cnt + 1, lo := s.qty }
  else if s.cnt = 0 ∧ v = 2 ∧ x = 1 then { s with cnt := s.cnt + 1, st := 5 }
  else if ¬ s.cnt = 0 ∧ v = 2 ∧ x = 3 then { s with cnt := s.cnt + 1, hi := s.qty }
  else { s with cnt := s.cnt + 1, st := 4 }
def Sr.met (s : Sr) : Sr := if s.st = 0 ∧ s.hi = s.lo + 1 then { s with st := 2 } else s
def Sr.feed (s : Sr) (v x : Int) : Sr := (s.took v x).met
structure Sr.ok (s : Sr) : Prop where
  lo0 : 0 ≤ s.lo
  lo1 : s.lo ≤ 2001
  hi0 : 0 ≤ s.hi
  hi1 : s.hi ≤ 2001
  cnt0 : 0 ≤ s.cnt
  cnt1 : s.cnt ≤ 100000
theorem Sr.qty_bd (s : Sr) (h : s.ok) : 0 ≤ s.qty ∧ s.qty ≤ 2001 := by
  have h1 := h.lo0
  have h2 := h.lo1
  have h3 := h.hi0
  have h4 := h.hi1
  unfold Sr.qty
  split <;> omega
def Sr.cells (s : Sr) : Array Value := #[.int .i64 s.tb, .int .i64 s.lo, .int .i64 s.hi, .int .i64 s.st, .int .i64 s.cnt]
def SrAt (w : World) (g : Nat) (s : Sr) : Prop := w.heap[g]? = some (.cells s.cells 225)
theorem SrAt.cell {w : World} {g : Nat} {s : Sr} (h : SrAt w g s) (i : Nat) : w.cell? ⟨g, i, none⟩ = s.cells[i]? := hpCell h i
theorem SrAt.free {w : World} {g : Nat} {s : Sr} (h : SrAt w g s) (i : Nat) : w.frozen? ⟨g, i, none⟩ = false := hpFree h i
theorem SrAt.keep {w w' : World} {g : Nat} {s : Sr} (h : SrAt w g s) (hb : Below w.heap.size w w') : SrAt w' g s := hpKeep h hb
theorem SrAt.lt {w : World} {g : Nat} {s : Sr} (h : SrAt w g s) : g < w.heap.size := hpLt h
set_option maxRecDepth 100000 in
set_option maxHeartbeats 1600000 in
theorem squan_any (g : Nat) (s : Sr) (hs : s.ok) (w : World) (hl : SrAt w g s) :
    Calls Tryz.prog 200 #[.pointer (some ⟨g, 0, none⟩)] w fun r w' => r = .returned (.int .i64 s.qty) ∧ ∃ m, w' = w.drewN m := by
  have c1 : w.cell? ⟨g, 1, none⟩ = some (.int .i64 s.lo) := hl.cell 1
  have c2 : w.cell? ⟨g, 2, none⟩ = some (.int .i64 s.hi) := hl.cell 2
  have c4 : w.cell? ⟨g, 4, none⟩ = some (.int .i64 s.cnt) := hl.cell 4
  have h1 := hs.lo0
  have h2 := hs.lo1
  have h3 := hs.hi0
  have h4 := hs.hi1
  have s1 : IntKind.i64.wrap (s.lo + s.hi) = s.lo + s.hi := IntWalk.i64_in _ (by omega)
  obtain ⟨Q, hQ⟩ : ∃ Q, s.qty = Q := ⟨_, rfl⟩
  rw [hQ]
  have HQ := hid hQ
  clear hQ hl
  by_cases h0 : s.cnt = 0
  · have d : (s.cnt == 0) = true := by rw [beq_iff_eq]; exact h0
    have HE : Hid (Q = 1) := by show _ = _; rw [← HQ.out]; unfold Sr.qty; rw [if_pos h0]
    clear h0
    go_enter Tryz.func200, Tryz.ntmps200
    go_wp2
    go_ret
    exact ⟨by rw [HE.out]; rfl, 0, rfl⟩
  · have d : (s.cnt == 0) = false := by rw [beq_eq_false_iff_ne]; exact h0
    have HE : Hid (Q = (s.lo + s.hi) / 2) := by show _ = _; rw [← HQ.out]; unfold Sr.qty; rw [if_neg h0]
    clear h0
    go_enter Tryz.func200, Tryz.ntmps200
    go_wp2
    go_quiet (fail)
    go_wp2
    go_ret
    exact ⟨by rw [HE.out]; rfl, nq, rfl⟩
def SrFed (w : World) (g : Nat) (y : Sr) (r : Ending) (w' : World) : Prop := r = .returned (.int .i64 0) ∧ SrAt w' g y ∧ Keeps (· = g) w w'
theorem ks1 {p : Nat} {w w1 : World} (h : Keeps (· = p) w w1) (i : Nat) (u : Value) : Keeps (· = p) w (w1.setCell ⟨p, i, none⟩ u) := Keeps.set (F := (· = p)) h ⟨p, i, none⟩ u rfl
theorem hpSetP {w : World} {b : Nat} {c C : Array Value} {t : TypeId} {fz : Nat × Nat} {i : Nat} {u : Value} (h : w.heap[b]? = some (.cells c t fz)) (e : c.setIfInBounds i u = C) :
    (w.setCell ⟨b, i, none⟩ u).heap[b]? = some (.cells C t fz) := by rw [hpSet h i u, e]
theorem b1 {a b : Int} (h : a = b) : (a == b) = true := by rw [beq_iff_eq]; exact h
theorem b0 {a b : Int} (h : ¬ a = b) : (a == b) = false := by rw [beq_eq_false_iff_ne]; exact h
set_option maxRecDepth 100000 in
set_option maxHeartbeats 6400000 in
theorem sfeed_any (g : Nat) (s : Sr) (hs : s.ok) (hst : s.st = 0) (v x : Int) (f d c l m n ob : Value) (w : World) (hl : SrAt w g s) :
    Calls Tryz.prog 197 #[.pointer (some ⟨g, 0, none⟩), .agg #[.int .i64 v, f, .int .i64 x, d, c, l, m, n, ob]] w (SrFed w g (s.feed v x)) := by
  obtain ⟨y, hy⟩ : ∃ y, s.feed v x = y := ⟨_, rfl⟩
  rw [hy]
  have HY := hid hy
  clear hy
  have hq := s.qty_bd hs
  obtain ⟨Q, hQ⟩ : ∃ Q, s.qty = Q := ⟨_, rfl⟩; obtain ⟨W0, hW0⟩ : ∃ W, w.alloc (.cells #[.int .i64 v, f, .int .i64 x, d, c, l, m, n, ob] 55) = W := ⟨_, rfl⟩; have hb0 : Below w.heap.size w W0 := (by rw [← hW0]; exact bal' w _); have p0 : W0.heap[w.heap.size]? = some (.cells #[.int .i64 v, f, .int .i64 x, d, c, l, m, n, ob] 55) := (by rw [← hW0]; exact hpNew w _); have l0 := hl.keep hb0; have hgn : g ≠ w.heap.size := (by have := hl.lt; omega); have HQU : Hid (∀ n, Calls Tryz.prog 200 #[.pointer (some ⟨g, 0, none⟩)] (W0.drewN n) fun r w'' => r = .returned (.int .i64 Q) ∧ ∃ m, w'' = W0.drewN m) := (fun n => by rw [← hQ]; exact Calls.quiet_of (squan_any g s hs (W0.drewN n) (l0.keep (below_drewN (Below.refl _ _) n)))); have c3 : W0.cell? ⟨g, 3, none⟩ = some (.int .i64 0) := (by rw [l0.cell 3]; simp [Sr.cells, hst]); have c4 : W0.cell? ⟨g, 4, none⟩ = some (.int .i64 s.cnt) := l0.cell 4; have f4 : W0.frozen? ⟨g, 4, none⟩ = false := l0.free 4; have hc0 := hs.cnt0; have hc1 := hs.cnt1; have s1 : IntKind.i64.wrap (s.cnt + 1) = s.cnt + 1 := IntWalk.i64_in _ (by omega); have HW0 := hid hW0; have HB0 := hid hb0; have P0 := hid p0; have L0 := hid l0; have HQ := hid hQ; have HST := hid hst; clear hW0 hb0 p0 l0 hQ hst hl hc0 hc1
  have hq1 : IntKind.i64.wrap (Q + 1) = Q + 1 := IntWalk.i64_in _ (by have := HQ.out; omega)
  have hl1 : IntKind.i64.wrap (s.lo + 1) = s.lo + 1 := IntWalk.i64_in _ (by have := hs.lo0; have := hs.lo1; omega)
  clear hq
  have e0 : W0.cell? ⟨w.heap.size, 0, none⟩ = some (.int .i64 v) := hpCell P0.out 0
  have e2 : W0.cell? ⟨w.heap.size, 2, none⟩ = some (.int .i64 x) := hpCell P0.out 2
  have c1 : W0.cell? ⟨g, 1, none⟩ = some (.int .i64 s.lo) := L0.out.cell 1
  have c2 : W0.cell? ⟨g, 2, none⟩ = some (.int .i64 s.hi) := L0.out.cell 2
  have f1 : W0.frozen? ⟨g, 1, none⟩ = false := L0.out.free 1
  have f2 : W0.frozen? ⟨g, 2, none⟩ = false := L0.out.free 2
  have f3 : W0.frozen? ⟨g, 3, none⟩ = false := L0.out.free 3
  by_cases hac : v = 1 ∨ (v = 2 ∧ x = 2)
  · by_cases hm : s.hi = Q + 1
    · have HE : Hid (y = { s with cnt := s.cnt + 1, lo := Q, st := 2 }) := by
        show _ = _
        rw [← HY.out]
        unfold Sr.feed Sr.took
        rw [if_pos hac, HQ.out]
        unfold Sr.met
        rw [if_pos ⟨HST.out, hm⟩]
      have dm := b1 hm
      clear hm
      rcases hac with h | ⟨h, h'⟩
      · have d1 := b1 h
        clear h
        go_enter Tryz.func197, Tryz.ntmps197; go_upto_region 1 with (fail); rw [HW0.out]; go_upto_region 5 with (fail); go_quiet ((go_at_call 200; exact HQU.out _)); go_upto_region 7 with (fail)
        go_wp2
        go_quiet (fail)
        go_wp2
        go_ret
        exact ⟨rfl, by rw [HE.out]; exact hpSetP (SrAt.keep (s := { s with cnt := s.cnt + 1, lo := Q }) (hpSetP (hpSetP (L0.out.keep (below_drewN (Below.refl _ _) _)) rfl) rfl) (below_drewN (Below.refl _ _) _)) rfl, ks1 ((ks1 (ks1 (Keeps.of_below (bt HB0.out (below_drewN (Below.refl _ _) _) (Nat.le_refl _))) _ _) _ _).trans (Keeps.of_below (below_drewN (Below.refl _ _) _)) (fun _ _ e => e)) _ _⟩
      · have d1 : (v == 1) = false := b0 (by omega)
        have d2 := b1 h
        have d3 := b1 h'
        clear h h'
        go_enter Tryz.func197, Tryz.ntmps197; go_upto_region 1 with (fail); rw [HW0.out]; go_upto_region 5 with (fail); go_quiet ((go_at_call 200; exact HQU.out _)); go_upto_region 7 with (fail)
        go_wp2
        go_quiet (fail)
        go_wp2
        go_ret
        exact ⟨rfl, by rw [HE.out]; exact hpSetP (SrAt.keep (s := { s with cnt := s.cnt + 1, lo := Q }) (hpSetP (hpSetP (L0.out.keep (below_drewN (Below.refl _ _) _)) rfl) rfl) (below_drewN (Below.refl _ _) _)) rfl, ks1 ((ks1 (ks1 (Keeps.of_below (bt HB0.out (below_drewN (Below.refl _ _) _) (Nat.le_refl _))) _ _) _ _).trans (Keeps.of_below (below_drewN (Below.refl _ _) _)) (fun _ _ e => e)) _ _⟩
    · have HE : Hid (y = { s with cnt := s.cnt + 1, lo := Q }) := by
        show _ = _
        rw [← HY.out]
        unfold Sr.feed Sr.took
        rw [if_pos hac, HQ.out]
        unfold Sr.met
        rw [if_neg (fun e => hm e.2)]
      have dm := b0 hm
      clear hm
      rcases hac with h | ⟨h, h'⟩
      · have d1 := b1 h
        clear h
        go_enter Tryz.func197, Tryz.ntmps197; go_upto_region 1 with (fail); rw [HW0.out]; go_upto_region 5 with (fail); go_quiet ((go_at_call 200; exact HQU.out _)); go_upto_region 7 with (fail)
        go_wp2
        go_quiet (fail)
        go_wp2
        go_ret
        exact ⟨rfl, by rw [HE.out]; exact SrAt.keep (s := { s with cnt := s.cnt + 1, lo := Q }) (hpSetP (hpSetP (L0.out.keep (below_drewN (Below.refl _ _) _)) rfl) rfl) (below_drewN (Below.refl _ _) _), ((ks1 (ks1 (Keeps.of_below (bt HB0.out (below_drewN (Below.refl _ _) _) (Nat.le_refl _))) _ _) _ _).trans (Keeps.of_below (below_drewN (Below.refl _ _) _)) (fun _ _ e => e))⟩
      · have d1 : (v == 1) = false := b0 (by omega)
        have d2 := b1 h
        have d3 := b1 h'
        clear h h'
        go_enter Tryz.func197, Tryz.ntmps197; go_upto_region 1 with (fail); rw [HW0.out]; go_upto_region 5 with (fail); go_quiet ((go_at_call 200; exact HQU.out _)); go_upto_region 7 with (fail)
        go_wp2
        go_quiet (fail)
        go_wp2
        go_ret
        exact ⟨rfl, by rw [HE.out]; exact SrAt.keep (s := { s with cnt := s.cnt + 1, lo := Q }) (hpSetP (hpSetP (L0.out.keep (below_drewN (Below.refl _ _) _)) rfl) rfl) (below_drewN (Below.refl _ _) _), ((ks1 (ks1 (Keeps.of_below (bt HB0.out (below_drewN (Below.refl _ _) _) (Nat.le_refl _))) _ _) _ _).trans (Keeps.of_below (below_drewN (Below.refl _ _) _)) (fun _ _ e => e))⟩
  · have hv1 : ¬ v = 1 := fun e => hac (.inl e)
    have d1 := b0 hv1
    by_cases hv2 : v = 2
    · have hx2 : ¬ x = 2 := fun e => hac (.inr ⟨hv2, e⟩)
      have d2 := b1 hv2
      have d3 := b0 hx2
      by_cases hc : s.cnt = 0
      · have d4 := b1 hc
        by_cases hx : x = 1
        · have HE : Hid (y = { s with cnt := s.cnt + 1, st := 5 }) := by
            show _ = _
            rw [← HY.out]
            unfold Sr.feed Sr.took
            rw [if_neg hac, if_pos ⟨hc, hv2, hx⟩]
            unfold Sr.met
            rw [if_neg (fun e => absurd e.1 (by show ¬ (5 : Int) = 0; decide))]
          have d5 := b1 hx
          clear hac hv1 hv2 hx2 hc hx
          go_enter Tryz.func197, Tryz.ntmps197; go_upto_region 1 with (fail); rw [HW0.out]; go_upto_region 5 with (fail); go_quiet ((go_at_call 200; exact HQU.out _)); go_upto_region 7 with (fail)
          go_wp2
          go_ret
          exact ⟨rfl, by rw [HE.out]; exact hpSetP (hpSetP (L0.out.keep (below_drewN (Below.refl _ _) _)) rfl) rfl, ks1 (ks1 (Keeps.of_below (bt HB0.out (below_drewN (Below.refl _ _) _) (Nat.le_refl _))) _ _) _ _⟩
        · have HE : Hid (y = { s with cnt := s.cnt + 1, st := 4 }) := by
            show _ = _
            rw [← HY.out]
            unfold Sr.feed Sr.took
            rw [if_neg hac, if_neg (fun e => hx e.2.2), if_neg (fun e => e.1 hc)]
            unfold Sr.met
            rw [if_neg (fun e => absurd e.1 (by show ¬ (4 : Int) = 0; decide))]
          have d5 := b0 hx
          clear hac hv1 hv2 hx2 hc hx
          go_enter Tryz.func197, Tryz.ntmps197; go_upto_region 1 with (fail); rw [HW0.out]; go_upto_region 5 with (fail); go_quiet ((go_at_call 200; exact HQU.out _)); go_upto_region 7 with (fail)
          go_wp2
          go_ret
          exact ⟨rfl, by rw [HE.out]; exact hpSetP (hpSetP (L0.out.keep (below_drewN (Below.refl _ _) _)) rfl) rfl, ks1 (ks1 (Keeps.of_below (bt HB0.out (below_drewN (Below.refl _ _) _) (Nat.le_refl _))) _ _) _ _⟩
      · have d4 := b0 hc
        by_cases hx : x = 3
        · by_cases hm : Q = s.lo + 1
          · have HE : Hid (y = { s with cnt := s.cnt + 1, hi := Q, st := 2 }) := by
              show _ = _
              rw [← HY.out]
              unfold Sr.feed Sr.took
              rw [if_neg hac, if_neg (fun e => hc e.1), if_pos ⟨hc, hv2, hx⟩, HQ.out]
              unfold Sr.met
              rw [if_pos ⟨HST.out, hm⟩]
            have dm := b1 hm
            have d5 := b1 hx
            clear hac hv1 hv2 hx2 hc hx hm
            go_enter Tryz.func197, Tryz.ntmps197; go_upto_region 1 with (fail); rw [HW0.out]; go_upto_region 5 with (fail); go_quiet ((go_at_call 200; exact HQU.out _)); go_upto_region 7 with (fail)
            go_wp2
            go_quiet (fail)
            go_wp2
            go_ret
            exact ⟨rfl, by rw [HE.out]; exact hpSetP (SrAt.keep (s := { s with cnt := s.cnt + 1, hi := Q }) (hpSetP (hpSetP (L0.out.keep (below_drewN (Below.refl _ _) _)) rfl) rfl) (below_drewN (Below.refl _ _) _)) rfl, ks1 ((ks1 (ks1 (Keeps.of_below (bt HB0.out (below_drewN (Below.refl _ _) _) (Nat.le_refl _))) _ _) _ _).trans (Keeps.of_below (below_drewN (Below.refl _ _) _)) (fun _ _ e => e)) _ _⟩
          · have HE : Hid (y = { s with cnt := s.cnt + 1, hi := Q }) := by
              show _ = _
              rw [← HY.out]
              unfold Sr.feed Sr.took
              rw [if_neg hac, if_neg (fun e => hc e.1), if_pos ⟨hc, hv2, hx⟩, HQ.out]
              unfold Sr.met
              rw [if_neg (fun e => hm e.2)]
            have dm := b0 hm
            have d5 := b1 hx
            clear hac hv1 hv2 hx2 hc hx hm
            go_enter Tryz.func197, Tryz.ntmps197; go_upto_region 1 with (fail); rw [HW0.out]; go_upto_region 5 with (fail); go_quiet ((go_at_call 200; exact HQU.out _)); go_upto_region 7 with (fail)
            go_wp2
            go_quiet (fail)
            go_wp2
            go_ret
            exact ⟨rfl, by rw [HE.out]; exact SrAt.keep (s := { s with cnt := s.cnt + 1, hi := Q }) (hpSetP (hpSetP (L0.out.keep (below_drewN (Below.refl _ _) _)) rfl) rfl) (below_drewN (Below.refl _ _) _), ((ks1 (ks1 (Keeps.of_below (bt HB0.out (below_drewN (Below.refl _ _) _) (Nat.le_refl _))) _ _) _ _).trans (Keeps.of_below (below_drewN (Below.refl _ _) _)) (fun _ _ e => e))⟩
        · have HE : Hid (y = { s with cnt := s.cnt + 1, st := 4 }) := by
            show _ = _
            rw [← HY.out]
            unfold Sr.feed Sr.took
            rw [if_neg hac, if_neg (fun e => hc e.1), if_neg (fun e => hx e.2.2)]
            unfold Sr.met
            rw [if_neg (fun e => absurd e.1 (by show ¬ (4 : Int) = 0; decide))]
          have d5 := b0 hx
          clear hac hv1 hv2 hx2 hc hx
          go_enter Tryz.func197, Tryz.ntmps197; go_upto_region 1 with (fail); rw [HW0.out]; go_upto_region 5 with (fail); go_quiet ((go_at_call 200; exact HQU.out _)); go_upto_region 7 with (fail)
          go_wp2
          go_ret
          exact ⟨rfl, by rw [HE.out]; exact hpSetP (hpSetP (L0.out.keep (below_drewN (Below.refl _ _) _)) rfl) rfl, ks1 (ks1 (Keeps.of_below (bt HB0.out (below_drewN (Below.refl _ _) _) (Nat.le_refl _))) _ _) _ _⟩
    · have d2 := b0 hv2
      have HE : Hid (y = { s with cnt := s.cnt + 1, st := 4 }) := by
        show _ = _
        rw [← HY.out]
        unfold Sr.feed Sr.took
        rw [if_neg hac, if_neg (fun e => hv2 e.2.1), if_neg (fun e => hv2 e.2.1)]
        unfold Sr.met
        rw [if_neg (fun e => absurd e.1 (by show ¬ (4 : Int) = 0; decide))]
      by_cases hc : s.cnt = 0
      · have d4 := b1 hc
        clear hac hv1 hv2 hc
        go_enter Tryz.func197, Tryz.ntmps197; go_upto_region 1 with (fail); rw [HW0.out]; go_upto_region 5 with (fail); go_quiet ((go_at_call 200; exact HQU.out _)); go_upto_region 7 with (fail)
        go_wp2
        go_ret
        exact ⟨rfl, by rw [HE.out]; exact hpSetP (hpSetP (L0.out.keep (below_drewN (Below.refl _ _) _)) rfl) rfl, ks1 (ks1 (Keeps.of_below (bt HB0.out (below_drewN (Below.refl _ _) _) (Nat.le_refl _))) _ _) _ _⟩
      · have d4 := b0 hc
        clear hac hv1 hv2 hc
        go_enter Tryz.func197, Tryz.ntmps197; go_upto_region 1 with (fail); rw [HW0.out]; go_upto_region 5 with (fail); go_quiet ((go_at_call 200; exact HQU.out _)); go_upto_region 7 with (fail)
        go_wp2
        go_ret
        exact ⟨rfl, by rw [HE.out]; exact hpSetP (hpSetP (L0.out.keep (below_drewN (Below.refl _ _) _)) rfl) rfl, ks1 (ks1 (Keeps.of_below (bt HB0.out (below_drewN (Below.refl _ _) _) (Nat.le_refl _))) _ _) _ _⟩
end Go.Proofs.YtipnamoocemeeaaGreat
namespace Go.Proofs.YtipnamoocemeeaaGreat
open Go.RowKit
def Sr.ask (s : Sr) : Rq := if s.st = 0 then ⟨s.tb, 0, s.qty, 0, 0⟩ else ⟨0, 0, 0, 0, 0⟩
def AskPost (w : World) (q : Rq) (V : Bool) (r : Ending) (w' : World) : Prop := r = .returned (.tuple #[.agg #[.int .i64 q.fn, .int .i64 q.addr, .int .i64 q.qty, .int .i64 q.code, .int .i64 q.obj], .bool V]) ∧ Below w.heap.size w w'
set_option maxRecDepth 100000 in
set_option maxHeartbeats 1600000 in
theorem snext_any (g : Nat) (s : Sr) (hs : s.ok) (w : World) (hl : SrAt w g s) :
    Calls Tryz.prog 198 #[.pointer (some ⟨g, 0, none⟩)] w (AskPost w s.ask (decide (s.st = 0))) := by
  obtain ⟨W0, hW0⟩ : ∃ W, w.alloc (.cells #[.int .i64 0, .int .i64 0, .int .i64 0, .int .i64 0, .int .i64 0] 39) = W := ⟨_, rfl⟩
  have hb0 : Below w.heap.size w W0 := by rw [← hW0]; exact bal' w _
  have p0 : W0.heap[w.heap.size]? = some (.cells #[.int .i64 0, .int .i64 0, .int .i64 0, .int .i64 0, .int .i64 0] 39) := by rw [← hW0]; exact hpNew w _
  have l0 := hl.keep hb0
  obtain ⟨Q, hQ⟩ : ∃ Q, s.qty = Q := ⟨_, rfl⟩
  have HQU : Hid (Calls Tryz.prog 200 #[.pointer (some ⟨g, 0, none⟩)] W0.drew fun r w'' => r = .returned (.int .i64 Q) ∧ ∃ m, w'' = W0.drew.drewN m) := by rw [← hQ]; exact squan_any g s hs W0.drew (l0.keep (Below.refl _ _).drew)
  have c0 : W0.cell? ⟨g, 0, none⟩ = some (.int .i64 s.tb) := l0.cell 0
  have c3 : W0.cell? ⟨g, 3, none⟩ = some (.int .i64 s.st) := l0.cell 3
  have z0 : W0.cell? ⟨w.heap.size, 0, none⟩ = some (.int .i64 0) := hpCell p0 0
  have z1 : W0.cell? ⟨w.heap.size, 1, none⟩ = some (.int .i64 0) := hpCell p0 1
  have z2 : W0.cell? ⟨w.heap.size, 2, none⟩ = some (.int .i64 0) := hpCell p0 2
  have z3 : W0.cell? ⟨w.heap.size, 3, none⟩ = some (.int .i64 0) := hpCell p0 3
  have z4 : W0.cell? ⟨w.heap.size, 4, none⟩ = some (.int .i64 0) := hpCell p0 4
  have y0 : W0.frozen? ⟨w.heap.size, 0, none⟩ = false := hpFree p0 0
  have y1 : W0.frozen? ⟨w.heap.size, 1, none⟩ = false := hpFree p0 1
  have y2 : W0.frozen? ⟨w.heap.size, 2, none⟩ = false := hpFree p0 2
  have y3 : W0.frozen? ⟨w.heap.size, 3, none⟩ = false := hpFree p0 3
  have y4 : W0.frozen? ⟨w.heap.size, 4, none⟩ = false := hpFree p0 4
  have HW0 := hid hW0
  have HB0 := hid hb0
  have P0 := hid p0
  clear hW0 hb0 p0 l0
  by_cases h0 : s.st = 0
  · have d : (s.st != 0) = false := by rw [bne_eq_false_iff_eq]; exact h0
    have HE : Hid (s.ask = ⟨s.tb, 0, Q, 0, 0⟩ ∧ decide (s.st = 0) = true) := ⟨by unfold Sr.ask; rw [if_pos h0, hQ], decide_eq_true h0⟩
    clear h0 hQ
    go_enter Tryz.func198, Tryz.ntmps198
    go_upto_region 1 with (fail)
    rw [HW0.out]
    go_upto_region 3 with (fail)
    go_region_with (go_at_call 200; (with_reducible refine HQU.out.mono ?_); rintro r w2 ⟨rfl, m, rfl⟩)
    all_goals
      try simp only [List.getElem_toArray, List.getElem_cons_succ, List.getElem_cons_zero]
      go_wp2
      refine bodyPost_ret (v := .tuple #[.agg #[.int .i64 s.tb, .int .i64 0, .int .i64 Q, .int .i64 0, .int .i64 0], .bool true]) (by simp [results, Tryz.results198, go_sem, z0, z1, z2, z3, z4]) rfl ⟨by rw [HE.out.1, HE.out.2], ?_⟩
      exact (((((bt HB0.out (below_drewN (Below.refl _ _) _) (Nat.le_refl _)).setCell (p := ⟨w.heap.size, 0, none⟩) (Nat.le_refl _) _).setCell (p := ⟨w.heap.size, 1, none⟩) (Nat.le_refl _) _).setCell (p := ⟨w.heap.size, 2, none⟩) (Nat.le_refl _) _).setCell (p := ⟨w.heap.size, 3, none⟩) (Nat.le_refl _) _).setCell (p := ⟨w.heap.size, 4, none⟩) (Nat.le_refl _) _
  · have d : (s.st != 0) = true := by rw [bne_iff_ne]; exact h0
    have HE : Hid (s.ask = ⟨0, 0, 0, 0, 0⟩ ∧ decide (s.st = 0) = false) := ⟨by unfold Sr.ask; rw [if_neg h0], decide_eq_false h0⟩
    clear h0 hQ
    go_enter Tryz.func198, Tryz.ntmps198
    go_upto_region 1 with (fail)
    rw [HW0.out]
    go_wp2
    refine bodyPost_ret (v := .tuple #[.agg #[.int .i64 0, .int .i64 0, .int .i64 0, .int .i64 0, .int .i64 0], .bool false]) (by simp [results, Tryz.results198, go_sem, z0, z1, z2, z3, z4]) rfl ⟨by rw [HE.out.1, HE.out.2], ?_⟩
    exact ((((HB0.out.setCell (p := ⟨w.heap.size, 0, none⟩) (Nat.le_refl _) _).setCell (p := ⟨w.heap.size, 1, none⟩) (Nat.le_refl _) _).setCell (p := ⟨w.heap.size, 2, none⟩) (Nat.le_refl _) _).setCell (p := ⟨w.heap.size, 3, none⟩) (Nat.le_refl _) _).setCell (p := ⟨w.heap.size, 4, none⟩) (Nat.le_refl _) _
def Sr.most (s : Sr) : Int := if s.st = 2 then s.lo else 0
set_option maxRecDepth 100000 in
set_option maxHeartbeats 1600000 in
theorem sresult_any (g : Nat) (s : Sr) (w : World) (hl : SrAt w g s) :
    Calls Tryz.prog 168 #[.pointer (some ⟨g, 0, none⟩)] w fun r w' => r = .returned (.tuple #[.int .i64 s.st, .int .i64 s.most]) ∧ Below w.heap.size w w' := by
  have c1 : w.cell? ⟨g, 1, none⟩ = some (.int .i64 s.lo) := hl.cell 1
  have c3 : w.cell? ⟨g, 3, none⟩ = some (.int .i64 s.st) := hl.cell 3
  clear hl
  by_cases h : s.st = 2
  · have d : (s.st != 2) = false := by rw [bne_eq_false_iff_eq]; exact h
    have HE : Hid (s.most = s.lo) := if_pos h
    clear h
    go_enter Tryz.func168, Tryz.ntmps168
    go_wp2
    go_quiet (fail)
    go_wp2
    go_ret2
    exact ⟨(by rw [HE.out]; rfl), below_drewN (Below.refl _ _) _⟩
  · have d : (s.st != 2) = true := by rw [bne_iff_ne]; exact h
    have HE : Hid (s.most = 0) := if_neg h
    clear h
    go_enter Tryz.func168, Tryz.ntmps168
    go_wp2
    go_ret2
    exact ⟨(by rw [HE.out]; rfl), Below.refl _ _⟩
def Sr.new (t : Int) : Sr := ⟨t, 0, limI t + 1, 0, 0⟩
theorem Sr.new_ok (t : Int) : (Sr.new t).ok := by
  have := limI_bd t
  exact ⟨by show (0 : Int) ≤ 0; decide, by show (0 : Int) ≤ 2001; decide, by show 0 ≤ limI t + 1; omega, by show limI t + 1 ≤ 2001; omega, by show (0 : Int) ≤ 0; decide, by show (0 : Int) ≤ 100000; decide⟩
set_option maxRecDepth 100000 in
set_option maxHeartbeats 1600000 in
theorem snew_any (t : Int) (ht : 1 ≤ t ∧ t ≤ 4) (w : World) :
    Calls Tryz.prog 166 #[.int .i64 t] w fun r w' => ∃ g : Nat, r = .returned (.pointer (some ⟨g, 0, none⟩)) ∧ w.heap.size ≤ g ∧ SrAt w' g (Sr.new t) ∧ Below w.heap.size w w' := by
  obtain ⟨L, hL⟩ : ∃ L, limI t = L := ⟨_, rfl⟩
  have HLM : Hid (∀ W, Calls Tryz.prog 148 #[.int .i64 t] W fun r w' => r = .returned (.int .i64 L) ∧ W = w') := fun W => by rw [← hL]; exact limit_any t W
  have hb := limI_bd t
  rw [hL] at hb
  have d : (L == 0) = false := b0 (by rw [← hL]; unfold limI; split; decide; split; decide; omega)
  have s1 : IntKind.i64.wrap (L + 1) = L + 1 := IntWalk.i64_in _ (by omega)
  have HL := hid hL
  clear hL hb ht
  go_enter Tryz.func166, Tryz.ntmps166
  go_wp2_with (go_at_call 148; (with_reducible refine (HLM.out _).mono ?_); rintro r w1 ⟨rfl, rfl⟩)
  go_ret
  refine ⟨w.heap.size, rfl, Nat.le_refl _, ?_, bal' w _⟩
  unfold Sr.new SrAt
  rw [HL.out]
  exact hpNew w _
end Go.Proofs.YtipnamoocemeeaaGreat
