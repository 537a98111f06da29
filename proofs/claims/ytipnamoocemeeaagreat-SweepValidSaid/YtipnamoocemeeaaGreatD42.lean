/-
  Texts 42 of the claim.
-/
import Derived.Test.YtipnamoocemeeaaGreatD33
import Derived.Test.YtipnamoocemeeaaGreatD31
import Derived.Deep.CutBlock
import Derived.Deep.CutRange
namespace Go.Proofs.YtipnamoocemeeaaGreat
open Go.RowKit
theorem infoRp : (Tryz.prog.info? 71).map (·.size) = some 12 := by kernel_rfl
def RpC (c : Cf) (sv dv : Value) : Array Value := #[sv, .int .i64 c.fi, .int .i64 c.la, .int .i64 (c.win 0).1, .int .i64 (c.win 0).2, .int .i64 (c.win 1).1, .int .i64 (c.win 1).2, .int .i64 (c.win 2).1, .int .i64 (c.win 2).2, .int .i64 (c.win 3).1, .int .i64 (c.win 3).2, dv]
theorem setCell_same {w : World} {a : Addr} {v : Value} (h : w.cell? a = some v) : w.setCell a v = w := by
  unfold World.cell? at h
  unfold World.setCell
  cases w with
  | mk heap tape drawn os output =>
    simp only at h ⊢
    congr 1
    apply Array.ext
    · simp
    · intro i h1 h2
      rw [Array.getElem_modify]
      split
      · rename_i e
        subst e
        rw [Array.getElem?_eq_getElem h2] at h
        revert h
        split
        · rename_i cc el fz e3
          intro h
          simp only [Option.some.injEq] at e3
          rw [e3]
          simp only
          split at h
          · cases h
          · rename_i hs
            rw [if_neg hs]
            congr 1
            apply Array.ext
            · simp
            · intro k k1 k2
              rw [Array.getElem_setIfInBounds]
              · split
                · rename_i ek
                  subst ek
                  rw [Array.getElem?_eq_getElem k2] at h
                  exact (Option.some.inj h).symm
                · rfl
        · intro h
          cases h
      · rfl
set_option maxHeartbeats 1600000 in
theorem pvalid_nil (w : World) : Calls Tryz.prog 65 #[.slice none 0 0] w (BoolPost w true) := by
  have hmm := @run_makeMap Tryz.prog
  go_enter Tryz.func65, Tryz.ntmps65
  go_wp2
  go_loopw [11] (fun iv wr => iv = .int .i64 0 ∧ Below w.heap.size w wr) (fun _ _ => 0)
  case atStart => exact ⟨rfl, bal' w _⟩
  case round =>
    obtain ⟨rfl, hb⟩ := hrel
    go_wp2
    go_ret
    exact ⟨rfl, hb⟩
set_option maxHeartbeats 1600000 in
theorem pchoose_nil (C D : Array Value) (w : World) : Calls Tryz.prog 66 #[.slice none 0 0, .agg C, .agg D] w fun r w' => r = .returned (.string ⟨#[]⟩) ∧ Below w.heap.size w w' := by
  obtain ⟨W0, hW0⟩ : ∃ W, (w.alloc (.cells C 25)).alloc (.cells D 91) = W := ⟨_, rfl⟩
  have hb0 : Below w.heap.size w W0 := by rw [← hW0]; exact bta (bal' w _) (Nat.le_refl _) _
  have HPV : Hid (Calls Tryz.prog 65 #[.slice none 0 0] W0 (BoolPost W0 true)) := pvalid_nil W0
  have HW0 := hid hW0
  clear hW0
  go_enter Tryz.func66, Tryz.ntmps66
  go_upto_region 1 with (fail)
  rw [HW0.out]
  go_wp2_with (go_at_call 65; (with_reducible refine HPV.out.mono ?_); rintro r w1 ⟨rfl, hb1⟩)
  go_loopw [7, 8, 19] (fun nv mv iv wr => nv = .string ⟨#[]⟩ ∧ mv = .int .i64 0 ∧ iv = .int .i64 0 ∧ Below w.heap.size w wr) (fun _ _ _ _ => 0)
  case atStart => exact ⟨rfl, rfl, rfl, bt hb0 hb1 (Nat.le_refl _)⟩
  case round =>
    obtain ⟨rfl, rfl, rfl, hb⟩ := hrel
    go_wp2
    go_ret
    exact ⟨rfl, hb⟩
structure RpS (w : World) (c : Cf) (l : List Fd) (r6 : Nat) (sv dv : Value) (W : World) : Prop where
  b : Below w.heap.size w W
  row : W.heap[r6]? = some (.cells (RpC c sv dv) 71)
  rd : ∀ W', Agree w.heap.size W W' → Rgs W' sv c.sets ∧ FdsO w.heap.size W' dv l
  hr : w.heap.size ≤ r6
theorem agOf {B r6 : Nat} {wA wB w8 : World} (hk : Below wA.heap.size wA wB) (hk8 : Keeps (· = r6) wB w8) (hr : r6 < B ∨ wA.heap.size ≤ r6) : Agree B wA w8 :=
  ⟨Nat.le_trans hk.size hk8.size, fun k hk2 hl => by rw [hk8.block k (by have := hk.size; omega) (by omega), hk.block k hl]⟩
theorem FdsO.lower {B C : Nat} {W : World} {v : Value} {l : List Fd} (h : FdsO B W v l) (hB : C ≤ B) : FdsO C W v l := by
  obtain ⟨cs, h1, h2⟩ := h
  exact ⟨cs, own_lower h1 hB, h2⟩
theorem RpS.mk' {w wA wB w8 : World} {B1 B2 : Nat} {c : Cf} {l : List Fd} {r6 : Nat} {sv dv : Value} (hrd : ∀ W', Agree B1 wA W' → Rgs W' sv c.sets) (hro : ∀ W', Agree B2 wB W' → FdsO B2 W' dv l) (hA : Agree B1 wA w8) (hB : Agree B2 wB w8) (h1 : w.heap.size ≤ B1) (h2 : w.heap.size ≤ B2) (hb : Below w.heap.size w w8) (hr : w.heap.size ≤ r6)
    (hrow : w8.heap[r6]? = some (.cells (RpC c sv dv) 71)) : RpS w c l r6 sv dv w8 :=
  ⟨hb, hrow, fun W' hW => ⟨hrd W' (hA.trans (hW.mono h1)), (hro W' (hB.trans (hW.mono h2))).lower h2⟩, hr⟩
def RepPost (w : World) (c : Cf) (l : List Fd) (r : Ending) (w' : World) : Prop :=
  ∃ sv dv, r = .returned (.tuple #[.agg (RpC c sv dv), .int .i64 0]) ∧ (∀ W', Agree w.heap.size w' W' → Rgs W' sv c.sets ∧ FdsO w.heap.size W' dv l) ∧ Below w.heap.size w w'
set_option maxRecDepth 100000 in
set_option maxHeartbeats 6400000 in
theorem swreport_nil {P : Nat → Prop} {w : World} {g : Nat} {c : Cf} {x : Sp} (h : SwAt P w g c x) (hd : c.units ≤ x.at_) (hl6 : c.sets.length ≤ 1000000) (hf : ∀ f ∈ x.fd, f.d.small) (hm : x.fd.length ≤ 1000000) :
    Calls Tryz.prog 29 #[.pointer (some ⟨g, 0, none⟩), .slice none 0 0] w (RepPost w c x.fd) := by
  obtain ⟨W0, hW0⟩ : ∃ W, w.alloc (.cells #[.slice none 0 0, .int .i64 0, .int .i64 0, .int .i64 0, .int .i64 0, .int .i64 0, .int .i64 0, .int .i64 0, .int .i64 0, .int .i64 0, .int .i64 0, .slice none 0 0] 71) = W := ⟨_, rfl⟩
  have hb0 : Below w.heap.size w W0 := by rw [← hW0]; exact bal' w _
  have hz0 : W0.heap.size = w.heap.size + 1 := by rw [← hW0]; simp
  have p0 : W0.heap[w.heap.size]? = some (.cells #[.slice none 0 0, .int .i64 0, .int .i64 0, .int .i64 0, .int .i64 0, .int .i64 0, .int .i64 0, .int .i64 0, .int .i64 0, .int .i64 0, .int .i64 0, .slice none 0 0] 71) := by rw [← hW0]; exact hpNew w _
  have h0 := h.keep (F := fun _ => False) (Keeps.of_below hb0) (fun _ _ e => e.elim)
  obtain ⟨M, Q, sv, pv, fa, fc, cs, hs⟩ := id h0
  obtain rfl := hs.no hd
  have hst := hs.st W0 (Keeps.refl _ _)
  obtain ⟨sa, sc, rfl⟩ := hst.slc
  have HST := hid hst
  obtain ⟨ln, hln⟩ : ∃ n, c.sets.length = n := ⟨_, rfl⟩
  have hIg : ∀ X, Below W0.heap.size W0 X → SwI X g c (.slice sa c.sets.length sc) (.pointer none) (.slice fa x.fd.length fc) x.at_ x.cnt := fun X hX => hpKeep hs.at_ hX
  have c17 : ∀ X, Below W0.heap.size W0 X → X.cell? ⟨g, 17, none⟩ = some (.pointer none) := fun X hX => hpCell (hIg X hX) 17
  have c0 : ∀ X, Below W0.heap.size W0 X → X.cell? ⟨g, 0, none⟩ = some (.slice sa ln sc) := fun X hX => by rw [← hln]; exact hpCell (hIg X hX) 0
  have c1 : ∀ X, Below W0.heap.size W0 X → X.cell? ⟨g, 1, none⟩ = some (.int .i64 c.fi) := fun X hX => hpCell (hIg X hX) 1
  have c2 : ∀ X, Below W0.heap.size W0 X → X.cell? ⟨g, 2, none⟩ = some (.int .i64 c.la) := fun X hX => hpCell (hIg X hX) 2
  have HWR : Hid (∀ X, Below W0.heap.size W0 X → ∀ j v, (#[.int .i64 (c.win 0).1, .int .i64 (c.win 0).2, .int .i64 (c.win 1).1, .int .i64 (c.win 1).2, .int .i64 (c.win 2).1, .int .i64 (c.win 2).2, .int .i64 (c.win 3).1, .int .i64 (c.win 3).2] : Array Value).toList[j]? = some v → X.cell? ((⟨g, 6, none⟩ : Addr).add j) = some v) := fun X hX j v hj => SwC_wrow (hIg X hX) j v hj
  have HPV : Hid (∀ X, Calls Tryz.prog 65 #[.slice none 0 0] X (BoolPost X true)) := fun X => pvalid_nil X
  have HCL : Hid (∀ X, Below W0.heap.size W0 X → Calls Tryz.prog 42 #[.slice sa ln sc] X (CloneSPost X c.sets)) := fun X hX => by rw [← hln]; exact cloneS_any _ c.sets X (HST.out.keep hX) hl6
  have HDV : Hid (∀ X, Below W0.heap.size W0 X → Calls Tryz.prog 17 #[.pointer (some ⟨g, 0, none⟩)] X (FdsPost X x.fd)) := fun X hX => swdevs_any (h0.keep (F := fun _ => False) (Keeps.of_below hX) (fun _ _ e => e.elim)) hf hm
  have HF := hid hf
  have HW0 := hid hW0
  have HB0 := hid hb0
  have HZ0 := hid hz0
  have HLN := hid hln
  obtain ⟨l, hl⟩ : ∃ l, x.fd = l := ⟨_, rfl⟩
  rw [hl] at HDV HF hm ⊢
  clear hs h h0 hd hst hIg hf hW0 hln hl6 hl hb0 hz0
  go_enter Tryz.func29, Tryz.ntmps29
  go_upto_region 1 with (fail)
  rw [HW0.out]
  have r0 : Below W0.heap.size W0 W0 := Below.refl _ _
  go_upto_region 7 with (go_at_call 65; (with_reducible refine (HPV.out _).mono ?_); rintro r w1 ⟨rfl, hB1⟩)
  go_cut [6] from 24 to 47 (fun s6 wc => ∃ r6 sv dv, s6 = .pointer (some ⟨r6, 0, none⟩) ∧ Hid (RpS W0 c l r6 sv dv wc))
  case first =>
    have kD : Below W0.heap.size W0 w1.drew := bt hB1 (Below.refl w1.heap.size w1).drew (Nat.le_refl _)
    have kz : w1.drew.heap.size = w1.heap.size := rfl
    refine wp_region_held_drew (S := fun V => Below W0.heap.size W0 V) (by kernel_rfl) kD (fun hH => ?_)
    clear hH
    refine tkD 0 24 (v := ?_) rfl (by kernel_rfl) (fun _ _ _ h => h) rfl (by rfl) (by assumption) ?_ ?_; rotate_left; (intro w hSw; (try dsimp only at hSw); go_simp; try (with_reducible rfl)); simp only [List.setIfInBounds_toArray, List.set_cons_zero, List.set_cons_succ]
    refine tkD 1 25 (v := ?_) rfl (by kernel_rfl) (fun _ _ _ h => h) rfl (by rfl) (by assumption) ?_ ?_; rotate_left; (intro w hSw; (try dsimp only at hSw); go_simp; try (with_reducible rfl)); simp only [List.setIfInBounds_toArray, List.set_cons_zero, List.set_cons_succ]
    refine tkD 2 26 (v := ?_) rfl (by kernel_rfl) (fun _ _ _ h => h) rfl (by rfl) (by assumption) ?_ ?_; rotate_left; (intro w hSw; (try dsimp only at hSw); go_simp; try (with_reducible rfl)); simp only [List.setIfInBounds_toArray, List.set_cons_zero, List.set_cons_succ]
    refine tkD 3 27 (v := ?_) rfl (by kernel_rfl) (fun _ _ _ h => h) rfl (by rfl) (by assumption) ?_ ?_; rotate_left; (intro w hSw; (try dsimp only at hSw); go_simp; try (with_reducible rfl)); simp only [List.setIfInBounds_toArray, List.set_cons_zero, List.set_cons_succ]
    refine tkD 4 28 (v := ?_) rfl (by kernel_rfl) (fun _ _ _ h => h) rfl (by rfl) (by assumption) ?_ ?_; rotate_left; (intro w hSw; (try dsimp only at hSw); go_simp; try (with_reducible rfl)); simp only [List.setIfInBounds_toArray, List.set_cons_zero, List.set_cons_succ]
    refine tkD 6 30 (v := ?_) rfl (by kernel_rfl) (fun _ _ _ h => h) rfl (by rfl) (by assumption) ?_ ?_; rotate_left; (intro w hSw; (try dsimp only at hSw); go_simp; try (with_reducible rfl)); simp only [List.setIfInBounds_toArray, List.set_cons_zero, List.set_cons_succ]
    refine tkD 7 31 (v := ?_) rfl (by kernel_rfl) (fun _ _ _ h => h) rfl (by rfl) (by assumption) ?_ ?_; rotate_left; (intro w hSw; (try dsimp only at hSw); go_simp; try (with_reducible rfl)); simp only [List.setIfInBounds_toArray, List.set_cons_zero, List.set_cons_succ]
    refine tkD 8 32 (v := ?_) rfl (by kernel_rfl) (fun _ _ _ h => h) rfl (by rfl) (by assumption) ?_ ?_; rotate_left; (intro w hSw; (try dsimp only at hSw); go_simp; try (with_reducible rfl)); simp only [List.setIfInBounds_toArray, List.set_cons_zero, List.set_cons_succ]
    refine tkD 9 33 (v := ?_) rfl (by kernel_rfl) (fun _ _ _ h => h) rfl (by rfl) (by assumption) ?_ ?_; rotate_left; (intro w hSw; (try dsimp only at hSw); go_simp; try (with_reducible rfl)); simp only [List.setIfInBounds_toArray, List.set_cons_zero, List.set_cons_succ]
    refine tkD 10 34 (v := ?_) rfl (by kernel_rfl) (fun _ _ _ h => h) rfl (by rfl) (by assumption) ?_ ?_; rotate_left; (intro w hSw; (try dsimp only at hSw); go_simp; try (with_reducible rfl)); simp only [List.setIfInBounds_toArray, List.set_cons_zero, List.set_cons_succ]
    refine tkD 11 35 (v := ?_) rfl (by kernel_rfl) (fun _ _ _ h => h) rfl (by rfl) (by assumption) ?_ ?_; rotate_left; (intro w hSw; (try dsimp only at hSw); go_simp; try (with_reducible rfl)); simp only [List.setIfInBounds_toArray, List.set_cons_zero, List.set_cons_succ]
    refine tkD 12 36 (v := ?_) rfl (by kernel_rfl) (fun _ _ _ h => h) rfl (by rfl) (by assumption) ?_ ?_; rotate_left; (intro w hSw; (try dsimp only at hSw); go_simp; try (with_reducible rfl)); simp only [List.setIfInBounds_toArray, List.set_cons_zero, List.set_cons_succ]
    refine tkD 13 37 (v := ?_) rfl (by kernel_rfl) (fun _ _ _ h => h) rfl (by rfl) (by assumption) ?_ ?_; rotate_left; (intro w hSw; (try dsimp only at hSw); go_simp; try (with_reducible rfl)); simp only [List.setIfInBounds_toArray, List.set_cons_zero, List.set_cons_succ]
    refine tkD 14 38 (v := ?_) rfl (by kernel_rfl) (fun _ _ _ h => h) rfl (by rfl) (by assumption) ?_ ?_; rotate_left; (intro w hSw; (try dsimp only at hSw); go_simp; try (with_reducible rfl)); simp only [List.setIfInBounds_toArray, List.set_cons_zero, List.set_cons_succ]
    refine tkD 15 39 (v := ?_) rfl (by kernel_rfl) (fun _ _ _ h => h) rfl (by rfl) (by assumption) ?_ ?_; rotate_left; (intro w hSw; (try dsimp only at hSw); go_simp; try (with_reducible rfl)); simp only [List.setIfInBounds_toArray, List.set_cons_zero, List.set_cons_succ]
    refine tkD 16 40 (v := ?_) rfl (by kernel_rfl) (fun _ _ _ h => h) rfl (by rfl) (by assumption) ?_ ?_; rotate_left; (intro w hSw; (try dsimp only at hSw); go_simp; try (with_reducible rfl)); simp only [List.setIfInBounds_toArray, List.set_cons_zero, List.set_cons_succ]
    refine tkD 17 41 (v := ?_) rfl (by kernel_rfl) (fun _ _ _ h => h) rfl (by rfl) (by assumption) ?_ ?_; rotate_left; (intro w hSw; (try dsimp only at hSw); go_simp; try (with_reducible rfl)); simp only [List.setIfInBounds_toArray, List.set_cons_zero, List.set_cons_succ]
    refine tkD 18 42 (v := ?_) rfl (by kernel_rfl) (fun _ _ _ h => h) rfl (by rfl) (by assumption) ?_ ?_; rotate_left; (intro w hSw; (try dsimp only at hSw); go_simp; try (with_reducible rfl)); simp only [List.setIfInBounds_toArray, List.set_cons_zero, List.set_cons_succ]
    refine tkD 19 43 (v := ?_) rfl (by kernel_rfl) (fun _ _ _ h => h) rfl (by rfl) (by assumption) ?_ ?_; rotate_left; (intro w hSw; (try dsimp only at hSw); go_simp; try (with_reducible rfl)); simp only [List.setIfInBounds_toArray, List.set_cons_zero, List.set_cons_succ]
    refine tkD 20 44 (v := .agg #[.int .i64 (c.win 0).1, .int .i64 (c.win 0).2, .int .i64 (c.win 1).1, .int .i64 (c.win 1).2, .int .i64 (c.win 2).1, .int .i64 (c.win 2).2, .int .i64 (c.win 3).1, .int .i64 (c.win 3).2]) rfl (by kernel_rfl) (fun _ _ _ h => h) rfl (by rfl) (by assumption) (fun X hX => run_load_rowS 25 (.tmp 43) rfl ⟨g, 6, none⟩ rfl #[.int .i64 (c.win 0).1, .int .i64 (c.win 0).2, .int .i64 (c.win 1).1, .int .i64 (c.win 1).2, .int .i64 (c.win 2).1, .int .i64 (c.win 2).2, .int .i64 (c.win 3).1, .int .i64 (c.win 3).2] _ (HWR.out X hX) Tryz.underlying25 rfl infoW) ?_; simp only [List.setIfInBounds_toArray, List.set_cons_zero, List.set_cons_succ]
    refine tkD 21 45 (v := ?_) rfl (by kernel_rfl) (fun _ _ _ h => h) rfl (by rfl) (by assumption) ?_ ?_; rotate_left; (intro w hSw; (try dsimp only at hSw); go_simp; try (with_reducible rfl)); simp only [List.setIfInBounds_toArray, List.set_cons_zero, List.set_cons_succ]
    clear c0 c1 c2 c17
    refine wpAnyH_ready (rs := [5, 24]) (by kernel_rfl) (by simp) ?_
    refine AllReadyH.cons rfl (fun K hK => ?_) (AllReadyH.cons rfl (fun K hK => ?_) AllReadyH.nil)
    · go_simp; refine (HCL.out _ kD).mono ?_; rintro r wA ⟨a2, s2, rfl, hrd, hbA⟩; have hBA := bt kD hbA (Nat.le_refl _); have HRD := hid hrd; rw [HLN.out]; refine hK.out _ _ hBA (fun hSa => ?_); clear hK K hrd
      refine wpAnyH_ready (rs := [22, 24]) (by kernel_rfl) (by simp) ?_
      refine AllReadyH.cons rfl (fun K hK => ?_) (AllReadyH.cons rfl (fun K hK => ?_) AllReadyH.nil)
      · go_simp; refine (HDV.out _ hBA).mono ?_; rintro r wB ⟨dv, rfl, hro, hbB⟩; obtain ⟨d1, d2, rfl⟩ := (hro wB (Agree.refl _ _)).fds.slc; have hBB := bt hBA hbB (Nat.le_refl _); have HRO := hid hro; refine hK.out _ _ hBB (fun hSb => ?_); clear hK K hro
        refine tkD 23 47 (v := ?_) rfl (by kernel_rfl) (fun _ _ _ h => h) rfl (by rfl) (by assumption) ?_ ?_; rotate_left; (intro w hSw; (try dsimp only at hSw); go_simp; try (with_reducible rfl)); simp only [List.setIfInBounds_toArray, List.set_cons_zero, List.set_cons_succ]
        refine wpAnyH_ready (rs := [24]) (by kernel_rfl) (by simp) ?_; refine AllReadyH.cons rfl (fun K hK => ?_) AllReadyH.nil
        go_simp; refine hK.out _ _ (bta hBB (Nat.le_refl _) _) (fun hSc => ?_); clear hK K
        obtain ⟨XA, hXA⟩ : ∃ X, wB.alloc (.cells #[.slice none 0 0, .int .i64 0, .int .i64 0, .int .i64 0, .int .i64 0, .int .i64 0, .int .i64 0, .int .i64 0, .int .i64 0, .int .i64 0, .int .i64 0, .slice none 0 0] 71) = X := ⟨_, rfl⟩
        have hbX : Below wB.heap.size wB XA := by rw [← hXA]; exact bal' wB _
        have p6 : XA.heap[wB.heap.size]? = some (.cells #[.slice none 0 0, .int .i64 0, .int .i64 0, .int .i64 0, .int .i64 0, .int .i64 0, .int .i64 0, .int .i64 0, .int .i64 0, .int .i64 0, .int .i64 0, .slice none 0 0] 71) := by rw [← hXA]; exact hpNew wB _
        have BX : Below W0.heap.size W0 XA := bt hBB hbX (Nat.le_refl _)
        have hzB := hBB.size
        rw [hXA]
        clear hXA
        refine wpAnyH_ready (rs := [25]) (by kernel_rfl) (by simp) ?_; refine AllReadyH.cons rfl (fun K hK => ?_) AllReadyH.nil; refine step_storeS rfl 71 (.tmp 6) (.tmp 47) rfl wB.heap.size 0 _ 71 #[.slice a2 ln s2, .int .i64 c.fi, .int .i64 c.la, .int .i64 (c.win 0).1, .int .i64 (c.win 0).2, .int .i64 (c.win 1).1, .int .i64 (c.win 1).2, .int .i64 (c.win 2).1, .int .i64 (c.win 2).2, .int .i64 (c.win 3).1, .int .i64 (c.win 3).2, .slice d1 l.length d2] rfl rfl p6 (by simp) infoRp rfl ?_; intro w8 g8 hk8 hz8; have g8' : w8.heap[wB.heap.size]? = some (.cells (RpC c (.slice a2 ln s2) (.slice d1 l.length d2)) 71) := g8; have hb8 : Below W0.heap.size W0 w8 := (BX).trans (hk8.below (BX).size (fun j hj e => by omega)); refine hK.out _ _ hb8 (fun hSd => ?_); clear hK K; refine wpAnyH_done (by kernel_rfl) ?_ _; go_wp2; go_meet
        case rel => exact ⟨wB.heap.size, _, _, rfl, RpS.mk' (by rw [← HLN.out]; exact HRD.out) HRO.out (agOf (bt hbB hbX (Nat.le_refl _)) hk8 (.inr hbB.size)) (agOf hbX hk8 (.inr (Nat.le_refl _))) kD.size hBA.size hb8 hzB g8'⟩
      · go_simp; refine hK.out _ _ (bta hBA (Nat.le_refl _) _) (fun hSc => ?_); clear hK K
        obtain ⟨XA, hXA⟩ : ∃ X, wA.alloc (.cells #[.slice none 0 0, .int .i64 0, .int .i64 0, .int .i64 0, .int .i64 0, .int .i64 0, .int .i64 0, .int .i64 0, .int .i64 0, .int .i64 0, .int .i64 0, .slice none 0 0] 71) = X := ⟨_, rfl⟩
        have hbX : Below wA.heap.size wA XA := by rw [← hXA]; exact bal' wA _
        have p6 : XA.heap[wA.heap.size]? = some (.cells #[.slice none 0 0, .int .i64 0, .int .i64 0, .int .i64 0, .int .i64 0, .int .i64 0, .int .i64 0, .int .i64 0, .int .i64 0, .int .i64 0, .int .i64 0, .slice none 0 0] 71) := by rw [← hXA]; exact hpNew wA _
        have hX : Below W0.heap.size W0 XA := bt hBA hbX (Nat.le_refl _)
        have hzX : XA.heap.size = wA.heap.size + 1 := by rw [← hXA]; simp
        have hzA := hBA.size
        rw [hXA]
        clear hXA
        refine wpAnyH_ready (rs := [22]) (by kernel_rfl) (by simp) ?_; refine AllReadyH.cons rfl (fun K hK => ?_) AllReadyH.nil
        go_simp; refine (HDV.out _ hX).mono ?_; rintro r wB ⟨dv, rfl, hro, hbB⟩; obtain ⟨d1, d2, rfl⟩ := (hro wB (Agree.refl _ _)).fds.slc; have hBB := bt hX hbB (Nat.le_refl _); have HRO := hid hro; refine hK.out _ _ hBB (fun hSb => ?_); clear hK K hro
        have p6b := hpKeep p6 hbB
        have BX := hBB
        refine tkD 23 47 (v := ?_) rfl (by kernel_rfl) (fun _ _ _ h => h) rfl (by rfl) (by assumption) ?_ ?_; rotate_left; (intro w hSw; (try dsimp only at hSw); go_simp; try (with_reducible rfl)); simp only [List.setIfInBounds_toArray, List.set_cons_zero, List.set_cons_succ]
        refine wpAnyH_ready (rs := [25]) (by kernel_rfl) (by simp) ?_; refine AllReadyH.cons rfl (fun K hK => ?_) AllReadyH.nil; refine step_storeS rfl 71 (.tmp 6) (.tmp 47) rfl wA.heap.size 0 _ 71 #[.slice a2 ln s2, .int .i64 c.fi, .int .i64 c.la, .int .i64 (c.win 0).1, .int .i64 (c.win 0).2, .int .i64 (c.win 1).1, .int .i64 (c.win 1).2, .int .i64 (c.win 2).1, .int .i64 (c.win 2).2, .int .i64 (c.win 3).1, .int .i64 (c.win 3).2, .slice d1 l.length d2] rfl rfl p6b (by simp) infoRp rfl ?_; intro w8 g8 hk8 hz8; have g8' : w8.heap[wA.heap.size]? = some (.cells (RpC c (.slice a2 ln s2) (.slice d1 l.length d2)) 71) := g8; have hb8 : Below W0.heap.size W0 w8 := (BX).trans (hk8.below (BX).size (fun j hj e => by omega)); refine hK.out _ _ hb8 (fun hSd => ?_); clear hK K; refine wpAnyH_done (by kernel_rfl) ?_ _; go_wp2; go_meet
        case rel => exact ⟨wA.heap.size, _, _, rfl, RpS.mk' (by rw [← HLN.out]; exact HRD.out) HRO.out (agOf (bt hbX hbB (Nat.le_refl _)) hk8 (.inr (Nat.le_refl _))) (agOf (Below.refl _ _) hk8 (.inl (by omega))) kD.size hX.size hb8 hzA g8'⟩
    · go_simp; refine hK.out _ _ (bta kD (Nat.le_refl _) _) (fun hSc => ?_); clear hK K
      obtain ⟨XA, hXA⟩ : ∃ X, (w1.alloc (.cells #[.slice none 0 0, .int .i64 0, .int .i64 0, .int .i64 0, .int .i64 0, .int .i64 0, .int .i64 0, .int .i64 0, .int .i64 0, .int .i64 0, .int .i64 0, .slice none 0 0] 71)).drew = X := ⟨_, rfl⟩
      have hbX : Below w1.heap.size w1 XA := by rw [← hXA]; exact (bal' w1 _).drew
      have p6 : XA.heap[w1.heap.size]? = some (.cells #[.slice none 0 0, .int .i64 0, .int .i64 0, .int .i64 0, .int .i64 0, .int .i64 0, .int .i64 0, .int .i64 0, .int .i64 0, .int .i64 0, .int .i64 0, .slice none 0 0] 71) := by rw [← hXA]; exact hpNew w1 _
      have hX : Below W0.heap.size W0 XA := bt hB1 hbX (Nat.le_refl _)
      have hzX : XA.heap.size = w1.heap.size + 1 := by rw [← hXA]; simp
      have hz1 := hB1.size
      rw [hXA]
      clear hXA
      refine wpAnyH_ready (rs := [5]) (by kernel_rfl) (by simp) ?_; refine AllReadyH.cons rfl (fun K hK => ?_) AllReadyH.nil
      go_simp; refine (HCL.out _ hX).mono ?_; rintro r wA ⟨a2, s2, rfl, hrd, hbA⟩; have hBA := bt hX hbA (Nat.le_refl _); have HRD := hid hrd; rw [HLN.out]; refine hK.out _ _ hBA (fun hSa => ?_); clear hK K hrd
      have p6a := hpKeep p6 hbA
      refine wpAnyH_ready (rs := [22]) (by kernel_rfl) (by simp) ?_; refine AllReadyH.cons rfl (fun K hK => ?_) AllReadyH.nil
      go_simp; refine (HDV.out _ hBA).mono ?_; rintro r wB ⟨dv, rfl, hro, hbB⟩; obtain ⟨d1, d2, rfl⟩ := (hro wB (Agree.refl _ _)).fds.slc; have hBB := bt hBA hbB (Nat.le_refl _); have HRO := hid hro; refine hK.out _ _ hBB (fun hSb => ?_); clear hK K hro
      have p6b := hpKeep p6a hbB
      have BX := hBB
      have hzA := hbA.size
      refine tkD 23 47 (v := ?_) rfl (by kernel_rfl) (fun _ _ _ h => h) rfl (by rfl) (by assumption) ?_ ?_; rotate_left; (intro w hSw; (try dsimp only at hSw); go_simp; try (with_reducible rfl)); simp only [List.setIfInBounds_toArray, List.set_cons_zero, List.set_cons_succ]
      refine wpAnyH_ready (rs := [25]) (by kernel_rfl) (by simp) ?_; refine AllReadyH.cons rfl (fun K hK => ?_) AllReadyH.nil; refine step_storeS rfl 71 (.tmp 6) (.tmp 47) rfl w1.heap.size 0 _ 71 #[.slice a2 ln s2, .int .i64 c.fi, .int .i64 c.la, .int .i64 (c.win 0).1, .int .i64 (c.win 0).2, .int .i64 (c.win 1).1, .int .i64 (c.win 1).2, .int .i64 (c.win 2).1, .int .i64 (c.win 2).2, .int .i64 (c.win 3).1, .int .i64 (c.win 3).2, .slice d1 l.length d2] rfl rfl p6b (by simp) infoRp rfl ?_; intro w8 g8 hk8 hz8; have g8' : w8.heap[w1.heap.size]? = some (.cells (RpC c (.slice a2 ln s2) (.slice d1 l.length d2)) 71) := g8; have hb8 : Below W0.heap.size W0 w8 := (BX).trans (hk8.below (BX).size (fun j hj e => by omega)); refine hK.out _ _ hb8 (fun hSd => ?_); clear hK K; refine wpAnyH_done (by kernel_rfl) ?_ _; go_wp2; go_meet
      case rel => exact ⟨w1.heap.size, _, _, rfl, RpS.mk' (by rw [← HLN.out]; exact HRD.out) HRO.out (agOf hbB hk8 (.inl (by omega))) (agOf (Below.refl _ _) hk8 (.inl (by omega))) hX.size hBA.size hb8 hz1 g8'⟩
  case rest =>
    obtain ⟨r6, sv, dv, rfl, hrs⟩ := hcut
    obtain ⟨da, dc, rfl⟩ := (hrs.out.rd wc (Agree.refl _ _)).2.fds.slc
    obtain ⟨n, hn⟩ : ∃ n, l.length = n := ⟨_, rfl⟩
    obtain ⟨RC, hRC⟩ : ∃ C, RpC c sv (.slice da l.length dc) = C := ⟨_, rfl⟩
    have hRi : (Tryz.prog.info? 71).map (·.size) = some RC.size := by rw [← hRC]; exact infoRp
    have hRo : RC.toList.all (·.oneCell') = true := by
      obtain ⟨s1, s2, rfl⟩ := (hrs.out.rd wc (Agree.refl _ _)).1.slc
      rw [← hRC]
      rfl
    have hRs : RC.size = 12 := by rw [← hRC]; rfl
    have HRow : Hid (∀ X, Below wc.heap.size wc X → X.heap[r6]? = some (.cells RC 71)) := fun X hX => by rw [← hRC]; exact hpKeep hrs.out.row hX
    have c11 : ∀ X, Below wc.heap.size wc X → X.cell? ⟨r6, 11, none⟩ = some (.slice da n dc) := fun X hX => by rw [← hn]; exact hpCell (hpKeep hrs.out.row hX) 11
    have HWR6 : Hid (∀ X, Below wc.heap.size wc X → ∀ j v, (#[.int .i64 (c.win 0).1, .int .i64 (c.win 0).2, .int .i64 (c.win 1).1, .int .i64 (c.win 1).2, .int .i64 (c.win 2).1, .int .i64 (c.win 2).2, .int .i64 (c.win 3).1, .int .i64 (c.win 3).2] : Array Value).toList[j]? = some v → X.cell? ((⟨r6, 3, none⟩ : Addr).add j) = some v) := fun X hX j v hj => by
      have e : (⟨r6, 3, none⟩ : Addr).add j = ⟨r6, 3 + j, none⟩ := by unfold Addr.add; split <;> simp_all
      have e2 : (RpC c sv (.slice da l.length dc)).toList.drop 3 = (#[.int .i64 (c.win 0).1, .int .i64 (c.win 0).2, .int .i64 (c.win 1).1, .int .i64 (c.win 1).2, .int .i64 (c.win 2).1, .int .i64 (c.win 2).2, .int .i64 (c.win 3).1, .int .i64 (c.win 3).2] : Array Value).toList ++ [.slice da l.length dc] := rfl
      have h2 : ((RpC c sv (.slice da l.length dc)).toList.drop 3)[j]? = some v := by
        rw [e2, List.getElem?_append_left (List.getElem?_eq_some_iff.1 hj).1]
        exact hj
      rw [List.getElem?_drop] at h2
      rw [e, hpCell (hpKeep hrs.out.row hX)]
      simpa using h2
    have HCH : Hid (∀ C D X, Calls Tryz.prog 66 #[.slice none 0 0, .agg C, .agg D] X fun r w' => r = .returned (.string ⟨#[]⟩) ∧ Below X.heap.size X w') := fun C D X => pchoose_nil C D X
    have rc : Below wc.heap.size wc wc := Below.refl _ _
    have HN := hid hn
    have HRC := hid hRC
    have HRS := hid hrs.out
    have HRO := hid hRo
    have HRZ := hid hRs
    rw [hn] at hm
    clear hrs hn hRC c0 c1 c2 c17 hB1 r0 hRo hRs
    go_wp2
    go_loopw [51] (fun iv wr => ∃ k : Nat, k ≤ n ∧ iv = .int .i64 k ∧ Below wc.heap.size wc wr) (fun iv _ => n - (intOf iv).toNat)
    case atStart => exact ⟨0, Nat.zero_le _, rfl, rc⟩
    case round =>
      obtain ⟨k, hk, rfl, hbw⟩ := hrel
      by_cases hlt : k < n
      · obtain ⟨f, hgx⟩ := get_some (l := l) rfl (by rw [HN.out]; exact hlt)
        have hfo := (HRS.out.rd wr (Agree.of_below hbw)).2
        obtain ⟨b, ov, dv, mv, rfl, hr, hcl, hfz⟩ := FdsO.at hfo hgx
        obtain ⟨DF, hDF⟩ : ∃ C, DvF f ov dv mv = C := ⟨_, rfl⟩
        have hDi : (Tryz.prog.info? 91).map (·.size) = some DF.size := by rw [← hDF]; exact info21
        have h20 : wr.cell? ⟨b, k * 21 + 20, none⟩ = some (.string ⟨#[]⟩) := hcl 20 _ rfl
        have HF20 : Hid (∀ X, Below wr.heap.size wr X → X.frozen? ⟨b, k * 21 + 20, none⟩ = false) := fun X hX => by rw [hX.frozen (cell_lt h20)]; exact hfz _
        have HC20 : Hid (∀ X, Below wr.heap.size wr X → X.cell? ⟨b, k * 21 + 20, none⟩ = some (.string ⟨#[]⟩)) := fun X hX => cell_keep hX h20
        have HDR : Hid (∀ X, Below wr.heap.size wr X → ∀ j v, DF.toList[j]? = some v → X.cell? ((⟨b, k * 21, none⟩ : Addr).add j) = some v) := fun X hX j v hj => by
          have e : (⟨b, k * 21, none⟩ : Addr).add j = ⟨b, k * 21 + j, none⟩ := by unfold Addr.add; split <;> simp_all
          rw [← hDF] at hj
          rw [e]
          exact cell_keep hX (hcl j v hj)
        have d11 : ∀ X, Below wr.heap.size wr X → X.cell? ⟨r6, 11, none⟩ = some (.slice (some ⟨b, 0, none⟩) n dc) := fun X hX => c11 X (bt hbw hX (Nat.le_refl _))
        have HW3 : Hid (∀ X, Below wr.heap.size wr X → ∀ j v, (#[.int .i64 (c.win 0).1, .int .i64 (c.win 0).2, .int .i64 (c.win 1).1, .int .i64 (c.win 1).2, .int .i64 (c.win 2).1, .int .i64 (c.win 2).2, .int .i64 (c.win 3).1, .int .i64 (c.win 3).2] : Array Value).toList[j]? = some v → X.cell? ((⟨r6, 3, none⟩ : Addr).add j) = some v) := fun X hX => HWR6.out X (bt hbw hX (Nat.le_refl _))
        have hki : (0 : Int) ≤ (k : Int) := Int.natCast_nonneg _
        have hkl : (k : Int) < (n : Int) := by omega
        have kD : Below wr.heap.size wr wr.drew := (Below.refl _ _).drew
        clear hr hcl hfz hDF hfo hgx h20 c11
        go_upto_region 11 with (fail)
        refine wp_region_held_drew (S := fun V => Below wr.heap.size wr V) (by kernel_rfl) kD (fun hH => ?_)
        clear hH
        refine tkD 0 54 (v := ?_) rfl (by kernel_rfl) (fun _ _ _ h => h) rfl (by rfl) (by assumption) ?_ ?_; rotate_left; (intro w hSw; (try dsimp only at hSw); go_simp; try (with_reducible rfl)); simp only [List.setIfInBounds_toArray, List.set_cons_zero, List.set_cons_succ]
        refine tkD 1 55 (v := ?_) rfl (by kernel_rfl) (fun _ _ _ h => h) rfl (by rfl) (by assumption) ?_ ?_; rotate_left; (intro w hSw; (try dsimp only at hSw); go_simp; try (with_reducible rfl)); simp only [List.setIfInBounds_toArray, List.set_cons_zero, List.set_cons_succ]
        refine tkD 2 56 (v := ?_) rfl (by kernel_rfl) (fun _ _ _ h => h) rfl (by rfl) (by assumption) ?_ ?_; rotate_left; (intro w hSw; (try dsimp only at hSw); go_simp; try (with_reducible rfl)); simp only [List.setIfInBounds_toArray, List.set_cons_zero, List.set_cons_succ]
        refine tkD 3 57 (v := ?_) rfl (by kernel_rfl) (fun _ _ _ h => h) rfl (by rfl) (by assumption) ?_ ?_; rotate_left; (intro w hSw; (try dsimp only at hSw); go_simp; try (with_reducible rfl)); simp only [List.setIfInBounds_toArray, List.set_cons_zero, List.set_cons_succ]
        refine tkD 4 58 (v := ?_) rfl (by kernel_rfl) (fun _ _ _ h => h) rfl (by rfl) (by assumption) ?_ ?_; rotate_left; (intro w hSw; (try dsimp only at hSw); go_simp; try (with_reducible rfl)); simp only [List.setIfInBounds_toArray, List.set_cons_zero, List.set_cons_succ]
        refine tkD 5 59 (v := .agg #[.int .i64 (c.win 0).1, .int .i64 (c.win 0).2, .int .i64 (c.win 1).1, .int .i64 (c.win 1).2, .int .i64 (c.win 2).1, .int .i64 (c.win 2).2, .int .i64 (c.win 3).1, .int .i64 (c.win 3).2]) rfl (by kernel_rfl) (fun _ _ _ h => h) rfl (by rfl) (by assumption) (fun X hX => run_load_rowS 25 (.tmp 58) rfl ⟨r6, 3, none⟩ rfl #[.int .i64 (c.win 0).1, .int .i64 (c.win 0).2, .int .i64 (c.win 1).1, .int .i64 (c.win 1).2, .int .i64 (c.win 2).1, .int .i64 (c.win 2).2, .int .i64 (c.win 3).1, .int .i64 (c.win 3).2] _ (HW3.out X hX) Tryz.underlying25 rfl infoW) ?_; simp only [List.setIfInBounds_toArray, List.set_cons_zero, List.set_cons_succ]
        refine tkD 6 60 (v := ?_) rfl (by kernel_rfl) (fun _ _ _ h => h) rfl (by rfl) (by assumption) ?_ ?_; rotate_left; (intro w hSw; (try dsimp only at hSw); go_simp; try (with_reducible rfl)); simp only [List.setIfInBounds_toArray, List.set_cons_zero, List.set_cons_succ]
        refine tkD 7 61 (v := ?_) rfl (by kernel_rfl) (fun _ _ _ h => h) rfl (by rfl) (by assumption) ?_ ?_; rotate_left; (intro w hSw; (try dsimp only at hSw); go_simp; try (with_reducible rfl)); simp only [List.setIfInBounds_toArray, List.set_cons_zero, List.set_cons_succ]
        refine tkD 8 62 (v := ?_) rfl (by kernel_rfl) (fun _ _ _ h => h) rfl (by rfl) (by assumption) ?_ ?_; rotate_left; (intro w hSw; (try dsimp only at hSw); go_simp; try (with_reducible rfl)); simp only [List.setIfInBounds_toArray, List.set_cons_zero, List.set_cons_succ]
        refine tkD 9 63 (v := ?_) rfl (by kernel_rfl) (fun _ _ _ h => h) rfl (by rfl) (by assumption) ?_ ?_; rotate_left; (intro w hSw; (try dsimp only at hSw); go_simp; try (with_reducible rfl)); simp only [List.setIfInBounds_toArray, List.set_cons_zero, List.set_cons_succ]
        refine tkD 10 64 (v := .agg DF) rfl (by kernel_rfl) (fun _ _ _ h => h) rfl (by rfl) (by assumption) (fun X hX => run_load_rowS 91 (.tmp 63) rfl ⟨b, k * 21, none⟩ rfl DF _ (HDR.out X hX) Tryz.underlying91 rfl hDi) ?_; simp only [List.setIfInBounds_toArray, List.set_cons_zero, List.set_cons_succ]
        refine wpAnyH_ready (rs := [11]) (by kernel_rfl) (by simp) ?_; refine AllReadyH.cons rfl (fun K hK => ?_) AllReadyH.nil
        go_simp
        refine (HCH.out _ _ _).mono ?_
        rintro r w5 ⟨rfl, hb5⟩
        have hB5 := bt kD hb5 (Nat.le_refl _)
        refine hK.out _ _ hB5 (fun hS5 => ?_)
        clear hK K
        refine tkD 12 66 (v := ?_) rfl (by kernel_rfl) (fun _ _ _ h => h) rfl (by rfl) (by assumption) ?_ ?_; rotate_left; (intro w hSw; (try dsimp only at hSw); go_simp; try (with_reducible rfl)); simp only [List.setIfInBounds_toArray, List.set_cons_zero, List.set_cons_succ]
        refine tkD 13 67 (v := ?_) rfl (by kernel_rfl) (fun _ _ _ h => h) rfl (by rfl) (by assumption) ?_ ?_; rotate_left; (intro w hSw; (try dsimp only at hSw); go_simp; try (with_reducible rfl)); simp only [List.setIfInBounds_toArray, List.set_cons_zero, List.set_cons_succ]
        have e20 := HC20.out w5 hB5
        have f20 := HF20.out w5 hB5
        refine wpAnyH_ready (rs := [14]) (by kernel_rfl) (by simp) ?_; refine AllReadyH.cons rfl (fun K hK => ?_) AllReadyH.nil
        go_simp
        rw [setCell_same e20]
        refine hK.out _ _ hB5 (fun hS6 => ?_)
        clear hK K
        refine wpAnyH_done (by kernel_rfl) ?_ _
        have hb7 := bt hbw hB5 (Nat.le_refl _)
        clear kD hb5 hB5 hS5 hS6 d11 e20 f20
        go_wp2
        go_roundw
        case rel => exact ⟨k + 1, by omega, by go_num, hb7⟩
        case measure => simp [intOf]; omega
      · obtain rfl : k = n := by omega
        have hrow := HRow.out wr hbw
        have hB : Below W0.heap.size W0 wr := bt HRS.out.b hbw (Nat.le_refl _)
        have hp0 := hpKeep p0 hB
        clear c11
        go_wp2_with (first
          | (refine wpList_load_row rfl 71 (.tmp 6) rfl r6 rfl 71 RC (0, 0) _ hrow Tryz.underlying71 rfl hRi ?_)
          | (refine wpList_storeW rfl 71 (.tmp 4) (.tmp 69) rfl w.heap.size 0 _ 71 RC rfl rfl hp0 (by simp [HRZ.out]) hRi HRO.out ?_; intro w9 g9 hk9 hz9))
        have g9' : w9.heap[w.heap.size]? = some (.cells RC 71) := by rw [g9, List.drop_eq_nil_of_le (by simp [HRZ.out])]; simp
        refine bodyPost_ret (results_ct_row rfl _ _ w.heap.size 71 RC (0, 0) _ rfl g9' Tryz.underlying71 rfl hRi) rfl ?_
        have hz := HZ0.out
        have hag : Agree W0.heap.size wc w9 := (Agree.of_below hbw).trans (Agree.of_keeps hk9 (fun j e => by omega))
        refine ⟨sv, _, by rw [← HRC.out]; rfl, fun W' hW => ?_, (HB0.out.trans (hB.mono (by omega))).trans (hk9.below (by have := hB.size; omega) (fun j hj e => by omega))⟩
        have h9 := HRS.out.rd W' (hag.trans (hW.mono (by omega)))
        exact ⟨h9.1, h9.2.lower (by omega)⟩
end Go.Proofs.YtipnamoocemeeaaGreat
