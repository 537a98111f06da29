/-
  Texts 34 of the claim.
-/
import Derived.Test.YtipnamoocemeeaaGreatD27
import Derived.Test.YtipnamoocemeeaaGreatD30
import Derived.Test.YtipnamoocemeeaaGreatD33
import Derived.BigQuiet
namespace Go.Proofs.YtipnamoocemeeaaGreat
open Go.RowKit
theorem rwith_ok (x a b : Int) (h1 : a ≤ x) (h2 : x ≤ b) (w : World) : Calls Tryz.prog 75 #[.int .i64 x, .int .i64 a, .int .i64 b] w fun r w' => r = .returned (.bool true) ∧ w = w' := by
  have g1 : decide (a ≤ x) = true := decide_eq_true h1
  have g2 : decide (x ≤ b) = true := decide_eq_true h2
  clear h1 h2
  go_enter Tryz.func75, Tryz.ntmps75
  go_wp2
  go_ret
  exact ⟨rfl, rfl⟩
theorem settled_ok (x : Int) (h : x = 2 ∨ x = 4 ∨ x = 5) (w : World) : Calls Tryz.prog 147 #[.int .i64 x] w fun r w' => r = .returned (.bool true) ∧ w = w' := by
  rcases h with rfl | rfl | rfl
  · go_enter Tryz.func147, Tryz.ntmps147
    go_wp2
    go_ret
    exact ⟨rfl, rfl⟩
  · go_enter Tryz.func147, Tryz.ntmps147
    go_wp2
    go_ret
    exact ⟨rfl, rfl⟩
  · go_enter Tryz.func147, Tryz.ntmps147
    go_wp2
    go_ret
    exact ⟨rfl, rfl⟩
theorem tab_index0 (f : Fd) (m : Nat → Value) (W : World) : (Instr.index 89 (.agg #[.int .i64 (f.d.ts 0).st, .int .i64 (f.d.ts 0).most, m 0, .int .i64 (f.d.ts 1).st, .int .i64 (f.d.ts 1).most, m 1, .int .i64 (f.d.ts 2).st, .int .i64 (f.d.ts 2).most, m 2, .int .i64 (f.d.ts 3).st, .int .i64 (f.d.ts 3).most, m 3]) (.int .i64 0)).run Tryz.prog W = .ok (.agg #[.int .i64 (f.d.ts 0).st, .int .i64 (f.d.ts 0).most, m 0]) W := by kernel_rfl
theorem tab_index1 (f : Fd) (m : Nat → Value) (W : World) : (Instr.index 89 (.agg #[.int .i64 (f.d.ts 0).st, .int .i64 (f.d.ts 0).most, m 0, .int .i64 (f.d.ts 1).st, .int .i64 (f.d.ts 1).most, m 1, .int .i64 (f.d.ts 2).st, .int .i64 (f.d.ts 2).most, m 2, .int .i64 (f.d.ts 3).st, .int .i64 (f.d.ts 3).most, m 3]) (.int .i64 1)).run Tryz.prog W = .ok (.agg #[.int .i64 (f.d.ts 1).st, .int .i64 (f.d.ts 1).most, m 1]) W := by kernel_rfl
theorem tab_index2 (f : Fd) (m : Nat → Value) (W : World) : (Instr.index 89 (.agg #[.int .i64 (f.d.ts 0).st, .int .i64 (f.d.ts 0).most, m 0, .int .i64 (f.d.ts 1).st, .int .i64 (f.d.ts 1).most, m 1, .int .i64 (f.d.ts 2).st, .int .i64 (f.d.ts 2).most, m 2, .int .i64 (f.d.ts 3).st, .int .i64 (f.d.ts 3).most, m 3]) (.int .i64 2)).run Tryz.prog W = .ok (.agg #[.int .i64 (f.d.ts 2).st, .int .i64 (f.d.ts 2).most, m 2]) W := by kernel_rfl
theorem tab_index3 (f : Fd) (m : Nat → Value) (W : World) : (Instr.index 89 (.agg #[.int .i64 (f.d.ts 0).st, .int .i64 (f.d.ts 0).most, m 0, .int .i64 (f.d.ts 1).st, .int .i64 (f.d.ts 1).most, m 1, .int .i64 (f.d.ts 2).st, .int .i64 (f.d.ts 2).most, m 2, .int .i64 (f.d.ts 3).st, .int .i64 (f.d.ts 3).most, m 3]) (.int .i64 3)).run Tryz.prog W = .ok (.agg #[.int .i64 (f.d.ts 3).st, .int .i64 (f.d.ts 3).most, m 3]) W := by kernel_rfl
theorem tab_index (f : Fd) (m : Nat → Value) (k : Nat) (hk : k < 4) (W : World) : (Instr.index 89 (.agg #[.int .i64 (f.d.ts 0).st, .int .i64 (f.d.ts 0).most, m 0, .int .i64 (f.d.ts 1).st, .int .i64 (f.d.ts 1).most, m 1, .int .i64 (f.d.ts 2).st, .int .i64 (f.d.ts 2).most, m 2, .int .i64 (f.d.ts 3).st, .int .i64 (f.d.ts 3).most, m 3]) (.int .i64 (k : Int))).run Tryz.prog W = .ok (.agg #[.int .i64 (f.d.ts k).st, .int .i64 (f.d.ts k).most, m k]) W := by
  match k, hk with
  | 0, _ => exact tab_index0 f m W
  | 1, _ => exact tab_index1 f m W
  | 2, _ => exact tab_index2 f m W
  | 3, _ => exact tab_index3 f m W
theorem infoTs : (Tryz.prog.info? 89).map (·.size) = some 12 := by kernel_rfl
theorem DvF_tabs (f : Fd) (ov sv : Value) (mv : Nat → Value) (j : Nat) (v : Value) (h : (#[.int .i64 (f.d.ts 0).st, .int .i64 (f.d.ts 0).most, mv 0, .int .i64 (f.d.ts 1).st, .int .i64 (f.d.ts 1).most, mv 1, .int .i64 (f.d.ts 2).st, .int .i64 (f.d.ts 2).most, mv 2, .int .i64 (f.d.ts 3).st, .int .i64 (f.d.ts 3).most, mv 3] : Array Value).toList[j]? = some v) : (DvF f ov sv mv)[8 + j]? = some v := by
  have hj : j < 12 := (List.getElem?_eq_some_iff.1 h).1
  match j, hj with
  | 0, _ => exact h
  | 1, _ => exact h
  | 2, _ => exact h
  | 3, _ => exact h
  | 4, _ => exact h
  | 5, _ => exact h
  | 6, _ => exact h
  | 7, _ => exact h
  | 8, _ => exact h
  | 9, _ => exact h
  | 10, _ => exact h
  | 11, _ => exact h
set_option maxRecDepth 100000 in
set_option maxHeartbeats 6400000 in
theorem bare_ok (f : Fd) (s : Int) (hd : f.d = { Dv.zero with st := s }) (ov sv : Value) (mv : Nat → Value) (w : World) (hr : DvRd w f.d ov sv mv) :
    Calls Tryz.prog 118 #[.agg (DvF f ov sv mv)] w (BoolPost w true) := by
  obtain ⟨st, un, d⟩ := f
  dsimp only at hd hr
  subst hd
  obtain ⟨hro, hrs, hrm⟩ := hr
  obtain ⟨oa, oc, rfl, -⟩ := id hro
  obtain ⟨sa, sc, rfl, -⟩ := id hrs
  have hm : ∀ k, k < 4 → ∃ a c, mv k = .slice a 0 c := fun k hk => own_slice (hrm k hk)
  obtain ⟨F, hF⟩ : ∃ F : Fd, (⟨st, un, { Dv.zero with st := s }⟩ : Fd) = F := ⟨_, rfl⟩
  show Calls _ _ #[.agg (DvF ⟨st, un, { Dv.zero with st := s }⟩ (.slice oa 0 oc) (.slice sa 0 sc) mv)] w _
  obtain ⟨C, hC⟩ : ∃ C, DvF ⟨st, un, { Dv.zero with st := s }⟩ (.slice oa 0 oc) (.slice sa 0 sc) mv = C := ⟨_, rfl⟩
  obtain ⟨W0, hW0⟩ : ∃ W, w.alloc (.cells C 91) = W := ⟨_, rfl⟩
  have hb0 : Below w.heap.size w W0 := by rw [← hW0]; exact bal' w _
  have p0 : W0.heap[w.heap.size]? = some (.cells C 91) := by rw [← hW0]; exact hpNew w _
  rw [hC]
  have r3 : ∀ X, Below W0.heap.size W0 X → X.cell? ⟨w.heap.size, 3, none⟩ = some (.int .i64 0) := fun X h => by rw [hpCell (hpKeep p0 h), ← hC]; rfl
  have r4 : ∀ X, Below W0.heap.size W0 X → X.cell? ⟨w.heap.size, 4, none⟩ = some (.int .i64 0) := fun X h => by rw [hpCell (hpKeep p0 h), ← hC]; rfl
  have r5 : ∀ X, Below W0.heap.size W0 X → X.cell? ⟨w.heap.size, 5, none⟩ = some (.slice oa 0 oc) := fun X h => by rw [hpCell (hpKeep p0 h), ← hC]; rfl
  have r6 : ∀ X, Below W0.heap.size W0 X → X.cell? ⟨w.heap.size, 6, none⟩ = some (.int .i64 0) := fun X h => by rw [hpCell (hpKeep p0 h), ← hC]; rfl
  have r7 : ∀ X, Below W0.heap.size W0 X → X.cell? ⟨w.heap.size, 7, none⟩ = some (.slice sa 0 sc) := fun X h => by rw [hpCell (hpKeep p0 h), ← hC]; rfl
  have r20 : ∀ X, Below W0.heap.size W0 X → X.cell? ⟨w.heap.size, 20, none⟩ = some (.string ⟨#[]⟩) := fun X h => by rw [hpCell (hpKeep p0 h), ← hC]; rfl
  obtain ⟨TC, hTC⟩ : ∃ C : Array Value, (#[.int .i64 (F.d.ts 0).st, .int .i64 (F.d.ts 0).most, mv 0, .int .i64 (F.d.ts 1).st, .int .i64 (F.d.ts 1).most, mv 1, .int .i64 (F.d.ts 2).st, .int .i64 (F.d.ts 2).most, mv 2, .int .i64 (F.d.ts 3).st, .int .i64 (F.d.ts 3).most, mv 3] : Array Value) = C := ⟨_, rfl⟩
  have hti : (Tryz.prog.info? 89).map (·.size) = some TC.size := by rw [← hTC]; exact infoTs
  have hix : ∀ k : Nat, k < 4 → ∀ W, (Instr.index 89 (.agg TC) (.int .i64 (k : Int))).run Tryz.prog W = .ok (.agg #[.int .i64 0, .int .i64 0, mv k]) W := fun k hk W => by
    have h := tab_index F mv k hk W
    rw [hTC, ← hF] at h
    exact h
  have hrow : ∀ j v, TC.toList[j]? = some v → W0.cell? ((⟨w.heap.size, 8, none⟩ : Addr).add j) = some v := fun j v hj => by
    have e : (⟨w.heap.size, 8, none⟩ : Addr).add j = ⟨w.heap.size, 8 + j, none⟩ := by unfold Addr.add; split <;> simp_all
    rw [e, hpCell p0, ← hC]
    rw [← hTC] at hj
    have h := DvF_tabs F (.slice oa 0 oc) (.slice sa 0 sc) mv j v hj
    rw [← hF] at h
    exact h
  have HIX := hid hix
  have HM := hid hm
  have HW0 := hid hW0
  have HB0 := hid hb0
  clear hTC hix hm hW0 hb0 p0 hro hrs hrm hF hC
  go_enter Tryz.func118, Tryz.ntmps118
  go_upto_region 1 with (fail)
  rw [HW0.out]
  go_wp2_with (refine wpList_load_at rfl 89 (.tmp 5) rfl ⟨w.heap.size, 8, none⟩ rfl TC _ hrow Tryz.underlying89 rfl hti ?_)
  go_loopw [7] (fun iv wr => ∃ k : Nat, k ≤ 4 ∧ iv = .int .i64 (k : Int) ∧ Below W0.heap.size W0 wr) (fun iv _ => 4 - (intOf iv).toNat)
  case atStart => exact ⟨0, by omega, rfl, Below.refl _ _⟩
  case round =>
    obtain ⟨k, hk, rfl, hbr⟩ := hrel
    have hki : (0 : Int) ≤ (k : Int) := Int.natCast_nonneg _
    by_cases hlt : k < 4
    · have hkl : (k : Int) < 4 := by omega
      have hx := HIX.out k hlt
      obtain ⟨ma, mc, hmk⟩ := HM.out k hlt
      rw [hmk] at hx
      go_wp2
      go_roundw
      case rel => exact ⟨k + 1, by omega, by go_num, bta hbr (Nat.le_refl _) _⟩
      case measure => simp [intOf]; omega
    · obtain rfl : k = 4 := by omega
      go_wp2
      go_ret
      exact ⟨rfl, bt HB0.out hbr (Nat.le_refl _)⟩
set_option maxRecDepth 100000 in
set_option maxHeartbeats 6400000 in
theorem vserver_ok (f : Fd) (h : SrvV f.d.srv f.d.sd) (ov sv : Value) (mv : Nat → Value) (w : World) (hr : DvRd w f.d ov sv mv) :
    Calls Tryz.prog 121 #[.agg (DvF f ov sv mv)] w (BoolPost w true) := by
  obtain ⟨sa, sc, rfl, -⟩ := id hr.2.1
  obtain ⟨sn, hsn⟩ : ∃ n, f.d.sd.length = n := ⟨_, rfl⟩
  obtain ⟨sr, hsr⟩ : ∃ n, f.d.srv = n := ⟨_, rfl⟩
  obtain ⟨C, hC⟩ : ∃ C, DvF f ov (.slice sa f.d.sd.length sc) mv = C := ⟨_, rfl⟩
  obtain ⟨W0, hW0⟩ : ∃ W, w.alloc (.cells C 91) = W := ⟨_, rfl⟩
  have hb0 : Below w.heap.size w W0 := by rw [← hW0]; exact bal' w _
  have p0 : W0.heap[w.heap.size]? = some (.cells C 91) := by rw [← hW0]; exact hpNew w _
  have r6 : W0.cell? ⟨w.heap.size, 6, none⟩ = some (.int .i64 sr) := by rw [hpCell p0, ← hC, ← hsr]; rfl
  have r7 : W0.cell? ⟨w.heap.size, 7, none⟩ = some (.slice sa sn sc) := by rw [hpCell p0, ← hC, ← hsn]; rfl
  rw [hC]
  have HW0 := hid hW0
  have HB0 := hid hb0
  unfold SrvV at h
  rw [hsr] at h
  rcases h with ⟨h1, h2, h3⟩ | ⟨h1, h2⟩
  · subst h1
    rw [hsn] at h2 h3
    have HW : Hid (∀ X, Calls Tryz.prog 75 #[.int .i64 (sn : Int), .int .i64 1, .int .i64 251] X fun r w' => r = .returned (.bool true) ∧ X = w') := fun X => rwith_ok _ 1 251 (by omega) (by omega) X
    clear hC hr hW0 hb0 p0 hsn hsr h2 h3
    go_enter Tryz.func121, Tryz.ntmps121
    go_upto_region 1 with (fail)
    rw [HW0.out]
    go_wp2_with (go_at_call 75; (with_reducible refine (HW.out _).mono ?_); rintro r w2 ⟨rfl, rfl⟩)
    go_ret
    exact ⟨rfl, HB0.out⟩
  · have hz : sn = 0 := by rw [← hsn, h2]; rfl
    subst hz
    have HS : Hid (∀ X, Calls Tryz.prog 147 #[.int .i64 sr] X fun r w' => r = .returned (.bool true) ∧ X = w') := fun X => settled_ok sr (.inr h1) X
    have g2 : (sr == 2) = false := by rw [beq_eq_false_iff_ne]; omega
    clear hC hr hW0 hb0 p0 hsn hsr h2 h1
    go_enter Tryz.func121, Tryz.ntmps121
    go_upto_region 1 with (fail)
    rw [HW0.out]
    go_wp2_with (go_at_call 147; (with_reducible refine (HS.out _).mono ?_); rintro r w2 ⟨rfl, rfl⟩)
    go_ret
    exact ⟨rfl, HB0.out⟩
end Go.Proofs.YtipnamoocemeeaaGreat
