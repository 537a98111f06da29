/-
  The contract of modscanlaw26.Windows.
-/
import Derived.Test.YtliblgmpclefgaaGreatPbq
import Derived.Test.YtliblgmpclefgaaGreatInts
import Derived.Laws.Rows
namespace Go.Proofs.YtliblgmpclefgaaGreat
open Go.RowKit

def WgC (win : Nat → Int × Int) : Array Value := #[.int .i64 (win 0).1, .int .i64 (win 0).2, .int .i64 (win 1).1, .int .i64 (win 1).2, .int .i64 (win 2).1, .int .i64 (win 2).2, .int .i64 (win 3).1, .int .i64 (win 3).2]
def WgI (W : World) (b : Nat) (win : Nat → Int × Int) : Prop := W.heap[b]? = some (.cells (WgC win) 34)
def updW (win : Nat → Int × Int) (k : Nat) (r : Int × Int) : Nat → Int × Int := fun i => if i = k then r else win i
theorem WgI.first {W : World} {b : Nat} {win : Nat → Int × Int} (h : WgI W b win) {k : Nat} (hk : k < 4) : W.cell? ⟨b, k * 2, none⟩ = some (.int .i64 (win k).1) := by
  rw [hpCell h]
  match k, hk with
  | 0, _ => rfl
  | 1, _ => rfl
  | 2, _ => rfl
  | 3, _ => rfl
theorem WgI.count {W : World} {b : Nat} {win : Nat → Int × Int} (h : WgI W b win) {k : Nat} (hk : k < 4) : W.cell? ⟨b, k * 2 + 1, none⟩ = some (.int .i64 (win k).2) := by
  rw [hpCell h]
  match k, hk with
  | 0, _ => rfl
  | 1, _ => rfl
  | 2, _ => rfl
  | 3, _ => rfl
theorem WgI.setF {W : World} {b : Nat} {win : Nat → Int × Int} (h : WgI W b win) {k : Nat} (hk : k < 4) (f : Int) : WgI (W.setCell ⟨b, k * 2, none⟩ (.int .i64 f)) b (updW win k (f, (win k).2)) := by
  refine hpSetP h ?_
  match k, hk with
  | 0, _ => rfl
  | 1, _ => rfl
  | 2, _ => rfl
  | 3, _ => rfl
theorem WgI.setC {W : World} {b : Nat} {win : Nat → Int × Int} (h : WgI W b win) {k : Nat} (hk : k < 4) (c : Int) : WgI (W.setCell ⟨b, k * 2 + 1, none⟩ (.int .i64 c)) b (updW win k ((win k).1, c)) := by
  refine hpSetP h ?_
  match k, hk with
  | 0, _ => rfl
  | 1, _ => rfl
  | 2, _ => rfl
  | 3, _ => rfl
theorem updW_at (win : Nat → Int × Int) (k : Nat) (r : Int × Int) : updW win k r k = r := if_pos rfl
theorem updW_upd (win : Nat → Int × Int) (k : Nat) (r s : Int × Int) : updW (updW win k r) k s = updW win k s := by
  funext i
  unfold updW
  split <;> rfl
theorem infoW : (Tryz.prog.info? 34).map (·.size) = some 8 := by kernel_rfl

/-- Windows that are small and right. -/
def okW12 (r : Int × Int) : Prop := 0 ≤ r.2 ∧ r.2 ≤ 12 ∧ 0 ≤ r.1 ∧ r.1 ≤ 65536 - r.2 ∧ (r.2 = 0 → r.1 = 0)
def WdPost (w : World) (r : Ending) (w' : World) : Prop := ∃ win, r = .returned (.agg (WgC win)) ∧ (∀ k, k < 4 → okW12 (win k)) ∧ Below w.heap.size w w'
def wfI (n : Int) : Prop := -9223372036854775808 ≤ n ∧ n ≤ 9223372036854775807

set_option maxRecDepth 100000 in
set_option maxHeartbeats 6400000 in
theorem windows_any (win : Nat → Int × Int) (hwf : ∀ k, k < 4 → (Lit.int .i64 (win k).1).wf = true ∧ (Lit.int .i64 (win k).2).wf = true) (w : World) :
    Calls Tryz.prog 7 #[.agg (WgC win)] w (WdPost w) := by
  obtain ⟨W0, hW0⟩ : ∃ W, (w.alloc (.cells #[.int .i64 (win 0).1, .int .i64 (win 0).2, .int .i64 (win 1).1, .int .i64 (win 1).2, .int .i64 (win 2).1, .int .i64 (win 2).2, .int .i64 (win 3).1, .int .i64 (win 3).2] 34)).alloc (.cells #[.int .i64 0, .int .i64 0, .int .i64 0, .int .i64 0, .int .i64 0, .int .i64 0, .int .i64 0, .int .i64 0] 34) = W := ⟨_, rfl⟩
  have hb0 : Below w.heap.size w W0 := by rw [← hW0]; exact bta (bal' w _) (Nat.le_refl _) _
  have pA : WgI W0 w.heap.size win := by rw [← hW0]; exact hpKeep (hpNew w _) (bal' _ _)
  have pB : W0.heap[w.heap.size + 1]? = some (.cells #[.int .i64 0, .int .i64 0, .int .i64 0, .int .i64 0, .int .i64 0, .int .i64 0, .int .i64 0, .int .i64 0] 34) := by
    rw [← hW0]
    have := hpNew (w.alloc (.cells #[.int .i64 (win 0).1, .int .i64 (win 0).2, .int .i64 (win 1).1, .int .i64 (win 1).2, .int .i64 (win 2).1, .int .i64 (win 2).2, .int .i64 (win 3).1, .int .i64 (win 3).2] 34)) (.cells #[.int .i64 0, .int .i64 0, .int .i64 0, .int .i64 0, .int .i64 0, .int .i64 0, .int .i64 0, .int .i64 0] 34)
    simpa using this
  have HWF := hid hwf
  have HW0 := hid hW0
  have HB0 := hid hb0
  have PA := hid pA
  have PB := hid pB
  clear hW0 hb0 pA pB hwf
  show Calls _ _ #[.agg #[.int .i64 (win 0).1, .int .i64 (win 0).2, .int .i64 (win 1).1, .int .i64 (win 1).2, .int .i64 (win 2).1, .int .i64 (win 2).2, .int .i64 (win 3).1, .int .i64 (win 3).2]] w _
  go_enter Tryz.func7, Tryz.ntmps7
  go_upto_region 1 with (fail)
  rw [HW0.out]
  go_wp2
  go_loopw [3] (fun iv wr => ∃ (k : Nat) (w1 : Nat → Int × Int), k ≤ 4 ∧ iv = .int .i64 k ∧ Hid (WgI wr w.heap.size w1) ∧ Hid (wr.heap[w.heap.size + 1]? = some (.cells #[.int .i64 0, .int .i64 0, .int .i64 0, .int .i64 0, .int .i64 0, .int .i64 0, .int .i64 0, .int .i64 0] 34)) ∧ Hid (∀ j, j < k → okW12 (w1 j)) ∧ Hid (∀ j, k ≤ j → w1 j = win j) ∧ Below w.heap.size w wr) (fun iv _ => 4 - (intOf iv).toNat)
  case atStart => exact ⟨0, win, by omega, rfl, PA.out, PB.out, fun j hj => by omega, fun _ _ => rfl, HB0.out⟩
  case round =>
    obtain ⟨k, w1, hk, rfl, hp, hz, hdone, hrest, hbw⟩ := hrel
    by_cases hlt : k < 4
    · have hki : (0 : Int) ≤ (k : Int) := Int.natCast_nonneg _
      have hkl : (k : Int) < 4 := by omega
      have c0 := hp.out.first hlt
      have c1 := hp.out.count hlt
      have f1 : wr.frozen? ⟨w.heap.size, k * 2 + 1, none⟩ = false := hpFree hp.out _
      have f0 : wr.frozen? ⟨w.heap.size, k * 2, none⟩ = false := hpFree hp.out _
      have hw1 := hrest.out k (Nat.le_refl _)
      obtain ⟨wf0, wf1⟩ := HWF.out k hlt
      rw [← hw1] at wf0 wf1
      clear hw1
      have HM1 : Hid (∀ X, Calls Tryz.prog 10 #[.int .i64 (w1 k).2, .int .i64 13] X fun r w' => r = .returned (.int .i64 ((w1 k).2 % 13)) ∧ X = w') := fun X => mod_any _ 13 (by decide) (by decide) wf1 X
      obtain ⟨c, hc⟩ : ∃ c, (w1 k).2 % 13 = c := ⟨_, rfl⟩
      have hcb : 0 ≤ c ∧ c ≤ 12 := by omega
      rw [hc] at HM1
      have HM2 : Hid (∀ X, Calls Tryz.prog 10 #[.int .i64 (w1 k).1, .int .i64 (65536 - c + 1)] X fun r w' => r = .returned (.int .i64 ((w1 k).1 % (65536 - c + 1))) ∧ X = w') := fun X => mod_any _ (65536 - c + 1) (by omega) (by omega) wf0 X
      obtain ⟨f, hf⟩ : ∃ f, (w1 k).1 % (65536 - c + 1) = f := ⟨_, rfl⟩
      have hfb : 0 ≤ f ∧ f ≤ 65536 - c := by
        have h1 := Int.emod_nonneg (w1 k).1 (show 65536 - c + 1 ≠ 0 by omega)
        have h2 := Int.emod_lt_of_pos (w1 k).1 (show 0 < 65536 - c + 1 by omega)
        omega
      rw [hf] at HM2
      have sw1 : IntKind.i64.wrap (65536 - c) = 65536 - c := IntWalk.i64_in _ (by omega)
      have sw2 : IntKind.i64.wrap (65536 - c + 1) = 65536 - c + 1 := IntWalk.i64_in _ (by omega)
      have pS := hp.out.setC hlt c
      have HCB := hid hcb
      have HFB := hid hfb
      clear hc hf wf0 wf1 hcb hfb
      go_upto_region 5 with (go_at_call 10; (with_reducible refine (HM1.out _).mono ?_); rintro r w2 ⟨rfl, rfl⟩)
      have hkc : Keeps (· = w.heap.size) wr (wr.setCell ⟨w.heap.size, k * 2 + 1, none⟩ (.int .i64 c)) := ks1 (Keeps.refl _ _) _ _
      generalize wr.setCell ⟨w.heap.size, k * 2 + 1, none⟩ (.int .i64 c) = wc at *
      have d0 : wc.cell? ⟨w.heap.size, k * 2, none⟩ = some (.int .i64 (w1 k).1) := by rw [pS.first hlt, updW_at]
      have d1 : wc.cell? ⟨w.heap.size, k * 2 + 1, none⟩ = some (.int .i64 c) := by rw [pS.count hlt, updW_at]
      have g0 : wc.frozen? ⟨w.heap.size, k * 2, none⟩ = false := hpFree pS _
      have HPS := hid pS
      clear c0 c1 f0 f1 pS
      by_cases hc0 : c = 0
      · have HDC : Hid ((c == 0) = true) := b1 hc0
        clear hc0
        have HNX : Hid (∀ j, j < k + 1 → okW12 (updW w1 k (0, c) j)) := fun j hj => by
          by_cases hjk : j = k
          · subst hjk
            rw [updW_at]
            exact ⟨HCB.out.1, HCB.out.2, (by show (0 : Int) ≤ 0; decide), (by show (0 : Int) ≤ 65536 - c; have := HCB.out; omega), fun _ => rfl⟩
          · show okW12 (if j = k then _ else w1 j)
            rw [if_neg hjk]
            exact hdone.out j (by omega)
        have HRS : Hid (∀ j, k + 1 ≤ j → updW w1 k (0, c) j = win j) := fun j hj => by
          show (if j = k then _ else w1 j) = win j
          rw [if_neg (by omega)]
          exact hrest.out j (by omega)
        go_region_with (go_at_call 10; (with_reducible refine (HM2.out _).mono ?_); rintro r w2 ⟨rfl, rfl⟩)
        all_goals
          have pF : WgI (wc.setCell ⟨w.heap.size, k * 2, none⟩ (.int .i64 f)).drew w.heap.size _ := hpKeep (WgI.setF HPS.out hlt f) (Below.refl _ _).drew
          have hkf : Keeps (· = w.heap.size) wr (wc.setCell ⟨w.heap.size, k * 2, none⟩ (.int .i64 f)).drew := (ks1 hkc _ _).trans (Keeps.of_below (Below.refl _ _).drew) (fun _ _ e => e)
          generalize (wc.setCell ⟨w.heap.size, k * 2, none⟩ (.int .i64 f)).drew = wf at *
          have d2 : wf.cell? ⟨w.heap.size, k * 2 + 1, none⟩ = some (.int .i64 c) := by rw [pF.count hlt, updW_at, updW_at]
          have d3 : wf.cell? ⟨w.heap.size, k * 2, none⟩ = some (.int .i64 f) := by rw [pF.first hlt, updW_at]
          have g3 : wf.frozen? ⟨w.heap.size, k * 2, none⟩ = false := hpFree pF _
          have pG := pF.setF hlt 0
          rw [updW_upd, updW_upd, updW_at, updW_at] at pG
          have hkg : Keeps (· = w.heap.size) wr (wf.setCell ⟨w.heap.size, k * 2, none⟩ (.int .i64 0)) := ks1 hkf _ _
          have HPG := hid pG
          have HKG := hid hkg
          clear pF pG hkf hkg d0 d1 hkc
          have dc := HDC.out
          go_wp2
          go_roundw
          case rel => exact ⟨k + 1, _, by omega, by go_num, HPG.out, hpKeeps hz.out HKG.out (by omega), HNX.out, HRS.out, hbw.trans (HKG.out.below (B := w.heap.size) (by have := hbw.size; omega) (fun j hj e => by omega))⟩
          case measure => simp [intOf]; omega
      · have HDC : Hid ((c == 0) = false) := b0 hc0
        have HNC : Hid (¬ c = 0) := hc0
        clear hc0
        have HNX : Hid (∀ j, j < k + 1 → okW12 (updW w1 k (f, c) j)) := fun j hj => by
          by_cases hjk : j = k
          · subst hjk
            rw [updW_at]
            exact ⟨HCB.out.1, HCB.out.2, HFB.out.1, HFB.out.2, fun e => absurd e HNC.out⟩
          · show okW12 (if j = k then _ else w1 j)
            rw [if_neg hjk]
            exact hdone.out j (by omega)
        have HRS : Hid (∀ j, k + 1 ≤ j → updW w1 k (f, c) j = win j) := fun j hj => by
          show (if j = k then _ else w1 j) = win j
          rw [if_neg (by omega)]
          exact hrest.out j (by omega)
        go_region_with (go_at_call 10; (with_reducible refine (HM2.out _).mono ?_); rintro r w2 ⟨rfl, rfl⟩)
        all_goals
          have pF : WgI (wc.setCell ⟨w.heap.size, k * 2, none⟩ (.int .i64 f)).drew w.heap.size _ := hpKeep (WgI.setF HPS.out hlt f) (Below.refl _ _).drew
          have hkf : Keeps (· = w.heap.size) wr (wc.setCell ⟨w.heap.size, k * 2, none⟩ (.int .i64 f)).drew := (ks1 hkc _ _).trans (Keeps.of_below (Below.refl _ _).drew) (fun _ _ e => e)
          generalize (wc.setCell ⟨w.heap.size, k * 2, none⟩ (.int .i64 f)).drew = wf at *
          have d2 : wf.cell? ⟨w.heap.size, k * 2 + 1, none⟩ = some (.int .i64 c) := by rw [pF.count hlt, updW_at, updW_at]
          rw [updW_upd, updW_at] at pF
          have HPG := hid pF
          have HKG := hid hkf
          clear pF hkf d0 d1 hkc
          have dc := HDC.out
          go_wp2
          go_roundw
          case rel => exact ⟨k + 1, _, by omega, by go_num, HPG.out, hpKeeps hz.out HKG.out (by omega), HNX.out, HRS.out, hbw.trans (HKG.out.below (B := w.heap.size) (by have := hbw.size; omega) (fun j hj e => by omega))⟩
          case measure => simp [intOf]; omega
    · obtain rfl : k = 4 := by omega
      obtain ⟨CC, hCC⟩ : ∃ C, WgC w1 = C := ⟨_, rfl⟩
      have hcs : CC.size = 8 := by rw [← hCC]; rfl
      have h1 : CC.toList.all (·.oneCell') = true := by rw [← hCC]; rfl
      have hi8 : (Tryz.prog.info? 34).map (·.size) = some CC.size := by rw [hcs]; exact infoW
      have hPD : wr.heap[w.heap.size]? = some (.cells CC 34) := by rw [← hCC]; exact hp.out
      have HPZ := hid hz.out
      have HCC := hid hCC
      clear hCC
      go_wp2_with (first
        | (refine wpList_load_row rfl 34 (.tmp 1) rfl w.heap.size rfl 34 CC (0, 0) _ hPD Tryz.underlying34 rfl hi8 ?_)
        | (refine wpList_storeW rfl 34 (.tmp 2) (.tmp 38) rfl (w.heap.size + 1) 0 _ 34 CC rfl rfl HPZ.out (by simp [hcs]) hi8 h1 ?_; intro w8 g8 hk8 hz8))
      have g9 : w8.heap[w.heap.size + 1]? = some (.cells CC 34) := by
        rw [g8, List.drop_eq_nil_of_le (by simp [hcs])]
        simp
      refine bodyPost_ret (results_cell_row rfl _ _ (w.heap.size + 1) 34 CC (0, 0) _ rfl g9 Tryz.underlying34 rfl hi8) rfl ?_
      exact ⟨w1, by rw [HCC.out], hdone.out, hbw.trans (hk8.below (B := w.heap.size) (by have := hbw.size; omega) (fun j hj e => by omega))⟩

end Go.Proofs.YtliblgmpclefgaaGreat
