/-
  Texts 41 of the claim.
-/
import Derived.Test.YtipnamoocemeeaaGreatD35
import Derived.Test.YtipnamoocemeeaaGreatD40
import Derived.Deep.RegionHeld
namespace Go.Proofs.YtipnamoocemeeaaGreat
open Go.RowKit
theorem WG_at (w : Nat → Int × Int) (k : Nat) (hk : k < 4) : (#[.int .i64 (w 0).1, .int .i64 (w 0).2, .int .i64 (w 1).1, .int .i64 (w 1).2, .int .i64 (w 2).1, .int .i64 (w 2).2, .int .i64 (w 3).1, .int .i64 (w 3).2] : Array Value)[k * 2]? = some (.int .i64 (w k).1) ∧ (#[.int .i64 (w 0).1, .int .i64 (w 0).2, .int .i64 (w 1).1, .int .i64 (w 1).2, .int .i64 (w 2).1, .int .i64 (w 2).2, .int .i64 (w 3).1, .int .i64 (w 3).2] : Array Value)[k * 2 + 1]? = some (.int .i64 (w k).2) := by
  match k, hk with
  | 0, _ => exact ⟨rfl, rfl⟩
  | 1, _ => exact ⟨rfl, rfl⟩
  | 2, _ => exact ⟨rfl, rfl⟩
  | 3, _ => exact ⟨rfl, rfl⟩
set_option maxRecDepth 100000 in
set_option maxHeartbeats 12800000 in
theorem vdevice_ok (win : Nat → Int × Int) (hw : WinOk win) (f : Fd) (h : f.d.val win) (h1 : ¬ f.d.st = 1) (ov sv : Value) (mv : Nat → Value) (w : World) (hr : DvRd w f.d ov sv mv) :
    Calls Tryz.prog 76 #[.agg (DvF f ov sv mv), .agg #[.int .i64 (win 0).1, .int .i64 (win 0).2, .int .i64 (win 1).1, .int .i64 (win 1).2, .int .i64 (win 2).1, .int .i64 (win 2).2, .int .i64 (win 3).1, .int .i64 (win 3).2]] w (BoolPost w true) := by
  obtain ⟨C, hC⟩ : ∃ C, DvF f ov sv mv = C := ⟨_, rfl⟩
  have hCi : (Tryz.prog.info? 91).map (·.size) = some C.size := by rw [← hC]; exact info21
  obtain ⟨W0, hW0⟩ : ∃ W, (w.alloc (.cells C 91)).alloc (.cells #[.int .i64 (win 0).1, .int .i64 (win 0).2, .int .i64 (win 1).1, .int .i64 (win 1).2, .int .i64 (win 2).1, .int .i64 (win 2).2, .int .i64 (win 3).1, .int .i64 (win 3).2] 25) = W := ⟨_, rfl⟩
  have hb0 : Below w.heap.size w W0 := by rw [← hW0]; exact bta (bal' w _) (Nat.le_refl _) _
  have p0 : W0.heap[w.heap.size]? = some (.cells C 91) := by rw [← hW0]; exact hpKeep (hpNew w _) (bal' _ _)
  have pw : W0.heap[w.heap.size + 1]? = some (.cells #[.int .i64 (win 0).1, .int .i64 (win 0).2, .int .i64 (win 1).1, .int .i64 (win 1).2, .int .i64 (win 2).1, .int .i64 (win 2).2, .int .i64 (win 3).1, .int .i64 (win 3).2] 25) := by rw [← hW0]; have h := hpNew (w.alloc (.cells C 91)) (.cells #[.int .i64 (win 0).1, .int .i64 (win 0).2, .int .i64 (win 1).1, .int .i64 (win 1).2, .int .i64 (win 2).1, .int .i64 (win 2).2, .int .i64 (win 3).1, .int .i64 (win 3).2] 25); rw [World.size_alloc] at h; exact h
  obtain ⟨st, hst⟩ : ∃ n, f.d.st = n := ⟨_, rfl⟩
  have r2 : W0.cell? ⟨w.heap.size, 2, none⟩ = some (.int .i64 st) := by rw [hpCell p0, ← hC, ← hst]; rfl
  have hrow : ∀ X, Below W0.heap.size W0 X → ∀ j v, C.toList[j]? = some v → X.cell? ((⟨w.heap.size, 0, none⟩ : Addr).add j) = some v := fun X hX => hpRowAt2 (hpKeep p0 hX)
  have HRW := hid hrow
  have HW0 := hid hW0
  have HB0 := hid hb0
  have hrr : Below W0.heap.size W0 W0 := Below.refl _ _
  rcases h with ⟨s, hs, hd⟩ | ⟨h2, h3, h4, h5⟩
  · have hss : st = s := by rw [← hst, hd]
    subst hss
    have HBA : Hid (∀ X, Below W0.heap.size W0 X → Calls Tryz.prog 118 #[.agg C] X (BoolPost X true)) := fun X hX => by rw [← hC]; exact bare_ok f st hd ov sv mv X (hr.below (bt hb0 hX (Nat.le_refl _)))
    have hs34 : st = 3 ∨ st = 4 := by
      rcases hs with e | e | e
      · exact absurd (hst.trans e) h1
      · exact .inl e
      · exact .inr e
    rw [hC]
    clear hC hW0 hb0 p0 pw hst hd hs h1 hr hrow hw
    rcases hs34 with rfl | rfl
    · go_enter Tryz.func76, Tryz.ntmps76
      go_upto_region 1 with (fail)
      rw [HW0.out]
      go_wp2_with (first
        | (refine wpList_load_at rfl 91 (.tmp 2) rfl ⟨w.heap.size, 0, none⟩ rfl C _ (HRW.out _ hrr) Tryz.underlying91 rfl hCi ?_)
        | (go_at_call 118; (with_reducible refine (HBA.out _ hrr).mono ?_); rintro r w2 ⟨rfl, hb2⟩))
      go_ret
      exact ⟨rfl, bt HB0.out hb2 (Nat.le_refl _)⟩
    · go_enter Tryz.func76, Tryz.ntmps76
      go_upto_region 1 with (fail)
      rw [HW0.out]
      go_wp2_with (first
        | (refine wpList_load_at rfl 91 (.tmp 2) rfl ⟨w.heap.size, 0, none⟩ rfl C _ (HRW.out _ hrr) Tryz.underlying91 rfl hCi ?_)
        | (go_at_call 118; (with_reducible refine (HBA.out _ hrr).mono ?_); rintro r w2 ⟨rfl, hb2⟩))
      go_ret
      exact ⟨rfl, bt HB0.out hb2 (Nat.le_refl _)⟩
  · obtain rfl : st = 2 := hst.symm.trans h2
    have HID : Hid (∀ X, Below W0.heap.size W0 X → Calls Tryz.prog 120 #[.agg C] X (BoolPost X true)) := fun X hX => by rw [← hC]; exact videntity_ok f h3 ov sv mv X (hr.below (bt hb0 hX (Nat.le_refl _)))
    have HSV : Hid (∀ X, Below W0.heap.size W0 X → Calls Tryz.prog 121 #[.agg C] X (BoolPost X true)) := fun X hX => by rw [← hC]; exact vserver_ok f h4 ov sv mv X (hr.below (bt hb0 hX (Nat.le_refl _)))
    have hts : ∀ k : Nat, k < 4 → ∃ (s m : Int) (v : Value), (∀ W, (Instr.index 89 (.agg #[.int .i64 (f.d.ts 0).st, .int .i64 (f.d.ts 0).most, mv 0, .int .i64 (f.d.ts 1).st, .int .i64 (f.d.ts 1).most, mv 1, .int .i64 (f.d.ts 2).st, .int .i64 (f.d.ts 2).most, mv 2, .int .i64 (f.d.ts 3).st, .int .i64 (f.d.ts 3).most, mv 3]) (.int .i64 (k : Int))).run Tryz.prog W = .ok (.agg #[.int .i64 s, .int .i64 m, v]) W) ∧ (∃ a n c, v = .slice a n c) ∧
        ∀ X, Below W0.heap.size W0 X → Calls Tryz.prog 119 #[.int .i64 ((k : Int) + 1), .agg #[.int .i64 (win k).1, .int .i64 (win k).2], .agg #[.int .i64 s, .int .i64 m, v]] X (BoolPost X true) := fun k hk => by
      refine ⟨(f.d.ts k).st, (f.d.ts k).most, mv k, fun W => tab_index f mv k hk W, ?_, fun X hX => vtable_ok k (win k) (hw k hk).2.1 (f.d.ts k) (h5 k hk) (mv k) X ((hr.2.2 k hk).keep (bt hb0 hX (Nat.le_refl _)))⟩
      obtain ⟨a, c, e⟩ := own_slice (hr.2.2 k hk)
      exact ⟨a, _, c, e⟩
    obtain ⟨TC, hTC⟩ : ∃ T : Array Value, (#[.int .i64 (f.d.ts 0).st, .int .i64 (f.d.ts 0).most, mv 0, .int .i64 (f.d.ts 1).st, .int .i64 (f.d.ts 1).most, mv 1, .int .i64 (f.d.ts 2).st, .int .i64 (f.d.ts 2).most, mv 2, .int .i64 (f.d.ts 3).st, .int .i64 (f.d.ts 3).most, mv 3] : Array Value) = T := ⟨_, rfl⟩
    have hti : (Tryz.prog.info? 89).map (·.size) = some TC.size := by rw [← hTC]; exact infoTs
    have htrow : ∀ j v, TC.toList[j]? = some v → W0.cell? ((⟨w.heap.size, 8, none⟩ : Addr).add j) = some v := fun j v hj => by
      have e : (⟨w.heap.size, 8, none⟩ : Addr).add j = ⟨w.heap.size, 8 + j, none⟩ := by unfold Addr.add; split <;> simp_all
      rw [e, hpCell p0, ← hC]
      rw [← hTC] at hj
      exact DvF_tabs f ov sv mv j v hj
    rw [hTC] at hts
    have r20 : ∀ X, Below W0.heap.size W0 X → X.cell? ⟨w.heap.size, 20, none⟩ = some (.string ⟨#[]⟩) := fun X hX => by rw [hpCell (hpKeep p0 hX), ← hC]; rfl
    have hwk : ∀ k : Nat, k < 4 → ∀ X, Below W0.heap.size W0 X → X.cell? ⟨w.heap.size + 1, k * 2, none⟩ = some (.int .i64 (win k).1) ∧ X.cell? ⟨w.heap.size + 1, k * 2 + 1, none⟩ = some (.int .i64 (win k).2) := fun k hk X hX => by
      obtain ⟨e1, e2⟩ := WG_at win k hk
      exact ⟨by rw [hpCell (hpKeep pw hX)]; exact e1, by rw [hpCell (hpKeep pw hX)]; exact e2⟩
    have HTS := hid hts
    have HWK := hid hwk
    rw [hC]
    clear hC hW0 hb0 p0 pw hst h1 hr hrow hw h2 h3 h4 h5 hTC hts hwk
    go_enter Tryz.func76, Tryz.ntmps76
    go_upto_region 1 with (fail)
    rw [HW0.out]
    go_wp2_with (refine wpList_load_at rfl 89 (.tmp 16) rfl ⟨w.heap.size, 8, none⟩ rfl TC _ htrow Tryz.underlying89 rfl hti ?_)
    clear htrow hti
    go_loopw [18] (fun iv wr => ∃ k : Nat, k ≤ 4 ∧ iv = .int .i64 (k : Int) ∧ Below W0.heap.size W0 wr) (fun iv _ => 4 - (intOf iv).toNat)
    case atStart => exact ⟨0, by omega, rfl, hrr⟩
    case round =>
      obtain ⟨k, hk, rfl, hbr⟩ := hrel
      have hki : (0 : Int) ≤ (k : Int) := Int.natCast_nonneg _
      have hbw : Below w.heap.size w wr := bt HB0.out hbr (Nat.le_refl _)
      by_cases hlt : k < 4
      · have hkl : (k : Int) < 4 := by omega
        obtain ⟨s, m, v, hx, ⟨a, n, c, rfl⟩, hcall⟩ := HTS.out k hlt
        have e0 : ∀ X, Below W0.heap.size W0 X → X.cell? ⟨w.heap.size + 1, k * 2, none⟩ = some (.int .i64 (win k).1) := fun X hX => (HWK.out k hlt X hX).1
        have e1 : ∀ X, Below W0.heap.size W0 X → X.cell? ⟨w.heap.size + 1, k * 2 + 1, none⟩ = some (.int .i64 (win k).2) := fun X hX => (HWK.out k hlt X hX).2
        have sw1 : IntKind.i64.wrap ((k : Int) + 1) = (k : Int) + 1 := IntWalk.i64_in _ (by omega)
        have HCA := hid hcall
        clear hcall
        generalize (win k).1 = q1 at *
        generalize (win k).2 = q2 at *
        go_upto_region 10 with (fail)
        obtain ⟨W2, hW2⟩ : ∃ W, wr.alloc (.cells #[.int .i64 s, .int .i64 m, .slice a n c] 88) = W := ⟨_, rfl⟩
        have p2 : W2.heap[wr.heap.size]? = some (.cells #[.int .i64 s, .int .i64 m, .slice a n c] 88) := by rw [← hW2]; exact hpNew wr _
        have hB2 : Below W0.heap.size W0 W2 := by rw [← hW2]; exact bta hbr (Nat.le_refl _) _
        have HP2 : Hid (∀ X, Below W2.heap.size W2 X → Below W0.heap.size W0 X) := fun X hX => bt hB2 hX (Nat.le_refl _)
        have x0 : ∀ X, Below W2.heap.size W2 X → X.cell? ⟨wr.heap.size, 0, none⟩ = some (.int .i64 s) := fun X h => hpCell (hpKeep p2 h) 0
        have x1 : ∀ X, Below W2.heap.size W2 X → X.cell? ⟨wr.heap.size, 1, none⟩ = some (.int .i64 m) := fun X h => hpCell (hpKeep p2 h) 1
        have x2 : ∀ X, Below W2.heap.size W2 X → X.cell? ⟨wr.heap.size, 2, none⟩ = some (.slice a n c) := fun X h => hpCell (hpKeep p2 h) 2
        have f0 : ∀ X, Below W2.heap.size W2 X → X.cell? ⟨w.heap.size + 1, k * 2, none⟩ = some (.int .i64 q1) := fun X h => e0 X (HP2.out X h)
        have f1 : ∀ X, Below W2.heap.size W2 X → X.cell? ⟨w.heap.size + 1, k * 2 + 1, none⟩ = some (.int .i64 q2) := fun X h => e1 X (HP2.out X h)
        have HCA2 : Hid (∀ X, Below W2.heap.size W2 X → Calls Tryz.prog 119 #[.int .i64 ((k : Int) + 1), .agg #[.int .i64 q1, .int .i64 q2], .agg #[.int .i64 s, .int .i64 m, .slice a n c]] X (BoolPost X true)) := fun X h => HCA.out X (HP2.out X h)
        rw [hW2]
        have kD : Below W2.heap.size W2 W2.drew := (Below.refl _ _).drew
        have HBR := hid hB2
        clear hW2 p2 e0 e1 hx HCA HP2 hB2 r20 hbr
        generalize wr.heap.size = xb at *
        go_region_held3 (fun W => Below W2.heap.size W2 W) ((with_reducible (first | exact kD | exact bt kD (by assumption) (Nat.le_refl _) | assumption))) ((go_at_call 119; (with_reducible refine (HCA2.out _ (by assumption)).mono ?_); rintro r w5 ⟨rfl, hb5⟩))
        all_goals
          go_wp2
          go_roundw
          case rel => exact ⟨k + 1, by omega, by go_num, bt HBR.out (by assumption) (Nat.le_refl _)⟩
          case measure => simp [intOf]; omega
      · obtain rfl : k = 4 := by omega
        have hkl : ¬ ((4 : Nat) : Int) < 4 := by decide
        go_wp2_with (first
          | (go_at_call 120; (with_reducible refine (HID.out _ hbr).mono ?_); rintro r w2 ⟨rfl, hb2⟩; have hB2 := bt hbr hb2 (Nat.le_refl _))
          | (go_at_call 121; (with_reducible refine (HSV.out _ hB2).mono ?_); rintro r w3 ⟨rfl, hb3⟩; have hB3 := bt hB2 hb3 (Nat.le_refl _))
          | (refine wpList_load_atH (by rfl) 91 (.tmp 2) rfl ⟨w.heap.size, 0, none⟩ rfl C _ (HRW.out _ hB2) Tryz.underlying91 rfl hCi ?_)
          | (refine wpList_load_atH (by rfl) 91 (.tmp 2) rfl ⟨w.heap.size, 0, none⟩ rfl C _ (HRW.out _ hbr) Tryz.underlying91 rfl hCi ?_))
        go_ret
        exact ⟨rfl, bt HB0.out hB3 (Nat.le_refl _)⟩
end Go.Proofs.YtipnamoocemeeaaGreat
