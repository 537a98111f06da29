/-
  Texts 43 of the claim.
-/
import Derived.Test.YtipnamoocemeeaaGreatD41
import Derived.Test.YtipnamoocemeeaaGreatD42
namespace Go.Proofs.YtipnamoocemeeaaGreat
open Go.RowKit
def Cf.hd (c : Cf) : Cf := { c with re := 0, ti := 1, de := 0, ev := 1, st := 0 }
theorem Cf.hd_ok {c : Cf} (h : chkE c = 0) : chkE c.hd = 0 := by
  unfold chkE at h ⊢
  split at h
  · rename_i h1
    rw [if_pos (show setB c.hd.sets = true from h1)]
    split at h
    · rename_i h2
      have h3 : rangeB c.hd = true := by
        unfold rangeB at h2 ⊢
        simp only [Bool.and_eq_true, decide_eq_true_eq] at h2 ⊢
        exact ⟨h2.1, h2.2.1, rfl, rfl, rfl, rfl, rfl⟩
      rw [if_pos h3]
      exact h
    · omega
  · omega
set_option maxRecDepth 100000 in
set_option maxHeartbeats 6400000 in
theorem rhead_ok (c : Cf) (hc : chkE c = 0) (sv dv : Value) (w : World) (hs : Rgs w sv c.sets) : Calls Tryz.prog 74 #[.agg (RpC c sv dv)] w (BoolPost w true) := by
  obtain ⟨C, hC⟩ : ∃ C, RpC c sv dv = C := ⟨_, rfl⟩
  obtain ⟨W0, hW0⟩ : ∃ W, w.alloc (.cells C 71) = W := ⟨_, rfl⟩
  have hb0 : Below w.heap.size w W0 := by rw [← hW0]; exact bal' w _
  have p0 : W0.heap[w.heap.size]? = some (.cells C 71) := by rw [← hW0]; exact hpNew w _
  have r0 : W0.cell? ⟨w.heap.size, 0, none⟩ = some sv := by rw [hpCell p0, ← hC]; rfl
  have r1 : W0.cell? ⟨w.heap.size, 1, none⟩ = some (.int .i64 c.fi) := by rw [hpCell p0, ← hC]; rfl
  have r2 : W0.cell? ⟨w.heap.size, 2, none⟩ = some (.int .i64 c.la) := by rw [hpCell p0, ← hC]; rfl
  have r3 : W0.cell? ⟨w.heap.size, 3, none⟩ = some (.int .i64 (c.win 0).1) := by rw [hpCell p0, ← hC]; rfl
  have r4 : W0.cell? ⟨w.heap.size, 4, none⟩ = some (.int .i64 (c.win 0).2) := by rw [hpCell p0, ← hC]; rfl
  have r5 : W0.cell? ⟨w.heap.size, 5, none⟩ = some (.int .i64 (c.win 1).1) := by rw [hpCell p0, ← hC]; rfl
  have r6 : W0.cell? ⟨w.heap.size, 6, none⟩ = some (.int .i64 (c.win 1).2) := by rw [hpCell p0, ← hC]; rfl
  have r7 : W0.cell? ⟨w.heap.size, 7, none⟩ = some (.int .i64 (c.win 2).1) := by rw [hpCell p0, ← hC]; rfl
  have r8 : W0.cell? ⟨w.heap.size, 8, none⟩ = some (.int .i64 (c.win 2).2) := by rw [hpCell p0, ← hC]; rfl
  have r9 : W0.cell? ⟨w.heap.size, 9, none⟩ = some (.int .i64 (c.win 3).1) := by rw [hpCell p0, ← hC]; rfl
  have r10 : W0.cell? ⟨w.heap.size, 10, none⟩ = some (.int .i64 (c.win 3).2) := by rw [hpCell p0, ← hC]; rfl
  have HCK : Hid (∀ X, Below W0.heap.size W0 X → Calls Tryz.prog 41 #[.agg (CfC c.hd sv)] X (IntPost X 0)) := fun X hX => ccheck_any c.hd sv X (hs.keep (bt hb0 hX (Nat.le_refl _))) 0 (Cf.hd_ok hc)
  obtain ⟨sa, sc, rfl⟩ := hs.slc
  have HW0 := hid hW0
  have HB0 := hid hb0
  rw [hC]
  clear hC hW0 hb0 p0 hs hc
  go_enter Tryz.func74, Tryz.ntmps74
  go_upto_region 1 with (fail)
  rw [HW0.out]
  go_upto_region 2 with (fail)
  obtain ⟨W1, hW1⟩ : ∃ W, W0.alloc (.cells #[.slice sa c.sets.length sc, .int .i64 c.fi, .int .i64 c.la, .int .i64 0, .int .i64 1, .int .i64 0, .int .i64 (c.win 0).1, .int .i64 (c.win 0).2, .int .i64 (c.win 1).1, .int .i64 (c.win 1).2, .int .i64 (c.win 2).1, .int .i64 (c.win 2).2, .int .i64 (c.win 3).1, .int .i64 (c.win 3).2, .int .i64 1, .int .i64 0] 27) = W := ⟨_, rfl⟩
  have p1 : W1.heap[W0.heap.size]? = some (.cells (CfC c.hd (.slice sa c.sets.length sc)) 27) := by rw [← hW1]; exact hpNew W0 _
  have hb1 : Below W0.heap.size W0 W1 := by rw [← hW1]; exact bal' W0 _
  rw [hW1]
  clear hW1 r0 r1 r2 r3 r4 r5 r6 r7 r8 r9 r10
  have HC1 := hid (HCK.out W1 hb1)
  obtain ⟨D, hD⟩ : ∃ D, CfC c.hd (.slice sa c.sets.length sc) = D := ⟨_, rfl⟩
  have hDi : (Tryz.prog.info? 27).map (·.size) = some D.size := by rw [← hD]; exact infoCf
  rw [hD] at p1 HC1
  clear hD HCK
  go_wp2_with (first
    | (refine wpList_load_row rfl 27 (.tmp 3) rfl W0.heap.size rfl 27 D (0, 0) _ p1 Tryz.underlying27 rfl hDi ?_)
    | (go_at_call 41; (with_reducible refine HC1.out.mono ?_); rintro r w2 ⟨rfl, hb2⟩))
  go_ret
  exact ⟨rfl, bt HB0.out (bt hb1 hb2 (Nat.le_refl _)) (Nat.le_refl _)⟩
theorem place_bd {c : Cf} (hok : c.ok) {a : Nat} (ha : a < c.units) : 0 ≤ c.pSet a ∧ c.pSet a ≤ (c.sets.length : Int) - 1 ∧ c.fi ≤ c.pUnit a ∧ c.pUnit a ≤ c.la := by
  have hu := hok.units_bd.2.2
  have hn := hok.n1
  unfold Cf.pSet Cf.pUnit
  have h1 := Int.mul_ediv_add_emod (a : Int) c.n
  have h2 := Int.emod_nonneg (a : Int) (show c.n ≠ 0 by omega)
  have h3 := Int.emod_lt_of_pos (a : Int) (show 0 < c.n by omega)
  have h4 : (0 : Int) ≤ (a : Int) / c.n := Int.ediv_nonneg (by omega) (by omega)
  have h5 : (a : Int) / c.n < (c.sets.length : Int) := Int.ediv_lt_of_lt_mul (by omega) (by rw [← hu]; omega)
  have h6 : c.n = c.la - c.fi + 1 := rfl
  omega
set_option maxRecDepth 100000 in
set_option maxHeartbeats 12800000 in
theorem repvalid_ok (c : Cf) (hc : chkE c = 0) (l : List Fd) (hv : FdsV c c.units l) (hl : l.length ≤ 1000000) (sv dv : Value) (w : World) (hs : Rgs w sv c.sets) (hd : Fds w dv l) : Calls Tryz.prog 38 #[.agg (RpC c sv dv)] w (BoolPost w true) := by
  have hok := Cf.ok_of hc
  obtain ⟨C, hC⟩ : ∃ C, RpC c sv dv = C := ⟨_, rfl⟩
  have hCi : (Tryz.prog.info? 71).map (·.size) = some C.size := by rw [← hC]; exact infoRp
  obtain ⟨W0, hW0⟩ : ∃ W, w.alloc (.cells C 71) = W := ⟨_, rfl⟩
  have hb0 : Below w.heap.size w W0 := by rw [← hW0]; exact bal' w _
  have p0 : W0.heap[w.heap.size]? = some (.cells C 71) := by rw [← hW0]; exact hpNew w _
  have HHD : Hid (Calls Tryz.prog 74 #[.agg C] W0 (BoolPost W0 true)) := by rw [← hC]; exact rhead_ok c hc sv dv W0 (hs.keep hb0)
  obtain ⟨sa, sc, rfl⟩ := hs.slc
  obtain ⟨da, n, dc, rfl, hn⟩ : ∃ a n c, dv = .slice a n c ∧ l.length = n := by obtain ⟨a, c, e, -⟩ := id hd; exact ⟨a, _, c, e, rfl⟩
  obtain ⟨sn, hsn⟩ : ∃ n, c.sets.length = n := ⟨_, rfl⟩
  have r0 : ∀ X, Below W0.heap.size W0 X → X.cell? ⟨w.heap.size, 0, none⟩ = some (.slice sa sn sc) := fun X h => by rw [hpCell (hpKeep p0 h), ← hC, ← hsn]; rfl
  have r1 : ∀ X, Below W0.heap.size W0 X → X.cell? ⟨w.heap.size, 1, none⟩ = some (.int .i64 c.fi) := fun X h => by rw [hpCell (hpKeep p0 h), ← hC]; rfl
  have r2 : ∀ X, Below W0.heap.size W0 X → X.cell? ⟨w.heap.size, 2, none⟩ = some (.int .i64 c.la) := fun X h => by rw [hpCell (hpKeep p0 h), ← hC]; rfl
  have r3 : ∀ X, Below W0.heap.size W0 X → X.cell? ⟨w.heap.size, 3, none⟩ = some (.int .i64 (c.win 0).1) := fun X h => by rw [hpCell (hpKeep p0 h), ← hC]; rfl
  have r4 : ∀ X, Below W0.heap.size W0 X → X.cell? ⟨w.heap.size, 4, none⟩ = some (.int .i64 (c.win 0).2) := fun X h => by rw [hpCell (hpKeep p0 h), ← hC]; rfl
  have r5 : ∀ X, Below W0.heap.size W0 X → X.cell? ⟨w.heap.size, 5, none⟩ = some (.int .i64 (c.win 1).1) := fun X h => by rw [hpCell (hpKeep p0 h), ← hC]; rfl
  have r6 : ∀ X, Below W0.heap.size W0 X → X.cell? ⟨w.heap.size, 6, none⟩ = some (.int .i64 (c.win 1).2) := fun X h => by rw [hpCell (hpKeep p0 h), ← hC]; rfl
  have r7 : ∀ X, Below W0.heap.size W0 X → X.cell? ⟨w.heap.size, 7, none⟩ = some (.int .i64 (c.win 2).1) := fun X h => by rw [hpCell (hpKeep p0 h), ← hC]; rfl
  have r8 : ∀ X, Below W0.heap.size W0 X → X.cell? ⟨w.heap.size, 8, none⟩ = some (.int .i64 (c.win 2).2) := fun X h => by rw [hpCell (hpKeep p0 h), ← hC]; rfl
  have r9 : ∀ X, Below W0.heap.size W0 X → X.cell? ⟨w.heap.size, 9, none⟩ = some (.int .i64 (c.win 3).1) := fun X h => by rw [hpCell (hpKeep p0 h), ← hC]; rfl
  have r10 : ∀ X, Below W0.heap.size W0 X → X.cell? ⟨w.heap.size, 10, none⟩ = some (.int .i64 (c.win 3).2) := fun X h => by rw [hpCell (hpKeep p0 h), ← hC]; rfl
  have r11 : ∀ X, Below W0.heap.size W0 X → X.cell? ⟨w.heap.size, 11, none⟩ = some (.slice da n dc) := fun X h => by rw [hpCell (hpKeep p0 h), ← hC]; rfl
  have HOK := hid hok
  have HV := hid hv
  have HD := hid hd
  have HN := hid hn
  have HSN := hid hsn
  have HW0 := hid hW0
  have HB0 := hid hb0
  have P0 := hid p0
  have hn6 : n ≤ 1000000 := by rw [← hn]; exact hl
  have hs6 : sn ≤ 6 := by rw [← hsn]; exact hok.s6
  have hs1 : 1 ≤ sn := by rw [← hsn]; exact hok.s1
  have hrr : Below W0.heap.size W0 W0 := Below.refl _ _
  rw [hC]
  clear hC hW0 hb0 p0 hs hd hv hn hsn hok hc hl
  go_enter Tryz.func38, Tryz.ntmps38
  go_upto_region 1 with (fail)
  rw [HW0.out]
  go_wp2_with (first
    | (refine wpList_load_row rfl 71 (.tmp 1) rfl w.heap.size rfl 71 C (0, 0) _ P0.out Tryz.underlying71 rfl hCi ?_)
    | (go_at_call 74; (with_reducible refine HHD.out.mono ?_); rintro r w2 ⟨rfl, hb2⟩))
  go_loopw [12] (fun iv wr => ∃ k : Nat, k ≤ n ∧ iv = .int .i64 (k : Int) ∧ Below W0.heap.size W0 wr) (fun iv _ => n - (intOf iv).toNat)
  case atStart => exact ⟨0, Nat.zero_le _, rfl, hb2⟩
  case round =>
    obtain ⟨k, hk, rfl, hbr⟩ := hrel
    have hki : (0 : Int) ≤ (k : Int) := Int.natCast_nonneg _
    have hbw : Below w.heap.size w wr := bt HB0.out hbr (Nat.le_refl _)
    by_cases hlt : k < n
    · have hkl : (k : Int) < (n : Int) := by omega
      obtain ⟨f, hf⟩ : ∃ f, l[k]? = some f := ⟨_, List.getElem?_eq_getElem (by rw [HN.out]; exact hlt)⟩
      obtain ⟨b, o, ov, sv2, mv, rfl, hr, hcl⟩ := (HD.out.keep hbw).at hf
      obtain ⟨⟨a, ha, hfs, hfu⟩, hfv, hf1⟩ := HV.out.one f (List.mem_of_getElem? hf)
      obtain ⟨pb0, pb1, pb2, pb3⟩ := place_bd HOK.out ha
      rw [← hfs] at pb0 pb1
      rw [← hfu] at pb2 pb3
      rw [HSN.out] at pb1
      obtain ⟨DF, hDF⟩ : ∃ C, DvF f ov sv2 mv = C := ⟨_, rfl⟩
      have hDs : DF.size = 21 := by rw [← hDF]; rfl
      have hDi : (Tryz.prog.info? 91).map (·.size) = some DF.size := by rw [hDs]; exact info21
      have hone : DF.toList.all (·.oneCell') = true := by rw [← hDF]; exact DvF_one hr
      have HDV : Hid (∀ X, Below wr.heap.size wr X → Calls Tryz.prog 76 #[.agg DF, .agg #[.int .i64 (c.win 0).1, .int .i64 (c.win 0).2, .int .i64 (c.win 1).1, .int .i64 (c.win 1).2, .int .i64 (c.win 2).1, .int .i64 (c.win 2).2, .int .i64 (c.win 3).1, .int .i64 (c.win 3).2]] X (BoolPost X true)) := fun X hX => by rw [← hDF]; exact vdevice_ok c.win HOK.out.win f hfv hf1 ov sv2 mv X (hr.below hX)
      have HWS : Hid (∀ X, Calls Tryz.prog 75 #[.int .i64 f.set, .int .i64 0, .int .i64 ((sn : Int) - 1)] X fun r w' => r = .returned (.bool true) ∧ X = w') := fun X => rwith_ok f.set 0 _ pb0 pb1 X
      have HWU : Hid (∀ X, Calls Tryz.prog 75 #[.int .i64 f.unit, .int .i64 c.fi, .int .i64 c.la] X fun r w' => r = .returned (.bool true) ∧ X = w') := fun X => rwith_ok f.unit _ _ pb2 pb3 X
      have sw1 : IntKind.i64.wrap ((sn : Int) - 1) = (sn : Int) - 1 := IntWalk.i64_in _ (by omega)
      have hDF0 : DF.toList[0]? = some (.int .i64 f.set) := by rw [← hDF]; rfl
      have hDF1 : DF.toList[1]? = some (.int .i64 f.unit) := by rw [← hDF]; rfl
      rw [hDF] at hcl
      have hck := hcl wr (Below.refl _ _)
      have HDS := hid hDs
      have HF := hid hf
      have HF0 := hid hDF0
      have HF1 := hid hDF1
      have HBW := hid hbw
      clear hcl hr hDF hDs hf hfs hfu hfv hf1 ha pb0 pb1 pb2 pb3 hDF0 hDF1 hbw
      obtain ⟨fs, hfs⟩ : ∃ n, f.set = n := ⟨_, rfl⟩
      obtain ⟨fu, hfu⟩ : ∃ n, f.unit = n := ⟨_, rfl⟩
      rw [hfs] at HWS HF0
      rw [hfu] at HWU HF1
      have HFS := hid hfs
      have HFU := hid hfu
      clear hfs hfu
      go_upto_region 6 with (first
        | (refine wpList_load_at rfl 91 (.tmp 15) rfl ⟨b, o + k * 21, none⟩ rfl DF _ hck Tryz.underlying91 rfl hDi ?_)
        | (refine wpList_storeW rfl 91 (.tmp 4) (.tmp 16) rfl wr.heap.size 0 _ 91 DF rfl rfl (hpNew wr (.cells #[.int .i64 0, .int .i64 0, .int .i64 0, .int .i64 0, .int .i64 0, .slice none 0 0, .int .i64 0, .slice none 0 0, .int .i64 0, .int .i64 0, .slice none 0 0, .int .i64 0, .int .i64 0, .slice none 0 0, .int .i64 0, .int .i64 0, .slice none 0 0, .int .i64 0, .int .i64 0, .slice none 0 0, .string ⟨#[]⟩] 91)) (by simp [HDS.out]) hDi hone ?_; intro w4 g4 hk4 hz4))
      have g4' : w4.heap[wr.heap.size]? = some (.cells DF 91) := by rw [g4, List.drop_eq_nil_of_le (by simp [HDS.out])]; simp
      have hb4 : Below wr.heap.size wr w4 := (bal' wr (.cells #[.int .i64 0, .int .i64 0, .int .i64 0, .int .i64 0, .int .i64 0, .slice none 0 0, .int .i64 0, .slice none 0 0, .int .i64 0, .int .i64 0, .slice none 0 0, .int .i64 0, .int .i64 0, .slice none 0 0, .int .i64 0, .int .i64 0, .slice none 0 0, .int .i64 0, .int .i64 0, .slice none 0 0, .string ⟨#[]⟩] 91)).trans (hk4.below (by simp) (fun j hj e => by omega))
      have hB4 : Below W0.heap.size W0 w4 := bt hbr hb4 (Nat.le_refl _)
      have x0 : ∀ X, Below w4.heap.size w4 X → X.cell? ⟨wr.heap.size, 0, none⟩ = some (.int .i64 fs) := fun X h => by rw [hpCell (hpKeep g4' h)]; simpa using HF0.out
      have x1 : ∀ X, Below w4.heap.size w4 X → X.cell? ⟨wr.heap.size, 1, none⟩ = some (.int .i64 fu) := fun X h => by rw [hpCell (hpKeep g4' h)]; simpa using HF1.out
      have HRF : Hid (∀ j v, DF.toList[j]? = some v → w4.cell? ((⟨wr.heap.size, 0, none⟩ : Addr).add j) = some v) := hpRowAt2 g4'
      have h44 : Below w4.heap.size w4 w4 := Below.refl _ _
      have HB4 := hid hB4
      have HDV4 := hid (HDV.out w4 hb4)
      clear g4 hk4 hz4 g4' hck HDV
      generalize wr.heap.size = xb at *
      go_upto_region 8 with (first
        | (go_at_call 75; (with_reducible refine (HWS.out _).mono ?_); rintro r w5 ⟨rfl, rfl⟩)
        | (go_at_call 75; (with_reducible refine (HWU.out _).mono ?_); rintro r w5 ⟨rfl, rfl⟩)
        | (refine wpList_load_atH (by rfl) 91 (.tmp 4) rfl ⟨xb, 0, none⟩ rfl DF _ HRF.out Tryz.underlying91 rfl hDi ?_)
        | (go_at_call 76; (with_reducible refine HDV4.out.mono ?_); rintro r w6 ⟨rfl, hb6⟩))
      have hB6 := bt HB4.out hb6 (Nat.le_refl _)
      have HB6 := hid hB6
      clear HRF HDV4 HWS HWU hDi hone
      by_cases hk0 : 0 < k
      rotate_left
      · have d0 : decide ((0 : Int) < (k : Int)) = false := decide_eq_false (by omega)
        have d0n : decide (0 < k) = false := decide_eq_false hk0
        clear hk0
        go_wp2_with fail
        go_roundw
        case rel => exact ⟨k + 1, by omega, by go_num, HB6.out⟩
        case measure => simp [intOf]; omega
      · have d0 : decide ((0 : Int) < (k : Int)) = true := decide_eq_true (by omega)
        have d0n : decide (0 < k) = true := decide_eq_true hk0
        obtain ⟨m, hm⟩ : ∃ m, k = m + 1 := ⟨k - 1, by omega⟩
        have hml : (m : Int) < (n : Int) := by omega
        have hmi : (0 : Int) ≤ (m : Int) := Int.natCast_nonneg _
        have sw2 : IntKind.i64.wrap ((k : Int) - 1) = (m : Int) := (IntWalk.i64_in _ (by omega)).trans (by omega)
        obtain ⟨e, he⟩ : ∃ e, l[m]? = some e := ⟨_, List.getElem?_eq_getElem (by rw [HN.out]; omega)⟩
        have hlt2 := HV.out.ord m e f he (by rw [← hm]; exact HF.out)
        obtain ⟨b3, o3, ov3, sv3, mv3, hbb, hr3, hcl3⟩ := (HD.out.keep (bt HB0.out hB6 (Nat.le_refl _))).at he
        obtain ⟨rfl, rfl⟩ : b3 = b ∧ o3 = o := by cases hbb; exact ⟨rfl, rfl⟩
        obtain ⟨DE, hDE⟩ : ∃ C, DvF e ov3 sv3 mv3 = C := ⟨_, rfl⟩
        have hEs : DE.size = 21 := by rw [← hDE]; rfl
        have hEi : (Tryz.prog.info? 91).map (·.size) = some DE.size := by rw [hEs]; exact info21
        have hone3 : DE.toList.all (·.oneCell') = true := by rw [← hDE]; exact DvF_one hr3
        have hE0 : DE.toList[0]? = some (.int .i64 e.set) := by rw [← hDE]; rfl
        have hE1 : DE.toList[1]? = some (.int .i64 e.unit) := by rw [← hDE]; rfl
        rw [hDE] at hcl3
        have hck3 := hcl3 w6 (Below.refl _ _)
        unfold FdLt at hlt2
        rw [HFS.out, HFU.out] at hlt2
        obtain ⟨es, hes⟩ : ∃ n, e.set = n := ⟨_, rfl⟩
        obtain ⟨eu, heu⟩ : ∃ n, e.unit = n := ⟨_, rfl⟩
        rw [hes] at hE0 hlt2
        rw [heu] at hE1 hlt2
        have HE0 := hid hE0
        have HE1 := hid hE1
        have HES := hid hEs
        clear hes heu hE0 hE1 hEs hcl3 hr3 hDE hbb he hm hk0
        go_upto_region 10 with (first
          | (refine wpList_load_at rfl 91 (.tmp 48) rfl ⟨b3, o3 + m * 21, none⟩ rfl DE _ hck3 Tryz.underlying91 rfl hEi ?_)
          | (refine wpList_storeW rfl 91 (.tmp 5) (.tmp 49) rfl w6.heap.size 0 _ 91 DE rfl rfl (hpNew w6 (.cells #[.int .i64 0, .int .i64 0, .int .i64 0, .int .i64 0, .int .i64 0, .slice none 0 0, .int .i64 0, .slice none 0 0, .int .i64 0, .int .i64 0, .slice none 0 0, .int .i64 0, .int .i64 0, .slice none 0 0, .int .i64 0, .int .i64 0, .slice none 0 0, .int .i64 0, .int .i64 0, .slice none 0 0, .string ⟨#[]⟩] 91)) (by simp [HES.out]) hEi hone3 ?_; intro w7 g7 hk7 hz7))
        have g7' : w7.heap[w6.heap.size]? = some (.cells DE 91) := by rw [g7, List.drop_eq_nil_of_le (by simp [HES.out])]; simp
        have hb7 : Below w6.heap.size w6 w7 := (bal' w6 (.cells #[.int .i64 0, .int .i64 0, .int .i64 0, .int .i64 0, .int .i64 0, .slice none 0 0, .int .i64 0, .slice none 0 0, .int .i64 0, .int .i64 0, .slice none 0 0, .int .i64 0, .int .i64 0, .slice none 0 0, .int .i64 0, .int .i64 0, .slice none 0 0, .int .i64 0, .int .i64 0, .slice none 0 0, .string ⟨#[]⟩] 91)).trans (hk7.below (by simp) (fun j hj e => by omega))
        have v0 : w7.cell? ⟨w6.heap.size, 0, none⟩ = some (.int .i64 es) := by rw [hpCell g7']; simpa using HE0.out
        have v1 : w7.cell? ⟨w6.heap.size, 1, none⟩ = some (.int .i64 eu) := by rw [hpCell g7']; simpa using HE1.out
        have u0 : w7.cell? ⟨xb, 0, none⟩ = some (.int .i64 fs) := x0 w7 (bt hb6 hb7 (Nat.le_refl _))
        have u1 : w7.cell? ⟨xb, 1, none⟩ = some (.int .i64 fu) := x1 w7 (bt hb6 hb7 (Nat.le_refl _))
        have HB7 := hid (bt HB6.out hb7 (Nat.le_refl _))
        clear g7 g7' hk7 hz7 hb7 hck3 hEi hone3 x0 x1
        generalize w6.heap.size = yb at *
        rcases hlt2 with hlt2 | ⟨hlt2, hlt3⟩
        · have d1 : decide (fs < es) = false := decide_eq_false (by omega)
          have d2 : (fs == es) = false := by rw [beq_eq_false_iff_ne]; omega
          clear hlt2
          go_wp2_with fail
          go_roundw
          case rel => exact ⟨k + 1, by omega, by go_num, HB7.out⟩
          case measure => simp [intOf]; omega
        · subst hlt2
          have d1 : decide (es < es) = false := decide_eq_false (Int.lt_irrefl _)
          have d3 : decide (fu ≤ eu) = false := decide_eq_false (by omega)
          clear hlt3
          go_wp2_with fail
          go_roundw
          case rel => exact ⟨k + 1, by omega, by go_num, HB7.out⟩
          case measure => simp [intOf]; omega
    · obtain rfl : k = n := by omega
      go_wp2
      go_ret
      exact ⟨rfl, hbw⟩
end Go.Proofs.YtipnamoocemeeaaGreat
