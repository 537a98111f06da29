/-
  Texts 46 of the claim.
-/
import Derived.Test.YtipnamoocemeeaaGreatD43
import Derived.Test.YtipnamoocemeeaaGreatD45
namespace Go.Proofs.YtipnamoocemeeaaGreat
open Go.RowKit
theorem chk_parts {c : Cf} (h : chkE c = 0) : setB c.sets = true ∧ rangeB c = true ∧ winE c.win = 0 := by
  unfold chkE at h
  split at h
  · rename_i h1
    split at h
    · rename_i h2
      exact ⟨h1, h2, h⟩
    · omega
  · omega
set_option maxRecDepth 100000 in
set_option maxHeartbeats 12800000 in
theorem rreport_ok (c : Cf) (hc : chkE c = 0) (l : List Fd) (hv : FdsV c c.units l) (hl : l.length ≤ 1000000) (sv dv : Value) (w : World) (hs : Rgs w sv c.sets) (hd : Fds w dv l) : Calls Tryz.prog 39 #[.agg (RpC c sv dv)] w (BoolPost w true) := by
  have hok := Cf.ok_of hc
  obtain ⟨C, hC⟩ : ∃ C, RpC c sv dv = C := ⟨_, rfl⟩
  have hCi : (Tryz.prog.info? 71).map (·.size) = some C.size := by rw [← hC]; exact infoRp
  obtain ⟨W0, hW0⟩ : ∃ W, w.alloc (.cells C 71) = W := ⟨_, rfl⟩
  have hb0 : Below w.heap.size w W0 := by rw [← hW0]; exact bal' w _
  have p0 : W0.heap[w.heap.size]? = some (.cells C 71) := by rw [← hW0]; exact hpNew w _
  obtain ⟨hp1, hp2, hp3⟩ := chk_parts hc
  have HLS : Hid (∀ X, Below W0.heap.size W0 X → Calls Tryz.prog 44 #[sv] X (BoolPost X true)) := fun X hX => rlist_any sv c.sets X (hs.keep (bt hb0 hX (Nat.le_refl _))) true hp1
  have HWN : Hid (∀ X, Calls Tryz.prog 46 #[.agg #[.int .i64 (c.win 0).1, .int .i64 (c.win 0).2, .int .i64 (c.win 1).1, .int .i64 (c.win 1).2, .int .i64 (c.win 2).1, .int .i64 (c.win 2).2, .int .i64 (c.win 3).1, .int .i64 (c.win 3).2]] X (IntPost X 0)) := fun X => rwindows_any c.win X 0 hp3
  obtain ⟨sa, sc, rfl⟩ := hs.slc
  obtain ⟨da, n, dc, rfl, hn⟩ : ∃ a n c, dv = .slice a n c ∧ l.length = n := by obtain ⟨a, c, e, -⟩ := id hd; exact ⟨a, _, c, e, rfl⟩
  obtain ⟨sn, hsn⟩ : ∃ n, c.sets.length = n := ⟨_, rfl⟩
  rw [hsn] at HLS
  have w1 : decide (c.fi < 1) = false := decide_eq_false (by have := hok.f1; omega)
  have w2 : decide (c.la < c.fi) = false := decide_eq_false (by have := hok.fl; omega)
  have w3 : decide ((247 : Int) < c.la) = false := decide_eq_false (by have := hok.l2; omega)
  have r0 : ∀ X, Below W0.heap.size W0 X → X.cell? ⟨w.heap.size, 0, none⟩ = some (.slice sa sn sc) := fun X h => by rw [hpCell (hpKeep p0 h), ← hC, ← hsn]; rfl
  have r1 : ∀ X, Below W0.heap.size W0 X → X.cell? ⟨w.heap.size, 1, none⟩ = some (.int .i64 c.fi) := fun X h => by rw [hpCell (hpKeep p0 h), ← hC]; rfl
  have r2 : ∀ X, Below W0.heap.size W0 X → X.cell? ⟨w.heap.size, 2, none⟩ = some (.int .i64 c.la) := fun X h => by rw [hpCell (hpKeep p0 h), ← hC]; rfl
  have r3 : ∀ X, Below W0.heap.size W0 X → X.cell? ⟨w.heap.size, 3, none⟩ = some (.int .i64 (c.win 0).1) := fun X h => by rw [hpCell (hpKeep p0 h), ← hC]; rfl
  have r4 : ∀ X, Below W0.heap.size W0 X → X.cell? ⟨w.heap.size, 4, none⟩ = some (.int .i64 (c.win 0).2) := fun X h => by rw [hpCell (hpKeep p0 h), ← hC]; rfl
  have r5 : ∀ X, Below W0.heap.size W0 X → X.cell? ⟨w.heap.size, 5, none⟩ = some (.int .i64 (c.win 1).1) := fun X h => by rw [hpCell (hpKeep p0 h), ← hC]; rfl
  have r6 : ∀ X, Below W0.heap.size W0 X → X.cell? ⟨w.heap.size, 6, none⟩ = some (.int .i64 (c.win 1).2) := fun X h => by rw [hpCell (hpKeep p0 h), ← hC]; rfl
  have r7 : ∀ X, Below W0.heap.size W0 X → X.cell? ⟨w.heap.size, 7, none⟩ = some (.int .i64 (c.win 2).1) := fun X h => by rw [hpCell (hpKeep p0 h), ← hC]; rfl
  have r8 : ∀ X, Below W0.heap.size W0 X → X.cell? ⟨w.heap.size, 8, none⟩ = some (.int .i64 (c.win 2).2) := fun X h => by rw [hpCell (hpKeep p0 h), ← hC]; rfl
  have r9 : ∀ X, Below W0.heap.size W0 X → X.cell? ⟨w.heap.size, 9, none⟩ = some (.int .i64 (c.win 3).1) := fun X h => by rw [hpCell (hpKeep p0 h), ← hC]; rfl
  have r10 : ∀ X, Below W0.heap.size W0 X → X.cell? ⟨w.heap.size, 10, none⟩ = some (.int .i64 (c.win 3).2) := fun X h => by rw [hpCell (hpKeep p0 h), ← hC]; rfl
  have r11 : ∀ X, Below W0.heap.size W0 X → X.cell? ⟨w.heap.size, 11, none⟩ = some (.slice da n dc) := fun X h => by rw [hpCell (hpKeep p0 h), ← hC]; rfl
  have HOK := hid hok
  have HV := hid hv
  have HD := hid hd
  have HN := hid hn
  have HSN := hid hsn
  have HW0 := hid hW0
  have HB0 := hid hb0
  have P0 := hid p0
  have hn6 : n ≤ 1000000 := by rw [← hn]; exact hl
  have hs6 : sn ≤ 6 := by rw [← hsn]; exact hok.s6
  have hs1 : 1 ≤ sn := by rw [← hsn]; exact hok.s1
  have hrr : Below W0.heap.size W0 W0 := Below.refl _ _
  rw [hC]
  clear hC hW0 hb0 p0 hs hd hv hn hsn hok hc hl
  go_enter Tryz.func39, Tryz.ntmps39
  go_upto_region 1 with (fail)
  rw [HW0.out]
  go_wp2_with (first
    | (go_at_call 44; (with_reducible refine (HLS.out _ hrr).mono ?_); rintro r wa ⟨rfl, hba⟩)
    | (go_at_call 46; (with_reducible refine (HWN.out _).mono ?_); rintro r wb ⟨rfl, hbb⟩; have hb2 := bt hba hbb (Nat.le_refl _)))
  clear w1 w2 w3
  go_loopw [3] (fun iv wr => ∃ k : Nat, k ≤ n ∧ iv = .int .i64 (k : Int) ∧ Below W0.heap.size W0 wr) (fun iv _ => n - (intOf iv).toNat)
  case atStart => exact ⟨0, Nat.zero_le _, rfl, hb2⟩
  case round =>
    obtain ⟨k, hk, rfl, hbr⟩ := hrel
    have hki : (0 : Int) ≤ (k : Int) := Int.natCast_nonneg _
    have hbw : Below w.heap.size w wr := bt HB0.out hbr (Nat.le_refl _)
    by_cases hlt : k < n
    · have hkl : (k : Int) < (n : Int) := by omega
      obtain ⟨f, hf⟩ : ∃ f, l[k]? = some f := ⟨_, List.getElem?_eq_getElem (by rw [HN.out]; exact hlt)⟩
      obtain ⟨b, o, ov, sv2, mv, rfl, hr, hcl⟩ := (HD.out.keep hbw).at hf
      obtain ⟨⟨a, ha, hfs, hfu⟩, hfv, hf1⟩ := HV.out.one f (List.mem_of_getElem? hf)
      obtain ⟨pb0, pb1, pb2, pb3⟩ := place_bd HOK.out ha
      rw [← hfs] at pb0 pb1
      rw [← hfu] at pb2 pb3
      rw [HSN.out] at pb1
      obtain ⟨DF, hDF⟩ : ∃ C, DvF f ov sv2 mv = C := ⟨_, rfl⟩
      have hDs : DF.size = 21 := by rw [← hDF]; rfl
      have hDi : (Tryz.prog.info? 91).map (·.size) = some DF.size := by rw [hDs]; exact info21
      have hone : DF.toList.all (·.oneCell') = true := by rw [← hDF]; exact DvF_one hr
      have HDV : Hid (∀ X, Below wr.heap.size wr X → Calls Tryz.prog 77 #[.agg DF, .agg #[.int .i64 (c.win 0).1, .int .i64 (c.win 0).2, .int .i64 (c.win 1).1, .int .i64 (c.win 1).2, .int .i64 (c.win 2).1, .int .i64 (c.win 2).2, .int .i64 (c.win 3).1, .int .i64 (c.win 3).2]] X (BoolPost X true)) := fun X hX => by rw [← hDF]; exact rdevice_ok c.win HOK.out.win f hfv hf1 ov sv2 mv X (hr.below hX)
      have j1 : decide (f.set < 0) = false := decide_eq_false (by omega)
      have j2 : decide ((sn : Int) ≤ f.set) = false := decide_eq_false (by omega)
      have j3 : decide (f.unit < c.fi) = false := decide_eq_false (by omega)
      have j4 : decide (c.la < f.unit) = false := decide_eq_false (by omega)
      have hDF0 : DF.toList[0]? = some (.int .i64 f.set) := by rw [← hDF]; rfl
      have hDF1 : DF.toList[1]? = some (.int .i64 f.unit) := by rw [← hDF]; rfl
      rw [hDF] at hcl
      have hck := hcl wr (Below.refl _ _)
      have HDS := hid hDs
      have HF := hid hf
      have HF0 := hid hDF0
      have HF1 := hid hDF1
      have HBW := hid hbw
      clear hcl hr hDF hDs hf hfs hfu hfv hf1 ha pb0 pb1 pb2 pb3 hDF0 hDF1 hbw
      obtain ⟨fs, hfs⟩ : ∃ n, f.set = n := ⟨_, rfl⟩
      obtain ⟨fu, hfu⟩ : ∃ n, f.unit = n := ⟨_, rfl⟩
      rw [hfs] at j1 j2 HF0
      rw [hfu] at j3 j4 HF1
      have HFS := hid hfs
      have HFU := hid hfu
      clear hfs hfu
      go_upto_region 7 with (first
        | (refine wpList_load_at rfl 91 (.tmp 43) rfl ⟨b, o + k * 21, none⟩ rfl DF _ hck Tryz.underlying91 rfl hDi ?_)
        | (refine wpList_storeW rfl 91 (.tmp 4) (.tmp 44) rfl wr.heap.size 0 _ 91 DF rfl rfl (hpNew wr (.cells #[.int .i64 0, .int .i64 0, .int .i64 0, .int .i64 0, .int .i64 0, .slice none 0 0, .int .i64 0, .slice none 0 0, .int .i64 0, .int .i64 0, .slice none 0 0, .int .i64 0, .int .i64 0, .slice none 0 0, .int .i64 0, .int .i64 0, .slice none 0 0, .int .i64 0, .int .i64 0, .slice none 0 0, .string ⟨#[]⟩] 91)) (by simp [HDS.out]) hDi hone ?_; intro w4 g4 hk4 hz4))
      have g4' : w4.heap[wr.heap.size]? = some (.cells DF 91) := by rw [g4, List.drop_eq_nil_of_le (by simp [HDS.out])]; simp
      have hb4 : Below wr.heap.size wr w4 := (bal' wr (.cells #[.int .i64 0, .int .i64 0, .int .i64 0, .int .i64 0, .int .i64 0, .slice none 0 0, .int .i64 0, .slice none 0 0, .int .i64 0, .int .i64 0, .slice none 0 0, .int .i64 0, .int .i64 0, .slice none 0 0, .int .i64 0, .int .i64 0, .slice none 0 0, .int .i64 0, .int .i64 0, .slice none 0 0, .string ⟨#[]⟩] 91)).trans (hk4.below (by simp) (fun j hj e => by omega))
      have hB4 : Below W0.heap.size W0 w4 := bt hbr hb4 (Nat.le_refl _)
      have x0 : ∀ X, Below w4.heap.size w4 X → X.cell? ⟨wr.heap.size, 0, none⟩ = some (.int .i64 fs) := fun X h => by rw [hpCell (hpKeep g4' h)]; simpa using HF0.out
      have x1 : ∀ X, Below w4.heap.size w4 X → X.cell? ⟨wr.heap.size, 1, none⟩ = some (.int .i64 fu) := fun X h => by rw [hpCell (hpKeep g4' h)]; simpa using HF1.out
      have HRF : Hid (∀ j v, DF.toList[j]? = some v → w4.cell? ((⟨wr.heap.size, 0, none⟩ : Addr).add j) = some v) := hpRowAt2 g4'
      have h44 : Below w4.heap.size w4 w4 := Below.refl _ _
      have HB4 := hid hB4
      have HDV4 := hid (HDV.out w4 hb4)
      clear g4 hk4 hz4 g4' hck HDV
      generalize wr.heap.size = xb at *
      go_upto_region 9 with (first
        | (refine wpList_load_atH (by rfl) 91 (.tmp 4) rfl ⟨xb, 0, none⟩ rfl DF _ HRF.out Tryz.underlying91 rfl hDi ?_)
        | (go_at_call 77; (with_reducible refine HDV4.out.mono ?_); rintro r w6 ⟨rfl, hb6⟩))
      have hB6 := bt HB4.out hb6 (Nat.le_refl _)
      have HB6 := hid hB6
      clear HRF HDV4 j1 j2 j3 j4 hDi hone
      by_cases hk0 : 0 < k
      rotate_left
      · have d0 : decide ((0 : Int) < (k : Int)) = false := decide_eq_false (by omega)
        have d0n : decide (0 < k) = false := decide_eq_false hk0
        clear hk0
        go_wp2_with fail
        go_roundw
        case rel => exact ⟨k + 1, by omega, by go_num, HB6.out⟩
        case measure => simp [intOf]; omega
      · have d0 : decide ((0 : Int) < (k : Int)) = true := decide_eq_true (by omega)
        have d0n : decide (0 < k) = true := decide_eq_true hk0
        obtain ⟨m, hm⟩ : ∃ m, k = m + 1 := ⟨k - 1, by omega⟩
        have hml : (m : Int) < (n : Int) := by omega
        have hmi : (0 : Int) ≤ (m : Int) := Int.natCast_nonneg _
        have sw2 : IntKind.i64.wrap ((k : Int) - 1) = (m : Int) := (IntWalk.i64_in _ (by omega)).trans (by omega)
        obtain ⟨e, he⟩ : ∃ e, l[m]? = some e := ⟨_, List.getElem?_eq_getElem (by rw [HN.out]; omega)⟩
        have hlt2 := HV.out.ord m e f he (by rw [← hm]; exact HF.out)
        obtain ⟨b3, o3, ov3, sv3, mv3, hbb, hr3, hcl3⟩ := (HD.out.keep (bt HB0.out hB6 (Nat.le_refl _))).at he
        obtain ⟨rfl, rfl⟩ : b3 = b ∧ o3 = o := by cases hbb; exact ⟨rfl, rfl⟩
        obtain ⟨DE, hDE⟩ : ∃ C, DvF e ov3 sv3 mv3 = C := ⟨_, rfl⟩
        have hEs : DE.size = 21 := by rw [← hDE]; rfl
        have hEi : (Tryz.prog.info? 91).map (·.size) = some DE.size := by rw [hEs]; exact info21
        have hone3 : DE.toList.all (·.oneCell') = true := by rw [← hDE]; exact DvF_one hr3
        have hE0 : DE.toList[0]? = some (.int .i64 e.set) := by rw [← hDE]; rfl
        have hE1 : DE.toList[1]? = some (.int .i64 e.unit) := by rw [← hDE]; rfl
        rw [hDE] at hcl3
        have hck3 := hcl3 w6 (Below.refl _ _)
        unfold FdLt at hlt2
        rw [HFS.out, HFU.out] at hlt2
        obtain ⟨es, hes⟩ : ∃ n, e.set = n := ⟨_, rfl⟩
        obtain ⟨eu, heu⟩ : ∃ n, e.unit = n := ⟨_, rfl⟩
        rw [hes] at hE0 hlt2
        rw [heu] at hE1 hlt2
        have HE0 := hid hE0
        have HE1 := hid hE1
        have HES := hid hEs
        clear hes heu hE0 hE1 hEs hcl3 hr3 hDE hbb he hm hk0
        go_upto_region 11 with (first
          | (refine wpList_load_at rfl 91 (.tmp 83) rfl ⟨b3, o3 + m * 21, none⟩ rfl DE _ hck3 Tryz.underlying91 rfl hEi ?_)
          | (refine wpList_storeW rfl 91 (.tmp 5) (.tmp 84) rfl w6.heap.size 0 _ 91 DE rfl rfl (hpNew w6 (.cells #[.int .i64 0, .int .i64 0, .int .i64 0, .int .i64 0, .int .i64 0, .slice none 0 0, .int .i64 0, .slice none 0 0, .int .i64 0, .int .i64 0, .slice none 0 0, .int .i64 0, .int .i64 0, .slice none 0 0, .int .i64 0, .int .i64 0, .slice none 0 0, .int .i64 0, .int .i64 0, .slice none 0 0, .string ⟨#[]⟩] 91)) (by simp [HES.out]) hEi hone3 ?_; intro w7 g7 hk7 hz7))
        have g7' : w7.heap[w6.heap.size]? = some (.cells DE 91) := by rw [g7, List.drop_eq_nil_of_le (by simp [HES.out])]; simp
        have hb7 : Below w6.heap.size w6 w7 := (bal' w6 (.cells #[.int .i64 0, .int .i64 0, .int .i64 0, .int .i64 0, .int .i64 0, .slice none 0 0, .int .i64 0, .slice none 0 0, .int .i64 0, .int .i64 0, .slice none 0 0, .int .i64 0, .int .i64 0, .slice none 0 0, .int .i64 0, .int .i64 0, .slice none 0 0, .int .i64 0, .int .i64 0, .slice none 0 0, .string ⟨#[]⟩] 91)).trans (hk7.below (by simp) (fun j hj e => by omega))
        have v0 : w7.cell? ⟨w6.heap.size, 0, none⟩ = some (.int .i64 es) := by rw [hpCell g7']; simpa using HE0.out
        have v1 : w7.cell? ⟨w6.heap.size, 1, none⟩ = some (.int .i64 eu) := by rw [hpCell g7']; simpa using HE1.out
        have u0 : w7.cell? ⟨xb, 0, none⟩ = some (.int .i64 fs) := x0 w7 (bt hb6 hb7 (Nat.le_refl _))
        have u1 : w7.cell? ⟨xb, 1, none⟩ = some (.int .i64 fu) := x1 w7 (bt hb6 hb7 (Nat.le_refl _))
        have HB7 := hid (bt HB6.out hb7 (Nat.le_refl _))
        clear g7 g7' hk7 hz7 hb7 hck3 hEi hone3 x0 x1
        generalize w6.heap.size = yb at *
        rcases hlt2 with hlt2 | ⟨hlt2, hlt3⟩
        · have d1 : decide (fs < es) = false := decide_eq_false (by omega)
          have d2 : (es == fs) = false := by rw [beq_eq_false_iff_ne]; omega
          clear hlt2
          go_wp2_with fail
          go_roundw
          case rel => exact ⟨k + 1, by omega, by go_num, HB7.out⟩
          case measure => simp [intOf]; omega
        · subst hlt2
          have d1 : decide (es < es) = false := decide_eq_false (Int.lt_irrefl _)
          have d3 : decide (fu ≤ eu) = false := decide_eq_false (by omega)
          clear hlt3
          go_wp2_with fail
          go_roundw
          case rel => exact ⟨k + 1, by omega, by go_num, HB7.out⟩
          case measure => simp [intOf]; omega
    · obtain rfl : k = n := by omega
      go_wp2
      go_ret
      exact ⟨rfl, hbw⟩
end Go.Proofs.YtipnamoocemeeaaGreat
