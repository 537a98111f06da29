/-
  Texts 45 of the claim.
-/
import Derived.Test.YtipnamoocemeeaaGreatD44
import Derived.Test.YtipnamoocemeeaaGreatD41
namespace Go.Proofs.YtipnamoocemeeaaGreat
open Go.RowKit
theorem Dv.st_small (s : Int) : ({ Dv.zero with st := s } : Dv).small := ⟨Dv.zero_small.ob, Dv.zero_small.vs, Dv.zero_small.sd, Dv.zero_small.mp⟩
set_option maxRecDepth 100000 in
set_option maxHeartbeats 6400000 in
theorem blank_ok (f : Fd) (s : Int) (hd : f.d = { Dv.zero with st := s }) (ov sv : Value) (mv : Nat → Value) (w : World) (hr : DvRd w f.d ov sv mv) :
    Calls Tryz.prog 122 #[.agg (DvF f ov sv mv)] w (BoolPost w true) := by
  obtain ⟨st, un, d⟩ := f
  dsimp only at hd hr
  subst hd
  obtain ⟨C, hC⟩ : ∃ C, DvF ⟨st, un, { Dv.zero with st := s }⟩ ov sv mv = C := ⟨_, rfl⟩
  have hCi : (Tryz.prog.info? 91).map (·.size) = some C.size := by rw [← hC]; exact info21
  obtain ⟨W0, hW0⟩ : ∃ W, w.alloc (.cells C 91) = W := ⟨_, rfl⟩
  have hb0 : Below w.heap.size w W0 := by rw [← hW0]; exact bal' w _
  have p0 : W0.heap[w.heap.size]? = some (.cells C 91) := by rw [← hW0]; exact hpNew w _
  have r0 : W0.cell? ⟨w.heap.size, 0, none⟩ = some (.int .i64 st) := by rw [hpCell p0, ← hC]; rfl
  have r1 : W0.cell? ⟨w.heap.size, 1, none⟩ = some (.int .i64 un) := by rw [hpCell p0, ← hC]; rfl
  have r2 : W0.cell? ⟨w.heap.size, 2, none⟩ = some (.int .i64 s) := by rw [hpCell p0, ← hC]; rfl
  have HSD : Hid (∀ X, Below W0.heap.size W0 X → Calls Tryz.prog 52 #[.agg C, .agg #[.int .i64 st, .int .i64 un, .int .i64 s, .int .i64 0, .int .i64 0, .slice none 0 0, .int .i64 0, .slice none 0 0, .int .i64 0, .int .i64 0, .slice none 0 0, .int .i64 0, .int .i64 0, .slice none 0 0, .int .i64 0, .int .i64 0, .slice none 0 0, .int .i64 0, .int .i64 0, .slice none 0 0, .string ⟨#[]⟩]] X (BoolPost X true)) := fun X hX => by
    have h := samefd_eq ⟨st, un, { Dv.zero with st := s }⟩ (Dv.st_small s) ov sv mv (.slice none 0 0) (.slice none 0 0) (fun _ => .slice none 0 0) X (hr.below (bt hb0 hX (Nat.le_refl _))) ⟨Obs.nil _, Bs.nil _, fun k _ => Spn.nil _ _⟩
    rw [hC] at h
    exact h
  have HW0 := hid hW0
  have HB0 := hid hb0
  have HP0 := hid p0
  have hrr : Below W0.heap.size W0 W0 := Below.refl _ _
  rw [hC]
  clear hC hW0 hb0 p0 hr
  go_enter Tryz.func122, Tryz.ntmps122
  go_upto_region 1 with (fail)
  rw [HW0.out]
  go_wp2_with (first
    | (refine wpList_load_row rfl 91 (.tmp 1) rfl w.heap.size rfl 91 C (0, 0) _ HP0.out Tryz.underlying91 rfl hCi ?_)
    | (go_at_call 52; (with_reducible refine (HSD.out _ hrr).mono ?_); rintro r w2 ⟨rfl, hb2⟩))
  go_ret
  exact ⟨rfl, bt HB0.out hb2 (Nat.le_refl _)⟩
theorem rises_of : ∀ (l : List Ob) (a : Int), ordF a l = true → (∀ y ∈ l, y.id ≤ 255) → rises a l = true
  | [], _, _, _ => rfl
  | x :: l, a, h, h2 => by
    simp only [ordF, rises, Bool.and_eq_true, decide_eq_true_eq] at h ⊢
    have h3 := rises_of l x.id h.2 (fun y hy => h2 y (List.mem_cons_of_mem _ hy))
    have h4 := h2 x List.mem_cons_self
    simp_all
set_option maxRecDepth 100000 in
set_option maxHeartbeats 12800000 in
theorem rdevice_ok (win : Nat → Int × Int) (hw : WinOk win) (f : Fd) (h : f.d.val win) (h1 : ¬ f.d.st = 1) (ov sv : Value) (mv : Nat → Value) (w : World) (hr : DvRd w f.d ov sv mv) :
    Calls Tryz.prog 77 #[.agg (DvF f ov sv mv), .agg #[.int .i64 (win 0).1, .int .i64 (win 0).2, .int .i64 (win 1).1, .int .i64 (win 1).2, .int .i64 (win 2).1, .int .i64 (win 2).2, .int .i64 (win 3).1, .int .i64 (win 3).2]] w (BoolPost w true) := by
  obtain ⟨oa, on, oc, rfl, hon, hon64, honc, -, -⟩ := hr.1.open_
  obtain ⟨sa, sc, rfl, -⟩ := id hr.2.1
  obtain ⟨sn, hsn⟩ : ∃ n, f.d.sd.length = n := ⟨_, rfl⟩
  obtain ⟨C, hC⟩ : ∃ C, DvF f (.slice oa on oc) (.slice sa f.d.sd.length sc) mv = C := ⟨_, rfl⟩
  have hCi : (Tryz.prog.info? 91).map (·.size) = some C.size := by rw [← hC]; exact info21
  obtain ⟨W0, hW0⟩ : ∃ W, (w.alloc (.cells C 91)).alloc (.cells #[.int .i64 (win 0).1, .int .i64 (win 0).2, .int .i64 (win 1).1, .int .i64 (win 1).2, .int .i64 (win 2).1, .int .i64 (win 2).2, .int .i64 (win 3).1, .int .i64 (win 3).2] 25) = W := ⟨_, rfl⟩
  have hb0 : Below w.heap.size w W0 := by rw [← hW0]; exact bta (bal' w _) (Nat.le_refl _) _
  have p0 : W0.heap[w.heap.size]? = some (.cells C 91) := by rw [← hW0]; exact hpKeep (hpNew w _) (bal' _ _)
  have pw : W0.heap[w.heap.size + 1]? = some (.cells #[.int .i64 (win 0).1, .int .i64 (win 0).2, .int .i64 (win 1).1, .int .i64 (win 1).2, .int .i64 (win 2).1, .int .i64 (win 2).2, .int .i64 (win 3).1, .int .i64 (win 3).2] 25) := by rw [← hW0]; have h := hpNew (w.alloc (.cells C 91)) (.cells #[.int .i64 (win 0).1, .int .i64 (win 0).2, .int .i64 (win 1).1, .int .i64 (win 1).2, .int .i64 (win 2).1, .int .i64 (win 2).2, .int .i64 (win 3).1, .int .i64 (win 3).2] 25); rw [World.size_alloc] at h; exact h
  obtain ⟨st, hst⟩ : ∃ n, f.d.st = n := ⟨_, rfl⟩
  obtain ⟨id_, hid_⟩ : ∃ n, f.d.idn = n := ⟨_, rfl⟩
  obtain ⟨lv, hlv⟩ : ∃ n, f.d.lv = n := ⟨_, rfl⟩
  obtain ⟨sr, hsr⟩ : ∃ n, f.d.srv = n := ⟨_, rfl⟩
  have r2 : ∀ X, Below W0.heap.size W0 X → X.cell? ⟨w.heap.size, 2, none⟩ = some (.int .i64 st) := fun X h => by rw [hpCell (hpKeep p0 h), ← hC, ← hst]; rfl
  have r3 : ∀ X, Below W0.heap.size W0 X → X.cell? ⟨w.heap.size, 3, none⟩ = some (.int .i64 id_) := fun X h => by rw [hpCell (hpKeep p0 h), ← hC, ← hid_]; rfl
  have r4 : ∀ X, Below W0.heap.size W0 X → X.cell? ⟨w.heap.size, 4, none⟩ = some (.int .i64 lv) := fun X h => by rw [hpCell (hpKeep p0 h), ← hC, ← hlv]; rfl
  have r5 : ∀ X, Below W0.heap.size W0 X → X.cell? ⟨w.heap.size, 5, none⟩ = some (.slice oa on oc) := fun X h => by rw [hpCell (hpKeep p0 h), ← hC]; rfl
  have r6 : ∀ X, Below W0.heap.size W0 X → X.cell? ⟨w.heap.size, 6, none⟩ = some (.int .i64 sr) := fun X h => by rw [hpCell (hpKeep p0 h), ← hC, ← hsr]; rfl
  have r7 : ∀ X, Below W0.heap.size W0 X → X.cell? ⟨w.heap.size, 7, none⟩ = some (.slice sa sn sc) := fun X h => by rw [hpCell (hpKeep p0 h), ← hC, ← hsn]; rfl
  have r20 : ∀ X, Below W0.heap.size W0 X → X.cell? ⟨w.heap.size, 20, none⟩ = some (.string ⟨#[]⟩) := fun X h => by rw [hpCell (hpKeep p0 h), ← hC]; rfl
  have HRW : Hid (∀ X, Below W0.heap.size W0 X → ∀ j v, C.toList[j]? = some v → X.cell? ((⟨w.heap.size, 0, none⟩ : Addr).add j) = some v) := fun X hX => hpRowAt2 (hpKeep p0 hX)
  have HW0 := hid hW0
  have HB0 := hid hb0
  have hrr : Below W0.heap.size W0 W0 := Below.refl _ _
  rcases h with ⟨s, hs, hd⟩ | ⟨h2, h3, h4, h5⟩
  · have hss : st = s := by rw [← hst, hd]
    subst hss
    have HBA : Hid (∀ X, Below W0.heap.size W0 X → Calls Tryz.prog 122 #[.agg C] X (BoolPost X true)) := fun X hX => by rw [← hC]; exact blank_ok f st hd _ _ mv X (hr.below (bt hb0 hX (Nat.le_refl _)))
    have hs34 : st = 3 ∨ st = 4 := by
      rcases hs with e | e | e
      · exact absurd (hst.trans e) h1
      · exact .inl e
      · exact .inr e
    rw [hC]
    clear hC hW0 hb0 p0 pw hst hd hs h1 hr hw r3 r4 r5 r6 r7 r20 hsn hon hid_ hlv hsr
    rcases hs34 with rfl | rfl
    · go_enter Tryz.func77, Tryz.ntmps77
      go_upto_region 1 with (fail)
      rw [HW0.out]
      go_wp2_with (first
        | (refine wpList_load_atH (by rfl) 91 (.tmp 2) rfl ⟨w.heap.size, 0, none⟩ rfl C _ (HRW.out _ hrr) Tryz.underlying91 rfl hCi ?_)
        | (go_at_call 122; (with_reducible refine (HBA.out _ hrr).mono ?_); rintro r w2 ⟨rfl, hb2⟩))
      go_ret
      exact ⟨rfl, bt HB0.out hb2 (Nat.le_refl _)⟩
    · go_enter Tryz.func77, Tryz.ntmps77
      go_upto_region 1 with (fail)
      rw [HW0.out]
      go_wp2_with (first
        | (refine wpList_load_atH (by rfl) 91 (.tmp 2) rfl ⟨w.heap.size, 0, none⟩ rfl C _ (HRW.out _ hrr) Tryz.underlying91 rfl hCi ?_)
        | (go_at_call 122; (with_reducible refine (HBA.out _ hrr).mono ?_); rintro r w2 ⟨rfl, hb2⟩))
      go_ret
      exact ⟨rfl, bt HB0.out hb2 (Nat.le_refl _)⟩
  · obtain rfl : st = 2 := hst.symm.trans h2
    have hts : ∀ k : Nat, k < 4 → ∃ (s m : Int) (v : Value), (∀ X, Below W0.heap.size W0 X → X.cell? ⟨w.heap.size, 8 + k * 3, none⟩ = some (.int .i64 s) ∧ X.cell? ⟨w.heap.size, 8 + k * 3 + 1, none⟩ = some (.int .i64 m) ∧ X.cell? ⟨w.heap.size, 8 + k * 3 + 2, none⟩ = some v) ∧ (∃ a n c, v = .slice a n c) ∧
        ∀ X, Below W0.heap.size W0 X → Calls Tryz.prog 124 #[.agg #[.int .i64 s, .int .i64 m, v], .int .i64 (k : Int), .agg #[.int .i64 (win k).1, .int .i64 (win k).2]] X (BoolPost X true) := fun k hk => by
      refine ⟨(f.d.ts k).st, (f.d.ts k).most, mv k, fun X hX => ?_, ?_, fun X hX => rtable_ok k hk (win k) (hw k hk).2.1 (f.d.ts k) (h5 k hk) (mv k) X ((hr.2.2 k hk).keep (bt hb0 hX (Nat.le_refl _)))⟩
      · rw [hpCell (hpKeep p0 hX), hpCell (hpKeep p0 hX), hpCell (hpKeep p0 hX), ← hC]
        match k, hk with
        | 0, _ => exact ⟨rfl, rfl, rfl⟩
        | 1, _ => exact ⟨rfl, rfl, rfl⟩
        | 2, _ => exact ⟨rfl, rfl, rfl⟩
        | 3, _ => exact ⟨rfl, rfl, rfl⟩
      · obtain ⟨a, c, e⟩ := own_slice (hr.2.2 k hk)
        exact ⟨a, _, c, e⟩
    have hwk : ∀ k : Nat, k < 4 → ∀ X, Below W0.heap.size W0 X → X.cell? ⟨w.heap.size + 1, k * 2, none⟩ = some (.int .i64 (win k).1) ∧ X.cell? ⟨w.heap.size + 1, k * 2 + 1, none⟩ = some (.int .i64 (win k).2) := fun k hk X hX => by
      obtain ⟨e1, e2⟩ := WG_at win k hk
      exact ⟨by rw [hpCell (hpKeep pw hX)]; exact e1, by rw [hpCell (hpKeep pw hX)]; exact e2⟩
    have HTS := hid hts
    have HWK := hid hwk
    have HO := hid (hr.1.keep hb0)
    have HON := hid hon
    obtain ⟨B, hB1, hB2, hB3⟩ : ∃ B : Bool, (sr == 2) = B ∧ decide (0 < sn) = B ∧ sn ≤ 251 := by
      unfold SrvV at h4
      rw [hsr, hsn] at h4
      rcases h4 with ⟨e1, e2, e3⟩ | ⟨e1, e2⟩
      · exact ⟨true, by rw [e1]; rfl, decide_eq_true (by omega), e3⟩
      · have e4 : sn = 0 := by rw [← hsn, e2]; rfl
        exact ⟨false, by rw [beq_eq_false_iff_ne]; omega, decide_eq_false (by omega), by omega⟩
    have hsr3 : sr = 2 ∨ sr = 4 ∨ sr = 5 := by
      unfold SrvV at h4
      rw [hsr] at h4
      rcases h4 with ⟨e1, -⟩ | ⟨e1, -⟩
      · exact .inl e1
      · exact .inr e1
    have H3S : Hid (∀ X, Calls Tryz.prog 123 #[.int .i64 sr] X fun r w' => r = .returned (.bool true) ∧ X = w') := fun X => three_ok sr hsr3 X
    have HS251 : Hid (decide ((251 : Int) < (sn : Int)) = false) := decide_eq_false (by omega)
    unfold IdV at h3
    rw [hid_, hlv] at h3
    rw [hC]
    clear hC hW0 hb0 p0 pw hst h1 hr hw h2 h4 h5 hts hwk hsn hid_ hlv hsr hB3 hsr3
    rcases h3 with ⟨rfl, i1, i2, i3, i4, i5⟩ | ⟨i1, rfl, i2⟩
    · have H3I : Hid (∀ X, Calls Tryz.prog 123 #[.int .i64 2] X fun r w' => r = .returned (.bool true) ∧ X = w') := fun X => three_ok 2 (.inl rfl) X
      have hne : 0 < on := by
        rw [← hon]
        cases hl : f.d.objs with
        | nil => exact absurd hl i3
        | cons _ _ => exact Nat.succ_pos _
      have d1 : decide (1 ≤ lv) = true := decide_eq_true i1
      have d2 : decide (lv ≤ 3) = true := decide_eq_true i2
      have d3 : ((on : Int) == 0) = false := by rw [beq_eq_false_iff_ne]; omega
      have HRI : Hid (∀ X, Below W0.heap.size W0 X → Calls Tryz.prog 103 #[.slice oa on oc] X (BoolPost X true)) := fun X hX => by
        have h := rising_any (.slice oa on oc) f.d.objs X (HO.out.keep hX)
        rw [rises_of _ _ i4 (fun y hy => (i5 y hy).1)] at h
        exact h
      have HVS := hid i5
      clear hon i1 i2 i3 i4 i5 hne
      go_enter Tryz.func77, Tryz.ntmps77
      go_upto_region 1 with (fail)
      rw [HW0.out]
      go_upto_region 8 with (first
        | (go_at_call 123; (with_reducible refine (H3I.out _).mono ?_); rintro r w2 ⟨rfl, rfl⟩)
        | (go_at_call 123; (with_reducible refine (H3S.out _).mono ?_); rintro r w2 ⟨rfl, rfl⟩)
        | (go_at_call 103; (with_reducible refine (HRI.out _ hrr).mono ?_); rintro r w2 ⟨rfl, hb2⟩))
      clear d1 d2 d3
      go_wp2_with fail
      go_loopw [5] (fun iv wr => ∃ k : Nat, k ≤ on ∧ iv = .int .i64 (k : Int) ∧ Below W0.heap.size W0 wr) (fun iv _ => on - (intOf iv).toNat)
      case atStart => exact ⟨0, Nat.zero_le _, rfl, hb2⟩
      case round =>
        obtain ⟨k, hk, rfl, hbr⟩ := hrel
        have hki : (0 : Int) ≤ (k : Int) := Int.natCast_nonneg _
        by_cases hlt : k < on
        · have hkl : (k : Int) < (on : Int) := by omega
          obtain ⟨x, hx⟩ : ∃ x, f.d.objs[k]? = some x := ⟨_, List.getElem?_eq_getElem (by rw [HON.out]; exact hlt)⟩
          obtain ⟨a', n', c', hv', -, -, -, -, hel⟩ := (HO.out.keep hbr).open_
          cases hv'
          obtain ⟨b, o, xa, xc, rfl, y0, y1, -⟩ := hel k x hx
          have hid2 := HVS.out x (List.mem_of_getElem? hx)
          obtain ⟨xn, hxn⟩ : ∃ n, x.val.length = n := ⟨_, rfl⟩
          rw [hxn] at y1 hid2
          have hn244 : decide ((244 : Int) < (xn : Int)) = false := decide_eq_false (by omega)
          clear hel hx hxn hid2 y0
          go_wp2_with fail
          go_roundw
          case rel => exact ⟨k + 1, by omega, by go_num, hbr⟩
          case measure => simp [intOf]; omega
        · obtain rfl : k = on := by omega
          have hmid := hbr
          have hsn251 := HS251.out
          go_upto_region 17 with (fail)
          go_wp2_with fail
          go_loopw [6] (fun iv wr => ∃ k : Nat, k ≤ 4 ∧ iv = .int .i64 (k : Int) ∧ Below W0.heap.size W0 wr) (fun iv _ => 4 - (intOf iv).toNat)
          case atStart => exact ⟨0, by omega, rfl, hmid⟩
          case round =>
            obtain ⟨k, hk, rfl, hbr⟩ := hrel
            have hki : (0 : Int) ≤ (k : Int) := Int.natCast_nonneg _
            have hbw : Below w.heap.size w wr := bt HB0.out hbr (Nat.le_refl _)
            by_cases hlt : k < 4
            · have hkl : (k : Int) < 4 := by omega
              obtain ⟨s, m, v, hcel, ⟨a, n, c, rfl⟩, hcall⟩ := HTS.out k hlt
              have f0 : ∀ X, Below wr.heap.size wr X → X.cell? ⟨w.heap.size + 1, k * 2, none⟩ = some (.int .i64 (win k).1) := fun X hX => (HWK.out k hlt X (bt hbr hX (Nat.le_refl _))).1
              have f1 : ∀ X, Below wr.heap.size wr X → X.cell? ⟨w.heap.size + 1, k * 2 + 1, none⟩ = some (.int .i64 (win k).2) := fun X hX => (HWK.out k hlt X (bt hbr hX (Nat.le_refl _))).2
              have e0 : ∀ X, Below wr.heap.size wr X → X.cell? ⟨w.heap.size, 8 + k * 3, none⟩ = some (.int .i64 s) := fun X hX => (hcel X (bt hbr hX (Nat.le_refl _))).1
              have e1 : ∀ X, Below wr.heap.size wr X → X.cell? ⟨w.heap.size, 8 + k * 3 + 1, none⟩ = some (.int .i64 m) := fun X hX => (hcel X (bt hbr hX (Nat.le_refl _))).2.1
              have e2 : ∀ X, Below wr.heap.size wr X → X.cell? ⟨w.heap.size, 8 + k * 3 + 2, none⟩ = some (.slice a n c) := fun X hX => (hcel X (bt hbr hX (Nat.le_refl _))).2.2
              have HCA2 : Hid (∀ X, Below wr.heap.size wr X → Calls Tryz.prog 124 #[.agg #[.int .i64 s, .int .i64 m, .slice a n c], .int .i64 (k : Int), .agg #[.int .i64 (win k).1, .int .i64 (win k).2]] X (BoolPost X true)) := fun X hX => hcall X (bt hbr hX (Nat.le_refl _))
              have kD : Below wr.heap.size wr wr.drew := (Below.refl _ _).drew
              have HBR := hid hbr
              clear hcall hcel hbr hbw
              generalize (win k).1 = q1 at *
              generalize (win k).2 = q2 at *
              go_upto_region 20 with (fail)
              go_region_held3 (fun W => Below wr.heap.size wr W) ((with_reducible (first | exact kD | exact bt kD (by assumption) (Nat.le_refl _) | assumption))) ((go_at_call 124; (with_reducible refine (HCA2.out _ (by assumption)).mono ?_); rintro r w5 ⟨rfl, hb5⟩))
              all_goals
                go_wp2
                go_roundw
                case rel => exact ⟨k + 1, by omega, by go_num, bt HBR.out (by assumption) (Nat.le_refl _)⟩
                case measure => simp [intOf]; omega
            · obtain rfl : k = 4 := by omega
              go_wp2
              go_ret
              exact ⟨rfl, hbw⟩
    · have H3I : Hid (∀ X, Calls Tryz.prog 123 #[.int .i64 id_] X fun r w' => r = .returned (.bool true) ∧ X = w') := fun X => three_ok id_ (.inr i1) X
      have hz : on = 0 := by rw [← hon, i2]; rfl
      subst hz
      have g2 : (id_ == 2) = false := by rw [beq_eq_false_iff_ne]; omega
      clear hon i1 i2
      go_enter Tryz.func77, Tryz.ntmps77
      go_upto_region 1 with (fail)
      rw [HW0.out]
      go_upto_region 15 with (first
        | (go_at_call 123; (with_reducible refine (H3I.out _).mono ?_); rintro r w2 ⟨rfl, rfl⟩)
        | (go_at_call 123; (with_reducible refine (H3S.out _).mono ?_); rintro r w2 ⟨rfl, rfl⟩))
      have hmid := hrr
      have hsn251 := HS251.out
      go_upto_region 17 with (fail)
      go_wp2_with fail
      go_loopw [6] (fun iv wr => ∃ k : Nat, k ≤ 4 ∧ iv = .int .i64 (k : Int) ∧ Below W0.heap.size W0 wr) (fun iv _ => 4 - (intOf iv).toNat)
      case atStart => exact ⟨0, by omega, rfl, hmid⟩
      case round =>
        obtain ⟨k, hk, rfl, hbr⟩ := hrel
        have hki : (0 : Int) ≤ (k : Int) := Int.natCast_nonneg _
        have hbw : Below w.heap.size w wr := bt HB0.out hbr (Nat.le_refl _)
        by_cases hlt : k < 4
        · have hkl : (k : Int) < 4 := by omega
          obtain ⟨s, m, v, hcel, ⟨a, n, c, rfl⟩, hcall⟩ := HTS.out k hlt
          have f0 : ∀ X, Below wr.heap.size wr X → X.cell? ⟨w.heap.size + 1, k * 2, none⟩ = some (.int .i64 (win k).1) := fun X hX => (HWK.out k hlt X (bt hbr hX (Nat.le_refl _))).1
          have f1 : ∀ X, Below wr.heap.size wr X → X.cell? ⟨w.heap.size + 1, k * 2 + 1, none⟩ = some (.int .i64 (win k).2) := fun X hX => (HWK.out k hlt X (bt hbr hX (Nat.le_refl _))).2
          have e0 : ∀ X, Below wr.heap.size wr X → X.cell? ⟨w.heap.size, 8 + k * 3, none⟩ = some (.int .i64 s) := fun X hX => (hcel X (bt hbr hX (Nat.le_refl _))).1
          have e1 : ∀ X, Below wr.heap.size wr X → X.cell? ⟨w.heap.size, 8 + k * 3 + 1, none⟩ = some (.int .i64 m) := fun X hX => (hcel X (bt hbr hX (Nat.le_refl _))).2.1
          have e2 : ∀ X, Below wr.heap.size wr X → X.cell? ⟨w.heap.size, 8 + k * 3 + 2, none⟩ = some (.slice a n c) := fun X hX => (hcel X (bt hbr hX (Nat.le_refl _))).2.2
          have HCA2 : Hid (∀ X, Below wr.heap.size wr X → Calls Tryz.prog 124 #[.agg #[.int .i64 s, .int .i64 m, .slice a n c], .int .i64 (k : Int), .agg #[.int .i64 (win k).1, .int .i64 (win k).2]] X (BoolPost X true)) := fun X hX => hcall X (bt hbr hX (Nat.le_refl _))
          have kD : Below wr.heap.size wr wr.drew := (Below.refl _ _).drew
          have HBR := hid hbr
          clear hcall hcel hbr hbw
          generalize (win k).1 = q1 at *
          generalize (win k).2 = q2 at *
          go_upto_region 20 with (fail)
          go_region_held3 (fun W => Below wr.heap.size wr W) ((with_reducible (first | exact kD | exact bt kD (by assumption) (Nat.le_refl _) | assumption))) ((go_at_call 124; (with_reducible refine (HCA2.out _ (by assumption)).mono ?_); rintro r w5 ⟨rfl, hb5⟩))
          all_goals
            go_wp2
            go_roundw
            case rel => exact ⟨k + 1, by omega, by go_num, bt HBR.out (by assumption) (Nat.le_refl _)⟩
            case measure => simp [intOf]; omega
        · obtain rfl : k = 4 := by omega
          go_wp2
          go_ret
          exact ⟨rfl, hbw⟩
end Go.Proofs.YtipnamoocemeeaaGreat
