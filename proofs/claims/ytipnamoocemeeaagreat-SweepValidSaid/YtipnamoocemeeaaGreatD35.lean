/-
  Texts 35 of the claim.
-/
import Derived.Test.YtipnamoocemeeaaGreatD34
namespace Go.Proofs.YtipnamoocemeeaaGreat
open Go.RowKit
set_option maxRecDepth 100000 in
set_option maxHeartbeats 6400000 in
theorem videntity_ok (f : Fd) (h : IdV f.d.idn f.d.lv f.d.objs) (ov sv : Value) (mv : Nat → Value) (w : World) (hr : DvRd w f.d ov sv mv) :
    Calls Tryz.prog 120 #[.agg (DvF f ov sv mv)] w (BoolPost w true) := by
  have HO := hid hr.1
  obtain ⟨oa, on, oc, rfl, hon, hon64, honc, -, -⟩ := hr.1.open_
  obtain ⟨id_, hid_⟩ : ∃ n, f.d.idn = n := ⟨_, rfl⟩
  obtain ⟨lv, hlv⟩ : ∃ n, f.d.lv = n := ⟨_, rfl⟩
  obtain ⟨C, hC⟩ : ∃ C, DvF f (.slice oa on oc) sv mv = C := ⟨_, rfl⟩
  obtain ⟨W0, hW0⟩ : ∃ W, w.alloc (.cells C 91) = W := ⟨_, rfl⟩
  have hb0 : Below w.heap.size w W0 := by rw [← hW0]; exact bal' w _
  have p0 : W0.heap[w.heap.size]? = some (.cells C 91) := by rw [← hW0]; exact hpNew w _
  have r3 : ∀ X, Below W0.heap.size W0 X → X.cell? ⟨w.heap.size, 3, none⟩ = some (.int .i64 id_) := fun X h => by rw [hpCell (hpKeep p0 h), ← hC, ← hid_]; rfl
  have r4 : ∀ X, Below W0.heap.size W0 X → X.cell? ⟨w.heap.size, 4, none⟩ = some (.int .i64 lv) := fun X h => by rw [hpCell (hpKeep p0 h), ← hC, ← hlv]; rfl
  have r5 : ∀ X, Below W0.heap.size W0 X → X.cell? ⟨w.heap.size, 5, none⟩ = some (.slice oa on oc) := fun X h => by rw [hpCell (hpKeep p0 h), ← hC]; rfl
  have HW0 := hid hW0
  have HB0 := hid hb0
  have HON := hid hon
  have hrr : Below W0.heap.size W0 W0 := Below.refl _ _
  rw [hC]
  unfold IdV at h
  rw [hid_, hlv] at h
  rcases h with ⟨rfl, h1, h2, h3, h4, h5⟩ | ⟨h1, rfl, h2⟩
  · have HNE : Hid (0 < on) := by
      show _ < _
      rw [← hon]
      cases hl : f.d.objs with
      | nil => exact absurd hl h3
      | cons _ _ => exact Nat.succ_pos _
    have HOF := hid h4
    have HVS := hid h5
    have g1 : decide ((128 : Int) < lv) = false := decide_eq_false (by omega)
    have HLV : Hid (∀ X, Calls Tryz.prog 75 #[.int .i64 lv, .int .i64 1, .int .i64 3] X fun r w' => r = .returned (.bool true) ∧ X = w') := fun X => rwith_ok lv 1 3 h1 h2 X
    have HWI : Hid (∀ x y X, y ≤ x → x ≤ 255 → Calls Tryz.prog 75 #[.int .i64 x, .int .i64 y, .int .i64 255] X fun r w' => r = .returned (.bool true) ∧ X = w') := fun x y X e1 e2 => rwith_ok x y 255 e1 e2 X
    clear hr hW0 hb0 p0 hon hC hid_ hlv h1 h2 h3 h4 h5
    go_enter Tryz.func120, Tryz.ntmps120
    go_upto_region 1 with (fail)
    rw [HW0.out]
    go_wp2_with fail
    go_loopw [4, 33] (fun lav iv wr => ∃ (k : Nat) (la : Int), k ≤ on ∧ iv = .int .i64 (k : Int) ∧ lav = .int .i64 la ∧ -1 ≤ la ∧ la ≤ 255 ∧ Hid (lastId (-1) (f.d.objs.take k) = la) ∧ Below W0.heap.size W0 wr) (fun _ iv _ => on - (intOf iv).toNat)
    case atStart => exact ⟨0, -1, Nat.zero_le _, rfl, rfl, by decide, by decide, rfl, hrr⟩
    case round =>
      obtain ⟨k, la, hk, rfl, rfl, hla0, hla1, hla, hbr⟩ := hrel
      have hki : (0 : Int) ≤ (k : Int) := Int.natCast_nonneg _
      have hbw : Below w.heap.size w wr := bt HB0.out hbr (Nat.le_refl _)
      by_cases hlt : k < on
      · have hkl : (k : Int) < (on : Int) := by omega
        obtain ⟨x, hx⟩ : ∃ x, f.d.objs[k]? = some x := ⟨_, List.getElem?_eq_getElem (by rw [HON.out]; exact hlt)⟩
        have hob := HO.out.keep hbw
        obtain ⟨a', n', c', hv', -, -, -, -, hel⟩ := hob.open_
        cases hv'
        obtain ⟨b, o, xa, xc, rfl, y0, y1, -⟩ := hel k x hx
        have hid2 := HVS.out x (List.mem_of_getElem? hx)
        have hgt : la < x.id := by
          have h1 : ordF (-1) (f.d.objs.take (k + 1)) = true := ordF_pre (f.d.objs.drop (k + 1)) _ _ (by rw [List.take_append_drop]; exact HOF.out)
          rw [take_succ_snoc hx, ordF_snoc] at h1
          simp only [Bool.and_eq_true, decide_eq_true_eq] at h1
          rw [← hla.out]
          exact h1.2
        have HLA2 : Hid (lastId (-1) (f.d.objs.take (k + 1)) = x.id) := lastId_take hx (-1)
        obtain ⟨xi, hxi⟩ : ∃ n, x.id = n := ⟨_, rfl⟩
        obtain ⟨xn, hxn⟩ : ∃ n, x.val.length = n := ⟨_, rfl⟩
        rw [hxi] at y0 hid2 hgt HLA2
        rw [hxn] at y1 hid2
        have HWX : Hid (∀ X, Calls Tryz.prog 75 #[.int .i64 xi, .int .i64 (la + 1), .int .i64 255] X fun r w' => r = .returned (.bool true) ∧ X = w') := fun X => HWI.out xi (la + 1) X (by omega) hid2.1
        have hn244 : decide ((244 : Int) < (xn : Int)) = false := decide_eq_false (by omega)
        have sw : IntKind.i64.wrap (la + 1) = la + 1 := IntWalk.i64_in _ (by omega)
        have hxi2 : -1 ≤ xi ∧ xi ≤ 255 := by omega
        clear hob hel hx hxi hxn hid2 hgt hla
        go_wp2_with (go_at_call 75; (with_reducible refine (HWX.out _).mono ?_); rintro r w2 ⟨rfl, rfl⟩)
        go_roundw
        case rel => exact ⟨k + 1, xi, by omega, by go_num, rfl, hxi2.1, hxi2.2, HLA2.out, bta hbr (Nat.le_refl _) _⟩
        case measure => simp [intOf]; omega
      · obtain rfl : k = on := by omega
        have hk0 : (0 : Int) < (k : Int) := by have := HNE.out; omega
        have dk0 : decide (0 < k) = true := decide_eq_true HNE.out
        clear hla hlt
        go_wp2_with (go_at_call 75; (with_reducible refine (HLV.out _).mono ?_); rintro r w2 ⟨rfl, rfl⟩)
        go_ret
        exact ⟨rfl, hbw⟩
  · have hz : on = 0 := by rw [← hon, h2]; rfl
    subst hz
    have HS : Hid (∀ X, Calls Tryz.prog 147 #[.int .i64 id_] X fun r w' => r = .returned (.bool true) ∧ X = w') := fun X => settled_ok id_ (.inr h1) X
    have g2 : (id_ != 2) = true := by rw [bne_iff_ne]; omega
    clear hr hW0 hb0 p0 hon hC hid_ hlv h1 h2 HO
    go_enter Tryz.func120, Tryz.ntmps120
    go_upto_region 1 with (fail)
    rw [HW0.out]
    go_wp2_with (go_at_call 147; (with_reducible refine (HS.out _).mono ?_); rintro r w2 ⟨rfl, rfl⟩)
    go_ret
    exact ⟨rfl, HB0.out⟩
theorem sumR_take {l : List (Int × Int)} {k : Nat} {p : Int × Int} (h : l[k]? = some p) : sumR (l.take (k + 1)) = sumR (l.take k) + p.1 := by
  rw [take_succ_snoc h, sumR_append]
  show _ + (p.1 + 0) = _
  omega
theorem sumR_nn : ∀ (l : List (Int × Int)), (∀ x ∈ l, 1 ≤ x.1) → 0 ≤ sumR l
  | [], _ => Int.le_refl _
  | p :: l, h => by
    have h1 := h p List.mem_cons_self
    have h2 := sumR_nn l (fun x hx => h x (List.mem_cons_of_mem _ hx))
    show 0 ≤ p.1 + sumR l
    omega
theorem sumR_part (l : List (Int × Int)) (k : Nat) (h : ∀ x ∈ l, 1 ≤ x.1) : 0 ≤ sumR (l.take k) ∧ sumR (l.take k) ≤ sumR l := by
  have h1 := sumR_nn (l.take k) (fun x hx => h x (List.mem_of_mem_take hx))
  have h2 := sumR_nn (l.drop k) (fun x hx => h x (List.mem_of_mem_drop hx))
  have h3 : sumR l = sumR (l.take k) + sumR (l.drop k) := by rw [← sumR_append, List.take_append_drop]
  omega
set_option maxRecDepth 100000 in
set_option maxHeartbeats 12800000 in
theorem vtable_ok (k : Nat) (wn : Int × Int) (hwn : wn.2 ≤ 512) (t : Tb) (h : TbV k wn t) (v : Value) (w : World) (hr : Spn 0 w v t.map) :
    Calls Tryz.prog 119 #[.int .i64 ((k : Int) + 1), .agg #[.int .i64 wn.1, .int .i64 wn.2], .agg #[.int .i64 t.st, .int .i64 t.most, v]] w (BoolPost w true) := by
  obtain ⟨va, vc, rfl⟩ := own_slice hr
  obtain ⟨w1, w2⟩ := wn
  obtain ⟨st, mo, mp⟩ := t
  unfold TbV at h
  dsimp only at h hr hwn ⊢
  obtain ⟨n, hn⟩ : ∃ n, mp.length = n := ⟨_, rfl⟩
  obtain ⟨W0, hW0⟩ : ∃ W, (w.alloc (.cells #[.int .i64 w1, .int .i64 w2] 24)).alloc (.cells #[.int .i64 st, .int .i64 mo, .slice va n vc] 88) = W := ⟨_, rfl⟩
  have hb0 : Below w.heap.size w W0 := by rw [← hW0]; exact bta (bal' w _) (Nat.le_refl _) _
  have pw : W0.heap[w.heap.size]? = some (.cells #[.int .i64 w1, .int .i64 w2] 24) := by rw [← hW0]; exact hpKeep (hpNew w _) (bal' _ _)
  have pt : W0.heap[w.heap.size + 1]? = some (.cells #[.int .i64 st, .int .i64 mo, .slice va n vc] 88) := by rw [← hW0]; have h := hpNew (w.alloc (.cells #[.int .i64 w1, .int .i64 w2] 24)) (.cells #[.int .i64 st, .int .i64 mo, .slice va n vc] 88); rw [World.size_alloc] at h; exact h
  have r1 : ∀ X, Below W0.heap.size W0 X → X.cell? ⟨w.heap.size, 1, none⟩ = some (.int .i64 w2) := fun X h => hpCell (hpKeep pw h) 1
  have t0 : ∀ X, Below W0.heap.size W0 X → X.cell? ⟨w.heap.size + 1, 0, none⟩ = some (.int .i64 st) := fun X h => hpCell (hpKeep pt h) 0
  have t1 : ∀ X, Below W0.heap.size W0 X → X.cell? ⟨w.heap.size + 1, 1, none⟩ = some (.int .i64 mo) := fun X h => hpCell (hpKeep pt h) 1
  have t2 : ∀ X, Below W0.heap.size W0 X → X.cell? ⟨w.heap.size + 1, 2, none⟩ = some (.slice va n vc) := fun X h => hpCell (hpKeep pt h) 2
  have hrr : Below W0.heap.size W0 W0 := Below.refl _ _
  have HR := hid hr
  have HN := hid hn
  have HW0 := hid hW0
  have HB0 := hid hb0
  rw [hn]
  clear hr hW0 hb0 pw pt
  rcases h with ⟨rfl, h1, rfl, h2⟩ | ⟨h0, h1, rfl, h2⟩ | ⟨rfl, h1, h2, h3, h4, h5⟩
  · subst h1
    have hz : n = 0 := by rw [← hn, h2]; rfl
    subst hz
    clear hn h2 HR HN
    go_enter Tryz.func119, Tryz.ntmps119
    go_upto_region 1 with (fail)
    rw [HW0.out]
    go_wp2
    go_ret
    exact ⟨rfl, HB0.out⟩
  · have hz : n = 0 := by rw [← hn, h2]; rfl
    subst hz
    have HS : Hid (∀ X, Calls Tryz.prog 147 #[.int .i64 st] X fun r w' => r = .returned (.bool true) ∧ X = w') := fun X => settled_ok st (.inr h0) X
    have g1 : (st != 2) = true := by rw [bne_iff_ne]; omega
    have g2 : (st == 6) = false := by rw [beq_eq_false_iff_ne]; omega
    have g3 : (w2 == 0) = false := by rw [beq_eq_false_iff_ne]; exact h1
    clear hn h2 HR HN h0 h1
    go_enter Tryz.func119, Tryz.ntmps119
    go_upto_region 1 with (fail)
    rw [HW0.out]
    go_wp2_with (go_at_call 147; (with_reducible refine (HS.out _).mono ?_); rintro r w2 ⟨rfl, rfl⟩)
    go_ret
    exact ⟨rfl, HB0.out⟩
  · have HSP := hid h4
    have HSM := hid h5
    have hn512 : n ≤ 512 := by
      have h6 := sumR_len mp (fun p hp => (h4.1 p hp).1)
      omega
    have HLT : Hid (limI ((k : Int) + 1) ≤ 2000) := by show _ ≤ _; unfold limI; repeat' split <;> omega
    have HLM : Hid (∀ X, Calls Tryz.prog 148 #[.int .i64 ((k : Int) + 1)] X fun r w' => r = .returned (.int .i64 (limI ((k : Int) + 1))) ∧ X = w') := fun X => limit_any _ X
    have HML : Hid (∀ X, Calls Tryz.prog 75 #[.int .i64 mo, .int .i64 1, .int .i64 (limI ((k : Int) + 1))] X fun r w' => r = .returned (.bool true) ∧ X = w') := fun X => rwith_ok mo 1 _ h2 h3 X
    have HWN : Hid (0 < w2 ∧ w2 ≤ 512) := ⟨h1, hwn⟩
    clear hn h2 h3 h4 h5 hwn
    generalize limI ((k : Int) + 1) = lim at *
    go_enter Tryz.func119, Tryz.ntmps119
    go_upto_region 1 with (fail)
    rw [HW0.out]
    go_wp2_with fail
    go_loopw [7, 46] (fun lv iv wr => ∃ (i : Nat) (lf : Int), i ≤ n ∧ iv = .int .i64 (i : Int) ∧ lv = .int .i64 lf ∧ Hid (lf = w2 - sumR (mp.take i)) ∧ Below W0.heap.size W0 wr) (fun _ iv _ => n - (intOf iv).toNat)
    case atStart => exact ⟨0, w2, Nat.zero_le _, rfl, rfl, by show w2 = w2 - 0; omega, hrr⟩
    case round =>
      obtain ⟨i, lf, hi, rfl, rfl, hlf, hbr⟩ := hrel
      have hii : (0 : Int) ≤ (i : Int) := Int.natCast_nonneg _
      have hbw : Below w.heap.size w wr := bt HB0.out hbr (Nat.le_refl _)
      have hpt := sumR_part mp i (fun x hx => (HSP.out.1 x hx).1)
      have hwn := HWN.out
      by_cases hlt : i < n
      · have hil : (i : Int) < (n : Int) := by omega
        obtain ⟨p, hp⟩ : ∃ p, mp[i]? = some p := ⟨_, List.getElem?_eq_getElem (by rw [HN.out]; exact hlt)⟩
        obtain ⟨g, cap, hv, y0, y1⟩ := (HR.out.keep hbw).at hp
        cases hv
        obtain ⟨q1, q2, q3⟩ := HSP.out.1 p (List.mem_of_getElem? hp)
        have hpt2 := sumR_part mp (i + 1) (fun x hx => (HSP.out.1 x hx).1)
        have hst := sumR_take hp
        have hlfe := hlf.out
        have hsm := HSM.out
        have hple : p.1 ≤ lf := by omega
        have HNX : Hid (lf - p.1 = w2 - sumR (mp.take (i + 1))) := by show _ = _; omega
        have hlb : 0 ≤ lf ∧ lf ≤ 512 := by omega
        obtain ⟨pc, pk⟩ := p
        dsimp only at y0 y1 q1 q2 q3 hple HNX
        have HW1 : Hid (∀ X, Calls Tryz.prog 75 #[.int .i64 pc, .int .i64 1, .int .i64 lf] X fun r w' => r = .returned (.bool true) ∧ X = w') := fun X => rwith_ok pc 1 lf q1 hple X
        have HW2 : Hid (∀ X, Calls Tryz.prog 75 #[.int .i64 pk, .int .i64 1, .int .i64 3] X fun r w' => r = .returned (.bool true) ∧ X = w') := fun X => rwith_ok pk 1 3 q2 q3 X
        have sw2 : IntKind.i64.wrap (lf - pc) = lf - pc := IntWalk.i64_in _ (by omega)
        have HP := hid hp
        clear hpt hpt2 hst hlfe hsm hp hlf hlb hple q1 q2 q3
        by_cases h0 : 0 < i
        rotate_left
        · have d0 : decide ((0 : Int) < (i : Int)) = false := decide_eq_false (by omega)
          have d0n : decide (0 < i) = false := decide_eq_false h0
          clear h0
          go_upto_region 7 with (fail)
          obtain ⟨W2, hW2⟩ : ∃ W, wr.alloc (.cells #[.int .i64 pc, .int .i64 pk] 192) = W := ⟨_, rfl⟩
          have hb2 : Below wr.heap.size wr W2 := by rw [← hW2]; exact bal' wr _
          have p2 : W2.heap[wr.heap.size]? = some (.cells #[.int .i64 pc, .int .i64 pk] 192) := by rw [← hW2]; exact hpNew wr _
          have x0 : W2.cell? ⟨wr.heap.size, 0, none⟩ = some (.int .i64 pc) := hpCell p2 0
          have x1 : W2.cell? ⟨wr.heap.size, 1, none⟩ = some (.int .i64 pk) := hpCell p2 1
          have hB2 : Below W0.heap.size W0 W2 := bt hbr hb2 (Nat.le_refl _)
          have u2 : W2.cell? ⟨w.heap.size + 1, 2, none⟩ = some (.slice (some ⟨g, 0, none⟩) n vc) := t2 W2 hB2
          rw [hW2]
          clear hW2 p2 hb2 y0 y1
          generalize wr.heap.size = xb at *
          go_quiet ((first
            | (go_at_call 75; with_reducible exact Calls.quiet_of_same (v := .bool true) ((HW1.out _).mono fun _ _ h => ⟨h.1, h.2.symm⟩))
            | (go_at_call 75; with_reducible exact Calls.quiet_of_same (v := .bool true) ((HW2.out _).mono fun _ _ h => ⟨h.1, h.2.symm⟩))))
          have x0' : (W2.drewN nq).cell? ⟨xb, 0, none⟩ = some (.int .i64 pc) := cell_keep (below_drewN (Below.refl _ _) _) x0
          go_wp2
          go_roundw
          case rel => exact ⟨i + 1, lf - pc, by omega, by go_num, rfl, HNX.out, below_drewN hB2 _⟩
          case measure => simp [intOf]; omega
        · obtain ⟨m, hm⟩ : ∃ m, i = m + 1 := ⟨i - 1, by omega⟩
          obtain ⟨q, hq⟩ : ∃ q, mp[m]? = some q := ⟨_, List.getElem?_eq_getElem (by rw [HN.out]; omega)⟩
          obtain ⟨g', cap', hv', -, yq⟩ := (HR.out.keep hbw).at hq
          obtain rfl : g = g' := by
            have e := hv'
            rw [HN.out] at e
            cases e
            rfl
          have hne := HSP.out.2 m q _ hq (by rw [← hm]; exact HP.out)
          obtain ⟨qk, hqk⟩ : ∃ z, q.2 = z := ⟨_, rfl⟩
          rw [hqk] at yq hne
          dsimp only at hne
          have gne : (qk == pk) = false := by rw [beq_eq_false_iff_ne]; exact hne
          have sw3 : IntKind.i64.wrap ((i : Int) - 1) = (m : Int) := (IntWalk.i64_in _ (by omega)).trans (by omega)
          have hml : (m : Int) < (n : Int) := by omega
          have hmi : (0 : Int) ≤ (m : Int) := Int.natCast_nonneg _
          have d0 : decide ((0 : Int) < (i : Int)) = true := decide_eq_true (by omega)
          have d0n : decide (0 < i) = true := decide_eq_true h0
          clear hv' hq hqk hne h0 hm
          go_upto_region 7 with (fail)
          obtain ⟨W2, hW2⟩ : ∃ W, wr.alloc (.cells #[.int .i64 pc, .int .i64 pk] 192) = W := ⟨_, rfl⟩
          have hb2 : Below wr.heap.size wr W2 := by rw [← hW2]; exact bal' wr _
          have p2 : W2.heap[wr.heap.size]? = some (.cells #[.int .i64 pc, .int .i64 pk] 192) := by rw [← hW2]; exact hpNew wr _
          have x0 : W2.cell? ⟨wr.heap.size, 0, none⟩ = some (.int .i64 pc) := hpCell p2 0
          have x1 : W2.cell? ⟨wr.heap.size, 1, none⟩ = some (.int .i64 pk) := hpCell p2 1
          have hB2 : Below W0.heap.size W0 W2 := bt hbr hb2 (Nat.le_refl _)
          have u2 : W2.cell? ⟨w.heap.size + 1, 2, none⟩ = some (.slice (some ⟨g, 0, none⟩) n vc) := t2 W2 hB2
          have v1 : W2.cell? ⟨g, m * 2 + 1, none⟩ = some (.int .i64 qk) := cell_keep hb2 yq
          rw [hW2]
          clear hW2 p2 hb2 y0 y1 yq
          generalize wr.heap.size = xb at *
          go_quiet ((first
            | (go_at_call 75; with_reducible exact Calls.quiet_of_same (v := .bool true) ((HW1.out _).mono fun _ _ h => ⟨h.1, h.2.symm⟩))
            | (go_at_call 75; with_reducible exact Calls.quiet_of_same (v := .bool true) ((HW2.out _).mono fun _ _ h => ⟨h.1, h.2.symm⟩))))
          have x0' : (W2.drewN nq).cell? ⟨xb, 0, none⟩ = some (.int .i64 pc) := cell_keep (below_drewN (Below.refl _ _) _) x0
          go_wp2
          go_roundw
          case rel => exact ⟨i + 1, lf - pc, by omega, by go_num, rfl, HNX.out, below_drewN hB2 _⟩
          case measure => simp [intOf]; omega
      · obtain rfl : i = n := by omega
        have hz : lf = 0 := by
          have h1 := hlf.out
          have h2 := HSM.out
          rw [List.take_of_length_le (by rw [HN.out]; exact Nat.le_refl _)] at h1
          omega
        subst hz
        have d2 : decide ((0 : Int) < w2) = true := decide_eq_true hwn.1
        have u1 : wr.cell? ⟨w.heap.size, 1, none⟩ = some (.int .i64 w2) := r1 wr hbr
        have u3 : wr.cell? ⟨w.heap.size + 1, 1, none⟩ = some (.int .i64 mo) := t1 wr hbr
        clear hpt hlf hlt hwn
        go_upto_region 11 with (fail)
        go_quiet ((first
          | (go_at_call 148; with_reducible exact Calls.quiet_of_same (v := .int .i64 lim) ((HLM.out _).mono fun _ _ h => ⟨h.1, h.2.symm⟩))
          | (go_at_call 75; with_reducible exact Calls.quiet_of_same (v := .bool true) ((HML.out _).mono fun _ _ h => ⟨h.1, h.2.symm⟩))))
        go_wp2
        go_ret
        exact ⟨rfl, below_drewN hbw _⟩
end Go.Proofs.YtipnamoocemeeaaGreat
