/-
  Texts 12 of the claim.
-/
import Derived.Test.YtpkheiaanjhffaaGreatU10
import Derived.Test.YtpkheiaanjhffaaGreatU11
namespace Go.Proofs.YtpkheiaanjhffaaGreat
open Go.RowKit
def ObPost (w : World) (s : Sl) (r : Ending) (w' : World) : Prop := ∃ V : Bool, r = .returned (.bool V) ∧ Hid (V = true ↔ objsV s.lv s.objs) ∧ Below w.heap.size w w'
theorem ObPost.no {w w' : World} {s : Sl} (h : ¬ objsV s.lv s.objs) (hb : Below w.heap.size w w') : ObPost w s (.returned (.bool false)) w' := ⟨false, rfl, ⟨fun e => (by cases e), fun e => absurd e h⟩, hb⟩
theorem ObPost.yes {w w' : World} {s : Sl} (h : objsV s.lv s.objs) (hb : Below w.heap.size w w') : ObPost w s (.returned (.bool true)) w' := ⟨true, rfl, ⟨fun _ => h, fun _ => rfl⟩, hb⟩
theorem infoSL : (Tryz.prog.info? 38).map (·.size) = some 19 := by kernel_rfl
set_option maxRecDepth 100000 in
set_option maxHeartbeats 12800000 in
theorem pobjs_val (s : Sl) (rv : Nat → Value) (ov sv : Value) (w : World) (hR : SlR w s rv ov sv) :
    Calls Tryz.prog 96 #[.agg (SlC s rv ov sv)] w (ObPost w s) := by
  obtain ⟨oa, oc, rfl, -⟩ := id hR.ob
  obtain ⟨on, hon⟩ : ∃ n, s.objs.length = n := ⟨_, rfl⟩
  have hcap := hR.ob.len
  rw [hon] at hcap
  unfold maxLen at hcap
  rw [hon]
  obtain ⟨C, hC⟩ : ∃ C, SlC s rv (.slice oa on oc) sv = C := ⟨_, rfl⟩
  rw [hC]
  obtain ⟨W1, hW1⟩ : ∃ W, w.alloc (.cells C 38) = W := ⟨_, rfl⟩
  have hb1 : Below w.heap.size w W1 := by rw [← hW1]; exact bal' w _
  have pS : W1.heap[w.heap.size]? = some (.cells C 38) := by rw [← hW1]; exact hpNew w _
  obtain ⟨lv, hlv⟩ : ∃ l, s.lv = l := ⟨_, rfl⟩
  have t15 : ∀ X, Below W1.heap.size W1 X → X.cell? ⟨w.heap.size, 15, none⟩ = some (.int .i64 lv) := fun X h => by rw [← hlv, hpCell (hpKeep pS h) 15, ← hC]; rfl
  have t16 : ∀ X, Below W1.heap.size W1 X → X.cell? ⟨w.heap.size, 16, none⟩ = some (.slice oa on oc) := fun X h => by rw [hpCell (hpKeep pS h) 16, ← hC]; rfl
  have k0 : Below W1.heap.size W1 W1 := Below.refl _ _
  have HON := hid hon
  have HLV := hid hlv
  have HW1 := hid hW1
  have HB1 := hid hb1
  have HR := hid hR
  clear hW1 hb1 pS hC hlv hon hR
  by_cases h0 : lv = 0
  · have d0 : (lv == 0) = true := b1 h0
    have HE : Hid (objsV s.lv s.objs ↔ on = 0) := by
      show _ ↔ _
      unfold objsV
      rw [if_pos (by rw [HLV.out]; exact h0), HON.out]
    clear h0
    by_cases e : on = 0
    · have d1 : ((on : Int) == 0) = true := b1 (by omega)
      have HV : Hid (objsV s.lv s.objs) := HE.out.2 e
      clear e
      go_enter Tryz.func96, Tryz.ntmps96; go_upto_region 1 with (fail); rw [HW1.out]
      go_wp2
      go_ret
      exact ObPost.yes HV.out HB1.out
    · have d1 : ((on : Int) == 0) = false := b0 (by omega)
      have HV : Hid (¬ objsV s.lv s.objs) := fun h => e (HE.out.1 h)
      clear e
      go_enter Tryz.func96, Tryz.ntmps96; go_upto_region 1 with (fail); rw [HW1.out]
      go_wp2
      go_ret
      exact ObPost.no HV.out HB1.out
  have d0 : (lv == 0) = false := b0 h0
  have HE : Hid (objsV s.lv s.objs ↔ 1 ≤ lv ∧ lv ≤ 3 ∧ ObsV lv s.objs) := by
    show _ ↔ _
    unfold objsV
    rw [if_neg (by rw [HLV.out]; exact h0), HLV.out]
  clear h0
  by_cases h1 : lv < 1
  · have d1 : decide (lv < 1) = true := decide_eq_true h1
    have HV : Hid (¬ objsV s.lv s.objs) := fun h => by have := (HE.out.1 h).1; omega
    clear h1
    go_enter Tryz.func96, Tryz.ntmps96; go_upto_region 1 with (fail); rw [HW1.out]
    go_wp2
    go_ret
    exact ObPost.no HV.out HB1.out
  have d1 : decide (lv < 1) = false := decide_eq_false h1
  by_cases h2 : 3 < lv
  · have d2 : decide (3 < lv) = true := decide_eq_true h2
    have HV : Hid (¬ objsV s.lv s.objs) := fun h => by have := (HE.out.1 h).2.1; omega
    clear h1 h2
    go_enter Tryz.func96, Tryz.ntmps96; go_upto_region 1 with (fail); rw [HW1.out]
    go_wp2
    go_ret
    exact ObPost.no HV.out HB1.out
  have d2 : decide (3 < lv) = false := decide_eq_false h2
  by_cases h3 : 16 < on
  · have d3 : decide ((16 : Int) < (on : Int)) = true := decide_eq_true (by omega)
    have HV : Hid (¬ objsV s.lv s.objs) := fun h => by have := (HE.out.1 h).2.2.on.1; have := HON.out; omega
    clear h1 h2 h3
    go_enter Tryz.func96, Tryz.ntmps96; go_upto_region 1 with (fail); rw [HW1.out]
    go_wp2
    go_ret
    exact ObPost.no HV.out HB1.out
  have d3 : decide ((16 : Int) < (on : Int)) = false := decide_eq_false (by omega)
  by_cases h4 : on ≤ 2
  · have d4 : decide ((on : Int) ≤ 2) = true := decide_eq_true (by omega)
    have HV : Hid (¬ objsV s.lv s.objs) := fun h => by have := (HE.out.1 h).2.2.on.2; have := HON.out; omega
    clear h1 h2 h3 h4
    go_enter Tryz.func96, Tryz.ntmps96; go_upto_region 1 with (fail); rw [HW1.out]
    go_wp2
    go_ret
    exact ObPost.no HV.out HB1.out
  have d4 : decide ((on : Int) ≤ 2) = false := decide_eq_false (by omega)
  have HOV : Hid (ObsV lv s.objs ↔ ∀ (i : Nat) (x : Ob), s.objs[i]? = some x → obStep lv s.objs i x) := obsV_iff (by have := HON.out; omega) (by have := HON.out; omega)
  have HLB : Hid (1 ≤ lv ∧ lv ≤ 3) := by show _ ∧ _; omega
  have HO16 : Hid (on ≤ 16) := by show on ≤ 16; omega
  obtain ⟨G, hG⟩ : ∃ g, grI lv = g := ⟨_, rfl⟩
  have HGG := hid hG
  have HG : Hid (∀ X, Calls Tryz.prog 111 #[.int .i64 lv] X fun r w' => r = .returned (.int .i64 G) ∧ X = w') := fun X => by rw [← hG]; exact greatest_any lv X
  clear h1 h2 h3 h4 hG
  go_enter Tryz.func96, Tryz.ntmps96; go_upto_region 1 with (fail); rw [HW1.out]
  go_wp2_with fail
  go_loopw [35] (fun iv wr => ∃ k : Nat, k ≤ on ∧ iv = .int .i64 (k : Int) ∧ Hid (∀ (i : Nat) (x : Ob), i < k → s.objs[i]? = some x → obStep lv s.objs i x) ∧ Below W1.heap.size W1 wr) (fun iv _ => on - (intOf iv).toNat)
  case atStart => exact ⟨0, Nat.zero_le _, rfl, fun i x hi => absurd hi (Nat.not_lt_zero _), Below.refl _ _⟩
  case round =>
    obtain ⟨k, hk, rfl, hall, hbw⟩ := hrel
    have hki : (0 : Int) ≤ (k : Int) := Int.natCast_nonneg _
    by_cases hlt : k < on
    · obtain ⟨x, hx⟩ := gs (l := s.objs) HON.out hlt
      obtain ⟨a', n', c', hv', -, -, -, -, hel⟩ := HR.out.ob.open_
      simp only [Value.slice.injEq] at hv'
      obtain ⟨rfl, rfl, rfl⟩ := hv'
      obtain ⟨b, o, xa, xc, rfl, z0, z1, hxb⟩ := hel k x hx
      have hBw : Below w.heap.size w wr := bt HB1.out hbw (Nat.le_refl _)
      have y0 : wr.cell? ⟨b, o + k * 2, none⟩ = some (.int .i64 x.id) := cell_keep hBw z0
      have y1 : wr.cell? ⟨b, o + k * 2 + 1, none⟩ = some (.slice xa x.val.length xc) := cell_keep hBw z1
      obtain ⟨xn, hxn⟩ : ∃ n, x.val.length = n := ⟨_, rfl⟩
      obtain ⟨xi, hxi⟩ : ∃ n, x.id = n := ⟨_, rfl⟩
      rw [hxn] at y1
      rw [hxi] at y0
      have hkl : (k : Int) < (on : Int) := by omega
      obtain ⟨WX, hWX⟩ : ∃ W, wr.alloc (.cells #[.int .i64 xi, .slice xa xn xc] 103) = W := ⟨_, rfl⟩
      have hbx : Below wr.heap.size wr WX := by rw [← hWX]; exact bal' _ _
      have px : WX.heap[wr.heap.size]? = some (.cells #[.int .i64 xi, .slice xa xn xc] 103) := by rw [← hWX]; exact hpNew _ _
      have v0 : WX.cell? ⟨wr.heap.size, 0, none⟩ = some (.int .i64 xi) := hpCell px 0
      have v1 : WX.cell? ⟨wr.heap.size, 1, none⟩ = some (.slice xa xn xc) := hpCell px 1
      have hbX : Below W1.heap.size W1 WX := bt hbw hbx (Nat.le_refl _)
      have u15 := t15 WX hbX
      have u16 := t16 WX hbX
      have HBX : Hid (Below w.heap.size w WX) := bt HB1.out hbX (Nat.le_refl _)
      have HBY : Hid (Below W1.heap.size W1 WX) := hbX
      have HWX := hid hWX
      have HX := hid hx
      have HXI := hid hxi
      have HXN := hid hxn
      have HNO : Hid (¬ obStep lv s.objs k x → ¬ objsV s.lv s.objs) := fun hn h => hn (HOV.out.1 (HE.out.1 h).2.2 k x HX.out)
      have HYS : Hid (obStep lv s.objs k x → ∀ (i : Nat) (y : Ob), i < k + 1 → s.objs[i]? = some y → obStep lv s.objs i y) := fun hs i y hi hy => by
        by_cases e : i = k
        · subst e
          rw [HX.out] at hy
          cases hy
          exact hs
        · exact hall.out i y (by omega) hy
      have HEL := hid hel
      clear hx hxi hxn hWX hbx px hbX z0 z1 hxb hel hall
      by_cases hk2 : k ≤ 2
      · have c1 : decide ((k : Int) ≤ 2) = true := decide_eq_true (by omega)
        have c2 : decide ((2 : Int) < (k : Int)) = false := decide_eq_false (by omega)
        by_cases e1 : xi = (k : Int)
        · have c3 : (xi != (k : Int)) = false := by rw [bne_eq_false_iff_eq]; exact e1
          by_cases e2 : G < xi
          · have c4 : decide (G < xi) = true := decide_eq_true e2
            have HV := hid (HNO.out (fun h => by have := h.gr; rw [HXI.out, HGG.out] at this; omega))
            clear e1 e2 hk2
            go_upto_region 8 with (fail)
            rw [HWX.out]
            go_quiet ((go_at_call 111; with_reducible exact Calls.quiet_of_same (v := .int .i64 G) ((HG.out _).mono fun _ _ h => ⟨h.1, h.2.symm⟩))); go_wp2; go_ret; exact ObPost.no HV.out (below_drewN HBX.out _)
          · have c4 : decide (G < xi) = false := decide_eq_false e2
            by_cases e3 : 64 < xn
            · have c5 : decide ((64 : Int) < (xn : Int)) = true := decide_eq_true (by omega)
              have HV := hid (HNO.out (fun h => by have := h.vl; rw [HXN.out] at this; omega))
              clear e1 e2 e3 hk2
              go_upto_region 8 with (fail)
              rw [HWX.out]
              go_quiet ((go_at_call 111; with_reducible exact Calls.quiet_of_same (v := .int .i64 G) ((HG.out _).mono fun _ _ h => ⟨h.1, h.2.symm⟩))); go_wp2; go_ret; exact ObPost.no HV.out (below_drewN HBX.out _)
            · have c5 : decide ((64 : Int) < (xn : Int)) = false := decide_eq_false (by omega)
              have HA := hid (HYS.out ⟨fun _ => by rw [HXI.out]; exact e1, fun e => by omega, by rw [HXI.out, HGG.out]; omega, by rw [HXN.out]; omega⟩)
              clear e1 e2 e3 hk2
              go_upto_region 8 with (fail)
              rw [HWX.out]
              go_quiet ((go_at_call 111; with_reducible exact Calls.quiet_of_same (v := .int .i64 G) ((HG.out _).mono fun _ _ h => ⟨h.1, h.2.symm⟩))); go_wp2; go_roundw
              case rel => exact ⟨k + 1, by omega, by go_num, HA.out, below_drewN HBY.out _⟩
              case measure => simp [intOf]; omega
        · have c3 : (xi != (k : Int)) = true := by rw [bne_iff_ne]; exact e1
          have HV := hid (HNO.out (fun h => e1 (by rw [← HXI.out]; exact h.lo hk2)))
          clear e1 hk2
          go_upto_region 8 with (fail)
          rw [HWX.out]
          go_quiet ((go_at_call 111; with_reducible exact Calls.quiet_of_same (v := .int .i64 G) ((HG.out _).mono fun _ _ h => ⟨h.1, h.2.symm⟩))); go_wp2; go_ret; exact ObPost.no HV.out (below_drewN HBX.out _)
      · have c1 : decide ((k : Int) ≤ 2) = false := decide_eq_false (by omega)
        have c2 : decide ((2 : Int) < (k : Int)) = true := decide_eq_true (by omega)
        obtain ⟨j, hj⟩ : ∃ j, k = j + 1 := ⟨k - 1, by omega⟩
        obtain ⟨y, hy⟩ := gs (l := s.objs) HON.out (show j < on by omega)
        obtain ⟨b', o', ya, yc, hbo, z0, -, -⟩ := HEL.out j y hy
        simp only [Option.some.injEq, Addr.mk.injEq, and_true] at hbo
        obtain ⟨rfl, rfl⟩ := hbo
        obtain ⟨yi, hyi⟩ : ∃ n, y.id = n := ⟨_, rfl⟩
        rw [hyi] at z0
        have p0 : WX.cell? ⟨b, o + j * 2, none⟩ = some (.int .i64 yi) := cell_keep HBX.out z0
        have s1 : IntKind.i64.wrap ((k : Int) - 1) = (j : Int) := (IntWalk.i64_in _ (by omega)).trans (by omega)
        have hj0 : (0 : Int) ≤ (j : Int) := Int.natCast_nonneg _
        have hjn : (j : Int) < (on : Int) := by omega
        have HY : Hid (s.objs[k - 1]? = some y) := by show _ = _; rw [hj, show j + 1 - 1 = j by omega]; exact hy
        have HYI := hid hyi
        clear hj hy z0 hyi
        by_cases e1 : xi ≤ yi
        · have c3 : decide (xi ≤ yi) = true := decide_eq_true e1
          have HV := hid (HNO.out (fun h => by have := h.hi (by omega) y HY.out; rw [HXI.out, HYI.out] at this; omega))
          clear e1 hk2
          go_upto_region 8 with (fail)
          rw [HWX.out]
          go_quiet ((go_at_call 111; with_reducible exact Calls.quiet_of_same (v := .int .i64 G) ((HG.out _).mono fun _ _ h => ⟨h.1, h.2.symm⟩))); go_wp2; go_ret; exact ObPost.no HV.out (below_drewN HBX.out _)
        · have c3 : decide (xi ≤ yi) = false := decide_eq_false e1
          by_cases e2 : G < xi
          · have c4 : decide (G < xi) = true := decide_eq_true e2
            have HV := hid (HNO.out (fun h => by have := h.gr; rw [HXI.out, HGG.out] at this; omega))
            clear e1 e2 hk2
            go_upto_region 8 with (fail)
            rw [HWX.out]
            go_quiet ((go_at_call 111; with_reducible exact Calls.quiet_of_same (v := .int .i64 G) ((HG.out _).mono fun _ _ h => ⟨h.1, h.2.symm⟩))); go_wp2; go_ret; exact ObPost.no HV.out (below_drewN HBX.out _)
          · have c4 : decide (G < xi) = false := decide_eq_false e2
            by_cases e3 : 64 < xn
            · have c5 : decide ((64 : Int) < (xn : Int)) = true := decide_eq_true (by omega)
              have HV := hid (HNO.out (fun h => by have := h.vl; rw [HXN.out] at this; omega))
              clear e1 e2 e3 hk2
              go_upto_region 8 with (fail)
              rw [HWX.out]
              go_quiet ((go_at_call 111; with_reducible exact Calls.quiet_of_same (v := .int .i64 G) ((HG.out _).mono fun _ _ h => ⟨h.1, h.2.symm⟩))); go_wp2; go_ret; exact ObPost.no HV.out (below_drewN HBX.out _)
            · have c5 : decide ((64 : Int) < (xn : Int)) = false := decide_eq_false (by omega)
              have HA := hid (HYS.out ⟨fun e => by omega, fun _ z hz => by rw [HY.out] at hz; cases hz; rw [HXI.out, HYI.out]; omega, by rw [HXI.out, HGG.out]; omega, by rw [HXN.out]; omega⟩)
              clear e1 e2 e3 hk2
              go_upto_region 8 with (fail)
              rw [HWX.out]
              go_quiet ((go_at_call 111; with_reducible exact Calls.quiet_of_same (v := .int .i64 G) ((HG.out _).mono fun _ _ h => ⟨h.1, h.2.symm⟩))); go_wp2; go_roundw
              case rel => exact ⟨k + 1, by omega, by go_num, HA.out, below_drewN HBY.out _⟩
              case measure => simp [intOf]; omega
    · obtain rfl : k = on := by omega
      have HV : Hid (objsV s.lv s.objs) := HE.out.2 ⟨HLB.out.1, HLB.out.2, HOV.out.2 fun i x hx => hall.out i x (by rw [← HON.out]; exact (List.getElem?_eq_some_iff.1 hx).1) hx⟩
      have HBZ : Hid (Below w.heap.size w wr) := bt HB1.out hbw (Nat.le_refl _)
      clear hall
      go_wp2
      go_ret
      exact ObPost.yes HV.out HBZ.out
theorem tb4_row (s : Sl) (rv : Nat → Value) (ov sv : Value) (j : Nat) (v : Value) (h : (#[.bool (s.ts 0).sup, rv 0, .int .i64 (s.ts 0).most, .bool (s.ts 1).sup, rv 1, .int .i64 (s.ts 1).most, .bool (s.ts 2).sup, rv 2, .int .i64 (s.ts 2).most, .bool (s.ts 3).sup, rv 3, .int .i64 (s.ts 3).most] : Array Value).toList[j]? = some v) : (SlC s rv ov sv).toList[3 + j]? = some v := by
  have e : (#[.bool (s.ts 0).sup, rv 0, .int .i64 (s.ts 0).most, .bool (s.ts 1).sup, rv 1, .int .i64 (s.ts 1).most, .bool (s.ts 2).sup, rv 2, .int .i64 (s.ts 2).most, .bool (s.ts 3).sup, rv 3, .int .i64 (s.ts 3).most] : Array Value).toList = ((SlC s rv ov sv).toList.drop 3).take 12 := rfl
  rw [e, List.getElem?_take] at h
  split at h
  · rw [List.getElem?_drop] at h
    exact h
  · cases h
theorem tb4_at (s : Sl) (rv : Nat → Value) (k : Nat) (hk : k < 4) (W : World) : (Instr.index 34 (.agg #[.bool (s.ts 0).sup, rv 0, .int .i64 (s.ts 0).most, .bool (s.ts 1).sup, rv 1, .int .i64 (s.ts 1).most, .bool (s.ts 2).sup, rv 2, .int .i64 (s.ts 2).most, .bool (s.ts 3).sup, rv 3, .int .i64 (s.ts 3).most]) (.int .i64 (k : Int))).run Tryz.prog W = .ok (.agg #[.bool (s.ts k).sup, rv k, .int .i64 (s.ts k).most]) W := by
  rcases (show k = 0 ∨ k = 1 ∨ k = 2 ∨ k = 3 by omega) with rfl | rfl | rfl | rfl
  all_goals
    clear hk
    kernel_rfl
theorem SlvPost.is {w w' : World} {s : Sl} {V : Bool} (h : V = true ↔ s.val) (hb : Below w.heap.size w w') : SlvPost w s (.returned (.bool V)) w' := ⟨V, rfl, h, hb⟩
set_option maxRecDepth 100000 in
set_option maxHeartbeats 12800000 in
theorem pslave_any (s : Sl) (rv : Nat → Value) (ov sv : Value) (w : World) (hR : SlR w s rv ov sv) :
    Calls Tryz.prog 75 #[.agg (SlC s rv ov sv)] w (SlvPost w s) := by
  obtain ⟨sa, sc, rfl, -⟩ := id hR.sd
  obtain ⟨sn, hsn⟩ : ∃ n, s.sd.length = n := ⟨_, rfl⟩
  have hcap := hR.sd.len
  rw [hsn] at hcap ⊢
  unfold maxLen at hcap
  obtain ⟨C, hC⟩ : ∃ C, SlC s rv ov (.slice sa sn sc) = C := ⟨_, rfl⟩
  have hcs : C.size = 19 := by rw [← hC]; rfl
  have hi19 : (Tryz.prog.info? 38).map (·.size) = some C.size := by rw [hcs]; exact infoSL
  rw [hC]
  obtain ⟨W1, hW1⟩ : ∃ W, w.alloc (.cells C 38) = W := ⟨_, rfl⟩
  have hb1 : Below w.heap.size w W1 := by rw [← hW1]; exact bal' w _
  have pS : W1.heap[w.heap.size]? = some (.cells C 38) := by rw [← hW1]; exact hpNew w _
  obtain ⟨bd, hbd⟩ : ∃ l, s.bd = l := ⟨_, rfl⟩
  obtain ⟨pa, hpa⟩ : ∃ l, s.pa = l := ⟨_, rfl⟩
  obtain ⟨un, hun⟩ : ∃ l, s.un = l := ⟨_, rfl⟩
  obtain ⟨hs, hhs⟩ : ∃ l, s.hs = l := ⟨_, rfl⟩
  have u0 : ∀ X, Below W1.heap.size W1 X → X.cell? ⟨w.heap.size, 0, none⟩ = some (.int .i64 bd) := fun X h => by rw [← hbd, hpCell (hpKeep pS h) 0, ← hC]; rfl
  have u1 : ∀ X, Below W1.heap.size W1 X → X.cell? ⟨w.heap.size, 1, none⟩ = some (.int .i64 pa) := fun X h => by rw [← hpa, hpCell (hpKeep pS h) 1, ← hC]; rfl
  have u2 : ∀ X, Below W1.heap.size W1 X → X.cell? ⟨w.heap.size, 2, none⟩ = some (.int .i64 un) := fun X h => by rw [← hun, hpCell (hpKeep pS h) 2, ← hC]; rfl
  have u17 : ∀ X, Below W1.heap.size W1 X → X.cell? ⟨w.heap.size, 17, none⟩ = some (.bool hs) := fun X h => by rw [← hhs, hpCell (hpKeep pS h) 17, ← hC]; rfl
  have u18 : ∀ X, Below W1.heap.size W1 X → X.cell? ⟨w.heap.size, 18, none⟩ = some (.slice sa sn sc) := fun X h => by rw [hpCell (hpKeep pS h) 18, ← hC]; rfl
  have HTC : Hid (∀ X, Below W1.heap.size W1 X → ∀ k : Nat, k < 4 → X.cell? ⟨w.heap.size, 3 + k * 3, none⟩ = some (.bool (s.ts k).sup) ∧ X.cell? ⟨w.heap.size, 3 + k * 3 + 1, none⟩ = some (rv k) ∧ X.cell? ⟨w.heap.size, 3 + k * 3 + 2, none⟩ = some (.int .i64 (s.ts k).most)) := fun X hX k hk => SlC_tab s rv ov (.slice sa sn sc) (by rw [hC]; exact hpKeep pS hX) hk
  have HRC : Hid (∀ X, Below W1.heap.size W1 X → ∀ j v, C.toList[j]? = some v → X.cell? ((⟨w.heap.size, 0, none⟩ : Addr).add j) = some v) := fun X hX j v hj => hpRowB (hpKeep pS hX) j v hj
  obtain ⟨V, hV⟩ := bool_is (p := objsV s.lv s.objs)
  have HO : Hid (∀ X, Below W1.heap.size W1 X → Calls Tryz.prog 96 #[.agg C] X (BoolPost X V)) := fun X hX => by
    rw [← hC, ← hsn]
    refine (pobjs_val s rv ov _ X (hR.keep (bt hb1 hX (Nat.le_refl _)))).mono fun r w' ⟨V', h1, h2, h3⟩ => ?_
    have e : V' = V := by
      cases V' <;> cases V
      · rfl
      · exact absurd (h2.out.2 (hV.1 rfl)) Bool.noConfusion
      · exact absurd (hV.2 (h2.out.1 rfl)) Bool.noConfusion
      · rfl
    subst e
    exact ⟨h1, h3⟩
  have HT : Hid (∀ X, Below W1.heap.size W1 X → ∀ k : Nat, k < 4 → Calls Tryz.prog 97 #[.int .i64 ((k : Int) + 1), .agg #[.bool (s.ts k).sup, rv k, .int .i64 (s.ts k).most]] X (TvPost X (s.ts k) k)) := fun X hX k hk => ptable_val (s.ts k) (rv k) k X ((hR.rg k hk).keep (bt hb1 hX (Nat.le_refl _)))
  have k0 : Below W1.heap.size W1 W1 := Below.refl _ _
  have HIF : Hid (s.val ↔ Okset bd pa ∧ 1 ≤ un ∧ un ≤ 247 ∧ objsV s.lv s.objs ∧ (∀ k, k < 4 → (s.ts k).val k) ∧ (hs = true → 1 ≤ sn ∧ sn ≤ 64) ∧ (hs = false → sn = 0)) := by
    have h := Sl.val_iff (s := s)
    rw [hbd, hpa, hun, hhs, hsn] at h
    exact h
  obtain ⟨B, hB⟩ : ∃ B, okS (bd, pa) = B := ⟨_, rfl⟩
  have HS : Hid (∀ X, Calls Tryz.prog 58 #[.agg #[.int .i64 bd, .int .i64 pa]] X (BoolPost X B)) := fun X => svalid_any bd pa X B hB
  have HBO : Hid (B = true ↔ Okset bd pa) := by show _ ↔ _; rw [← hB]; exact okS_iff
  have HC := hid hC
  have HRV : Hid (∀ k : Nat, k < 4 → ∃ a n c, rv k = .slice a n c) := fun k hk => by obtain ⟨a, c, h, -⟩ := hR.rg k hk; exact ⟨a, _, c, h⟩
  have HW1 := hid hW1
  have HB1 := hid hb1
  clear hW1 hb1 pS hC hbd hpa hun hhs hsn hR hB hcs
  cases B with
  | false =>
    have HV : Hid (¬ s.val) := fun h => Bool.noConfusion (HBO.out.2 (HIF.out.1 h).1)
    go_enter Tryz.func75, Tryz.ntmps75; go_upto_region 1 with (fail); rw [HW1.out]
    go_wp2_with (first | (refine wpList_load_atH (by rfl) 38 (.tmp 1) rfl ⟨w.heap.size, 0, none⟩ rfl C _ (HRC.out _ hb2) Tryz.underlying38 rfl hi19 ?_) | (go_at_call 58; (with_reducible refine (HS.out _).mono ?_); rintro r w2 ⟨rfl, hb2⟩) | (go_at_call 96; (with_reducible refine (HO.out _ hb2).mono ?_); rintro r w3 ⟨rfl, hb3⟩))
    go_ret
    exact SlvPost.no HV.out (bt HB1.out hb2 (Nat.le_refl _))
  | true =>
    by_cases e1 : un < 1
    · have d1 : decide (un < 1) = true := decide_eq_true e1
      have HV : Hid (¬ s.val) := fun h => by have := (HIF.out.1 h).2.1; omega
      clear e1
      go_enter Tryz.func75, Tryz.ntmps75; go_upto_region 1 with (fail); rw [HW1.out]
      go_wp2_with (first | (refine wpList_load_atH (by rfl) 38 (.tmp 1) rfl ⟨w.heap.size, 0, none⟩ rfl C _ (HRC.out _ hb2) Tryz.underlying38 rfl hi19 ?_) | (go_at_call 58; (with_reducible refine (HS.out _).mono ?_); rintro r w2 ⟨rfl, hb2⟩) | (go_at_call 96; (with_reducible refine (HO.out _ hb2).mono ?_); rintro r w3 ⟨rfl, hb3⟩))
      go_ret
      exact SlvPost.no HV.out (bt HB1.out hb2 (Nat.le_refl _))
    have d1 : decide (un < 1) = false := decide_eq_false e1
    by_cases e2 : 247 < un
    · have d2 : decide (247 < un) = true := decide_eq_true e2
      have HV : Hid (¬ s.val) := fun h => by have := (HIF.out.1 h).2.2.1; omega
      clear e1 e2
      go_enter Tryz.func75, Tryz.ntmps75; go_upto_region 1 with (fail); rw [HW1.out]
      go_wp2_with (first | (refine wpList_load_atH (by rfl) 38 (.tmp 1) rfl ⟨w.heap.size, 0, none⟩ rfl C _ (HRC.out _ hb2) Tryz.underlying38 rfl hi19 ?_) | (go_at_call 58; (with_reducible refine (HS.out _).mono ?_); rintro r w2 ⟨rfl, hb2⟩) | (go_at_call 96; (with_reducible refine (HO.out _ hb2).mono ?_); rintro r w3 ⟨rfl, hb3⟩))
      go_ret
      exact SlvPost.no HV.out (bt HB1.out hb2 (Nat.le_refl _))
    have d2 : decide (247 < un) = false := decide_eq_false e2
    have HUN : Hid (1 ≤ un ∧ un ≤ 247) := by show _ ∧ _; omega
    clear e1 e2
    cases V with
    | false =>
      have HV : Hid (¬ s.val) := fun h => Bool.noConfusion (hV.2 (HIF.out.1 h).2.2.2.1)
      clear hV
      go_enter Tryz.func75, Tryz.ntmps75; go_upto_region 1 with (fail); rw [HW1.out]
      go_wp2_with (first | (refine wpList_load_atH (by rfl) 38 (.tmp 1) rfl ⟨w.heap.size, 0, none⟩ rfl C _ (HRC.out _ hb2) Tryz.underlying38 rfl hi19 ?_) | (go_at_call 58; (with_reducible refine (HS.out _).mono ?_); rintro r w2 ⟨rfl, hb2⟩) | (go_at_call 96; (with_reducible refine (HO.out _ hb2).mono ?_); rintro r w3 ⟨rfl, hb3⟩))
      go_ret
      exact SlvPost.no HV.out (bt HB1.out (bt hb2 hb3 (Nat.le_refl _)) (Nat.le_refl _))
    | true =>
      have HOB := hid (hV.1 rfl)
      clear hV
      go_enter Tryz.func75, Tryz.ntmps75; go_upto_region 1 with (fail); rw [HW1.out]
      go_upto_region 3 with (first | (refine wpList_load_atH (by rfl) 38 (.tmp 1) rfl ⟨w.heap.size, 0, none⟩ rfl C _ (HRC.out _ hb2) Tryz.underlying38 rfl hi19 ?_) | (go_at_call 58; (with_reducible refine (HS.out _).mono ?_); rintro r w2 ⟨rfl, hb2⟩) | (go_at_call 96; (with_reducible refine (HO.out _ hb2).mono ?_); rintro r w3 ⟨rfl, hb3⟩))
      have hb13 := bt hb2 hb3 (Nat.le_refl _)
      clear hb2 hb3 d1 d2
      obtain ⟨T4, hT4⟩ : ∃ T : Array Value, #[.bool (s.ts 0).sup, rv 0, .int .i64 (s.ts 0).most, .bool (s.ts 1).sup, rv 1, .int .i64 (s.ts 1).most, .bool (s.ts 2).sup, rv 2, .int .i64 (s.ts 2).most, .bool (s.ts 3).sup, rv 3, .int .i64 (s.ts 3).most] = T := ⟨_, rfl⟩
      have hi12 : (Tryz.prog.info? 34).map (·.size) = some T4.size := by rw [← hT4]; kernel_rfl
      have hT4c : ∀ j v, T4.toList[j]? = some v → w3.cell? ((⟨w.heap.size, 3, none⟩ : Addr).add j) = some v := fun j v hj => by
        have h := HRC.out w3 hb13 (3 + j) v (by rw [← HC.out]; exact tb4_row s rv ov _ j v (by rw [hT4]; exact hj))
        have e1 : (⟨w.heap.size, 0, none⟩ : Addr).add (3 + j) = ⟨w.heap.size, 3 + j, none⟩ := by unfold Addr.add; split <;> simp_all
        have e2 : (⟨w.heap.size, 3, none⟩ : Addr).add j = ⟨w.heap.size, 3 + j, none⟩ := by unfold Addr.add; split <;> simp_all
        rw [e2, ← e1]
        exact h
      have HIX : Hid (∀ k : Nat, k < 4 → ∀ W, (Instr.index 34 (.agg T4) (.int .i64 (k : Int))).run Tryz.prog W = .ok (.agg #[.bool (s.ts k).sup, rv k, .int .i64 (s.ts k).most]) W) := fun k hk W => by rw [← hT4]; exact tb4_at s rv k hk W
      have HT4c := hid hT4c
      clear hT4 hT4c u0 u1 u2
      go_upto_region 4 with (refine wpList_load_at rfl 34 (.tmp 24) rfl ⟨w.heap.size, 3, none⟩ rfl T4 _ HT4c.out Tryz.underlying34 rfl hi12 ?_)
      go_loopw [26] (fun iv wr => ∃ k : Nat, k ≤ 4 ∧ iv = .int .i64 (k : Int) ∧ Hid (∀ i, i < k → (s.ts i).val i) ∧ Below W1.heap.size W1 wr) (fun iv _ => 4 - (intOf iv).toNat)
      case atStart => exact ⟨0, Nat.zero_le _, rfl, fun i hi => absurd hi (Nat.not_lt_zero _), hb13⟩
      case round =>
        obtain ⟨k, hk, rfl, hall, hbw⟩ := hrel
        have hki : (0 : Int) ≤ (k : Int) := Int.natCast_nonneg _
        by_cases hlt : k < 4
        · have hkl : (k : Int) < 4 := by omega
          have hix := HIX.out k hlt
          obtain ⟨B, hB⟩ := bool_is (p := (s.ts k).val k)
          obtain ⟨WX, hWX⟩ : ∃ W, wr.alloc (.cells #[.bool (s.ts k).sup, rv k, .int .i64 (s.ts k).most] 33) = W := ⟨_, rfl⟩
          have hbx : Below W1.heap.size W1 WX := by rw [← hWX]; exact bta hbw (Nat.le_refl _) _
          have px : WX.heap[wr.heap.size]? = some (.cells #[.bool (s.ts k).sup, rv k, .int .i64 (s.ts k).most] 33) := by rw [← hWX]; exact hpNew _ _
          have x0 := hpCell px 0
          have x1 := hpCell px 1
          have x2 := hpCell px 2
          have s1 : IntKind.i64.wrap ((k : Int) + 1) = (k : Int) + 1 := IntWalk.i64_in _ (by omega)
          have HTT : Hid (Calls Tryz.prog 97 #[.int .i64 ((k : Int) + 1), .agg #[.bool (s.ts k).sup, rv k, .int .i64 (s.ts k).most]] WX (BoolPost WX B)) := (HT.out WX hbx k hlt).mono fun r w' ⟨V', h1, h2, h3⟩ => by
            have e : V' = B := by
              cases V' <;> cases B
              · rfl
              · exact absurd (h2.out.2 (hB.1 rfl)) Bool.noConfusion
              · exact absurd (hB.2 (h2.out.1 rfl)) Bool.noConfusion
              · rfl
            subst e
            exact ⟨h1, h3⟩
          have HWX := hid hWX
          have HBX := hid hbx
          have HB := hid hB
          clear hWX hbx px hB
          generalize (s.ts k).sup = ts at *
          generalize (s.ts k).most = tm at *
          obtain ⟨ra, rn, rc, hrv⟩ := HRV.out k hlt
          rw [hrv] at hix HTT HWX x1
          clear hrv
          cases B with
          | false =>
            have HV : Hid (¬ s.val) := fun h => Bool.noConfusion (HB.out.2 ((HIF.out.1 h).2.2.2.2.1 k hlt))
            go_upto_region 6 with (fail)
            rw [HWX.out]
            go_wp2_with (go_at_call 97; (with_reducible refine HTT.out.mono ?_); rintro r w5 ⟨rfl, hb5⟩)
            go_ret
            exact SlvPost.no HV.out (bt HB1.out (bt HBX.out hb5 (Nat.le_refl _)) (Nat.le_refl _))
          | true =>
            have HA : Hid (∀ i, i < k + 1 → (s.ts i).val i) := fun i hi => by
              by_cases e : i = k
              · subst e; exact HB.out.1 rfl
              · exact hall.out i (by omega)
            go_upto_region 6 with (fail)
            rw [HWX.out]
            go_wp2_with (go_at_call 97; (with_reducible refine HTT.out.mono ?_); rintro r w5 ⟨rfl, hb5⟩)
            go_roundw
            case rel => exact ⟨k + 1, by omega, by go_num, HA.out, bt HBX.out hb5 (Nat.le_refl _)⟩
            case measure => simp [intOf]; omega
        · obtain rfl : k = 4 := by omega
          have HBE : Hid (Below w.heap.size w wr) := bt HB1.out hbw (Nat.le_refl _)
          have v17 := u17 wr hbw
          have v18 := u18 wr hbw
          clear u17 u18
          cases hs with
          | false =>
            by_cases e1 : sn = 0
            · have g1 : ((sn : Int) == 0) = true := b1 (by omega)
              have HV : Hid s.val := HIF.out.2 ⟨HBO.out.1 trivial, HUN.out.1, HUN.out.2, HOB.out, hall.out, (fun e => by cases e), fun _ => e1⟩
              clear e1
              go_wp2
              go_ret
              exact SlvPost.yes HV.out HBE.out
            · have g1 : ((sn : Int) == 0) = false := b0 (by omega)
              have HV : Hid (¬ s.val) := fun h => e1 ((HIF.out.1 h).2.2.2.2.2.2 rfl)
              clear e1
              go_wp2
              go_ret
              exact SlvPost.no HV.out HBE.out
          | true =>
            by_cases e1 : 1 ≤ sn
            · have g1 : decide ((1 : Int) ≤ (sn : Int)) = true := decide_eq_true (by omega)
              by_cases e2 : sn ≤ 64
              · have g2 : decide ((sn : Int) ≤ 64) = true := decide_eq_true (by omega)
                have HV : Hid s.val := HIF.out.2 ⟨HBO.out.1 trivial, HUN.out.1, HUN.out.2, HOB.out, hall.out, (fun _ => ⟨e1, e2⟩), fun e => by cases e⟩
                clear e1 e2
                go_wp2
                go_ret
                exact SlvPost.yes HV.out HBE.out
              · have g2 : decide ((sn : Int) ≤ 64) = false := decide_eq_false (by omega)
                have HV : Hid (¬ s.val) := fun h => e2 ((HIF.out.1 h).2.2.2.2.2.1 rfl).2
                clear e1 e2
                go_wp2
                go_ret
                exact SlvPost.no HV.out HBE.out
            · have g1 : decide ((1 : Int) ≤ (sn : Int)) = false := decide_eq_false (by omega)
              have HV : Hid (¬ s.val) := fun h => e1 ((HIF.out.1 h).2.2.2.2.2.1 rfl).1
              clear e1
              go_wp2
              go_ret
              exact SlvPost.no HV.out HBE.out
end Go.Proofs.YtpkheiaanjhffaaGreat
