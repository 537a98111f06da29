/-
  Texts 54 of the claim.
-/
import Derived.Test.YtpkheiaanjhffaaN53
import Derived.Deep.CutRange
namespace Go.Proofs.Ytpkheiaanjhffaa
open Go.RowKit
theorem infoStW : (Try.prog.info? 27).map (·.size) = some 2 := by kernel_rfl
set_option maxRecDepth 100000 in
set_option maxHeartbeats 12800000 in
theorem awake16_any (w : World) : Calls Try.prog 6 #[] w fun r w' => r = .returned (.bool true) ∧ Below w.heap.size w w' := by
  have HNW : Hid (∀ X bs ba rv ov sv, SlR X (smpS 38400) rv ov sv → X.heap[bs]? = some (.cells (SlC (smpS 38400) rv ov sv) 64) → X.heap[ba]? = some (.cells awT.C 47) → Calls Try.prog 18 #[.slice (some ⟨bs, 0, none⟩) 1 1, .agg #[.slice (some ⟨ba, 0, none⟩) 1 1, .bool false, .slice none 0 0]] X (LnMade X [smpS 38400] false [awT])) := fun X bs ba rv ov sv h1 h2 h3 =>
    lnew_ok [smpS 38400] ⟨[awT], false, []⟩ _ 1 1 _ _ X rfl (slvs_one h1 h2) (ats_one aw_wf h3) (Sls.nil X) aw_bus aw_scr
  go_enter Try.func6, Try.ntmps6
  go_upto_region 2 with (first
    | (go_at_call 17; (with_reducible refine (smp_any _).mono ?_); rintro r w1 ⟨p, q, rfl, hs1⟩; obtain ⟨C, hC⟩ : ∃ C, SmpC 9600 p q = C := ⟨_, rfl⟩; rw [hC]; have hcs : C.size = 19 := (by rw [← hC]; rfl); have hi : (Try.prog.info? 64).map (·.size) = some C.size := (by rw [← hC]; exact infoSL); have h1c : C.toList.all (·.oneCell') = true := (by rw [← hC]; rfl))
    | (refine wpList_storeW rfl 64 (.tmp 1) (.tmp 8) rfl w1.heap.size 0 _ 64 C rfl rfl (hpNew w1 _) (by simp [hcs]) hi h1c ?_; intro w2 g2 hk2 hz2))
  obtain ⟨p2, hb2⟩ := var_new (by rw [hcs]; rfl) g2 hk2
  obtain ⟨sb, hsb⟩ : ∃ n, w1.heap.size = n := ⟨_, rfl⟩
  rw [hsb] at p2 ⊢
  have HS1 := hid hs1
  have HB2 := hid hb2
  have HSB := hid hsb
  have HCC := hid hC
  clear g2 hk2 hz2 hb2 hsb hs1 hC h1c hi
  go_upto_region 3 with (refine wpList_storeW rfl 27 (.tmp 10) (.tmp 9) rfl sb 0 _ 64 #[.int .i64 38400, .int .i64 0] rfl rfl p2 (by simp [hcs]) infoStW rfl ?_; intro w3 g3 hk3 hz3)
  dsimp only [Act.put]
  obtain ⟨D, hD⟩ : ∃ D, SmpC 38400 p q = D := ⟨_, rfl⟩
  have p3 : w3.heap[sb]? = some (.cells D 64) := by rw [g3, ← HCC.out, ← hD]; rfl
  have hds : D.size = 19 := by rw [← hD]; rfl
  have hdi : (Try.prog.info? 64).map (·.size) = some D.size := by rw [← hD]; exact infoSL
  have hfold := slFoldW (smpS 38400) (fun k => if k = 2 then .slice (some ⟨q, 0, none⟩) 1 1 else .slice none 0 0) (.slice none 0 0) (.slice (some ⟨p, 0, none⟩) 2 2) D hD
  have hb23 : Below w.heap.size w w3 := (HS1.out.b.trans (HB2.out.mono HS1.out.b.size)).trans (hk3.below (by have := HS1.out.b.size; have := HB2.out.size; omega) (fun j hj e => by have := HSB.out; have := HS1.out.b.size; omega))
  have HR3 : Hid (∀ X, Below w3.heap.size w3 X → SlR X (smpS 38400) (fun k => if k = 2 then .slice (some ⟨q, 0, none⟩) 1 1 else .slice none 0 0) (.slice none 0 0) (.slice (some ⟨p, 0, none⟩) 2 2)) := fun X hX => by
    refine HS1.out.slr ⟨?_, fun j hj hl => ?_⟩ 38400 (by unfold wfI; omega)
    · have := HB2.out.size
      have := hk3.size
      have := hX.size
      omega
    · have := HB2.out.size
      have := hk3.size
      rw [hX.block j (by omega), hk3.block j (by omega) (fun e => by have e' : j = sb := e; have := HSB.out; omega), HB2.out.block j hl]
  have HBW := hid hb23
  have HDD := hid hD
  have HP3 := hid p3
  have HSL : Hid (w.heap.size ≤ sb) := by have := HSB.out; have := HS1.out.b.size; show _ ≤ _; omega
  clear g3 hk3 hz3 hb23 hD p2 hcs
  have HNC : Hid (Calls Try.prog 18 #[.slice (some ⟨w3.heap.size, 0, none⟩) 1 1, .agg #[.slice (some ⟨w3.heap.size + 1, 0, none⟩) 1 1, .bool false, .slice none 0 0]] ((w3.alloc (.cells D 64)).alloc (.cells #[.int .i64 100, .int .i64 0, .int .i64 0, .int .i64 0, .int .i64 0, .int .i64 0] 47)) (LnMade ((w3.alloc (.cells D 64)).alloc (.cells #[.int .i64 100, .int .i64 0, .int .i64 0, .int .i64 0, .int .i64 0, .int .i64 0] 47)) [smpS 38400] false [awT])) := by
    refine HNW.out _ _ _ _ _ _ (HR3.out _ (bta (bal' w3 _) (Nat.le_refl _) _)) ?_ ?_
    · rw [← SmpC_slc, HDD.out]
      exact hpKeep (hpNew w3 _) (bal' _ _)
    · have h := hpNew (w3.alloc (.cells D 64)) (.cells #[.int .i64 100, .int .i64 0, .int .i64 0, .int .i64 0, .int .i64 0, .int .i64 0] 47)
      rw [World.size_alloc] at h
      exact h
  go_upto_region 4 with (first
    | (refine wpList_load_row rfl 64 (.tmp 1) rfl sb rfl 64 D (0, 0) _ p3 Try.underlying64 rfl hdi ?_)
    | (go_at_call 18; (with_reducible refine HNC.out.mono ?_); rintro r w5 hm5; obtain ⟨g, a, c, a2, c2, rfl, hat5, hG5, hgl5, hb5⟩ := hm5.at aw_bus (fun x hx => by rw [List.mem_singleton.1 hx]; exact aw_tok) (fun e => (by cases e))))
  have HAT : Hid (LnAt (fun j => j = g) w5 g (.slice a 1 c) (.slice a2 1 c2) false Ln.zero) := hat5
  have HG : Hid (LnG (fun j => j = g) w5 a 1 c a2 1 c2 [smpS 38400] [awT] false) := hG5
  have hX5 : Below w3.heap.size w3 ((w3.alloc (.cells D 64)).alloc (.cells #[.int .i64 100, .int .i64 0, .int .i64 0, .int .i64 0, .int .i64 0, .int .i64 0] 47)) := bta (bal' w3 _) (Nat.le_refl _) _
  have hb35 : Below w3.heap.size w3 w5 := bt hX5 hb5 (Nat.le_refl _)
  have HS5 := hid (hpKeep HP3.out hb35)
  have HGL : Hid (w3.heap.size ≤ g ∧ sb < w3.heap.size) := ⟨by have := hX5.size; omega, hpLt HP3.out⟩
  have HB5 : Hid (Below w.heap.size w w5) := HBW.out.trans (hb35.mono HBW.out.size)
  have HD01 : Hid (D[0]? = some (.int .i64 38400) ∧ D[1]? = some (.int .i64 0)) := by show _ ∧ _; rw [← HDD.out]; exact ⟨rfl, rfl⟩
  clear hm5 hat5 hG5 hgl5 hb5 hX5 hb35 HNC p3 hdi hfold hds HNW
  have HFR : Hid (∀ X, Calls Try.prog 19 #[.int .i64 7, .agg #[.int .i64 3, .int .i64 12, .int .i64 1, .int .i64 0, .int .i64 0]] X (FrPost X lwF)) := fun X => lframe_any 7 (by decide) (by decide) awQ (by decide) X
  have y0 : ∀ X, Keeps (fun j => j = g) w5 X → X.cell? ⟨sb, 0, none⟩ = some (.int .i64 38400) := fun X hX => by rw [hpCell (hpKeeps HS5.out hX (fun e => by have := HGL.out; omega))]; exact HD01.out.1
  have y1 : ∀ X, Keeps (fun j => j = g) w5 X → X.cell? ⟨sb, 1, none⟩ = some (.int .i64 0) := fun X hX => by rw [hpCell (hpKeeps HS5.out hX (fun e => by have := HGL.out; omega))]; exact HD01.out.2
  have kD : Below w5.heap.size w5 w5.drew := (Below.refl _ _).drew
  have kS : Keeps (fun j => j = g) w5 w5.drew := Keeps.of_below kD
  go_upto_region 6 with (fail)
  refine wp_region_held_drew (S := fun V => Keeps (fun j => j = g) w5 V) (by kernel_rfl) kS (fun hH => ?_)
  clear hH
  refine tkD 0 27 (v := ?_) rfl (by kernel_rfl) (fun _ _ _ h => h) rfl (by rfl) (by assumption) ?_ ?_; rotate_left; (intro w hSw; (try dsimp only at hSw); go_simp; try (with_reducible rfl)); simp only [List.setIfInBounds_toArray, List.set_cons_zero, List.set_cons_succ]
  refine tkD 1 28 (v := ?_) rfl (by kernel_rfl) (fun _ _ _ h => h) rfl (by rfl) (by assumption) ?_ ?_; rotate_left; (intro w hSw; (try dsimp only at hSw); go_simp; try (with_reducible rfl)); simp only [List.setIfInBounds_toArray, List.set_cons_zero, List.set_cons_succ]
  refine tkD 2 29 (v := ?_) rfl (by kernel_rfl) (fun _ _ _ h => h) rfl (by rfl) (by assumption) ?_ ?_; rotate_left; (intro w hSw; (try dsimp only at hSw); go_simp; try (with_reducible rfl)); simp only [List.setIfInBounds_toArray, List.set_cons_zero, List.set_cons_succ]
  refine tkD 3 30 (v := ?_) rfl (by kernel_rfl) (fun _ _ _ h => h) rfl (by rfl) (by assumption) ?_ ?_; rotate_left; (intro w hSw; (try dsimp only at hSw); go_simp; try (with_reducible rfl)); simp only [List.setIfInBounds_toArray, List.set_cons_zero, List.set_cons_succ]
  refine wpAnyH_ready (rs := [4]) (by kernel_rfl) (by simp) ?_; refine AllReadyH.cons rfl (fun K hK => ?_) AllReadyH.nil; go_simp
  refine (HFR.out _).mono ?_
  rintro r w6 ⟨fa, fc, rfl, hof, hb6⟩
  have hB6 : Below w5.heap.size w5 w6 := bt kD hb6 (Nat.le_refl _)
  have kS6 : Keeps (fun j => j = g) w5 w6 := Keeps.of_below hB6
  refine hK.out _ _ kS6 (fun hSx => ?_); clear hK K hSx
  refine wpAnyH_ready (rs := [5]) (by kernel_rfl) (by simp) ?_; refine AllReadyH.cons rfl (fun K hK => ?_) AllReadyH.nil; go_simp
  have hat6 := HAT.out.keep (F := fun _ => False) (Keeps.of_below hB6) (fun _ _ e => e)
  have hG6 := HG.out.next kS6 (fun j _ e => e)
  have hf6 : ∀ X, Keeps (fun j => j = g) w6 X → Bs X (.slice fa 8 fc) lwF := fun X hX => Bs.own (own_keeps hof hX (fun j hj e => by
    have h1 := (hof.lt j hj).1
    obtain ⟨tv, pv, cs, h⟩ := HAT.out
    have := hpLt h.at_
    have := kD.size
    omega))
  refine (send_go hat6 Ln.zero_ok hG6 38400 0 aw_set (by unfold wfI; omega) (by unfold wfI; omega) fa 8 fc lwF hf6 0 (by decide) (by decide) (by decide)).mono ?_
  rintro r w7 ⟨rfl, hat7, hk7⟩
  have kS7 : Keeps (fun j => j = g) w5 w7 := kS6.trans hk7 (fun _ _ e => e)
  refine hK.out _ _ kS7 (fun hSx => ?_); clear hK K hSx
  refine tkD 6 26 (v := ?_) rfl (by kernel_rfl) (fun _ _ _ h => h) rfl (by rfl) (by assumption) ?_ ?_; rotate_left; (intro w hSw; (try dsimp only at hSw); go_simp; try (with_reducible rfl)); simp only [List.setIfInBounds_toArray, List.set_cons_zero, List.set_cons_succ]
  refine tkD 7 33 (v := ?_) rfl (by kernel_rfl) (fun _ _ _ h => h) rfl (by rfl) (by assumption) ?_ ?_; rotate_left; (intro w hSw; (try dsimp only at hSw); go_simp; try (with_reducible rfl)); simp only [List.setIfInBounds_toArray, List.set_cons_zero, List.set_cons_succ]
  refine tkD 8 34 (v := ?_) rfl (by kernel_rfl) (fun _ _ _ h => h) rfl (by rfl) (by assumption) ?_ ?_; rotate_left; (intro w hSw; (try dsimp only at hSw); go_simp; try (with_reducible rfl)); simp only [List.setIfInBounds_toArray, List.set_cons_zero, List.set_cons_succ]
  refine tkD 9 4 (v := ?_) rfl (by kernel_rfl) (fun _ _ _ h => h) rfl (by rfl) (by assumption) ?_ ?_; rotate_left; (intro w hSw; (try dsimp only at hSw); (try go_simp); try rfl)
  refine tkD 10 5 (v := ?_) rfl (by kernel_rfl) (fun _ _ _ h => h) rfl (by rfl) (by assumption) ?_ ?_; rotate_left; (intro w hSw; (try dsimp only at hSw); (try go_simp); try rfl)
  refine wpAnyH_done (by kernel_rfl) ?_ _
  have hft : frameT 38400 8 = 2296 := by decide
  rw [hft]
  obtain ⟨rest, hpend, hrl⟩ := aw_pend
  have hok7 : awN.ok := Ln.zero_ok.send aw_bus (fun x hx => by rw [List.mem_singleton.1 hx]; exact aw_tok) false aw_set (by rw [aw_len]; decide) (by decide) (by decide)
  have hat7' : LnAt (GrowP (fun j => j = g) w6 w7) w7 g (.slice a 1 c) (.slice a2 1 c2) false awN := hat7
  have HNX := hid (next_some hat7' hok7 _ rest hpend 5000 (by decide))
  have HB7 : Hid (Below w.heap.size w w7) := HB5.out.trans (kS7.below HB5.out.size (fun j hj e => by have := HGL.out; have := HBW.out.size; omega))
  have HK7 := hid hk7
  have HZ7 : Hid (w5.heap.size ≤ w6.heap.size ∧ g < w5.heap.size) := by
    obtain ⟨tv, pv, cs, h⟩ := HAT.out
    exact ⟨hB6.size, hpLt h.at_⟩
  have HSN : Hid ((awN.next ⟨4433, 7, 0, 287⟩ rest).sent.length = 1 ∧ (awN.next ⟨4433, 7, 0, 287⟩ rest).pend.length = 6) := ⟨rfl, hrl⟩
  have HEV : Hid ((awN.ev ⟨4433, 7, 0, 287⟩).fl = 0) := by
    show _ = _
    kernel_rfl
  clear y0 y1 kD kS hof hb6 hB6 kS6 hat6 hG6 hf6 hk7 kS7 hft hpend hrl hok7 hat7 hat7' HFR
  go_upto_region 8 with (first
    | (go_at_call 5; (with_reducible refine HNX.out.mono ?_); rintro r w8 ⟨rfl, hat8, hk8⟩; rw [HEV.out])
    | (refine wpList_storeW rfl 30 (.tmp 6) (.tmp 38) rfl w8.heap.size 0 _ 30 #[.int .i64 4433, .int .u8 7, .int .i64 0] rfl rfl (hpNew w8 _) (by simp) infoEvW rfl ?_; intro w9 g9 hk9 hz9))
  obtain ⟨p9, hb9⟩ := var_new (by rfl) g9 hk9
  have hat9 := hat8.keep (F := fun _ => False) (Keeps.of_below hb9) (fun _ _ e => e)
  have e0 := hpCell p9 0
  have e1 := hpCell p9 1
  have HTT := hid (atts_any hat9)
  have HPP := hid (waits_any hat9)
  rw [HSN.out.1] at HTT
  rw [HSN.out.2] at HPP
  have HB9 : Hid (Below w.heap.size w w9) := (HB7.out.trans (hk8.below HB7.out.size (fun j hj e => by
    have h1 := HGL.out
    have h2 := HBW.out.size
    have h3 := HZ7.out
    have h4 := HB5.out.size
    rcases e with e | e
    · omega
    · omega))).trans (hb9.mono (by have := HB7.out.size; have := hk8.size; omega))
  clear g9 hk9 hz9 p9 hb9 hat9 hat8 hk8 HNX
  go_wp2_with (first
    | (go_at_call 7; (with_reducible refine HTT.out.mono ?_); rintro r wx ⟨rfl, rfl⟩)
    | (go_at_call 8; (with_reducible refine HPP.out.mono ?_); rintro r wx ⟨rfl, rfl⟩))
  go_ret
  exact ⟨rfl, HB9.out⟩
end Go.Proofs.Ytpkheiaanjhffaa

namespace Go.Proofs.Ytpkheiaanjhffaa
open Go.RowKit
set_option maxRecDepth 100000 in
set_option maxHeartbeats 6400000 in
theorem Walk.lineNone {w : World} : Calls Try.prog 3 #[] w fun r w' => r = .returned (.bool true) ∧ Below w.heap.size w w' := by
  go_enter Try.func3, Try.ntmps3
  go_wp2_with (first
    | (go_at_call 4; (with_reducible refine (send_nil _ _ _ _ _).mono ?_); rintro r w1 ⟨rfl, hb1⟩)
    | (go_at_call 5; (with_reducible refine (next_nil _ _).mono ?_); rintro r w2 ⟨rfl, hb2⟩)
    | (go_at_call 6; (with_reducible refine (awake16_any _).mono ?_); rintro r w3 ⟨rfl, hb3⟩)
    | (go_at_call 7; (with_reducible refine (atts_nil _).mono ?_); rintro r w4 ⟨rfl, rfl⟩)
    | (go_at_call 8; (with_reducible refine (pend_nil _).mono ?_); rintro r w5 ⟨rfl, rfl⟩)
    | (go_at_call 9; (with_reducible refine (lsent_nil _).mono ?_); rintro r w6 ⟨rfl, rfl⟩))
  go_ret
  exact ⟨rfl, bt (bta (bt (bt (bal' w _) hb1 (Nat.le_refl _)) hb2 (Nat.le_refl _)) (Nat.le_refl _) _) hb3 (Nat.le_refl _)⟩
end Go.Proofs.Ytpkheiaanjhffaa
