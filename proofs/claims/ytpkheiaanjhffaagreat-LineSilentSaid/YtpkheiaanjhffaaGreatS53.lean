/-
  Texts 53 of the claim.
-/
import Derived.Test.YtpkheiaanjhffaaGreatS52
import Derived.Deep.CutRange
namespace Go.Proofs.YtpkheiaanjhffaaGreat
open Go.RowKit
theorem infoStW : (Tryz.prog.info? 30).map (·.size) = some 2 := by kernel_rfl
set_option maxRecDepth 100000 in
set_option maxHeartbeats 12800000 in
theorem awake16_any (w : World) : Calls Tryz.prog 10 #[] w fun r w' => r = .returned (.bool true) ∧ Below w.heap.size w w' := by
  have HNW : Hid (∀ X bs ba rv ov sv, SlR X (smpS 38400) rv ov sv → X.heap[bs]? = some (.cells (SlC (smpS 38400) rv ov sv) 38) → X.heap[ba]? = some (.cells awT.C 24) → Calls Tryz.prog 25 #[.slice (some ⟨bs, 0, none⟩) 1 1, .agg #[.slice (some ⟨ba, 0, none⟩) 1 1, .bool false, .slice none 0 0]] X (LnMade X [smpS 38400] false [awT])) := fun X bs ba rv ov sv h1 h2 h3 =>
    lnew_ok [smpS 38400] ⟨[awT], false, []⟩ _ 1 1 _ _ X rfl (slvs_one h1 h2) (ats_one aw_wf h3) (Sls.nil X) aw_bus aw_scr
  go_enter Tryz.func10, Tryz.ntmps10
  go_upto_region 2 with (first
    | (go_at_call 38; (with_reducible refine (smp_any _).mono ?_); rintro r w1 ⟨p, q, rfl, hs1⟩; obtain ⟨C, hC⟩ : ∃ C, SmpC 9600 p q = C := ⟨_, rfl⟩; rw [hC]; have hcs : C.size = 19 := (by rw [← hC]; rfl); have hi : (Tryz.prog.info? 38).map (·.size) = some C.size := (by rw [← hC]; exact infoSL); have h1c : C.toList.all (·.oneCell') = true := (by rw [← hC]; rfl))
    | (refine wpList_storeW rfl 38 (.tmp 1) (.tmp 8) rfl w1.heap.size 0 _ 38 C rfl rfl (hpNew w1 _) (by simp [hcs]) hi h1c ?_; intro w2 g2 hk2 hz2))
  obtain ⟨p2, hb2⟩ := var_new (by rw [hcs]; rfl) g2 hk2
  obtain ⟨sb, hsb⟩ : ∃ n, w1.heap.size = n := ⟨_, rfl⟩
  rw [hsb] at p2 ⊢
  have HS1 := hid hs1
  have HB2 := hid hb2
  have HSB := hid hsb
  have HCC := hid hC
  clear g2 hk2 hz2 hb2 hsb hs1 hC h1c hi
  go_upto_region 3 with (refine wpList_storeW rfl 30 (.tmp 10) (.tmp 9) rfl sb 0 _ 38 #[.int .i64 38400, .int .i64 0] rfl rfl p2 (by simp [hcs]) infoStW rfl ?_; intro w3 g3 hk3 hz3)
  dsimp only [Act.put]
  obtain ⟨D, hD⟩ : ∃ D, SmpC 38400 p q = D := ⟨_, rfl⟩
  have p3 : w3.heap[sb]? = some (.cells D 38) := by rw [g3, ← HCC.out, ← hD]; rfl
  have hds : D.size = 19 := by rw [← hD]; rfl
  have hdi : (Tryz.prog.info? 38).map (·.size) = some D.size := by rw [← hD]; exact infoSL
  have hfold := slFoldW (smpS 38400) (fun k => if k = 2 then .slice (some ⟨q, 0, none⟩) 1 1 else .slice none 0 0) (.slice none 0 0) (.slice (some ⟨p, 0, none⟩) 2 2) D hD
  have hb23 : Below w.heap.size w w3 := (HS1.out.b.trans (HB2.out.mono HS1.out.b.size)).trans (hk3.below (by have := HS1.out.b.size; have := HB2.out.size; omega) (fun j hj e => by have := HSB.out; have := HS1.out.b.size; omega))
  have HR3 : Hid (∀ X, Below w3.heap.size w3 X → SlR X (smpS 38400) (fun k => if k = 2 then .slice (some ⟨q, 0, none⟩) 1 1 else .slice none 0 0) (.slice none 0 0) (.slice (some ⟨p, 0, none⟩) 2 2)) := fun X hX => by
    refine HS1.out.slr ⟨?_, fun j hj hl => ?_⟩ 38400 (by unfold wfI; omega)
    · have := HB2.out.size
      have := hk3.size
      have := hX.size
      omega
    · have := HB2.out.size
      have := hk3.size
      rw [hX.block j (by omega), hk3.block j (by omega) (fun e => by have e' : j = sb := e; have := HSB.out; omega), HB2.out.block j hl]
  have HBW := hid hb23
  have HDD := hid hD
  have HP3 := hid p3
  have HSL : Hid (w.heap.size ≤ sb) := by have := HSB.out; have := HS1.out.b.size; show _ ≤ _; omega
  clear g3 hk3 hz3 hb23 hD p2 hcs
  have HNC : Hid (Calls Tryz.prog 25 #[.slice (some ⟨w3.heap.size, 0, none⟩) 1 1, .agg #[.slice (some ⟨w3.heap.size + 1, 0, none⟩) 1 1, .bool false, .slice none 0 0]] ((w3.alloc (.cells D 38)).alloc (.cells #[.int .i64 100, .int .i64 0, .int .i64 0, .int .i64 0, .int .i64 0, .int .i64 0] 24)) (LnMade ((w3.alloc (.cells D 38)).alloc (.cells #[.int .i64 100, .int .i64 0, .int .i64 0, .int .i64 0, .int .i64 0, .int .i64 0] 24)) [smpS 38400] false [awT])) := by
    refine HNW.out _ _ _ _ _ _ (HR3.out _ (bta (bal' w3 _) (Nat.le_refl _) _)) ?_ ?_
    · rw [← SmpC_slc, HDD.out]
      exact hpKeep (hpNew w3 _) (bal' _ _)
    · have h := hpNew (w3.alloc (.cells D 38)) (.cells #[.int .i64 100, .int .i64 0, .int .i64 0, .int .i64 0, .int .i64 0, .int .i64 0] 24)
      rw [World.size_alloc] at h
      exact h
  go_upto_region 4 with (first
    | (refine wpList_load_row rfl 38 (.tmp 1) rfl sb rfl 38 D (0, 0) _ p3 Tryz.underlying38 rfl hdi ?_)
    | (go_at_call 25; (with_reducible refine HNC.out.mono ?_); rintro r w5 hm5; obtain ⟨g, a, c, a2, c2, rfl, hat5, hG5, hgl5, hb5⟩ := hm5.at aw_bus (fun x hx => by rw [List.mem_singleton.1 hx]; exact aw_tok) (fun e => (by cases e))))
  have HAT : Hid (LnAt (fun j => j = g) w5 g (.slice a 1 c) (.slice a2 1 c2) false Ln.zero) := hat5
  have HG : Hid (LnG (fun j => j = g) w5 a 1 c a2 1 c2 [smpS 38400] [awT] false) := hG5
  have hX5 : Below w3.heap.size w3 ((w3.alloc (.cells D 38)).alloc (.cells #[.int .i64 100, .int .i64 0, .int .i64 0, .int .i64 0, .int .i64 0, .int .i64 0] 24)) := bta (bal' w3 _) (Nat.le_refl _) _
  have hb35 : Below w3.heap.size w3 w5 := bt hX5 hb5 (Nat.le_refl _)
  have HS5 := hid (hpKeep HP3.out hb35)
  have HGL : Hid (w3.heap.size ≤ g ∧ sb < w3.heap.size) := ⟨by have := hX5.size; omega, hpLt HP3.out⟩
  have HB5 : Hid (Below w.heap.size w w5) := HBW.out.trans (hb35.mono HBW.out.size)
  have HD01 : Hid (D[0]? = some (.int .i64 38400) ∧ D[1]? = some (.int .i64 0)) := by show _ ∧ _; rw [← HDD.out]; exact ⟨rfl, rfl⟩
  clear hm5 hat5 hG5 hgl5 hb5 hX5 hb35 HNC p3 hdi hfold hds HNW
  have HFR : Hid (∀ X, Calls Tryz.prog 14 #[.int .i64 7, .agg #[.int .i64 3, .int .i64 12, .int .i64 1, .int .i64 0, .int .i64 0]] X (FrPost X lwF)) := fun X => lframe_any 7 (by decide) (by decide) awQ (by decide) X
  have y0 : ∀ X, Keeps (fun j => j = g) w5 X → X.cell? ⟨sb, 0, none⟩ = some (.int .i64 38400) := fun X hX => by rw [hpCell (hpKeeps HS5.out hX (fun e => by have := HGL.out; omega))]; exact HD01.out.1
  have y1 : ∀ X, Keeps (fun j => j = g) w5 X → X.cell? ⟨sb, 1, none⟩ = some (.int .i64 0) := fun X hX => by rw [hpCell (hpKeeps HS5.out hX (fun e => by have := HGL.out; omega))]; exact HD01.out.2
  have kD : Below w5.heap.size w5 w5.drew := (Below.refl _ _).drew
  have kS : Keeps (fun j => j = g) w5 w5.drew := Keeps.of_below kD
  go_upto_region 6 with (fail)
  refine wp_region_held_drew (S := fun V => Keeps (fun j => j = g) w5 V) (by kernel_rfl) kS (fun hH => ?_)
  clear hH
  refine tkD 0 27 (v := ?_) rfl (by kernel_rfl) (fun _ _ _ h => h) rfl (by rfl) (by assumption) ?_ ?_; rotate_left; (intro w hSw; (try dsimp only at hSw); go_simp; try (with_reducible rfl)); simp only [List.setIfInBounds_toArray, List.set_cons_zero, List.set_cons_succ]
  refine tkD 1 28 (v := ?_) rfl (by kernel_rfl) (fun _ _ _ h => h) rfl (by rfl) (by assumption) ?_ ?_; rotate_left; (intro w hSw; (try dsimp only at hSw); go_simp; try (with_reducible rfl)); simp only [List.setIfInBounds_toArray, List.set_cons_zero, List.set_cons_succ]
  refine tkD 2 29 (v := ?_) rfl (by kernel_rfl) (fun _ _ _ h => h) rfl (by rfl) (by assumption) ?_ ?_; rotate_left; (intro w hSw; (try dsimp only at hSw); go_simp; try (with_reducible rfl)); simp only [List.setIfInBounds_toArray, List.set_cons_zero, List.set_cons_succ]
  refine tkD 3 30 (v := ?_) rfl (by kernel_rfl) (fun _ _ _ h => h) rfl (by rfl) (by assumption) ?_ ?_; rotate_left; (intro w hSw; (try dsimp only at hSw); go_simp; try (with_reducible rfl)); simp only [List.setIfInBounds_toArray, List.set_cons_zero, List.set_cons_succ]
  refine wpAnyH_ready (rs := [4]) (by kernel_rfl) (by simp) ?_; refine AllReadyH.cons rfl (fun K hK => ?_) AllReadyH.nil; go_simp
  refine (HFR.out _).mono ?_
  rintro r w6 ⟨fa, fc, rfl, hof, hb6⟩
  have hB6 : Below w5.heap.size w5 w6 := bt kD hb6 (Nat.le_refl _)
  have kS6 : Keeps (fun j => j = g) w5 w6 := Keeps.of_below hB6
  refine hK.out _ _ kS6 (fun hSx => ?_); clear hK K hSx
  refine wpAnyH_ready (rs := [5]) (by kernel_rfl) (by simp) ?_; refine AllReadyH.cons rfl (fun K hK => ?_) AllReadyH.nil; go_simp
  have hat6 := HAT.out.keep (F := fun _ => False) (Keeps.of_below hB6) (fun _ _ e => e)
  have hG6 := HG.out.next kS6 (fun j _ e => e)
  have hf6 : ∀ X, Keeps (fun j => j = g) w6 X → Bs X (.slice fa 8 fc) lwF := fun X hX => Bs.own (own_keeps hof hX (fun j hj e => by
    have h1 := (hof.lt j hj).1
    obtain ⟨tv, pv, cs, h⟩ := HAT.out
    have := hpLt h.at_
    have := kD.size
    omega))
  refine (send_go hat6 Ln.zero_ok hG6 38400 0 aw_set (by unfold wfI; omega) (by unfold wfI; omega) fa 8 fc lwF hf6 0 (by decide) (by decide) (by decide)).mono ?_
  rintro r w7 ⟨rfl, hat7, hk7⟩
  have kS7 : Keeps (fun j => j = g) w5 w7 := kS6.trans hk7 (fun _ _ e => e)
  refine hK.out _ _ kS7 (fun hSx => ?_); clear hK K hSx
  refine tkD 6 26 (v := ?_) rfl (by kernel_rfl) (fun _ _ _ h => h) rfl (by rfl) (by assumption) ?_ ?_; rotate_left; (intro w hSw; (try dsimp only at hSw); go_simp; try (with_reducible rfl)); simp only [List.setIfInBounds_toArray, List.set_cons_zero, List.set_cons_succ]
  refine tkD 7 33 (v := ?_) rfl (by kernel_rfl) (fun _ _ _ h => h) rfl (by rfl) (by assumption) ?_ ?_; rotate_left; (intro w hSw; (try dsimp only at hSw); go_simp; try (with_reducible rfl)); simp only [List.setIfInBounds_toArray, List.set_cons_zero, List.set_cons_succ]
  refine tkD 8 34 (v := ?_) rfl (by kernel_rfl) (fun _ _ _ h => h) rfl (by rfl) (by assumption) ?_ ?_; rotate_left; (intro w hSw; (try dsimp only at hSw); go_simp; try (with_reducible rfl)); simp only [List.setIfInBounds_toArray, List.set_cons_zero, List.set_cons_succ]
  refine tkD 9 4 (v := ?_) rfl (by kernel_rfl) (fun _ _ _ h => h) rfl (by rfl) (by assumption) ?_ ?_; rotate_left; (intro w hSw; (try dsimp only at hSw); (try go_simp); try rfl)
  refine tkD 10 5 (v := ?_) rfl (by kernel_rfl) (fun _ _ _ h => h) rfl (by rfl) (by assumption) ?_ ?_; rotate_left; (intro w hSw; (try dsimp only at hSw); (try go_simp); try rfl)
  refine wpAnyH_done (by kernel_rfl) ?_ _
  have hft : frameT 38400 8 = 2296 := by decide
  rw [hft]
  obtain ⟨rest, hpend, hrl⟩ := aw_pend
  have hok7 : awN.ok := Ln.zero_ok.send aw_bus (fun x hx => by rw [List.mem_singleton.1 hx]; exact aw_tok) false aw_set (by rw [aw_len]; decide) (by decide) (by decide)
  have hat7' : LnAt (GrowP (fun j => j = g) w6 w7) w7 g (.slice a 1 c) (.slice a2 1 c2) false awN := hat7
  have HNX := hid (next_some hat7' hok7 _ rest hpend 5000 (by decide))
  have HB7 : Hid (Below w.heap.size w w7) := HB5.out.trans (kS7.below HB5.out.size (fun j hj e => by have := HGL.out; have := HBW.out.size; omega))
  have HK7 := hid hk7
  have HZ7 : Hid (w5.heap.size ≤ w6.heap.size ∧ g < w5.heap.size) := by
    obtain ⟨tv, pv, cs, h⟩ := HAT.out
    exact ⟨hB6.size, hpLt h.at_⟩
  have HSN : Hid ((awN.next ⟨4433, 7, 0, 287⟩ rest).sent.length = 1 ∧ (awN.next ⟨4433, 7, 0, 287⟩ rest).pend.length = 6) := ⟨rfl, hrl⟩
  have HEV : Hid ((awN.ev ⟨4433, 7, 0, 287⟩).fl = 0) := by
    show _ = _
    kernel_rfl
  clear y0 y1 kD kS hof hb6 hB6 kS6 hat6 hG6 hf6 hk7 kS7 hft hpend hrl hok7 hat7 hat7' HFR
  go_upto_region 8 with (first
    | (go_at_call 27; (with_reducible refine HNX.out.mono ?_); rintro r w8 ⟨rfl, hat8, hk8⟩; rw [HEV.out])
    | (refine wpList_storeW rfl 48 (.tmp 6) (.tmp 38) rfl w8.heap.size 0 _ 48 #[.int .i64 4433, .int .u8 7, .int .i64 0] rfl rfl (hpNew w8 _) (by simp) infoEvW rfl ?_; intro w9 g9 hk9 hz9))
  obtain ⟨p9, hb9⟩ := var_new (by rfl) g9 hk9
  have hat9 := hat8.keep (F := fun _ => False) (Keeps.of_below hb9) (fun _ _ e => e)
  have e0 := hpCell p9 0
  have e1 := hpCell p9 1
  have HTT := hid (atts_any hat9)
  have HPP := hid (waits_any hat9)
  rw [HSN.out.1] at HTT
  rw [HSN.out.2] at HPP
  have HB9 : Hid (Below w.heap.size w w9) := (HB7.out.trans (hk8.below HB7.out.size (fun j hj e => by
    have h1 := HGL.out
    have h2 := HBW.out.size
    have h3 := HZ7.out
    have h4 := HB5.out.size
    rcases e with e | e
    · omega
    · omega))).trans (hb9.mono (by have := HB7.out.size; have := hk8.size; omega))
  clear g9 hk9 hz9 p9 hb9 hat9 hat8 hk8 HNX
  go_wp2_with (first
    | (go_at_call 32; (with_reducible refine HTT.out.mono ?_); rintro r wx ⟨rfl, rfl⟩)
    | (go_at_call 33; (with_reducible refine HPP.out.mono ?_); rintro r wx ⟨rfl, rfl⟩))
  go_ret
  exact ⟨rfl, HB9.out⟩
end Go.Proofs.YtpkheiaanjhffaaGreat

namespace Go.Proofs.YtpkheiaanjhffaaGreat
open Go.RowKit
def evC (x : Ch) : List Value := [.int .i64 x.at_, .int .u8 x.val, .int .i64 0]
def evL : List Ch → List Value
  | [] => []
  | x :: l => evC x ++ evL l
theorem evL_app : ∀ l k, evL (l ++ k) = evL l ++ evL k
  | [], k => rfl
  | x :: l, k => by
    show evC x ++ evL (l ++ k) = evC x ++ evL l ++ evL k
    rw [evL_app l k, List.append_assoc]
theorem infoEvN : (Tryz.prog.info? 48).map (fun i => (i.zero, i.size, i.bytes)) = some (some (.agg #[.int .i64 0, .int .u8 0, .int .i64 0]), 3, 24) := by kernel_rfl
set_option maxRecDepth 100000 in
theorem atFold (a : At) (C : Array Value) (hC : a.C = C) : Array.foldl (fun (cs : Array Value) (x : Value × Nat) => cs.setIfInBounds x.snd x.fst) #[.int .i64 0, .int .i64 0, .int .i64 0, .int .i64 0, .int .i64 0, .int .i64 0] C.zipIdx 0 6 = C := by
  subst hC
  kernel_rfl
theorem chAt_lt {C st : Int} (hC : 0 ≤ C) {a : At} (ha : 0 ≤ a.ticks) {i j : Nat} (h : i < j) (x y : UInt8) : (chAt C st a i x).at_ + C ≤ (chAt C st a j y).at_ := by
  have h1 : ((i : Int) + 1) * C + C ≤ ((j : Int) + 1) * C := by
    have h2 : ((i : Int) + 1 + 1) * C ≤ ((j : Int) + 1) * C := Int.mul_le_mul_of_nonneg_right (by omega) hC
    rw [Int.add_mul ((i : Int) + 1) 1 C, Int.one_mul] at h2
    exact h2
  unfold chAt
  dsimp only
  generalize ((i : Int) + 1) * C = p at h1 ⊢
  generalize ((j : Int) + 1) * C = q at h1 ⊢
  by_cases e1 : a.fault = 6 ∧ a.pos ≤ (i : Int)
  · rw [if_pos e1, if_pos ⟨e1.1, by omega⟩]
    omega
  · rw [if_neg e1]
    split <;> omega
theorem chsN_at {C st : Int} {a : At} {r : List UInt8} {n k : Nat} {x : Ch} (h : (chsN C st a r n)[k]? = some x) : k < n ∧ x = chAt C st a k (r.getD k 0) := by
  have hk := (List.getElem?_eq_some_iff.1 h).1
  rw [chsN_len] at hk
  unfold chsN at h
  rw [List.getElem?_map, List.getElem?_range hk] at h
  injection h with h
  exact ⟨hk, h.symm⟩
theorem chsN_asc {C st : Int} (hC : 0 ≤ C) {a : At} (ha : 0 ≤ a.ticks) (r : List UInt8) (n : Nat) : ascL (chsN C st a r n) := fun i j x y hij hx hy => by
  obtain ⟨_, rfl⟩ := chsN_at hx
  obtain ⟨_, rfl⟩ := chsN_at hy
  have := chAt_lt (st := st) hC ha hij (r.getD i 0) (r.getD j 0)
  omega
structure OneR (w wr : World) (g : Nat) (sv av : Value) (lp : Bool) (news : List Ch) (k : Nat) (P : Nat → Prop) (s : Ln) (ov : Value) : Prop where
  ln : LnAt P wr g sv av lp s
  lo : ∀ j, P j → w.heap.size ≤ j
  own : wr.ownsRow w.heap.size 48 3 ov k (evL (news.take k))
  ap : ∀ j, ov.ownBlock = some j → ¬ P j
  b : Below w.heap.size w wr
  ok : s.ok
  pd : s.pend = news.drop k
  h0 : k = 0 → s.heard = false
  h1 : ∀ y, 0 < k → news[k - 1]? = some y → s.last = y.at_
def RcvdPost (w : World) (en : Int) (news : List Ch) (r : Ending) (w' : World) : Prop :=
  ∃ a c, r = .returned (.tuple #[.int .i64 en, .slice a news.length c, .bool true]) ∧ w'.ownsRow w.heap.size 48 3 (.slice a news.length c) news.length (evL news) ∧ Below w.heap.size w w'
theorem OneR.step {w wr w2 X w4 : World} {g : Nat} {sv av : Value} {lp : Bool} {news : List Ch} {k : Nat} {P : Nat → Prop} {s : Ln} {ov v2 : Value} (h : OneR w wr g sv av lp news k P s ov) {x : Ch} (hx : news[k]? = some x)
    (h2 : LnAt (GrowP P wr w2) w2 g sv av lp (s.next x (news.drop (k + 1)))) (hk2 : Keeps P wr w2) (hb : Below w2.heap.size w2 X) (hgr : X.grownBy w4 ov.ownBlock) (hown : w4.ownsRow w.heap.size 48 3 v2 (k + 1) (evL (news.take k) ++ evC x)) (hnew : NewOr X ov v2) :
    OneR w w4 g sv av lp news (k + 1) (GrowP P wr w2) (s.next x (news.drop (k + 1))) v2 := by
  have hol : ∀ j, ov.ownBlock = some j → j < wr.heap.size := fun j hj => (h.own.lt j hj).2
  have z2 := hk2.size
  have zX := hb.size
  have h24 : Keeps (fun j => ov.ownBlock = some j) w2 w4 := (Keeps.of_below (F := fun j => ov.ownBlock = some j) hb).trans (Keeps.of_grown hgr (fun _ e => e)) (fun _ _ e => e)
  have hpd := h.pd
  rw [List.drop_eq_getElem_cons (List.getElem?_eq_some_iff.1 hx).1] at hpd
  have hxe : news[k]'(List.getElem?_eq_some_iff.1 hx).1 = x := (List.getElem?_eq_some_iff.1 hx).2
  rw [hxe] at hpd
  refine ⟨h2.keep h24 (fun j hj e => ?_), fun j hj => ?_, ?_, fun j hj hp => ?_, (h.b.trans (hk2.below h.b.size (fun j hj e => by have := h.lo j e; omega))).trans (h24.below (by have := h.b.size; omega) (fun j hj e => by have := (h.own.lt j e).1; omega)), h.ok.next hpd, rfl, fun e => by omega, fun y _ hy => ?_⟩
  · have h4 := hol j e
    rcases hj with e2 | e2
    · exact h.ap j e e2
    · omega
  · rcases hj with e | e
    · exact h.lo j e
    · have := h.b.size
      omega
  · rw [take_succ_snoc hx, evL_app]
    show World.ownsRow _ _ _ _ _ _ (_ ++ (evC x ++ []))
    rw [List.append_nil]
    exact hown
  · rcases hnew with e | ⟨i, e, e2⟩
    · rw [e] at hj
      have h4 := hol j hj
      rcases hp with e2 | e2
      · exact h.ap j hj e2
      · omega
    · rw [hj] at e
      cases e
      rcases hp with e3 | e3
      · obtain ⟨tv, pv, cs, hl⟩ := h.ln
        have := hl.pl j e3
        omega
      · omega
  · rw [Nat.add_sub_cancel, hx] at hy
    injection hy with hy
    subst hy
    rfl
end Go.Proofs.YtpkheiaanjhffaaGreat

namespace Go.Proofs.YtpkheiaanjhffaaGreat
open Go.RowKit
set_option maxRecDepth 100000 in
set_option maxHeartbeats 12800000 in
theorem one_any (la : Option Addr) (lc ln : Nat) (l : List Sl) (hl : l.length = ln) (hB : BusP l) (a : At) (ha : a.ok) (hwa : wfAt a) (bd pa : Int) (hset : Hid (Okset bd pa)) (f1 : wfI bd) (f2 : wfI pa) (fa : Option Addr) (fn fc : Nat) (f : List UInt8) (n1 : 1 ≤ fn) (n2 : fn ≤ 256) (tick : Int) (t0 : 0 ≤ tick) (t1 : tick ≤ 1000000000)
    (w : World) (hL : Slvs w (.slice la ln lc) l) (hf : Bs w (.slice fa fn fc) f) :
    Calls Tryz.prog 13 #[.slice la ln lc, .agg a.C, .agg #[.int .i64 bd, .int .i64 pa], .slice fa fn fc, .int .i64 tick] w (RcvdPost w (tick + frameT bd fn) (newsF l a bd pa f tick)) := by
  obtain ⟨i5, hi, hz0, hz1, hz2⟩ := info_parts infoEvN
  have hfn : f.length = fn := hf.capOf.1
  obtain ⟨C, hC⟩ : ∃ C, a.C = C := ⟨_, rfl⟩
  rw [hC]
  have hcs : C.size = 6 := by rw [← hC]; rfl
  have hi6 : (Tryz.prog.info? 24).map (·.size) = some C.size := by rw [← hC]; exact infoAT
  have hfold := atFold a C hC
  have etop : topT = 1152921504606846976 := rfl
  obtain ⟨news, hnews⟩ : ∃ n, newsF l a bd pa f tick = n := ⟨_, rfl⟩
  obtain ⟨nn, hnn⟩ : ∃ n, news.length = n := ⟨_, rfl⟩
  have hnl : nn ≤ 256 := by rw [← hnn, ← hnews]; unfold newsF; rw [chsN_len]; exact rcvF_len hB a bd pa f
  have hwl : f.length ≤ 256 := by omega
  have hnk : ∀ x ∈ news, ChOk x := by rw [← hnews]; exact newsF_ok hB hset.out ha hwl t0 (by omega)
  obtain ⟨q1, q2, q3, q4, q5, q6⟩ := At.ok_bd ha
  obtain ⟨u1, u2, -⟩ := time_bd hset.out
  have hasc : ascL news := by rw [← hnews]; exact chsN_asc (by omega) q5 _ _
  have hfl : ∀ (k : Nat) x y, 0 < k → news[k]? = some x → news[k - 1]? = some y → ¬ x.at_ < y.at_ + x.du := fun k x y hk hx hy => by
    rw [← hnews] at hx hy
    unfold newsF at hx hy
    obtain ⟨_, rfl⟩ := chsN_at hx
    obtain ⟨_, rfl⟩ := chsN_at hy
    have := chAt_lt (st := begT bd a tick f.length) (show 0 ≤ charT bd by omega) q5 (show k - 1 < k by omega) ((rcvF l a bd pa f).getD (k - 1) 0) ((rcvF l a bd pa f).getD k 0)
    show ¬ _ < _ + charT bd
    omega
  have hle : ∀ x ∈ news, x.at_ ≤ 1152921504606846976 := fun x hx => by
    rw [← hnews] at hx
    unfold newsF at hx
    obtain ⟨i, hi2⟩ := List.getElem?_of_mem hx
    obtain ⟨hi3, rfl⟩ := chsN_at hi2
    have hb := begT_bd hset.out ha tick hwl
    have hr := rcvF_len hB a bd pa f
    have h1 : ((i : Int) + 1) * charT bd ≤ 256 * 9167 := Int.mul_le_mul (by omega) u2 (by omega) (by omega)
    unfold chAt
    dsimp only
    generalize ((i : Int) + 1) * charT bd = m at h1 ⊢
    split <;> omega
  have hat : atOf [a] false 0 = a := atOf_in (j := 0) rfl rfl (.inr (Nat.succ_pos 0))
  have hsend : (Ln.zero.send l [a] false bd pa f tick).pend = news := by
    show (newsF l (atOf [a] false 0) bd pa f tick).foldl putL [] = news
    rw [hat, hnews]
    exact puts_asc hasc
  have hzok : (Ln.zero.send l [a] false bd pa f tick).ok := Ln.zero_ok.send hB (fun x hx => by rw [List.mem_singleton.1 hx]; exact ha) false hset.out hwl t0 (by omega)
  obtain ⟨en, hen⟩ : ∃ e, tick + frameT bd fn = e := ⟨_, rfl⟩
  have hse : Ln.zero.sendE fn tick = 0 := by
    unfold Ln.sendE
    rw [if_neg (by omega), if_neg (by omega), if_neg (by show ¬ tick < 0; omega)]
  obtain ⟨W1, hW1⟩ : ∃ W, (w.alloc (.cells C 24)).alloc (.cells #[.int .i64 bd, .int .i64 pa] 30) = W := ⟨_, rfl⟩
  have hb1 : Below w.heap.size w W1 := by rw [← hW1]; exact bta (bal' w _) (Nat.le_refl _) _
  have hz1' : W1.heap.size = w.heap.size + 2 := by rw [← hW1]; simp
  have pA : W1.heap[w.heap.size]? = some (.cells C 24) := by rw [← hW1]; exact hpKeep (hpNew w _) (bal' _ _)
  obtain ⟨sb, hsb⟩ : ∃ n, w.heap.size + 1 = n := ⟨_, rfl⟩
  have pS : W1.heap[sb]? = some (.cells #[.int .i64 bd, .int .i64 pa] 30) := by
    rw [← hsb, ← hW1]
    have h := hpNew (w.alloc (.cells C 24)) (.cells #[.int .i64 bd, .int .i64 pa] 30)
    simpa using h
  have hX : Below W1.heap.size W1 (W1.alloc (.cells C 24)) := bal' W1 _
  have HNC : Hid (Calls Tryz.prog 25 #[.slice la ln lc, .agg #[.slice (some ⟨W1.heap.size, 0, none⟩) 1 1, .bool false, .slice none 0 0]] (W1.alloc (.cells C 24)) (LnMade (W1.alloc (.cells C 24)) l false [a])) :=
    lnew_ok l ⟨[a], false, []⟩ la ln lc _ _ _ hl (hL.keep (bt hb1 hX (Nat.le_refl _))) (ats_one hwa (by rw [hC]; exact hpNew W1 _)) (Sls.nil _) hB ⟨by show 1 ≤ 4096; decide, (by rintro ⟨e, _⟩; cases e), by show 0 ≤ 8; decide, fun i x h => (by cases h), fun x hx => by rw [List.mem_singleton.1 hx]; exact ha⟩
  have HSD : Hid (∀ w5 g a5 c5 a2 c2, Below w.heap.size w w5 → LnAt (fun j => j = g) w5 g (.slice a5 l.length c5) (.slice a2 [a].length c2) false Ln.zero → LnG (fun j => j = g) w5 a5 l.length c5 a2 [a].length c2 l [a] false → w.heap.size ≤ g → Calls Tryz.prog 30 #[.pointer (some ⟨g, 0, none⟩), .agg #[.int .i64 bd, .int .i64 pa], .slice fa fn fc, .int .i64 tick] w5 (SdPost (fun j => j = g) w5 g (.slice a5 l.length c5) (.slice a2 [a].length c2) false (Ln.zero.send l [a] false bd pa f tick) en)) := fun w5 g a5 c5 a2 c2 hb5 h5 hG5 hg => by
    rw [← hen]
    exact send_go h5 Ln.zero_ok hG5 bd pa hset f1 f2 fa fn fc f (fun X hX => hf.keep ((Below.trans hb5 (hX.below hb5.size (fun j hj e => by omega))))) tick hse (by decide) (by decide)
  have HMA : Hid (∀ x ∈ [a], x.ok) := fun x hx => by rw [List.mem_singleton.1 hx]; exact ha
  have HBB := hid hB
  have HSE := hid hsend
  have HZO := hid hzok
  have HNK := hid hnk
  have HFL := hid hfl
  have HLE := hid hle
  have HNN := hid hnn
  have HNL := hid hnl
  have HB1 := hid hb1
  have HX := hid hX
  have HW1 := hid hW1
  have HSB := hid hsb
  have HPS := hid pS
  rw [hen, hnews]
  clear hl hB ha hwa hset f1 f2 n1 n2 t0 t1 hL hf hfn hC etop hnews hnn hnl hwl hnk q1 q2 q3 q4 q5 q6 u1 u2 hasc hfl hle hat hsend hzok hen hse hW1 hb1 hz1' hsb pS hX
  go_enter Tryz.func13, Tryz.ntmps13
  go_upto_region 1 with (fail)
  rw [HW1.out, HSB.out]
  go_upto_region 2 with (first
    | (refine wpList_load_row rfl 24 (.tmp 6) rfl w.heap.size rfl 24 C (0, 0) _ pA Tryz.underlying24 rfl hi6 ?_)
    | (go_at_call 25; (with_reducible refine HNC.out.mono ?_); rintro r w5 hm5; obtain ⟨g, a5, c5, a2, c2, rfl, hat5, hG5, hgl5, hb5⟩ := hm5.at HBB.out HMA.out (fun e => (by cases e))))
  have hB5 : Below w.heap.size w w5 := (HB1.out.trans (HX.out.mono HB1.out.size)).trans (hb5.mono (by have := HB1.out.size; have := HX.out.size; omega))
  have hgw : w.heap.size ≤ g := by have := HB1.out.size; have := HX.out.size; omega
  have HSD5 := hid (HSD.out w5 g a5 c5 a2 c2 hB5 hat5 hG5 hgw)
  have p5 := hpKeep (hpKeep HPS.out HX.out) hb5
  have y0 : w5.cell? ⟨sb, 0, none⟩ = some (.int .i64 bd) := hpCell p5 0
  have y1 : w5.cell? ⟨sb, 1, none⟩ = some (.int .i64 pa) := hpCell p5 1
  have HB5 := hid hB5
  have HGW := hid hgw
  have HAT5 := hid hat5
  clear hm5 hat5 hG5 hgl5 hb5 hB5 hgw p5 HSD HNC pA hfold hcs hi6
  go_upto_region 5 with (go_at_call 30; (with_reducible refine HSD5.out.mono ?_); rintro r w6 ⟨rfl, hat6, hk6⟩)
  have HR0 : Hid (OneR w w6 g (.slice a5 l.length c5) (.slice a2 [a].length c2) false news 0 (GrowP (fun j => j = g) w5 w6) (Ln.zero.send l [a] false bd pa f tick) (.slice none 0 0)) := by
    have z5 := HB5.out.size
    exact ⟨hat6, fun j hj => (by
      rcases hj with e | e
      · have := HGW.out
        omega
      · omega), World.ownsRow_nil _ _ _ _, fun j hj => (by cases hj), HB5.out.trans (hk6.below HB5.out.size (fun j hj e => by have := HGW.out; omega)), HZO.out, HSE.out, fun _ => rfl, fun y h => (by omega)⟩
  clear y0 y1 HSD5 hat6 hk6 HAT5
  go_upto_region 7 with (fail)
  go_loopw [17, 18] (fun ov kv wr => ∃ (k : Nat) (P : Nat → Prop) (s : Ln), k ≤ nn ∧ kv = .int .i64 (k : Int) ∧ Hid (OneR w wr g (.slice a5 l.length c5) (.slice a2 [a].length c2) false news k P s ov)) (fun _ kv _ => nn + 1 - (intOf kv).toNat)
  case atStart => exact ⟨0, _, _, Nat.zero_le _, rfl, HR0.out⟩
  case round =>
    clear HR0
    obtain ⟨k, P, s, hk, rfl, hr⟩ := hrel
    have hk3 : (k : Int) < 300 := by have := HNL.out; omega
    have hk0 : (0 : Int) ≤ (k : Int) := Int.natCast_nonneg _
    obtain ⟨oa, oc, hov⟩ := own_slice hr.out.own
    by_cases hlt : k < nn
    · obtain ⟨x, hx⟩ := gs (l := news) HNN.out hlt
      have hpd := hr.out.pd
      rw [List.drop_eq_getElem_cons (List.getElem?_eq_some_iff.1 hx).1, (List.getElem?_eq_some_iff.1 hx).2] at hpd
      have hxm := List.mem_of_getElem? hx
      have hfx : (s.ev x).fl = 0 := by
        show (if s.heard = true ∧ x.at_ < s.last + x.du then 2 else 0 : Int) = 0
        by_cases e : k = 0
        · rw [if_neg (fun h => by rw [hr.out.h0 e] at h; cases h.1)]
        · obtain ⟨y, hy⟩ := gs (l := news) HNN.out (show k - 1 < nn by omega)
          have h1 := HFL.out k x y (by omega) hx hy
          have h2 := hr.out.h1 y (by omega) hy
          rw [if_neg (fun h => by have := h.2; omega)]
      have HNX := hid (next_some hr.out.ln hr.out.ok x _ hpd 1152921504606846976 (HLE.out x hxm))
      rw [hfx] at HNX
      have HX' := hid hx
      have HLT := hid hlt
      have hkm : k ≤ 256 := by have := HNL.out; omega
      clear hx hpd hxm hfx hlt
      subst hov
      go_upto_region 11 with (first
        | (go_at_call 27; (with_reducible refine HNX.out.mono ?_); rintro r w2 ⟨rfl, hat2, hk2⟩)
        | (refine wpList_storeW rfl 48 (.tmp 19) (.tmp 50) rfl w2.heap.size 0 _ 48 #[.int .i64 x.at_, .int .u8 x.val, .int .i64 0] rfl rfl (hpNew w2 _) (by simp) infoEvW rfl ?_; intro w3 g3 hk3 hz3))
      obtain ⟨p3, hb3⟩ := var_new (by rfl) g3 hk3
      have hb23 : Below w2.heap.size w2 (w3.alloc (.cells #[.int .i64 x.at_, .int .u8 x.val, .int .i64 0] 48)) := hb3.trans ((bal' w3 _).mono hb3.size)
      have hol : ∀ j, (Value.slice oa k oc).ownBlock = some j → ¬ P j := hr.out.ap
      have hown2 := own_keeps (own_keeps hr.out.own hk2 hol) (Keeps.of_below (F := fun _ => False) hb23) (fun _ _ e => e)
      have hn3 : (w3.alloc (.cells #[.int .i64 x.at_, .int .u8 x.val, .int .i64 0] 48)).heap[w3.heap.size]? = some (.cells #[.int .i64 x.at_, .int .u8 x.val, .int .i64 0] 48) := hpNew w3 _
      have HAT2 := hid hat2
      have HK2 := hid hk2
      have HB23 := hid hb23
      have hbz : w.heap.size ≤ (w3.alloc (.cells #[.int .i64 x.at_, .int .u8 x.val, .int .i64 0] 48)).heap.size := by have := hr.out.b.size; have := hk2.size; have := hb23.size; omega
      clear g3 hk3 hz3 hb3 hb23 hol hat2 hk2 HNX
      go_wp2_with (first
        | (refine wpList_load_row rfl 48 (.tmp 19) rfl w2.heap.size rfl 48 #[.int .i64 x.at_, .int .u8 x.val, .int .i64 0] (0, 0) _ p3 Tryz.underlying48 rfl infoEvW ?_)
        | (at_builtin; refine wpList_appN rfl _ _ 43 rfl w.heap.size 48 i5 _ 3 24 Tryz.underlying43 hi hz0 hz1 hz2 rfl (by decide) (.slice oa k oc) k (evL (news.take k)) rfl hown2 ⟨w3.heap.size, 0, none⟩ 1 1 (evC x) rfl rfl (fun j u hj => rowAtW hn3 j u hj) (by intro u hu; unfold evC at hu; simp only [List.mem_cons, List.not_mem_nil, or_false] at hu; rcases hu with rfl | rfl | rfl <;> rfl) (by unfold maxLen; omega) (by omega) hbz ?_; intro v4 w4 hown4 hgr4 hnew4; have HR4 := hid (hr.out.step HX'.out HAT2.out HK2.out HB23.out hgr4 hown4 hnew4); clear hown4 hgr4 hnew4))
      go_roundw
      case rel => exact ⟨k + 1, _, _, by have := HLT.out; omega, by go_num, HR4.out⟩
      case measure => have := HLT.out; simp [intOf]; omega
    · obtain rfl : k = nn := by omega
      have hpd := hr.out.pd
      rw [List.drop_eq_nil_of_le (by rw [HNN.out]; exact Nat.le_refl _)] at hpd
      have HNX := hid (next_none hr.out.ln 1152921504606846976 (by unfold Ln.due; rw [hpd]))
      subst hov
      clear hpd hlt
      go_wp2_with (first
        | (go_at_call 27; (with_reducible refine HNX.out.mono ?_); rintro r w2 ⟨rfl, hb2⟩)
        | (refine wpList_storeW rfl 48 (.tmp 19) (.tmp 50) rfl w2.heap.size 0 _ 48 #[.int .i64 0, .int .u8 0, .int .i64 0] rfl rfl (hpNew w2 _) (by simp) infoEvW rfl ?_; intro w3 g3 hk3 hz3))
      obtain ⟨p3, hb3⟩ := var_new (by rfl) g3 hk3
      refine bodyPost_ret (results_tmp3 rfl _ _ _) rfl ?_
      have ho := own_keeps (own_keeps hr.out.own (Keeps.of_below (F := fun _ => False) hb2) (fun _ _ e => e)) (Keeps.of_below (F := fun _ => False) hb3) (fun _ _ e => e)
      have hta : news.take k = news := List.take_of_length_le (by rw [HNN.out]; exact Nat.le_refl _)
      rw [hta] at ho
      exact ⟨oa, oc, by rw [HNN.out]; rfl, by rw [HNN.out]; exact ho, bt (bt hr.out.b hb2 (Nat.le_refl _)) hb3 (Nat.le_refl _)⟩
end Go.Proofs.YtpkheiaanjhffaaGreat
