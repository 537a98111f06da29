/-
  Texts 47 of the claim.
-/
import Derived.Test.YtpkheiaanjhffaaGreatU46
import Derived.Deep.CutRange
namespace Go.Proofs.YtpkheiaanjhffaaGreat
open Go.RowKit
theorem infoStW : (Tryz.prog.info? 30).map (·.size) = some 2 := by kernel_rfl
set_option maxRecDepth 100000 in
set_option maxHeartbeats 12800000 in
theorem awake16_any (w : World) : Calls Tryz.prog 10 #[] w fun r w' => r = .returned (.bool true) ∧ Below w.heap.size w w' := by
  have HNW : Hid (∀ X bs ba rv ov sv, SlR X (smpS 38400) rv ov sv → X.heap[bs]? = some (.cells (SlC (smpS 38400) rv ov sv) 38) → X.heap[ba]? = some (.cells awT.C 24) → Calls Tryz.prog 25 #[.slice (some ⟨bs, 0, none⟩) 1 1, .agg #[.slice (some ⟨ba, 0, none⟩) 1 1, .bool false, .slice none 0 0]] X (LnMade X [smpS 38400] false [awT])) := fun X bs ba rv ov sv h1 h2 h3 =>
    lnew_ok [smpS 38400] ⟨[awT], false, []⟩ _ 1 1 _ _ X rfl (slvs_one h1 h2) (ats_one aw_wf h3) (Sls.nil X) aw_bus aw_scr
  go_enter Tryz.func10, Tryz.ntmps10
  go_upto_region 2 with (first
    | (go_at_call 38; (with_reducible refine (smp_any _).mono ?_); rintro r w1 ⟨p, q, rfl, hs1⟩; obtain ⟨C, hC⟩ : ∃ C, SmpC 9600 p q = C := ⟨_, rfl⟩; rw [hC]; have hcs : C.size = 19 := (by rw [← hC]; rfl); have hi : (Tryz.prog.info? 38).map (·.size) = some C.size := (by rw [← hC]; exact infoSL); have h1c : C.toList.all (·.oneCell') = true := (by rw [← hC]; rfl))
    | (refine wpList_storeW rfl 38 (.tmp 1) (.tmp 8) rfl w1.heap.size 0 _ 38 C rfl rfl (hpNew w1 _) (by simp [hcs]) hi h1c ?_; intro w2 g2 hk2 hz2))
  obtain ⟨p2, hb2⟩ := var_new (by rw [hcs]; rfl) g2 hk2
  obtain ⟨sb, hsb⟩ : ∃ n, w1.heap.size = n := ⟨_, rfl⟩
  rw [hsb] at p2 ⊢
  have HS1 := hid hs1
  have HB2 := hid hb2
  have HSB := hid hsb
  have HCC := hid hC
  clear g2 hk2 hz2 hb2 hsb hs1 hC h1c hi
  go_upto_region 3 with (refine wpList_storeW rfl 30 (.tmp 10) (.tmp 9) rfl sb 0 _ 38 #[.int .i64 38400, .int .i64 0] rfl rfl p2 (by simp [hcs]) infoStW rfl ?_; intro w3 g3 hk3 hz3)
  dsimp only [Act.put]
  obtain ⟨D, hD⟩ : ∃ D, SmpC 38400 p q = D := ⟨_, rfl⟩
  have p3 : w3.heap[sb]? = some (.cells D 38) := by rw [g3, ← HCC.out, ← hD]; rfl
  have hds : D.size = 19 := by rw [← hD]; rfl
  have hdi : (Tryz.prog.info? 38).map (·.size) = some D.size := by rw [← hD]; exact infoSL
  have hfold := slFoldW (smpS 38400) (fun k => if k = 2 then .slice (some ⟨q, 0, none⟩) 1 1 else .slice none 0 0) (.slice none 0 0) (.slice (some ⟨p, 0, none⟩) 2 2) D hD
  have hb23 : Below w.heap.size w w3 := (HS1.out.b.trans (HB2.out.mono HS1.out.b.size)).trans (hk3.below (by have := HS1.out.b.size; have := HB2.out.size; omega) (fun j hj e => by have := HSB.out; have := HS1.out.b.size; omega))
  have HR3 : Hid (∀ X, Below w3.heap.size w3 X → SlR X (smpS 38400) (fun k => if k = 2 then .slice (some ⟨q, 0, none⟩) 1 1 else .slice none 0 0) (.slice none 0 0) (.slice (some ⟨p, 0, none⟩) 2 2)) := fun X hX => by
    refine HS1.out.slr ⟨?_, fun j hj hl => ?_⟩ 38400 (by unfold wfI; omega)
    · have := HB2.out.size
      have := hk3.size
      have := hX.size
      omega
    · have := HB2.out.size
      have := hk3.size
      rw [hX.block j (by omega), hk3.block j (by omega) (fun e => by have e' : j = sb := e; have := HSB.out; omega), HB2.out.block j hl]
  have HBW := hid hb23
  have HDD := hid hD
  have HP3 := hid p3
  have HSL : Hid (w.heap.size ≤ sb) := by have := HSB.out; have := HS1.out.b.size; show _ ≤ _; omega
  clear g3 hk3 hz3 hb23 hD p2 hcs
  have HNC : Hid (Calls Tryz.prog 25 #[.slice (some ⟨w3.heap.size, 0, none⟩) 1 1, .agg #[.slice (some ⟨w3.heap.size + 1, 0, none⟩) 1 1, .bool false, .slice none 0 0]] ((w3.alloc (.cells D 38)).alloc (.cells #[.int .i64 100, .int .i64 0, .int .i64 0, .int .i64 0, .int .i64 0, .int .i64 0] 24)) (LnMade ((w3.alloc (.cells D 38)).alloc (.cells #[.int .i64 100, .int .i64 0, .int .i64 0, .int .i64 0, .int .i64 0, .int .i64 0] 24)) [smpS 38400] false [awT])) := by
    refine HNW.out _ _ _ _ _ _ (HR3.out _ (bta (bal' w3 _) (Nat.le_refl _) _)) ?_ ?_
    · rw [← SmpC_slc, HDD.out]
      exact hpKeep (hpNew w3 _) (bal' _ _)
    · have h := hpNew (w3.alloc (.cells D 38)) (.cells #[.int .i64 100, .int .i64 0, .int .i64 0, .int .i64 0, .int .i64 0, .int .i64 0] 24)
      rw [World.size_alloc] at h
      exact h
  go_upto_region 4 with (first
    | (refine wpList_load_row rfl 38 (.tmp 1) rfl sb rfl 38 D (0, 0) _ p3 Tryz.underlying38 rfl hdi ?_)
    | (go_at_call 25; (with_reducible refine HNC.out.mono ?_); rintro r w5 hm5; obtain ⟨g, a, c, a2, c2, rfl, hat5, hG5, hgl5, hb5⟩ := hm5.at aw_bus (fun x hx => by rw [List.mem_singleton.1 hx]; exact aw_tok) (fun e => (by cases e))))
  have HAT : Hid (LnAt (fun j => j = g) w5 g (.slice a 1 c) (.slice a2 1 c2) false Ln.zero) := hat5
  have HG : Hid (LnG (fun j => j = g) w5 a 1 c a2 1 c2 [smpS 38400] [awT] false) := hG5
  have hX5 : Below w3.heap.size w3 ((w3.alloc (.cells D 38)).alloc (.cells #[.int .i64 100, .int .i64 0, .int .i64 0, .int .i64 0, .int .i64 0, .int .i64 0] 24)) := bta (bal' w3 _) (Nat.le_refl _) _
  have hb35 : Below w3.heap.size w3 w5 := bt hX5 hb5 (Nat.le_refl _)
  have HS5 := hid (hpKeep HP3.out hb35)
  have HGL : Hid (w3.heap.size ≤ g ∧ sb < w3.heap.size) := ⟨by have := hX5.size; omega, hpLt HP3.out⟩
  have HB5 : Hid (Below w.heap.size w w5) := HBW.out.trans (hb35.mono HBW.out.size)
  have HD01 : Hid (D[0]? = some (.int .i64 38400) ∧ D[1]? = some (.int .i64 0)) := by show _ ∧ _; rw [← HDD.out]; exact ⟨rfl, rfl⟩
  clear hm5 hat5 hG5 hgl5 hb5 hX5 hb35 HNC p3 hdi hfold hds HNW
  have HFR : Hid (∀ X, Calls Tryz.prog 14 #[.int .i64 7, .agg #[.int .i64 3, .int .i64 12, .int .i64 1, .int .i64 0, .int .i64 0]] X (FrPost X lwF)) := fun X => lframe_any 7 (by decide) (by decide) awQ (by decide) X
  have y0 : ∀ X, Keeps (fun j => j = g) w5 X → X.cell? ⟨sb, 0, none⟩ = some (.int .i64 38400) := fun X hX => by rw [hpCell (hpKeeps HS5.out hX (fun e => by have := HGL.out; omega))]; exact HD01.out.1
  have y1 : ∀ X, Keeps (fun j => j = g) w5 X → X.cell? ⟨sb, 1, none⟩ = some (.int .i64 0) := fun X hX => by rw [hpCell (hpKeeps HS5.out hX (fun e => by have := HGL.out; omega))]; exact HD01.out.2
  have kD : Below w5.heap.size w5 w5.drew := (Below.refl _ _).drew
  have kS : Keeps (fun j => j = g) w5 w5.drew := Keeps.of_below kD
  go_upto_region 6 with (fail)
  refine wp_region_held_drew (S := fun V => Keeps (fun j => j = g) w5 V) (by kernel_rfl) kS (fun hH => ?_)
  clear hH
  refine tkE 0 27 rfl rfl ?_; simp only [setS]
  refine tkE 1 28 rfl rfl ?_; simp only [setS]
  refine tkE 2 29 rfl rfl ?_; simp only [setS]
  refine tkE 3 30 rfl rfl ?_; simp only [setS]
  refine rdyH 4 rfl (fun K hK => ?_); go_simp
  refine (HFR.out _).mono ?_
  rintro r w6 ⟨fa, fc, rfl, hof, hb6⟩
  have hB6 : Below w5.heap.size w5 w6 := bt kD hb6 (Nat.le_refl _)
  have kS6 : Keeps (fun j => j = g) w5 w6 := Keeps.of_below hB6
  refine hK.out _ _ kS6 (fun hSx => ?_); clear hK K hSx
  refine rdyH 5 rfl (fun K hK => ?_); go_simp
  have hat6 := HAT.out.keep (F := fun _ => False) (Keeps.of_below hB6) (fun _ _ e => e)
  have hG6 := HG.out.next kS6 (fun j _ e => e)
  have hf6 : ∀ X, Keeps (fun j => j = g) w6 X → Bs X (.slice fa 8 fc) lwF := fun X hX => Bs.own (own_keeps hof hX (fun j hj e => by
    have h1 := (hof.lt j hj).1
    obtain ⟨tv, pv, cs, h⟩ := HAT.out
    have := hpLt h.at_
    have := kD.size
    omega))
  refine (send_go hat6 Ln.zero_ok hG6 38400 0 aw_set (by unfold wfI; omega) (by unfold wfI; omega) fa 8 fc lwF hf6 0 (by decide) (by decide) (by decide)).mono ?_
  rintro r w7 ⟨rfl, hat7, hk7⟩
  have kS7 : Keeps (fun j => j = g) w5 w7 := kS6.trans hk7 (fun _ _ e => e)
  refine hK.out _ _ kS7 (fun hSx => ?_); clear hK K hSx
  refine tkE 6 26 rfl rfl ?_; simp only [setS]
  refine tkE 7 33 rfl rfl ?_; simp only [setS]
  refine tkE 8 34 rfl rfl ?_; simp only [setS]
  refine tkD 9 4 (v := ?_) rfl (by kernel_rfl) (fun _ _ _ h => h) rfl (by rfl) (by assumption) ?_ ?_; rotate_left; (intro w hSw; (try dsimp only at hSw); (try go_simp); try rfl)
  refine tkD 10 5 (v := ?_) rfl (by kernel_rfl) (fun _ _ _ h => h) rfl (by rfl) (by assumption) ?_ ?_; rotate_left; (intro w hSw; (try dsimp only at hSw); (try go_simp); try rfl)
  refine wpAnyH_done (by kernel_rfl) ?_ _
  have hft : frameT 38400 8 = 2296 := by decide
  rw [hft]
  obtain ⟨rest, hpend, hrl⟩ := aw_pend
  have hok7 : awN.ok := Ln.zero_ok.send aw_bus (fun x hx => by rw [List.mem_singleton.1 hx]; exact aw_tok) false aw_set (by rw [aw_len]; decide) (by decide) (by decide)
  have hat7' : LnAt (GrowP (fun j => j = g) w6 w7) w7 g (.slice a 1 c) (.slice a2 1 c2) false awN := hat7
  have HNX := hid (next_some hat7' hok7 _ rest hpend 5000 (by decide))
  have HB7 : Hid (Below w.heap.size w w7) := HB5.out.trans (kS7.below HB5.out.size (fun j hj e => by have := HGL.out; have := HBW.out.size; omega))
  have HK7 := hid hk7
  have HZ7 : Hid (w5.heap.size ≤ w6.heap.size ∧ g < w5.heap.size) := by
    obtain ⟨tv, pv, cs, h⟩ := HAT.out
    exact ⟨hB6.size, hpLt h.at_⟩
  have HSN : Hid ((awN.next ⟨4433, 7, 0, 287⟩ rest).sent.length = 1 ∧ (awN.next ⟨4433, 7, 0, 287⟩ rest).pend.length = 6) := ⟨rfl, hrl⟩
  have HEV : Hid ((awN.ev ⟨4433, 7, 0, 287⟩).fl = 0) := by
    show _ = _
    kernel_rfl
  clear y0 y1 kD kS hof hb6 hB6 kS6 hat6 hG6 hf6 hk7 kS7 hft hpend hrl hok7 hat7 hat7' HFR
  go_upto_region 8 with (first
    | (go_at_call 27; (with_reducible refine HNX.out.mono ?_); rintro r w8 ⟨rfl, hat8, hk8⟩; rw [HEV.out])
    | (refine wpList_storeW rfl 48 (.tmp 6) (.tmp 38) rfl w8.heap.size 0 _ 48 #[.int .i64 4433, .int .u8 7, .int .i64 0] rfl rfl (hpNew w8 _) (by simp) infoEvW rfl ?_; intro w9 g9 hk9 hz9))
  obtain ⟨p9, hb9⟩ := var_new (by rfl) g9 hk9
  have hat9 := hat8.keep (F := fun _ => False) (Keeps.of_below hb9) (fun _ _ e => e)
  have e0 := hpCell p9 0
  have e1 := hpCell p9 1
  have HTT := hid (atts_any hat9)
  have HPP := hid (waits_any hat9)
  rw [HSN.out.1] at HTT
  rw [HSN.out.2] at HPP
  have HB9 : Hid (Below w.heap.size w w9) := (HB7.out.trans (hk8.below HB7.out.size (fun j hj e => by
    have h1 := HGL.out
    have h2 := HBW.out.size
    have h3 := HZ7.out
    have h4 := HB5.out.size
    rcases e with e | e
    · omega
    · omega))).trans (hb9.mono (by have := HB7.out.size; have := hk8.size; omega))
  clear g9 hk9 hz9 p9 hb9 hat9 hat8 hk8 HNX
  go_wp2_with (first
    | (go_at_call 32; (with_reducible refine HTT.out.mono ?_); rintro r wx ⟨rfl, rfl⟩)
    | (go_at_call 33; (with_reducible refine HPP.out.mono ?_); rintro r wx ⟨rfl, rfl⟩))
  go_ret
  exact ⟨rfl, HB9.out⟩
def evC (x : Ch) : List Value := [.int .i64 x.at_, .int .u8 x.val, .int .i64 0]
def evL : List Ch → List Value
  | [] => []
  | x :: l => evC x ++ evL l
theorem evL_app : ∀ l k, evL (l ++ k) = evL l ++ evL k
  | [], k => rfl
  | x :: l, k => by
    show evC x ++ evL (l ++ k) = evC x ++ evL l ++ evL k
    rw [evL_app l k, List.append_assoc]
theorem evL_get : ∀ {l : List Ch} {i : Nat} {x : Ch}, l[i]? = some x → ∀ r, r < 3 → (evL l)[i * 3 + r]? = (evC x)[r]?
  | [], i, x, h, _, _ => by cases h
  | y :: l, 0, x, h, r, hr => by
    injection h with h
    subst h
    show (evC y ++ evL l)[0 * 3 + r]? = _
    rw [Nat.zero_mul, Nat.zero_add, List.getElem?_append_left (show r < 3 from hr)]
  | y :: l, i + 1, x, h, r, hr => by
    show (evC y ++ evL l)[(i + 1) * 3 + r]? = _
    rw [List.getElem?_append_right (show 3 ≤ _ by omega), show (i + 1) * 3 + r - (evC y).length = i * 3 + r by show (i + 1) * 3 + r - 3 = _; omega]
    exact evL_get (by simpa using h) r hr
theorem infoEvN : (Tryz.prog.info? 48).map (fun i => (i.zero, i.size, i.bytes)) = some (some (.agg #[.int .i64 0, .int .u8 0, .int .i64 0]), 3, 24) := by kernel_rfl
set_option maxRecDepth 100000 in
theorem atFold (a : At) (C : Array Value) (hC : a.C = C) : Array.foldl (fun (cs : Array Value) (x : Value × Nat) => cs.setIfInBounds x.snd x.fst) #[.int .i64 0, .int .i64 0, .int .i64 0, .int .i64 0, .int .i64 0, .int .i64 0] C.zipIdx 0 6 = C := by
  subst hC
  kernel_rfl
theorem chAt_lt {C st : Int} (hC : 0 ≤ C) {a : At} (ha : 0 ≤ a.ticks) {i j : Nat} (h : i < j) (x y : UInt8) : (chAt C st a i x).at_ + C ≤ (chAt C st a j y).at_ := by
  have h1 : ((i : Int) + 1) * C + C ≤ ((j : Int) + 1) * C := by
    have h2 : ((i : Int) + 1 + 1) * C ≤ ((j : Int) + 1) * C := Int.mul_le_mul_of_nonneg_right (by omega) hC
    rw [Int.add_mul ((i : Int) + 1) 1 C, Int.one_mul] at h2
    exact h2
  unfold chAt
  dsimp only
  generalize ((i : Int) + 1) * C = p at h1 ⊢
  generalize ((j : Int) + 1) * C = q at h1 ⊢
  by_cases e1 : a.fault = 6 ∧ a.pos ≤ (i : Int)
  · rw [if_pos e1, if_pos ⟨e1.1, by omega⟩]
    omega
  · rw [if_neg e1]
    split <;> omega
theorem chsN_at {C st : Int} {a : At} {r : List UInt8} {n k : Nat} {x : Ch} (h : (chsN C st a r n)[k]? = some x) : k < n ∧ x = chAt C st a k (r.getD k 0) := by
  have hk := (List.getElem?_eq_some_iff.1 h).1
  rw [chsN_len] at hk
  unfold chsN at h
  rw [List.getElem?_map, List.getElem?_range hk] at h
  injection h with h
  exact ⟨hk, h.symm⟩
theorem chsN_asc {C st : Int} (hC : 0 ≤ C) {a : At} (ha : 0 ≤ a.ticks) (r : List UInt8) (n : Nat) : ascL (chsN C st a r n) := fun i j x y hij hx hy => by
  obtain ⟨_, rfl⟩ := chsN_at hx
  obtain ⟨_, rfl⟩ := chsN_at hy
  have := chAt_lt (st := st) hC ha hij (r.getD i 0) (r.getD j 0)
  omega
structure OneR (w wr : World) (g : Nat) (sv av : Value) (lp : Bool) (news : List Ch) (k : Nat) (P : Nat → Prop) (s : Ln) (ov : Value) : Prop where
  ln : LnAt P wr g sv av lp s
  lo : ∀ j, P j → w.heap.size ≤ j
  own : wr.ownsRow w.heap.size 48 3 ov k (evL (news.take k))
  ap : ∀ j, ov.ownBlock = some j → ¬ P j
  b : Below w.heap.size w wr
  ok : s.ok
  pd : s.pend = news.drop k
  h0 : k = 0 → s.heard = false
  h1 : ∀ y, 0 < k → news[k - 1]? = some y → s.last = y.at_
def RcvdPost (w : World) (en : Int) (news : List Ch) (r : Ending) (w' : World) : Prop :=
  ∃ a c, r = .returned (.tuple #[.int .i64 en, .slice a news.length c, .bool true]) ∧ w'.ownsRow w.heap.size 48 3 (.slice a news.length c) news.length (evL news) ∧ Below w.heap.size w w'
theorem OneR.step {w wr w2 X w4 : World} {g : Nat} {sv av : Value} {lp : Bool} {news : List Ch} {k : Nat} {P : Nat → Prop} {s : Ln} {ov v2 : Value} (h : OneR w wr g sv av lp news k P s ov) {x : Ch} (hx : news[k]? = some x)
    (h2 : LnAt (GrowP P wr w2) w2 g sv av lp (s.next x (news.drop (k + 1)))) (hk2 : Keeps P wr w2) (hb : Below w2.heap.size w2 X) (hgr : X.grownBy w4 ov.ownBlock) (hown : w4.ownsRow w.heap.size 48 3 v2 (k + 1) (evL (news.take k) ++ evC x)) (hnew : NewOr X ov v2) :
    OneR w w4 g sv av lp news (k + 1) (GrowP P wr w2) (s.next x (news.drop (k + 1))) v2 := by
  have hol : ∀ j, ov.ownBlock = some j → j < wr.heap.size := fun j hj => (h.own.lt j hj).2
  have z2 := hk2.size
  have zX := hb.size
  have h24 : Keeps (fun j => ov.ownBlock = some j) w2 w4 := (Keeps.of_below (F := fun j => ov.ownBlock = some j) hb).trans (Keeps.of_grown hgr (fun _ e => e)) (fun _ _ e => e)
  have hpd := h.pd
  rw [List.drop_eq_getElem_cons (List.getElem?_eq_some_iff.1 hx).1] at hpd
  have hxe : news[k]'(List.getElem?_eq_some_iff.1 hx).1 = x := (List.getElem?_eq_some_iff.1 hx).2
  rw [hxe] at hpd
  refine ⟨h2.keep h24 (fun j hj e => ?_), fun j hj => ?_, ?_, fun j hj hp => ?_, (h.b.trans (hk2.below h.b.size (fun j hj e => by have := h.lo j e; omega))).trans (h24.below (by have := h.b.size; omega) (fun j hj e => by have := (h.own.lt j e).1; omega)), h.ok.next hpd, rfl, fun e => by omega, fun y _ hy => ?_⟩
  · have h4 := hol j e
    rcases hj with e2 | e2
    · exact h.ap j e e2
    · omega
  · rcases hj with e | e
    · exact h.lo j e
    · have := h.b.size
      omega
  · rw [take_succ_snoc hx, evL_app]
    show World.ownsRow _ _ _ _ _ _ (_ ++ (evC x ++ []))
    rw [List.append_nil]
    exact hown
  · rcases hnew with e | ⟨i, e, e2⟩
    · rw [e] at hj
      have h4 := hol j hj
      rcases hp with e2 | e2
      · exact h.ap j hj e2
      · omega
    · rw [hj] at e
      cases e
      rcases hp with e3 | e3
      · obtain ⟨tv, pv, cs, hl⟩ := h.ln
        have := hl.pl j e3
        omega
      · omega
  · rw [Nat.add_sub_cancel, hx] at hy
    injection hy with hy
    subst hy
    rfl
end Go.Proofs.YtpkheiaanjhffaaGreat
