/-
  Texts 43 of the claim.
-/
import Derived.Test.YtipnamoocemeeaaGreatA42
/-
  The reference's probe: Feed in a map.
-/
namespace Go.Proofs.YtipnamoocemeeaaGreat
open Go.RowKit


structure RqT (g b : Nat) (win : Nat → Int × Int) (st : Int) (iV sV mV : Value) (ov sv : Value) (q : Int) (x : Value) (X : World) : Prop where
  hi : ∃ mv d', RqI X g win st iV sV mV d' ov sv mv q
  hs : X.cell? ⟨b, 4, none⟩ = some x

set_option maxRecDepth 100000 in
set_option maxHeartbeats 12800000 in
theorem rpf_map {P Q : Nat → Prop} {W0 w : World} {g : Nat} {win : Nat → Int × Int} {k : Nat} {m : Mp} {d : Dv} {q st : Int} {iV sV mV ov sv : Value} {mv : Nat → Value} (hb : P g ∧ W0.heap.size ≤ g ∧ ∀ j, j < W0.heap.size → P j) (hBW : Below W0.heap.size W0 w) (hs : RqSt P Q W0 w g win ⟨.map k m, d, q⟩ st iV sV mV ov sv mv) (q0 : 0 ≤ q) (q1 : q ≤ 1000000) (hwo : WinOk win) (hok : (Ph.map k m).ok win)
    (O : Oc) (da : Option Addr) (dc : Nat) (oa : Option Addr) (oc : Nat) (p' : Pb) (hp' : Hid (p' = Pb.feed win ⟨.map k m, d, q⟩ O)) :
    Calls Tryz.prog 57 #[.pointer (some ⟨g, 0, none⟩), .agg #[.int .i64 O.verdict, .int .i64 O.reply.fn, .int .i64 O.reply.exc, .slice da O.reply.data.length dc, .int .i64 O.reply.code, .int .i64 O.reply.level, .bool O.reply.more, .int .i64 O.reply.next, .slice oa O.reply.objs.length oc]] w (RqFd P W0 w g win p') := by
  have h := hs.2.1
  obtain ⟨hst, hk4, b, v, mq, hmv, hqb, hvb, hrm, hm0, hm1⟩ := hs.2.2.2
  have hm1 : mq ≤ q := hm1
  obtain ⟨-, hmo, hmr⟩ := hok
  have hrd := hs.2.2.1
  obtain ⟨WB, hWB⟩ : ∃ W, w.alloc (.cells #[.int .i64 O.verdict, .int .i64 O.reply.fn, .int .i64 O.reply.exc, .slice da O.reply.data.length dc, .int .i64 O.reply.code, .int .i64 O.reply.level, .bool O.reply.more, .int .i64 O.reply.next, .slice oa O.reply.objs.length oc] 55) = W := ⟨_, rfl⟩; have hbB : Below w.heap.size w WB := (by rw [← hWB]; exact bal' w _); have pB : WB.heap[w.heap.size]? = some (.cells #[.int .i64 O.verdict, .int .i64 O.reply.fn, .int .i64 O.reply.exc, .slice da O.reply.data.length dc, .int .i64 O.reply.code, .int .i64 O.reply.level, .bool O.reply.more, .int .i64 O.reply.next, .slice oa O.reply.objs.length oc] 55) := (by rw [← hWB]; exact hpNew w _); have hgl : g < w.heap.size := hpLt h; have hB := h.keep hbB; have cB : WB.cell? ⟨g, 8, none⟩ = some (.int .i64 st) := hB.step; have cQ : WB.cell? ⟨g, 33, none⟩ = some (.int .i64 q) := hpCell hB 33; have fQ : WB.frozen? ⟨g, 33, none⟩ = false := hpFree hB 33; have sQ : IntKind.i64.wrap (q + 1) = q + 1 := IntWalk.i64_in _ (by omega); obtain ⟨W1, hW1⟩ : ∃ W, WB.setCell ⟨g, 33, none⟩ (.int .i64 (q + 1)) = W := ⟨_, rfl⟩; have hk1 : Keeps (· = g) WB W1 := (by rw [← hW1]; exact ks1 (Keeps.refl _ _) _ _); have h1 : RqI W1 g win st iV sV mV d ov sv mv (q + 1) := (by rw [← hW1]; exact hB.setQ _); have o1 : W1.heap[w.heap.size]? = some (.cells #[.int .i64 O.verdict, .int .i64 O.reply.fn, .int .i64 O.reply.exc, .slice da O.reply.data.length dc, .int .i64 O.reply.code, .int .i64 O.reply.level, .bool O.reply.more, .int .i64 O.reply.next, .slice oa O.reply.objs.length oc] 55) := hpKeeps pB hk1 (fun e => by omega); have c8 := h1.step; have HKW : Hid (Keeps (· = g) w W1) := (Keeps.of_below hbB).trans hk1 (fun _ _ e => e); have HWB := hid hWB; have HW1 := hid hW1; have H1 := hid h1; obtain ⟨T, hT⟩ : ∃ T, st - 3 = T := ⟨_, rfl⟩; have sT : IntKind.i64.wrap (st - 3) = T := (by rw [IntWalk.i64_in _ (by omega)]; exact hT); obtain ⟨kk, hkk⟩ : ∃ kk, IntKind.i64.wrap (T.tdiv 2) = kk := ⟨_, rfl⟩
  subst hmv
  have hbg := (hs.1 b hqb).2.2.1
  have hbl := (hs.1 b hqb).2.2.2
  obtain ⟨F, hF⟩ : ∃ F : Nat → Prop, (fun j => j = b ∨ v.ownBlock = some j) = F := ⟨_, rfl⟩
  have hFQ : ∀ j, F j → Q j := fun j e => by rw [← hF] at e; rcases e with e | e; exact e ▸ hqb; exact hvb j e
  have hwb : ¬ F w.heap.size := fun e => by have := (hs.1 _ (hFQ _ e)).2.2.2; omega
  have hgF : ¬ F g := fun e => (hs.1 _ (hFQ _ e)).2.2.1 rfl
  have o0 : ∀ X, Keeps F W1 X → X.cell? ⟨w.heap.size, 0, none⟩ = some (.int .i64 O.verdict) := (fun X h => hpCell (hpKeeps o1 h hwb) 0); have o1' : ∀ X, Keeps F W1 X → X.cell? ⟨w.heap.size, 1, none⟩ = some (.int .i64 O.reply.fn) := (fun X h => hpCell (hpKeeps o1 h hwb) 1); have o2 : ∀ X, Keeps F W1 X → X.cell? ⟨w.heap.size, 2, none⟩ = some (.int .i64 O.reply.exc) := (fun X h => hpCell (hpKeeps o1 h hwb) 2); have o3 : ∀ X, Keeps F W1 X → X.cell? ⟨w.heap.size, 3, none⟩ = some (.slice da O.reply.data.length dc) := (fun X h => hpCell (hpKeeps o1 h hwb) 3); have o4 : ∀ X, Keeps F W1 X → X.cell? ⟨w.heap.size, 4, none⟩ = some (.int .i64 O.reply.code) := (fun X h => hpCell (hpKeeps o1 h hwb) 4); have o5 : ∀ X, Keeps F W1 X → X.cell? ⟨w.heap.size, 5, none⟩ = some (.int .i64 O.reply.level) := (fun X h => hpCell (hpKeeps o1 h hwb) 5); have o6 : ∀ X, Keeps F W1 X → X.cell? ⟨w.heap.size, 6, none⟩ = some (.bool O.reply.more) := (fun X h => hpCell (hpKeeps o1 h hwb) 6); have o7 : ∀ X, Keeps F W1 X → X.cell? ⟨w.heap.size, 7, none⟩ = some (.int .i64 O.reply.next) := (fun X h => hpCell (hpKeeps o1 h hwb) 7); have o8 : ∀ X, Keeps F W1 X → X.cell? ⟨w.heap.size, 8, none⟩ = some (.slice oa O.reply.objs.length oc) := (fun X h => hpCell (hpKeeps o1 h hwb) 8); have k0 : Keeps F W1 W1 := Keeps.refl _ _; have kD : Keeps F W1 W1.drew := Keeps.of_below (Below.refl _ _).drew
  have x11 : ∀ X, Keeps F W1 X → X.cell? ⟨g, 11, none⟩ = some (.pointer (some ⟨b, 0, none⟩)) := fun X h => hpCell (hpKeeps h1 h hgF) 11
  have hrm1 : RmAt W0.heap.size W1.drew b m v mq := hrm.keeps (HKW.out.trans (Keeps.of_below (F := fun _ => False) (Below.refl _ _).drew) (fun _ _ e => e.elim)) hbg (fun j hj e => by subst e; exact (hs.1 j (hvb j hj)).2.2.1 rfl)
  obtain ⟨y, hy⟩ : ∃ y, m.feed O.verdict O.reply.exc = y := ⟨_, rfl⟩
  have hyo := Mp.feed_ok hmo hmr O.verdict O.reply.exc
  rw [hy] at hyo
  have HYO := hid hyo
  have hbs1 : W0.heap.size ≤ W1.drew.heap.size := by have h1 := hBW.size; have h2 := HKW.out.size; show W0.heap.size ≤ W1.heap.size; omega
  have HFD : Hid (Calls Tryz.prog 100 #[.pointer (some ⟨b, 0, none⟩), .agg #[.int .i64 O.verdict, .int .i64 O.reply.fn, .int .i64 O.reply.exc, .slice da O.reply.data.length dc, .int .i64 O.reply.code, .int .i64 O.reply.level, .bool O.reply.more, .int .i64 O.reply.next, .slice oa O.reply.objs.length oc]] W1.drew (fun r w' => r = .returned (.int .i64 0) ∧ RmSt W0.heap.size W1.drew b v y (mq + 1) w')) := by
    rw [← hy]
    exact rmfeed_any hrm1 hbs1 hmo hmr hm0 (by omega) O.verdict O.reply.exc _ _ _ _ _ _ _
  have HPP : Hid (p' = if y.rest = 0 then ⟨(aftM win k (rle y.ks) d).1, (aftM win k (rle y.ks) d).2, q + 1⟩ else ⟨.map k y, d, q + 1⟩) := by
    show _ = _
    rw [hp'.out, ← hy]
    unfold Pb.feed Pb.step
    dsimp only
    split <;> rfl
  have HEN0 : Hid (∀ (w5 w6 : World) (v5 : Value), ¬ y.rest = 0 → Keeps F W1 w5 → RmAt W0.heap.size w5 b y v5 (mq + 1) → (∀ j, v5.ownBlock = some j → v.ownBlock = some j ∨ W1.heap.size ≤ j) → Below w5.heap.size w5 w6 → RqFd P W0 w g win p' (.returned (.int .i64 0)) w6) := fun w5 w6 v5 hy0 hk5 hr5 hn5 hb6 => by
    have hk : Keeps (fun j => Q j ∨ j = g) w w6 := ((HKW.out.mono (fun j _ e => .inr e)).trans hk5 (fun j _ e => .inl (hFQ j e))).trans (Keeps.of_below (F := fun _ => False) hb6) (fun _ _ e => e.elim)
    have hz1 := HKW.out.size
    have hz5 := hk5.size
    have hz6 := hb6.size
    have e : p' = ⟨.map k y, d, q + 1⟩ := by rw [HPP.out, if_neg hy0]
    rw [e]
    refine RqSt.fed hb hBW hs hk (fun j => Q j ∨ (w.heap.size ≤ j ∧ j < w6.heap.size)) (fun j e => ?_) ((hpKeeps (hpKeeps h1 hk5 hgF) (Keeps.of_below (F := fun _ => False) hb6) (fun e => e)) : RqI w6 g win st iV sV (.pointer (some ⟨b, 0, none⟩)) d ov sv mv (q + 1)) (hrd.go hk (fun j e => e.imp_right (·.1))) ?_
    · rcases e with e | e
      · exact ⟨.inl e, by have := (hs.1 j e).2.2.2; omega⟩
      · exact ⟨.inr e.1, e.2⟩
    · refine ⟨hst, hk4, b, v5, mq + 1, rfl, .inl hqb, fun j hj => ?_, hr5.keep hb6, by omega, by show mq + 1 ≤ q + 1; omega⟩
      rcases hn5 j hj with e | e
      · exact .inl (hvb j e)
      · exact .inr ⟨by omega, by have := (hr5.own.lt j hj).2; omega⟩
  have HEN1 : Hid (∀ (w5 w7 W8 w9 : World) (v7 : Value) (ph : Ph) (d' : Dv) (st9 : Int) (sV9 : Value), y.rest = 0 → aftM win k (rle y.ks) d = (ph, d') → Keeps F W1 w5 → Below w5.heap.size w5 w7 → Spn w5.heap.size w7 v7 (rle y.ks) → Keeps (· = g) w7 W8 → Keeps (· = g) W8 w9 → RqI w9 g win st9 iV sV9 (.pointer (some ⟨b, 0, none⟩)) d' ov sv (fun i => if i = k then v7 else mv i) (q + 1) → RqNx W8 w9 ph st9 sV9 → RqFd P W0 w g win p' (.returned (.int .i64 0)) w9) := fun w5 w7 W8 w9 v7 ph d' st9 sV9 hy0 haf hk5 hb7 hsp hk8 hk9 hi9 hn9 => by
    have hk : Keeps (fun j => Q j ∨ j = g) w w9 := ((((HKW.out.mono (fun j _ e => .inr e)).trans hk5 (fun j _ e => .inl (hFQ j e))).trans (Keeps.of_below (F := fun _ => False) hb7) (fun _ _ e => e.elim)).trans hk8 (fun j _ e => .inr e)).trans hk9 (fun j _ e => .inr e)
    have hz1 := HKW.out.size
    have hz5 := hk5.size
    have hz7 := hb7.size
    have hz8 := hk8.size
    have hz9 := hk9.size
    have e : p' = ⟨ph, d', q + 1⟩ := by rw [HPP.out, if_pos hy0, haf]
    rw [e]
    unfold aftM at haf
    obtain ⟨m1, m2, m3⟩ := meas_same win _ _ _ _ haf
    have hsp' : w7.ownsRow w5.heap.size 192 2 v7 (rle y.ks).length (rcs (rle y.ks)) := hsp
    have main : ∀ (Q' : Nat → Prop), (∀ j, Q' j → W8.heap.size ≤ j ∧ j < w9.heap.size) → RqPh Q' W0 w9 st9 iV sV9 (.pointer (some ⟨b, 0, none⟩)) (q + 1) ph → RqFd P W0 w g win ⟨ph, d', q + 1⟩ (.returned (.int .i64 0)) w9 := fun Q' hQ' hp => by
      refine RqSt.fed hb hBW hs hk Q' (fun j e => ⟨.inr (by have := (hQ' j e).1; omega), (hQ' j e).2⟩) hi9 ?_ hp
      have hr := hrd.go (Q' := Q') hk (fun j e => .inr (by have := (hQ' j e).1; omega))
      intro W hW
      obtain ⟨r1, r2, r3⟩ := hr W hW
      refine ⟨(by show Obs W ov d'.objs; rw [m1]; exact r1), (by show Bs W sv d'.sd; rw [m2]; exact r2), fun i hi4 => ?_⟩
      show Spn 0 W (if i = k then v7 else mv i) (d'.ts i).map
      rw [m3 i, Dv.tab_mapk]
      by_cases e : i = k
      · rw [if_pos e, if_pos e]
        refine own_lower (own_keeps (own_keeps (own_keeps hsp' hk8 (fun j hj e => ?_)) hk9 (fun j hj e => ?_)) hW (fun j hj e => ?_)) (Nat.zero_le _)
        · have := (hsp'.lt j hj).1
          omega
        · have := (hsp'.lt j hj).1
          omega
        · have h1 := (hsp'.lt j hj).1
          have h2 := (hsp'.lt j hj).2
          rcases e with e | e | e
          · exact e (.inr ⟨by omega, by omega⟩)
          · have := (hQ' j e).1
            omega
          · omega
      · rw [if_neg e, if_neg e]
        exact r3 i hi4
    cases ph with
    | seek k' s' =>
      obtain ⟨n1, n2, b7, n3, n4, n5, n6⟩ := hn9
      exact main (· = b7) (fun j e => by subst e; exact ⟨n4, n5⟩) ⟨n1, n2, b7, n3, rfl, n6⟩
    | done => exact main (fun _ => False) (fun j e => e.elim) hn9
    | test => exact hn9.elim
    | ident x => exact hn9.elim
    | server => exact hn9.elim
    | map k' m' => exact hn9.elim
  have HGF := hid hgF
  have hgb : g ≠ b := fun e => hbg e.symm
  have HST := hid hst
  have HWO := hid hwo
  have hki : (0 : Int) ≤ (k : Int) := Int.natCast_nonneg _
  have hkl : (k : Int) < 4 := by omega
  have hkk2 : kk = (k : Int) := by rw [← hkk, Int.tdiv_eq_ediv_of_nonneg (by omega), IntWalk.i64_in _ (by omega)]; omega
  subst hkk2
  have d0 : (st == 0) = false := b0 (by omega)
  have d1 : (st == 1) = false := b0 (by omega)
  have d2 : (st == 2) = false := b0 (by omega)
  have d11 : (st == 11) = false := b0 (by omega)
  have sm : (T.tmod 2 == 0) = false := b0 (by rw [Int.tmod_eq_emod_of_nonneg (by omega)]; omega)
  have HF : Hid ((fun j => j = b ∨ v.ownBlock = some j) = F) := hF
  clear hb hBW hs hrd hp' hWB hbB pB hB hW1 hk1 h1 h hT o1 hmo hmr hyo hrm hrm1 hwo hy hst hqb hvb hF hFQ HPP hbs1
  go_enter Tryz.func57, Tryz.ntmps57; go_upto_region 1 with (fail); rw [HWB.out]; go_upto_region 4 with (fail); rw [HW1.out]; clear cB cQ fQ sQ HWB HW1
  go_upto_region 5 with (fail)
  go_region_held3 (fun X => Keeps F W1 X) ((with_reducible (first | exact kD | assumption | exact k0)))
    ((go_at_call 100; (with_reducible refine HFD.out.mono ?_); rintro r w5 ⟨rfl, v5, hr5, hk5, hn5⟩; have hK5 : Keeps F W1 w5 := kD.trans hk5 (fun _ _ e => (HF.out ▸ e))))
  have h5 : RqI w5 g win st iV sV (.pointer (some ⟨b, 0, none⟩)) d ov sv mv (q + 1) := hpKeeps H1.out hK5 HGF.out
  have c11 : w5.cell? ⟨g, 11, none⟩ = some (.pointer (some ⟨b, 0, none⟩)) := hpCell h5 11
  obtain ⟨va, vc, rfl⟩ := own_slice hr5.own
  obtain ⟨V, hV⟩ : ∃ V : Bool, V = !decide (y.rest = 0) := ⟨_, rfl⟩
  obtain ⟨rq, hrq⟩ : ∃ q : Rq, q = y.ask := ⟨_, rfl⟩
  have HNX : Hid (Calls Tryz.prog 89 #[.pointer (some ⟨b, 0, none⟩)] w5 (AskPost w5 rq V)) := rmnext_any hr5 HYO.out rq V hrq hV
  have HK := hid hK5
  have H5 := hid h5
  have HR5 := hid hr5
  have HN5 := hid hn5
  clear x11 o0 o1' o2 o3 o4 o5 o6 o7 o8 k0 kD hK5 hk5 h5 hr5 hn5 c8 HFD H1 HKW hrq
  by_cases hy0 : y.rest = 0
  · have HV : Hid (V = false) := by show _ = _; rw [hV, decide_eq_true hy0]; rfl
    have hv := HV.out
    clear hV
    subst hv
    obtain ⟨⟨ph, d'⟩, hph⟩ : ∃ x : Ph × Dv, aftM win k (rle y.ks) d = x := ⟨_, rfl⟩
    have HPH := hid hph
    have HY := hid hy0
    clear hy0 hph
    go_upto_region 8 with (go_at_call 89; (with_reducible refine HNX.out.mono ?_); rintro r w6 ⟨rfl, hb6⟩)
    obtain ⟨W6, hW6⟩ : ∃ W, w6.alloc (.cells #[.int .i64 rq.fn, .int .i64 rq.addr, .int .i64 rq.qty, .int .i64 rq.code, .int .i64 rq.obj] 39) = W := ⟨_, rfl⟩
    have hB6 : Below w5.heap.size w5 W6 := by rw [← hW6]; exact bta hb6 (Nat.le_refl _) _
    rw [hW6]
    have h6 := H5.out.keep hB6
    have r6 := HR5.out.keep hB6
    obtain ⟨l, hl⟩ : ∃ l, rle y.ks = l := ⟨_, rfl⟩
    have kD : RqT g b win st iV sV (.pointer (some ⟨b, 0, none⟩)) ov sv (q + 1) (.slice va y.ks.length vc) W6.drew := ⟨⟨_, _, h6.keep (Below.refl _ _).drew⟩, hpCell (r6.keep (Below.refl _ _).drew).at_ 4⟩
    have k0 : RqT g b win st iV sV (.pointer (some ⟨b, 0, none⟩)) ov sv (q + 1) (.slice va y.ks.length vc) W6 := ⟨⟨_, _, h6⟩, hpCell r6.at_ 4⟩
    have HSP : Hid (Calls Tryz.prog 101 #[.slice va y.ks.length vc] W6.drew fun r w' => ∃ v', r = .returned v' ∧ Spn W6.drew.heap.size w' v' l ∧ Below W6.drew.heap.size W6.drew w') := rspans_any _ _ y.ks W6.drew (r6.keep (Below.refl _ _).drew).own (by have h1 := HYO.out.kl; have h2 := HYO.out.c1; omega) l hl
    have z11 : ∀ X, RqT g b win st iV sV (.pointer (some ⟨b, 0, none⟩)) ov sv (q + 1) (.slice va y.ks.length vc) X → X.cell? ⟨g, 11, none⟩ = some (.pointer (some ⟨b, 0, none⟩)) := fun X ⟨⟨_, _, h⟩, _⟩ => hpCell h 11
    have z4 : ∀ X, RqT g b win st iV sV (.pointer (some ⟨b, 0, none⟩)) ov sv (q + 1) (.slice va y.ks.length vc) X → X.cell? ⟨b, 4, none⟩ = some (.slice va y.ks.length vc) := fun X ⟨_, h⟩ => h
    have H6 := hid h6
    have R6 := hid r6
    have HB6 := hid hB6
    have HL := hid hl
    clear hW6 hb6 hB6 h6 r6 hl c11 HNX HR5 HN5 H5
    go_cut [] from 42 to 56 (fun wd => Hid (∃ v7 w7, Spn W6.heap.size w7 v7 l ∧ Below W6.heap.size W6 w7 ∧ RqI wd g win st iV sV (.pointer (some ⟨b, 0, none⟩)) (d.tab k { d.ts k with map := l }) ov sv (fun i => if i = k then v7 else mv i) (q + 1) ∧ Keeps (· = g) w7 wd))
    case first =>
      go_region_held3 (fun X => RqT g b win st iV sV (.pointer (some ⟨b, 0, none⟩)) ov sv (q + 1) (.slice va y.ks.length vc) X) ((with_reducible (first | exact kD | assumption | exact k0 | exact kS1 _)))
        ((go_at_call 101; (with_reducible refine HSP.out.mono ?_); rintro r w7 ⟨v7, rfl, hsp7, hb7⟩; obtain ⟨a7, c7, rfl⟩ := hsp7.slice; have hB7 : Below W6.heap.size W6 w7 := bt (Below.refl _ _).drew hb7 (Nat.le_refl _); have h7 := H6.out.keep hB7; have kW : RqT g b win st iV sV (.pointer (some ⟨b, 0, none⟩)) ov sv (q + 1) (.slice va y.ks.length vc) w7 := ⟨⟨_, _, h7⟩, hpCell (R6.out.keep hB7).at_ 4⟩; have c22 := h7.tmap hk4; have f22 : w7.frozen? ⟨g, 20 + k * 3 + 2, none⟩ = false := hpFree h7 _; have kS1 : ∀ u, RqT g b win st iV sV (.pointer (some ⟨b, 0, none⟩)) ov sv (q + 1) (.slice va y.ks.length vc) (w7.setCell ⟨g, 20 + k * 3 + 2, none⟩ u) := (fun u => ⟨⟨_, _, h7.setTmap hk4 l u⟩, hpCell ((hpOther (fun e => hgb e.symm)).trans (R6.out.keep hB7).at_) 4⟩)))
      all_goals
        go_wp2
        go_meet
        case rel => exact ⟨_, w7, hsp7, hB7, h7.setTmap hk4 l _, ks1 (Keeps.refl _ _) _ _⟩
    case rest =>
      obtain ⟨W8, hW8⟩ : ∃ W, W = wc := ⟨_, rfl⟩
      subst hW8
      obtain ⟨v7, w7, hsp, hb7, hi8, hk8⟩ := hcut.out
      have c8 := hi8.step
      obtain ⟨st2, hst2⟩ : ∃ s, st + 1 = s := ⟨_, rfl⟩
      have sw8 : IntKind.i64.wrap (st + 1) = st2 := by rw [IntWalk.i64_in _ (by have := HST.out; omega)]; exact hst2
      have haf := HPH.out
      unfold aftM at haf
      rw [HL.out] at haf
      have HTO := hid (rto_tab W8 g hi8 HWO.out (k + 1) (by omega) st2 (by have := HST.out; omega) ph d' haf)
      have HS7 := hid hsp
      have HB7 := hid hb7
      have HK8 := hid hk8
      clear hst2 hi8 hk8 hcut hsp hb7 haf kD k0 HSP z11 z4 H6 R6
      go_wp2_with (go_at_call 93; (with_reducible refine HTO.out.mono ?_); rintro r w9 ⟨rfl, ⟨st9, sv9, hi9, hn9⟩, hk9⟩)
      go_ret
      exact HEN1.out w5 w7 W8 w9 v7 ph d' st9 sv9 HY.out HPH.out HK.out (bt HB6.out HB7.out (Nat.le_refl _)) (by rw [HL.out]; exact own_lower HS7.out HB6.out.size) HK8.out hk9 hi9 hn9
  · have HV : Hid (V = true) := by show _ = _; rw [hV, decide_eq_false hy0]; rfl
    have hv := HV.out
    clear hV
    subst hv
    have HY := hid hy0
    clear hy0
    go_wp2_with (go_at_call 89; (with_reducible refine HNX.out.mono ?_); rintro r w6 ⟨rfl, hb6⟩)
    go_ret
    exact HEN0.out w5 _ _ HY.out HK.out HR5.out HN5.out (bta hb6 (Nat.le_refl _) _)

end Go.Proofs.YtipnamoocemeeaaGreat
