/-
  Texts 41 of the claim.
-/
import Derived.Test.YtipnamoocemeeaaGreatC38
import Derived.Test.YtipnamoocemeeaaGreatC40
import Derived.Test.YtipnamoocemeeaaGreatC22
/-
  The program's sweep: Replay. A configuration of the statements: valid.
-/
namespace Go.Proofs.YtipnamoocemeeaaGreat
open Go.RowKit
/-- Outcomes fed in a row; none where one of them is refused. -/
def feedsE (c : Cf) : Sp → List Oc → Option Sp
  | x, [] => some x
  | x, O :: l => if x.done c = true then none else feedsE c (x.feed c O) l
theorem feedsE_app (c : Cf) : ∀ (l : List Oc) (x : Sp) (m : List Oc), feedsE c x (l ++ m) = (feedsE c x l).bind (fun y => feedsE c y m)
  | [], _, _ => rfl
  | O :: l, x, m => by
    show (if x.done c = true then none else feedsE c (x.feed c O) (l ++ m)) = (if x.done c = true then none else feedsE c (x.feed c O) l).bind _
    split
    · rfl
    · exact feedsE_app c l _ m
theorem feedsE_snoc {c : Cf} {l : List Oc} {x y : Sp} {O : Oc} (h : feedsE c x l = some y) : feedsE c x (l ++ [O]) = if y.done c = true then none else some (y.feed c O) := by
  rw [feedsE_app, h]
  rfl
/-- What Replay leaves. -/
def RyPost (w : World) (c : Cf) (l : List Oc) (r : Ending) (w' : World) : Prop :=
  ((∃ x g, feedsE c Sp.ini l = some x ∧ r = .returned (.tuple #[.pointer (some ⟨g, 0, none⟩), .int .i64 0]) ∧ SwAt (Grw (fun _ => False) w w') w' g c x ∧ SpGd c x l.length) ∨ (feedsE c Sp.ini l = none ∧ r = .returned (.tuple #[.pointer none, .int .i64 12]))) ∧ Below w.heap.size w w'

set_option maxRecDepth 100000 in
set_option maxHeartbeats 6400000 in
theorem swreplay_any (c : Cf) (hc : chkE c = 0) (sv lv : Value) (l : List Oc) (w : World) (hst : Rgs w sv c.sets) (hl : Ocs w lv l) (hf : ∀ O ∈ l, O.fit) (hn : l.length ≤ 100000) :
    Calls Tryz.prog 25 #[.agg (CfC c sv), lv] w (RyPost w c l) := by
  have hok := Cf.ok_of hc
  obtain ⟨la, lc, rfl, -⟩ := id hl
  obtain ⟨C, hC⟩ : ∃ C, CfC c sv = C := ⟨_, rfl⟩
  have hi : (Tryz.prog.info? 27).map (·.size) = some C.size := by rw [← hC]; exact infoCf
  obtain ⟨W0, hW0⟩ : ∃ W, w.alloc (.cells C 27) = W := ⟨_, rfl⟩
  have hb0 : Below w.heap.size w W0 := by rw [← hW0]; exact bal' w _
  have hz0 : W0.heap.size = w.heap.size + 1 := by rw [← hW0]; simp
  have p0 : W0.heap[w.heap.size]? = some (.cells C 27) := by rw [← hW0]; exact hpNew w _
  have HNA : Hid (Calls Tryz.prog 9 #[.agg C] W0 fun r w' => ∃ g : Nat, r = .returned (.tuple #[.pointer (some ⟨g, 0, none⟩), .int .i64 0]) ∧ SwAt (Grw (fun _ => False) W0 w') w' g c Sp.ini ∧ Below W0.heap.size W0 w') := by
    rw [← hC]
    refine (swnew_any c sv W0 (hst.keep hb0) (by have := hok.s6; omega) 0 hc).mono fun r w' h => ?_
    obtain ⟨h1 | ⟨-, g, h1, h2⟩, h3⟩ := h
    · exact absurd rfl h1.1
    · exact ⟨g, h1, h2, h3⟩
  have HW0 := hid hW0
  have HB0 := hid hb0
  have HZ0 := hid hz0
  have HL := hid hl
  have HF := hid hf
  have HC := hid hc
  have HOK := hid hok
  obtain ⟨n, hln⟩ : ∃ n, l.length = n := ⟨_, rfl⟩
  rw [hC]
  rw [hln] at HL hn ⊢
  have HN := hid hln
  clear hW0 hb0 hz0 hl hf hc hok hC hst hln
  go_enter Tryz.func25, Tryz.ntmps25
  go_upto_region 1 with (fail)
  rw [HW0.out]
  go_upto_region 5 with (first
    | (refine wpList_load_row rfl 27 (.tmp 2) rfl w.heap.size rfl 27 C (0, 0) _ p0 Tryz.underlying27 rfl hi ?_)
    | (go_at_call 9; (with_reducible refine HNA.out.mono ?_); rintro r w2 ⟨g, rfl, hsa, hb2⟩))
  have hgd0 := SpGd.ini c
  have HS0 := hid hsa
  clear hsa HNA p0
  go_loopw [21] (fun iv wr => ∃ (k : Nat) (x : Sp), k ≤ n ∧ iv = .int .i64 (k : Int) ∧ Hid (feedsE c Sp.ini (l.take k) = some x) ∧ Hid (SpGd c x k) ∧ Hid (SwAt (Grw (fun _ => False) W0 wr) wr g c x) ∧ Below W0.heap.size W0 wr) (fun iv _ => n - (intOf iv).toNat)
  case atStart => exact ⟨0, Sp.ini, Nat.zero_le _, rfl, rfl, hgd0, HS0.out, hb2⟩
  case round =>
    clear HS0 hb2 hgd0
    obtain ⟨k, x, hk, rfl, hfe, hgd, hsa, hbr⟩ := hrel
    by_cases hlt : k < n
    · obtain ⟨y, hy⟩ := get_some HN.out hlt
      obtain ⟨-, -, -, hel⟩ := HL.out.get
      obtain ⟨b, o, da, dc, oa, oc, rfl, ⟨y0, y1, y2, y3, y4, y5, y6, y7, y8⟩, hxd, hxo, hxl1, hxl2⟩ := hel k y hy
      have hfit := HF.out y (List.mem_of_getElem? hy)
      have hkl : (k : Int) < (n : Int) := by omega
      have hki : (0 : Int) ≤ (k : Int) := Int.natCast_nonneg _
      have hbw : Below w.heap.size w wr := HB0.out.trans (hbr.mono (by have := HZ0.out; omega))
      have z0 : ∀ X, Below w.heap.size w X → X.cell? _ = some _ := fun X h => cell_keep h y0
      have z1 : ∀ X, Below w.heap.size w X → X.cell? _ = some _ := fun X h => cell_keep h y1
      have z2 : ∀ X, Below w.heap.size w X → X.cell? _ = some _ := fun X h => cell_keep h y2
      have z3 : ∀ X, Below w.heap.size w X → X.cell? _ = some _ := fun X h => cell_keep h y3
      have z4 : ∀ X, Below w.heap.size w X → X.cell? _ = some _ := fun X h => cell_keep h y4
      have z5 : ∀ X, Below w.heap.size w X → X.cell? _ = some _ := fun X h => cell_keep h y5
      have z6 : ∀ X, Below w.heap.size w X → X.cell? _ = some _ := fun X h => cell_keep h y6
      have z7 : ∀ X, Below w.heap.size w X → X.cell? _ = some _ := fun X h => cell_keep h y7
      have z8 : ∀ X, Below w.heap.size w X → X.cell? _ = some _ := fun X h => cell_keep h y8
      have hrpx : ∀ W', Below w.heap.size w W' → RpIs W' y.reply da dc oa oc := fun W' hW => ⟨hxd.keep hW, hxo.keep hW, hxl1, hxl2⟩
      obtain ⟨D, hD⟩ : ∃ D, x.done c = D := ⟨_, rfl⟩
      obtain ⟨E2, hE2⟩ : ∃ e : Int, (if x.done c then 12 else 0) = e := ⟨_, rfl⟩
      obtain ⟨x', hx'⟩ : ∃ x', x.feed c y = x' := ⟨_, rfl⟩
      have HFE : Hid (∀ X, Below wr.heap.size wr X → Calls Tryz.prog 18 #[.pointer (some ⟨g, 0, none⟩), .agg #[.int .i64 y.verdict, .int .i64 y.reply.fn, .int .i64 y.reply.exc, .slice da y.reply.data.length dc, .int .i64 y.reply.code, .int .i64 y.reply.level, .bool y.reply.more, .int .i64 y.reply.next, .slice oa y.reply.objs.length oc]] X (SfPost (Grw (fun _ => False) W0 wr) X g c x' E2)) := fun X hX => by
        rw [← hx']
        exact swfeed_any HC.out (hsa.out.keep (F := fun _ => False) (Keeps.of_below hX) (fun _ _ e => e.elim)) hgd.out (by omega) y da dc oa oc (fun W' hW => hrpx W' ((bt hbw hX (Nat.le_refl _)).trans (hW.below (by have := hbw.size; have := hX.size; omega) (fun j hj e => by
          rcases e with e | e
          · exact e
          · have := HZ0.out; omega)))) hfit E2 hE2.symm
      have HX' : Hid (D = false → feedsE c Sp.ini (l.take (k + 1)) = some x') := fun h => by
        rw [take_succ_snoc hy, feedsE_snoc hfe.out, hD, if_neg (by rw [h]; decide), hx']
      have HG' : Hid (SpGd c x' (k + 1)) := by
        show SpGd _ _ _
        rw [← hx']
        exact hgd.out.feed HOK.out.win hfit
      have HNO : Hid (D = true → feedsE c Sp.ini l = none) := fun h => by
        have e : l = l.take k ++ l.drop k := (List.take_append_drop k l).symm
        rw [e, feedsE_app, hfe.out, List.drop_eq_getElem_cons (by rw [HN.out]; exact hlt)]
        show (if x.done c = true then none else _) = none
        rw [hD, if_pos h]
      have HEV : Hid ((D = true → E2 = 12) ∧ (D = false → E2 = 0)) := ⟨fun h => by rw [← hE2, hD, if_pos h], fun h => by rw [← hE2, hD, if_neg (by rw [h]; decide)]⟩
      have HBW := hid hbw
      have HBR := hid hbr
      clear hel hy hxd hxo hxl1 hxl2 hrpx y0 y1 y2 y3 y4 y5 y6 y7 y8 hD hE2 hx' hfit hfe hgd hbr hk
      cases D with
      | true =>
        obtain rfl := HEV.out.1 rfl
        go_wp2_with (go_at_call 18; (with_reducible refine (HFE.out _ (bal' wr _)).mono ?_); rintro r w5 ⟨rfl, h5, hk5⟩)
        go_ret2
        have hb5 : Below w.heap.size w w5 := (bta HBW.out (Nat.le_refl _) _).trans (hk5.below (by have := HBW.out.size; simp; omega) (fun j hj e => by
          rcases e with e | e
          · exact e
          · have := HZ0.out; omega))
        exact ⟨.inr ⟨HNO.out trivial, rfl⟩, hb5⟩
      | false =>
        obtain rfl := HEV.out.2 rfl
        go_upto_region 10 with (go_at_call 18; (with_reducible refine (HFE.out _ (bal' wr _)).mono ?_); rintro r w5 ⟨rfl, h5, hk5⟩)
        have hz5 := hk5.size
        have hzr := HBR.out.size
        have ha5 : ∀ o : Obj, (wr.alloc o).heap.size = wr.heap.size + 1 := fun o => by simp
        rw [ha5] at hz5
        have hb5 : Below W0.heap.size W0 w5 := (bta HBR.out (Nat.le_refl _) _).trans (hk5.below (by simp; omega) (fun j hj e => by
          rcases e with e | e
          · exact e
          · omega))
        have H5 : Hid (SwAt (Grw (fun _ => False) W0 w5) w5 g c x') := h5.wide (fun j e => by
          rcases e with (e | e) | e
          · exact e.elim
          · exact .inr ⟨e.1, by omega⟩
          · exact .inr ⟨by have := e.1; rw [ha5] at this; omega, e.2⟩) (fun j e => by
          rcases e with e | e
          · exact e.elim
          · exact e.2)
        clear h5 hk5 hz5 hzr ha5 z0 z1 z2 z3 z4 z5 z6 z7 z8 hbw
        go_wp2
        go_roundw
        case rel => exact ⟨k + 1, x', by omega, by go_num, HX'.out trivial, HG'.out, H5.out, hb5⟩
        case measure => simp [intOf]; omega
    · obtain rfl : k = n := by omega
      have HV : Hid (feedsE c Sp.ini l = some x) := by
        have h := hfe.out
        rw [List.take_of_length_le (by rw [HN.out]; exact Nat.le_refl _)] at h
        exact h
      have hz := HZ0.out
      clear hfe hk
      go_wp2
      go_ret2
      refine ⟨.inl ⟨x, g, HV.out, rfl, hsa.out.wide (fun j e => by
        rcases e with e | e
        · exact e.elim
        · exact .inr ⟨by omega, e.2⟩) (fun j e => by
        rcases e with e | e
        · exact e.elim
        · exact e.2), by rw [HN.out]; exact hgd.out⟩, HB0.out.trans (hbr.mono (by omega))⟩

theorem CfC_cnt (c : Cf) (sv : Value) (k : Nat) (hk : k < 4) : (CfC c sv)[6 + k * 2 + 1]? = some (.int .i64 (c.win k).2) := by
  match k, hk with
  | 0, _ => rfl
  | 1, _ => rfl
  | 2, _ => rfl
  | 3, _ => rfl
set_option maxRecDepth 100000 in
set_option maxHeartbeats 6400000 in
theorem msmall_any (c : Cf) (sn : Nat) : ∃ V : Bool, ∀ (w : World) (sa : Option Addr) (sc : Nat), Calls Tryz.prog 58 #[.agg (CfC c (.slice sa sn sc))] w (BoolPost w V) := by
  obtain ⟨b1, h1⟩ : ∃ b, decide ((sn : Int) ≤ 2) = b := ⟨_, rfl⟩
  obtain ⟨b2, h2⟩ : ∃ b, decide (wrap64 (c.la - c.fi) ≤ 3) = b := ⟨_, rfl⟩
  obtain ⟨b3, h3⟩ : ∃ b, decide (1 ≤ c.fi) = b := ⟨_, rfl⟩
  obtain ⟨b4, h4⟩ : ∃ b, decide (c.la ≤ 247) = b := ⟨_, rfl⟩
  obtain ⟨b5, h5⟩ : ∃ b, decide (c.re ≤ 2) = b := ⟨_, rfl⟩
  obtain ⟨w4, hw4⟩ : ∃ w4 : Bool, w4 = true ↔ ∀ k, k < 4 → (c.win k).2 ≤ 12 := by
    by_cases h : ∀ k, k < 4 → (c.win k).2 ≤ 12
    · exact ⟨true, fun _ => h, fun _ => rfl⟩
    · exact ⟨false, fun e => (by cases e), fun e => absurd e h⟩
  obtain ⟨V, hV⟩ : ∃ V : Bool, V = (w4 && (b1 && (b2 && (b3 && (b4 && b5))))) := ⟨_, rfl⟩
  refine ⟨V, fun w sa sc => ?_⟩
  obtain ⟨C, hC⟩ : ∃ C, CfC c (.slice sa sn sc) = C := ⟨_, rfl⟩
  rw [hC]
  obtain ⟨W0, hW0⟩ : ∃ W, w.alloc (.cells C 27) = W := ⟨_, rfl⟩
  have hb0 : Below w.heap.size w W0 := by rw [← hW0]; exact bal' w _
  have p0 : W0.heap[w.heap.size]? = some (.cells C 27) := by rw [← hW0]; exact hpNew w _
  have HV := hid hV
  have HW4 := hid hw4
  have HW0 := hid hW0
  have HB0 := hid hb0
  have HC := hid hC
  have P0 := hid p0
  have H1 := hid h1
  have H2 := hid h2
  have H3 := hid h3
  have H4 := hid h4
  have H5 := hid h5
  clear hV hw4 hW0 hb0 hC p0 h1 h2 h3 h4 h5
  go_enter Tryz.func58, Tryz.ntmps58
  go_upto_region 1 with (fail)
  rw [HW0.out]
  go_wp2
  go_loopw [3] (fun iv wr => ∃ k : Nat, k ≤ 4 ∧ iv = .int .i64 (k : Int) ∧ Hid (∀ j, j < k → (c.win j).2 ≤ 12) ∧ Below W0.heap.size W0 wr) (fun iv _ => 4 - (intOf iv).toNat)
  case atStart => exact ⟨0, Nat.zero_le _, rfl, fun j hj => absurd hj (Nat.not_lt_zero _), Below.refl _ _⟩
  case round =>
    obtain ⟨k, hk, rfl, hall, hbr⟩ := hrel
    have hbw : Below w.heap.size w wr := HB0.out.trans (hbr.mono HB0.out.size)
    by_cases hlt : k < 4
    · have hkl : (k : Int) < 4 := by omega
      have hki : (0 : Int) ≤ (k : Int) := Int.natCast_nonneg _
      have cw : wr.cell? ⟨w.heap.size, 6 + k * 2 + 1, none⟩ = some (.int .i64 (c.win k).2) := by rw [hpCell (hpKeep P0.out hbr), ← HC.out]; exact CfC_cnt c _ k hlt
      obtain ⟨x, hx⟩ : ∃ x, (c.win k).2 = x := ⟨_, rfl⟩
      rw [hx] at cw
      by_cases hg : 12 < x
      · have HVF : Hid (V = false) := by
          show _ = _
          have hwf : w4 = false := by
            cases e : w4
            · rfl
            · have := HW4.out.1 e k hlt
              omega
          rw [HV.out, hwf]
          rfl
        clear hx
        go_wp2
        go_ret
        exact ⟨by rw [HVF.out]; rfl, hbw⟩
      · have HA : Hid (∀ j, j < k + 1 → (c.win j).2 ≤ 12) := fun j hj => by
          by_cases e : j = k
          · subst e; omega
          · exact hall.out j (by omega)
        clear hx hall
        go_wp2
        go_roundw
        case rel => exact ⟨k + 1, by omega, by go_num, HA.out, hbr⟩
        case measure => simp [intOf]; omega
    · obtain rfl : k = 4 := by omega
      have HVT : Hid (V = (b1 && (b2 && (b3 && (b4 && b5))))) := by
        show _ = _
        rw [HV.out, HW4.out.2 hall.out]
        rfl
      have c0 : wr.cell? ⟨w.heap.size, 0, none⟩ = some (.slice sa sn sc) := by rw [hpCell (hpKeep P0.out hbr), ← HC.out]; rfl
      have c1 : wr.cell? ⟨w.heap.size, 1, none⟩ = some (.int .i64 c.fi) := by rw [hpCell (hpKeep P0.out hbr), ← HC.out]; rfl
      have c2 : wr.cell? ⟨w.heap.size, 2, none⟩ = some (.int .i64 c.la) := by rw [hpCell (hpKeep P0.out hbr), ← HC.out]; rfl
      have c3 : wr.cell? ⟨w.heap.size, 3, none⟩ = some (.int .i64 c.re) := by rw [hpCell (hpKeep P0.out hbr), ← HC.out]; rfl
      clear hall hk
      cases b1 with
      | false =>
        have g1 := H1.out
        go_wp2
        go_ret
        exact ⟨by rw [HVT.out]; rfl, hbw⟩
      | true =>
      cases b2 with
      | false =>
        have g1 := H1.out
        have g2 := H2.out
        go_wp2
        go_ret
        exact ⟨by rw [HVT.out]; rfl, hbw⟩
      | true =>
      cases b3 with
      | false =>
        have g1 := H1.out
        have g2 := H2.out
        have g3 := H3.out
        go_wp2
        go_ret
        exact ⟨by rw [HVT.out]; rfl, hbw⟩
      | true =>
      cases b4 with
      | false =>
        have g1 := H1.out
        have g2 := H2.out
        have g3 := H3.out
        have g4 := H4.out
        go_wp2
        go_ret
        exact ⟨by rw [HVT.out]; rfl, hbw⟩
      | true =>
        have g1 := H1.out
        have g2 := H2.out
        have g3 := H3.out
        have g4 := H4.out
        have HV5 : Hid (V = b5) := by show _ = _; rw [HVT.out]; rfl
        have g5 := H5.out
        clear HVT HV H1 H2 H3 H4 H5 HW4
        go_wp2
        go_ret
        refine ⟨?_, hbw⟩
        rw [HV5.out, ← g5]
        rfl

set_option maxRecDepth 100000 in
set_option maxHeartbeats 6400000 in
theorem mvalid_any (c : Cf) : ∃ V : Bool, (V = true → chkE c = 0) ∧ ∀ (w : World) (sv : Value), Rgs w sv c.sets → Calls Tryz.prog 20 #[.agg (CfC c sv)] w (BoolPost w V) := by
  obtain ⟨b, hb⟩ := msmall_any c c.sets.length
  obtain ⟨E, hE⟩ : ∃ E, chkE c = E := ⟨_, rfl⟩
  obtain ⟨b2, hb2⟩ : ∃ b, (E == 0) = b := ⟨_, rfl⟩
  refine ⟨b && b2, fun h => ?_, fun w sv hs => ?_⟩
  · rw [Bool.and_eq_true] at h
    rw [← hb2, beq_iff_eq] at h
    rw [hE]
    exact h.2
  obtain ⟨sa, sc, rfl⟩ := hs.slc
  obtain ⟨sv, hsv⟩ : ∃ v, Value.slice sa c.sets.length sc = v := ⟨_, rfl⟩
  obtain ⟨C, hC⟩ : ∃ C, CfC c sv = C := ⟨_, rfl⟩
  have hi : (Tryz.prog.info? 27).map (·.size) = some C.size := by rw [← hC]; exact infoCf
  obtain ⟨W0, hW0⟩ : ∃ W, w.alloc (.cells C 27) = W := ⟨_, rfl⟩
  have hb0 : Below w.heap.size w W0 := by rw [← hW0]; exact bal' w _
  have p0 : W0.heap[w.heap.size]? = some (.cells C 27) := by rw [← hW0]; exact hpNew w _
  have y0 : ∀ X, Below W0.heap.size W0 X → X.cell? ⟨w.heap.size, 0, none⟩ = some (sv) := fun X hX => by rw [hpCell (hpKeep p0 hX), ← hC]; rfl
  have y1 : ∀ X, Below W0.heap.size W0 X → X.cell? ⟨w.heap.size, 1, none⟩ = some (.int .i64 c.fi) := fun X hX => by rw [hpCell (hpKeep p0 hX), ← hC]; rfl
  have y2 : ∀ X, Below W0.heap.size W0 X → X.cell? ⟨w.heap.size, 2, none⟩ = some (.int .i64 c.la) := fun X hX => by rw [hpCell (hpKeep p0 hX), ← hC]; rfl
  have y3 : ∀ X, Below W0.heap.size W0 X → X.cell? ⟨w.heap.size, 3, none⟩ = some (.int .i64 c.re) := fun X hX => by rw [hpCell (hpKeep p0 hX), ← hC]; rfl
  have y4 : ∀ X, Below W0.heap.size W0 X → X.cell? ⟨w.heap.size, 4, none⟩ = some (.int .i64 c.ti) := fun X hX => by rw [hpCell (hpKeep p0 hX), ← hC]; rfl
  have y5 : ∀ X, Below W0.heap.size W0 X → X.cell? ⟨w.heap.size, 5, none⟩ = some (.int .i64 c.de) := fun X hX => by rw [hpCell (hpKeep p0 hX), ← hC]; rfl
  have y6 : ∀ X, Below W0.heap.size W0 X → X.cell? ⟨w.heap.size, 6, none⟩ = some (.int .i64 (c.win 0).1) := fun X hX => by rw [hpCell (hpKeep p0 hX), ← hC]; rfl
  have y7 : ∀ X, Below W0.heap.size W0 X → X.cell? ⟨w.heap.size, 7, none⟩ = some (.int .i64 (c.win 0).2) := fun X hX => by rw [hpCell (hpKeep p0 hX), ← hC]; rfl
  have y8 : ∀ X, Below W0.heap.size W0 X → X.cell? ⟨w.heap.size, 8, none⟩ = some (.int .i64 (c.win 1).1) := fun X hX => by rw [hpCell (hpKeep p0 hX), ← hC]; rfl
  have y9 : ∀ X, Below W0.heap.size W0 X → X.cell? ⟨w.heap.size, 9, none⟩ = some (.int .i64 (c.win 1).2) := fun X hX => by rw [hpCell (hpKeep p0 hX), ← hC]; rfl
  have y10 : ∀ X, Below W0.heap.size W0 X → X.cell? ⟨w.heap.size, 10, none⟩ = some (.int .i64 (c.win 2).1) := fun X hX => by rw [hpCell (hpKeep p0 hX), ← hC]; rfl
  have y11 : ∀ X, Below W0.heap.size W0 X → X.cell? ⟨w.heap.size, 11, none⟩ = some (.int .i64 (c.win 2).2) := fun X hX => by rw [hpCell (hpKeep p0 hX), ← hC]; rfl
  have y12 : ∀ X, Below W0.heap.size W0 X → X.cell? ⟨w.heap.size, 12, none⟩ = some (.int .i64 (c.win 3).1) := fun X hX => by rw [hpCell (hpKeep p0 hX), ← hC]; rfl
  have y13 : ∀ X, Below W0.heap.size W0 X → X.cell? ⟨w.heap.size, 13, none⟩ = some (.int .i64 (c.win 3).2) := fun X hX => by rw [hpCell (hpKeep p0 hX), ← hC]; rfl
  have y14 : ∀ X, Below W0.heap.size W0 X → X.cell? ⟨w.heap.size, 14, none⟩ = some (.int .i64 c.ev) := fun X hX => by rw [hpCell (hpKeep p0 hX), ← hC]; rfl
  have y15 : ∀ X, Below W0.heap.size W0 X → X.cell? ⟨w.heap.size, 15, none⟩ = some (.int .i64 c.st) := fun X hX => by rw [hpCell (hpKeep p0 hX), ← hC]; rfl
  have HSM : Hid (∀ X, Calls Tryz.prog 58 #[.agg C] X (BoolPost X b)) := fun X => by rw [← hC, ← hsv]; exact hb X sa sc
  have HCK : Hid (∀ X, Below W0.heap.size W0 X → Calls Tryz.prog 10 #[.agg #[sv, .int .i64 c.fi, .int .i64 c.la, .int .i64 c.re, .int .i64 c.ti, .int .i64 c.de, .int .i64 (c.win 0).1, .int .i64 (c.win 0).2, .int .i64 (c.win 1).1, .int .i64 (c.win 1).2, .int .i64 (c.win 2).1, .int .i64 (c.win 2).2, .int .i64 (c.win 3).1, .int .i64 (c.win 3).2, .int .i64 c.ev, .int .i64 c.st]] X (IntPost X E)) := fun X hX => rcheck_any c sv X ((hsv ▸ hs).keep (bt hb0 hX (Nat.le_refl _))) E hE
  rw [hsv, hC]
  have HW0 := hid hW0
  have HB0 := hid hb0
  have HB2 := hid hb2
  clear hW0 hb0 hC hb hE hs hb2 hsv
  have r0 : Below W0.heap.size W0 W0 := Below.refl _ _
  go_enter Tryz.func20, Tryz.ntmps20
  go_upto_region 1 with (fail)
  rw [HW0.out]
  cases b with
  | false =>
    go_wp2_with (first
      | (refine wpList_load_row rfl 27 (.tmp 1) rfl w.heap.size rfl 27 C (0, 0) _ p0 Tryz.underlying27 rfl hi ?_)
      | (go_at_call 58; (with_reducible refine (HSM.out _).mono ?_); rintro r w1 ⟨rfl, hb1⟩))
    go_ret
    exact ⟨rfl, bt HB0.out hb1 (Nat.le_refl _)⟩
  | true =>
    go_wp2_with (first
      | (refine wpList_load_row rfl 27 (.tmp 1) rfl w.heap.size rfl 27 C (0, 0) _ p0 Tryz.underlying27 rfl hi ?_)
      | (go_at_call 58; (with_reducible refine (HSM.out _).mono ?_); rintro r w1 ⟨rfl, hb1⟩)
      | (go_at_call 10; (with_reducible refine (HCK.out _ hb1).mono ?_); rintro r w2 ⟨rfl, hb2⟩))
    go_ret
    exact ⟨by rw [HB2.out]; rfl, bt (bt HB0.out hb1 (Nat.le_refl _)) hb2 (Nat.le_refl _)⟩

end Go.Proofs.YtipnamoocemeeaaGreat
