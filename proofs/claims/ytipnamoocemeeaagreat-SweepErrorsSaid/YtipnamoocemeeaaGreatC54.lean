/-
  Texts 54 of the claim.
-/
import Derived.Test.YtipnamoocemeeaaGreatC44
import Derived.Test.YtipnamoocemeeaaGreatC52
import Derived.Test.YtipnamoocemeeaaGreatC53
/-
  The walk of the law SweepErrors.
-/
namespace Go.Proofs.YtipnamoocemeeaaGreat
open Go.RowKit

theorem info9 : (Tryz.prog.info? 55).map (·.size) = some 9 := by kernel_rfl
/-- The first outcome of the row. -/
def SilAt (b : Nat) (V : World) : Prop := ∀ j u, (#[.int .i64 3, .int .i64 0, .int .i64 0, .slice none 0 0, .int .i64 0, .int .i64 0, .bool false, .int .i64 0, .slice none 0 0] : Array Value).toList[j]? = some u → V.cell? ((⟨b, 0, none⟩ : Addr).add j) = some u
theorem SilAt.keep {b : Nat} {V W : World} (h : SilAt b V) (hb : Below V.heap.size V W) : SilAt b W := fun j u hj => cell_keep hb (h j u hj)
theorem Addr.add_block (b j : Nat) : ((⟨b, 0, none⟩ : Addr).add j).block = b := by unfold Addr.add; split <;> simp_all
/-- What the methods of a sweep that is there answer, once the head of the law is passed. -/
structure SeCtx (C : Array Value) (c : Cf) (O : Oc) (da : Option Addr) (dc : Nat) (oa : Option Addr) (oc : Nat) (cb ob : Nat) (W1 : World) : Prop where
  chk : chkE c = 0
  fit : O.fit
  pc : W1.heap[cb]? = some (.cells C 27)
  po : W1.heap[ob]? = some (.cells #[.int .i64 O.verdict, .int .i64 O.reply.fn, .int .i64 O.reply.exc, .slice da O.reply.data.length dc, .int .i64 O.reply.code, .int .i64 O.reply.level, .bool O.reply.more, .int .i64 O.reply.next, .slice oa O.reply.objs.length oc] 55)
  rp : ∀ X, Below W1.heap.size W1 X → RpIs X O.reply da dc oa oc
  un : ∀ X, Below W1.heap.size W1 X → Calls Tryz.prog 31 #[.agg C] X (IntPost X (c.units : Int))
  ry : ∀ X (l : List Oc) (lv : Value), Below W1.heap.size W1 X → Ocs X lv l → (∀ O ∈ l, O.fit) → l.length ≤ 100000 → Calls Tryz.prog 25 #[.agg C, lv] X (RyPost X c l)
  nw : ∀ X, Below W1.heap.size W1 X → Calls Tryz.prog 9 #[.agg C] X fun r w' => ∃ g : Nat, r = .returned (.tuple #[.pointer (some ⟨g, 0, none⟩), .int .i64 0]) ∧ SwAt (Grw (fun _ => False) X w') w' g c Sp.ini ∧ Below X.heap.size X w'

set_option maxRecDepth 100000 in
set_option maxHeartbeats 12800000 in
theorem Walk.sweepErrors {w : World} (cs : Array Value) (hr : Rd Tryz.prog w 27 cs.toList) (os : Array Value) (hro : Rd Tryz.prog w 55 os.toList) (dv : Value) (hrd : Rd Tryz.prog w 67 [dv]) :
    Calls Tryz.prog 5 #[.agg cs, .agg os, dv] w fun r w' => r = .returned (.bool true) ∧ Below w.heap.size w w' := by
  obtain ⟨c, sv, rfl, hst, -⟩ := cf_rd hr
  obtain ⟨sa, sc, rfl⟩ := hst.slc
  obtain ⟨O, ⟨da, dc, oa, oc, hos, hxd, hxo, hl1, hl2⟩, hnx⟩ := ocRx_rd hro
  obtain rfl : os = #[.int .i64 O.verdict, .int .i64 O.reply.fn, .int .i64 O.reply.exc, .slice da O.reply.data.length dc, .int .i64 O.reply.code, .int .i64 O.reply.level, .bool O.reply.more, .int .i64 O.reply.next, .slice oa O.reply.objs.length oc] := by cases os; simp_all
  obtain ⟨db, hdb⟩ := db_rd hrd
  obtain ⟨C, hC⟩ : ∃ C, CfC c (.slice sa c.sets.length sc) = C := ⟨_, rfl⟩
  have hi : (Tryz.prog.info? 27).map (·.size) = some C.size := by rw [← hC]; exact infoCf
  obtain ⟨W1, hW1⟩ : ∃ W, (w.alloc (.cells C 27)).alloc (.cells #[.int .i64 O.verdict, .int .i64 O.reply.fn, .int .i64 O.reply.exc, .slice da O.reply.data.length dc, .int .i64 O.reply.code, .int .i64 O.reply.level, .bool O.reply.more, .int .i64 O.reply.next, .slice oa O.reply.objs.length oc] 55) = W := ⟨_, rfl⟩
  have hb1 : Below w.heap.size w W1 := by rw [← hW1]; exact bta (bal' w _) (Nat.le_refl _) _
  have pC : W1.heap[w.heap.size]? = some (.cells C 27) := by rw [← hW1]; exact hpKeep (hpNew w _) (bal' _ _)
  have pO : W1.heap[w.heap.size + 1]? = some (.cells #[.int .i64 O.verdict, .int .i64 O.reply.fn, .int .i64 O.reply.exc, .slice da O.reply.data.length dc, .int .i64 O.reply.code, .int .i64 O.reply.level, .bool O.reply.more, .int .i64 O.reply.next, .slice oa O.reply.objs.length oc] 55) := by rw [← hW1]; have h := hpNew (w.alloc (.cells C 27)) (.cells #[.int .i64 O.verdict, .int .i64 O.reply.fn, .int .i64 O.reply.exc, .slice da O.reply.data.length dc, .int .i64 O.reply.code, .int .i64 O.reply.level, .bool O.reply.more, .int .i64 O.reply.next, .slice oa O.reply.objs.length oc] 55); rw [World.size_alloc] at h; exact h
  have hrp : ∀ X, Below W1.heap.size W1 X → RpIs X O.reply da dc oa oc := fun X hX => ⟨hxd.keep (bt hb1 hX (Nat.le_refl _)), hxo.keep (bt hb1 hX (Nat.le_refl _)), hl1, hl2⟩
  have z0 : ∀ X, Below W1.heap.size W1 X → X.cell? ⟨w.heap.size + 1, 0, none⟩ = some (.int .i64 O.verdict) := fun X h => hpCell (hpKeep pO h) 0
  have z1 : ∀ X, Below W1.heap.size W1 X → X.cell? ⟨w.heap.size + 1, 1, none⟩ = some (.int .i64 O.reply.fn) := fun X h => hpCell (hpKeep pO h) 1
  have z2 : ∀ X, Below W1.heap.size W1 X → X.cell? ⟨w.heap.size + 1, 2, none⟩ = some (.int .i64 O.reply.exc) := fun X h => hpCell (hpKeep pO h) 2
  have z3 : ∀ X, Below W1.heap.size W1 X → X.cell? ⟨w.heap.size + 1, 3, none⟩ = some (.slice da O.reply.data.length dc) := fun X h => hpCell (hpKeep pO h) 3
  have z4 : ∀ X, Below W1.heap.size W1 X → X.cell? ⟨w.heap.size + 1, 4, none⟩ = some (.int .i64 O.reply.code) := fun X h => hpCell (hpKeep pO h) 4
  have z5 : ∀ X, Below W1.heap.size W1 X → X.cell? ⟨w.heap.size + 1, 5, none⟩ = some (.int .i64 O.reply.level) := fun X h => hpCell (hpKeep pO h) 5
  have z6 : ∀ X, Below W1.heap.size W1 X → X.cell? ⟨w.heap.size + 1, 6, none⟩ = some (.bool O.reply.more) := fun X h => hpCell (hpKeep pO h) 6
  have z7 : ∀ X, Below W1.heap.size W1 X → X.cell? ⟨w.heap.size + 1, 7, none⟩ = some (.int .i64 O.reply.next) := fun X h => hpCell (hpKeep pO h) 7
  have z8 : ∀ X, Below W1.heap.size W1 X → X.cell? ⟨w.heap.size + 1, 8, none⟩ = some (.slice oa O.reply.objs.length oc) := fun X h => hpCell (hpKeep pO h) 8
  have HAW : Hid (∀ X, Calls Tryz.prog 8 #[] X (BoolPost X true)) := fun X => awake33_any X
  obtain ⟨V1, hV1, hVL⟩ := mvalid_any c
  obtain ⟨V2, hV2⟩ : ∃ V, O.reply.small = V := ⟨_, rfl⟩
  obtain ⟨V3, hV3, hPR⟩ := mprofs_any db
  obtain ⟨VD, hVD, hPV⟩ := pvalid_any db
  obtain ⟨VE, hVE, hRV⟩ := rdbvalid_any db
  obtain rfl : VD = VE := by
    cases VD <;> cases VE
    · rfl
    · exact absurd (hVD.2 (hVE.1 rfl)) Bool.noConfusion
    · exact absurd (hVE.2 (hVD.1 rfl)) Bool.noConfusion
    · rfl
  have HVL : Hid (Calls Tryz.prog 20 #[.agg C] W1 (BoolPost W1 V1)) := by rw [← hC]; exact hVL W1 _ (hst.keep hb1)
  have HRE : Hid (∀ X, Below W1.heap.size W1 X → Calls Tryz.prog 27 #[.agg #[.int .i64 O.reply.fn, .int .i64 O.reply.exc, .slice da O.reply.data.length dc, .int .i64 O.reply.code, .int .i64 O.reply.level, .bool O.reply.more, .int .i64 O.reply.next, .slice oa O.reply.objs.length oc]] X (BoolPost X V2)) := fun X hX => mreply_any _ _ _ _ _ _ _ _ O.reply.data O.reply.objs X (hrp X hX).d (hrp X hX).o V2 hV2
  have HPR : Hid (∀ X, Below W1.heap.size W1 X → Calls Tryz.prog 28 #[dv] X (SamePost X V3)) := fun X hX => hPR X dv (hdb.keep (bt hb1 hX (Nat.le_refl _)))
  have HPV : Hid (∀ X, Below W1.heap.size W1 X → Calls Tryz.prog 65 #[dv] X (BoolPost X VD)) := fun X hX => hPV X dv (hdb.keep (bt hb1 hX (Nat.le_refl _)))
  have HRV : Hid (∀ X, Below W1.heap.size W1 X → Calls Tryz.prog 30 #[dv] X (BoolPost X VD)) := fun X hX => hRV X dv (hdb.keep (bt hb1 hX (Nat.le_refl _)))
  have HFT : Hid (V2 = true → O.fit) := fun h => small_fit (l := [O]) (n := 1) (i := 0) (by rw [h] at hV2; simp [smallOcs, hV2]) (fun i x hx => by
    have hm := List.mem_of_getElem? hx
    rw [List.mem_singleton] at hm
    rw [hm]
    exact hnx) rfl
  have HCX : Hid (V1 = true → V2 = true → SeCtx C c O da dc oa oc w.heap.size (w.heap.size + 1) W1) := fun h1 h2 => ⟨hV1 h1, HFT.out h2, pC, pO, hrp,
    fun X hX => by rw [← hC]; exact runits_ok c (hV1 h1) _ X (hst.keep (bt hb1 hX (Nat.le_refl _))),
    fun X l lv hX hl hf hn => by rw [← hC]; exact swreplay_any c (hV1 h1) _ lv l X (hst.keep (bt hb1 hX (Nat.le_refl _))) hl hf hn,
    fun X hX => by
      rw [← hC]
      refine (swnew_any c _ X (hst.keep (bt hb1 hX (Nat.le_refl _))) (by have := (Cf.ok_of (hV1 h1)).s6; omega) 0 (hV1 h1)).mono fun r w' h => ?_
      obtain ⟨h1 | ⟨-, g, h1, h2⟩, h3⟩ := h
      · exact absurd rfl h1.1
      · exact ⟨g, h1, h2, h3⟩⟩
  have HW1 := hid hW1
  have HB1 := hid hb1
  have P1 := hid pC
  have r1 : Below W1.heap.size W1 W1 := Below.refl _ _
  rw [hC]
  clear hr hro hrd hst hos hxd hxo hl1 hl2 hnx hdb hC hW1 hb1 pC pO hrp hV1 hVL hV2 hV3 hPR hVD hPV hVE hRV HFT
  cases V1 with
  | false =>
    go_enter Tryz.func5, Tryz.ntmps5
    go_upto_region 1 with (fail)
    rw [HW1.out]
    go_wp2_with (first
      | (refine wpList_load_row rfl 27 (.tmp 3) rfl w.heap.size rfl 27 C (0, 0) _ P1.out Tryz.underlying27 rfl hi ?_)
      | (go_at_call 20; (with_reducible refine HVL.out.mono ?_); rintro r w2 ⟨rfl, hb2⟩)
      | (go_at_call 8; (with_reducible refine (HAW.out _).mono ?_); rintro r w3 ⟨rfl, hb3⟩))
    go_ret
    exact ⟨rfl, bt (bt HB1.out hb2 (Nat.le_refl _)) hb3 (Nat.le_refl _)⟩
  | true =>
  cases V2 with
  | false =>
    go_enter Tryz.func5, Tryz.ntmps5
    go_upto_region 1 with (fail)
    rw [HW1.out]
    go_wp2_with (first
      | (refine wpList_load_row rfl 27 (.tmp 3) rfl w.heap.size rfl 27 C (0, 0) _ P1.out Tryz.underlying27 rfl hi ?_)
      | (go_at_call 20; (with_reducible refine HVL.out.mono ?_); rintro r w2 ⟨rfl, hb2⟩)
      | (go_at_call 27; (with_reducible refine (HRE.out _ hb2).mono ?_); rintro r w4 ⟨rfl, hb4⟩)
      | (go_at_call 8; (with_reducible refine (HAW.out _).mono ?_); rintro r w3 ⟨rfl, hb3⟩))
    go_ret
    exact ⟨rfl, bt (bt (bt HB1.out hb2 (Nat.le_refl _)) hb4 (Nat.le_refl _)) hb3 (Nat.le_refl _)⟩
  | true =>
  cases V3 with
  | false =>
    go_enter Tryz.func5, Tryz.ntmps5
    go_upto_region 1 with (fail)
    rw [HW1.out]
    go_wp2_with (first
      | (refine wpList_load_row rfl 27 (.tmp 3) rfl w.heap.size rfl 27 C (0, 0) _ P1.out Tryz.underlying27 rfl hi ?_)
      | (go_at_call 20; (with_reducible refine HVL.out.mono ?_); rintro r w2 ⟨rfl, hb2⟩)
      | (go_at_call 27; (with_reducible refine (HRE.out _ hb2).mono ?_); rintro r w4 ⟨rfl, hb4⟩; have hb24 := bt hb2 hb4 (Nat.le_refl _))
      | (go_at_call 28; (with_reducible refine (HPR.out _ hb24).mono ?_); rintro r w5 ⟨rfl, rfl⟩)
      | (go_at_call 8; (with_reducible refine (HAW.out _).mono ?_); rintro r w3 ⟨rfl, hb3⟩))
    go_ret
    exact ⟨rfl, bt (bt HB1.out hb24 (Nat.le_refl _)) hb3 (Nat.le_refl _)⟩
  | true =>
    have HX := hid (HCX.out rfl rfl)
    obtain ⟨U, hU⟩ : ∃ n, c.units = n := ⟨_, rfl⟩
    have HU := hid hU
    have HUB : Hid (1 ≤ U ∧ U ≤ 99999) := by
      have h := (Cf.ok_of HX.out.chk).units_bd
      show _ ∧ _
      omega
    obtain ⟨E, hE⟩ : ∃ E : Int, (if VD = true then 14 else 5) = E := ⟨_, rfl⟩
    have HE := hid hE
    clear HCX hU hE
    go_enter Tryz.func5, Tryz.ntmps5
    go_upto_region 1 with (fail)
    rw [HW1.out]
    go_upto_region 3 with (first
      | (refine wpList_load_row rfl 27 (.tmp 3) rfl w.heap.size rfl 27 C (0, 0) _ P1.out Tryz.underlying27 rfl hi ?_)
      | (go_at_call 20; (with_reducible refine HVL.out.mono ?_); rintro r w2 ⟨rfl, hb2⟩)
      | (go_at_call 27; (with_reducible refine (HRE.out _ hb2).mono ?_); rintro r w3 ⟨rfl, hb3⟩; have hb23 := bt hb2 hb3 (Nat.le_refl _))
      | (go_at_call 28; (with_reducible refine (HPR.out _ hb23).mono ?_); rintro r w4 ⟨rfl, rfl⟩))
    have HB3 := hid hb23
    clear hb2 hb3 hb23 HVL HRE HPR HW1 P1 r1
    have HXN : Hid (∀ X, Calls Tryz.prog 12 #[.pointer none] X fun r w' => r = .returned (.tuple #[.int .i64 0, .int .i64 0, .agg #[.int .i64 0, .int .i64 0, .int .i64 0, .int .i64 0, .int .i64 0], .bool false]) ∧ Below X.heap.size X w') := fun X => swnext_none X
    have HRN : Hid (∀ X, Calls Tryz.prog 29 #[.pointer none, dv] X (NoRep X 13)) := fun X => swreport_none dv X
    have HFN : Hid (∀ X, Calls Tryz.prog 18 #[.pointer none, .agg #[.int .i64 O.verdict, .int .i64 O.reply.fn, .int .i64 O.reply.exc, .slice da O.reply.data.length dc, .int .i64 O.reply.code, .int .i64 O.reply.level, .bool O.reply.more, .int .i64 O.reply.next, .slice oa O.reply.objs.length oc]] X (IntPost X 13)) := fun X => swfeed_none _ X
    have HPN : Hid (∀ X, Calls Tryz.prog 14 #[.pointer none] X (IntPost X 0)) := fun X => swplace_none X
    have HQN : Hid (∀ X, Calls Tryz.prog 15 #[.pointer none] X (IntPost X 0)) := fun X => swqueries_none X
    have HDN : Hid (∀ X, Calls Tryz.prog 17 #[.pointer none] X fun r w' => r = .returned (.slice none 0 0) ∧ Below X.heap.size X w') := fun X => swdevs_none X
    go_upto_region 6 with (first
      | (go_at_call 12; (with_reducible refine (HXN.out _).mono ?_); rintro r w4 ⟨rfl, hb4⟩; have hb4a := bta hb4 (Nat.le_refl _) (.cells #[.int .i64 0, .int .i64 0, .int .i64 0, .int .i64 0, .int .i64 0] 39))
      | (go_at_call 29; (with_reducible refine (HRN.out _).mono ?_); rintro r w5 ⟨rfl, hb5⟩)
      | (refine wpList_storeW rfl 71 (.tmp 12) (.tmp 51) rfl w5.heap.size 0 _ 71 #[.slice none 0 0, .int .i64 0, .int .i64 0, .int .i64 0, .int .i64 0, .int .i64 0, .int .i64 0, .int .i64 0, .int .i64 0, .int .i64 0, .int .i64 0, .slice none 0 0] rfl rfl (hpNew w5 (.cells #[.slice none 0 0, .int .i64 0, .int .i64 0, .int .i64 0, .int .i64 0, .int .i64 0, .int .i64 0, .int .i64 0, .int .i64 0, .int .i64 0, .int .i64 0, .slice none 0 0] 71)) (by simp) infoRp rfl ?_; intro w6 g6 hk6 hz6))
    have hB5 : Below W1.heap.size W1 w5 := bt (bt HB3.out hb4a (Nat.le_refl _)) hb5 (Nat.le_refl _)
    have hB6 : Below W1.heap.size W1 w6 := (bta hB5 (Nat.le_refl _) (.cells #[.slice none 0 0, .int .i64 0, .int .i64 0, .int .i64 0, .int .i64 0, .int .i64 0, .int .i64 0, .int .i64 0, .int .i64 0, .int .i64 0, .int .i64 0, .slice none 0 0] 71)).trans (hk6.below (by have := hB5.size; simp; omega) (fun j hj e => by have := hB5.size; omega))
    clear hb4 hb4a hb5 hB5 g6 hk6 hz6 HXN HRN HB3
    go_upto_region 8 with (first
      | (go_at_call 18; (with_reducible refine (HFN.out _).mono ?_); rintro r w7 ⟨rfl, hb7⟩)
      | (go_at_call 14; (with_reducible refine (HPN.out _).mono ?_); rintro r w8 ⟨rfl, hb8⟩)
      | (go_at_call 15; (with_reducible refine (HQN.out _).mono ?_); rintro r w9 ⟨rfl, hb9⟩)
      | (go_at_call 17; (with_reducible refine (HDN.out _).mono ?_); rintro r w10 ⟨rfl, hb10⟩))
    have hB10 : Below W1.heap.size W1 w10 := bt (bt (bt (bt hB6 hb7 (Nat.le_refl _)) hb8 (Nat.le_refl _)) hb9 (Nat.le_refl _)) hb10 (Nat.le_refl _)
    have P10 := hid (hpKeep HX.out.pc hB10)
    have HNA := hid (HX.out.nw w10 hB10)
    have HB10 := hid hB10
    clear hB6 hb7 hb8 hb9 hb10 hB10 HFN HPN HQN HDN
    go_upto_region 11 with (first
      | (refine wpList_load_row rfl 27 (.tmp 3) rfl w.heap.size rfl 27 C (0, 0) _ P10.out Tryz.underlying27 rfl hi ?_)
      | (go_at_call 9; (with_reducible refine HNA.out.mono ?_); rintro r w11 ⟨g, rfl, hsa, hb11⟩))
    have hB11 : Below W1.heap.size W1 w11 := bt HB10.out hb11 (Nat.le_refl _)
    have HP : Hid (Calls Tryz.prog 29 #[.pointer (some ⟨g, 0, none⟩), dv] w11 (NoRep w11 E)) := swreport_pend hsa (by rw [HU.out]; exact HUB.out.1) dv VD (fun X hX => HPV.out X (bt hB11 hX (Nat.le_refl _))) E HE.out.symm
    have hse0 : SeRel W1 (Grw (fun _ => False) w10 w11) w11 g c 0 0 (.slice none 0 0) := ⟨hsa, fun j hj => by
      rcases hj with hj | hj
      · exact hj.elim
      · have := HB10.out.size; omega, World.ownsRow_nil _ _ _ _, fun j hj => (by cases hj), hB11⟩
    have HS0 := hid hse0
    clear hsa hb11 hB11 hse0 HNA P10
    go_upto_region 12 with (first
      | (go_at_call 29; (with_reducible refine HP.out.mono ?_); rintro r w12 ⟨rfl, hb12⟩)
      | (refine wpList_storeW rfl 71 (.tmp 16) (.tmp 95) rfl w12.heap.size 0 _ 71 #[.slice none 0 0, .int .i64 0, .int .i64 0, .int .i64 0, .int .i64 0, .int .i64 0, .int .i64 0, .int .i64 0, .int .i64 0, .int .i64 0, .int .i64 0, .slice none 0 0] rfl rfl (hpNew w12 (.cells #[.slice none 0 0, .int .i64 0, .int .i64 0, .int .i64 0, .int .i64 0, .int .i64 0, .int .i64 0, .int .i64 0, .int .i64 0, .int .i64 0, .int .i64 0, .slice none 0 0] 71)) (by simp) infoRp rfl ?_; intro w13 g13 hk13 hz13))
    have hB13 : Below w11.heap.size w11 w13 := (bta hb12 (Nat.le_refl _) (.cells #[.slice none 0 0, .int .i64 0, .int .i64 0, .int .i64 0, .int .i64 0, .int .i64 0, .int .i64 0, .int .i64 0, .int .i64 0, .int .i64 0, .int .i64 0, .slice none 0 0] 71)).trans (hk13.below (by have := hb12.size; simp; omega) (fun j hj e => by have := hb12.size; omega))
    have HS13 := hid (HS0.out.keep hB13)
    clear hb12 g13 hk13 hz13 hB13 HS0 HP
    go_upto_region 13 with (fail)
    have HRV2 := hid (HRV.out w13 HS13.out.bel)
    go_cut [99] from 97 to 99 (fun s99 wc => s99 = .bool (!VD) ∧ Below w13.heap.size w13 wc)
    case first =>
      go_wp2_with (go_at_call 30; (with_reducible refine HRV2.out.mono ?_); rintro r w14 ⟨rfl, hb14⟩)
      go_meet
      case rel => exact ⟨rfl, hb14⟩
    case rest =>
    obtain ⟨rfl, hbc⟩ := hcut
    have HSC := hid (HS13.out.keep hbc)
    obtain ⟨W14, hW14⟩ : ∃ W, W = wc := ⟨_, rfl⟩
    subst hW14
    go_upto_if 99 with (fail)
    go_cut [18] from 18 to 18 (fun s18 wc => s18 = .int .i64 E ∧ wc = W14)
    case first =>
      cases VD with
      | true =>
        have e : E = 14 := by rw [← HE.out]; rfl
        subst e
        go_wp2
        go_meet
        case rel => exact ⟨rfl, rfl⟩
      | false =>
        have e : E = 5 := by rw [← HE.out]; rfl
        subst e
        go_wp2
        go_meet
        case rel => exact ⟨rfl, rfl⟩
    case rest =>
    obtain ⟨rfl, rfl⟩ := hcut
    clear hbc HS13 HRV2 HRV HPV HE
    obtain ⟨iO, hiO, hzO0, hzO1, hzO2⟩ := info_parts infoOc
    go_wp2_with fail
    go_loopw [19, 20] (fun dv iv wr => ∃ (k : Nat) (P : Nat → Prop) (a : Option Addr) (cc : Nat), iv = .int .i64 (k : Int) ∧ dv = .slice a k cc ∧ k ≤ U ∧ Hid (SeRel W1 P wr g c k k (.slice a k cc))) (fun _ iv _ => U - (intOf iv).toNat)
    case atStart => exact ⟨0, _, none, 0, rfl, rfl, Nat.zero_le _, HSC.out⟩
    case round =>
      clear HSC
      obtain ⟨k, P, a, cc, rfl, rfl, hk, hr⟩ := hrel
      have hki : (0 : Int) ≤ (k : Int) := Int.natCast_nonneg _
      have PR := hid (hpKeep HX.out.pc hr.out.bel)
      have HUN : Hid (Calls Tryz.prog 31 #[.agg C] wr (IntPost wr (U : Int))) := by rw [← HU.out]; exact HX.out.un wr hr.out.bel
      have hu5 := HUB.out.2
      by_cases hlt : k < U
      · have hkl : (k : Int) < (U : Int) := by omega
        go_upto_region 19 with (first
          | (refine wpList_load_row rfl 27 (.tmp 3) rfl w.heap.size rfl 27 C (0, 0) _ PR.out Tryz.underlying27 rfl hi ?_)
          | (go_at_call 31; (with_reducible refine HUN.out.mono ?_); rintro r w14 ⟨rfl, hb14⟩))
        have hr14 := hr.out.keep hb14
        have hown14 : (w14.alloc (.cells #[.int .i64 3, .int .i64 0, .int .i64 0, .slice none 0 0, .int .i64 0, .int .i64 0, .bool false, .int .i64 0, .slice none 0 0] 55)).ownsRow W1.heap.size 55 9 (.slice a k cc) k (silC k) := own_keeps (F := fun _ => False) hr14.own (Keeps.of_below (bal' _ _)) (fun _ _ e => e)
        have hcl14 : ∀ j u, (#[.int .i64 3, .int .i64 0, .int .i64 0, .slice none 0 0, .int .i64 0, .int .i64 0, .bool false, .int .i64 0, .slice none 0 0] : Array Value).toList[j]? = some u → (w14.alloc (.cells #[.int .i64 3, .int .i64 0, .int .i64 0, .slice none 0 0, .int .i64 0, .int .i64 0, .bool false, .int .i64 0, .slice none 0 0] 55)).cell? ((⟨w14.heap.size, 0, none⟩ : Addr).add j) = some u := fun j u hj => hpRowAt2 (hpNew w14 _) j u hj
        have hz14 : W1.heap.size ≤ (w14.alloc (.cells #[.int .i64 3, .int .i64 0, .int .i64 0, .slice none 0 0, .int .i64 0, .int .i64 0, .bool false, .int .i64 0, .slice none 0 0] 55)).heap.size := by have := hr14.bel.size; simp; omega
        have hkm : k + 1 ≤ maxLen := by have := HUB.out; unfold maxLen; omega
        have hkb : (k + 1) * 104 ≤ 140737488355328 := by have := HUB.out; omega
        go_upto_region 20 with (at_builtin; refine wpList_appN rfl (.tmp 106) (.tmp 108) 28 rfl W1.heap.size 55 iO _ 9 104 Tryz.underlying28 hiO hzO0 hzO1 hzO2 rfl (by decide) (.slice a k cc) k (silC k) rfl hown14 ⟨w14.heap.size, 0, none⟩ 1 1 (#[.int .i64 3, .int .i64 0, .int .i64 0, .slice none 0 0, .int .i64 0, .int .i64 0, .bool false, .int .i64 0, .slice none 0 0] : Array Value).toList rfl rfl hcl14 ocn_one hkm hkb hz14 ?_; intro v15 w15 hown15 hgr15 hnew15; obtain ⟨a15, c15, rfl⟩ := own_slice hown15)
        have hr15 : SeRel W1 P w15 g c k (k + 1) (.slice a15 (k + 1) c15) := hr.out.app (bta hb14 (Nat.le_refl _) _) hgr15 hnew15 hown15
        obtain ⟨-, b15, rfl, hc15⟩ := hr15.at k (Nat.lt_succ_self k)
        have y0 : w15.cell? ⟨b15, k * 9, none⟩ = some (.int .i64 3) := hc15 0 _ (by decide) rfl
        have y1 : w15.cell? ⟨b15, k * 9 + 1, none⟩ = some (.int .i64 0) := hc15 1 _ (by decide) rfl
        have y2 : w15.cell? ⟨b15, k * 9 + 2, none⟩ = some (.int .i64 0) := hc15 2 _ (by decide) rfl
        have y3 : w15.cell? ⟨b15, k * 9 + 3, none⟩ = some (.slice none 0 0) := hc15 3 _ (by decide) rfl
        have y4 : w15.cell? ⟨b15, k * 9 + 4, none⟩ = some (.int .i64 0) := hc15 4 _ (by decide) rfl
        have y5 : w15.cell? ⟨b15, k * 9 + 5, none⟩ = some (.int .i64 0) := hc15 5 _ (by decide) rfl
        have y6 : w15.cell? ⟨b15, k * 9 + 6, none⟩ = some (.bool false) := hc15 6 _ (by decide) rfl
        have y7 : w15.cell? ⟨b15, k * 9 + 7, none⟩ = some (.int .i64 0) := hc15 7 _ (by decide) rfl
        have y8 : w15.cell? ⟨b15, k * 9 + 8, none⟩ = some (.slice none 0 0) := hc15 8 _ (by decide) rfl
        have hkl1 : (k : Int) < ((k + 1 : Nat) : Int) := by omega
        have hkc : k < c.units := by rw [HU.out]; exact hlt
        have HFE : Hid (Calls Tryz.prog 18 #[.pointer (some ⟨g, 0, none⟩), .agg #[.int .i64 3, .int .i64 0, .int .i64 0, .slice none 0 0, .int .i64 0, .int .i64 0, .bool false, .int .i64 0, .slice none 0 0]] w15 (SfPost P w15 g c (swX (k + 1)) 0)) := by
          have h := swfeed_any HX.out.chk hr15.a (swX_gd c (Cf.ok_of HX.out.chk).win k (Nat.le_of_lt hkc)) (by have := HUB.out; omega) (oN 3) none 0 none 0 (oN_in P w15 3) (oN_fit 3) 0 (by show (0 : Int) = _; rw [swX_open c k hkc]; rfl)
          rw [swX_feed c k hkc] at h
          exact h
        have HR15 := hid hr15
        have HLT := hid hlt
        clear hc15 hown15 hgr15 hnew15 hr14 hown14 hcl14 hz14 hkm hkb hkc hr15 hb14 HUN PR
        go_wp2_with (go_at_call 18; (with_reducible refine HFE.out.mono ?_); rintro r w16 ⟨rfl, h16, hk16⟩)
        go_roundw
        case rel => exact ⟨k + 1, _, _, _, by go_num, rfl, by have := HLT.out; omega, HR15.out.fed h16 hk16⟩
        case measure => have := HLT.out; simp [intOf]; omega
      · obtain rfl : k = U := by omega
        go_upto_region 22 with (first
          | (refine wpList_load_row rfl 27 (.tmp 3) rfl w.heap.size rfl 27 C (0, 0) _ PR.out Tryz.underlying27 rfl hi ?_)
          | (go_at_call 31; (with_reducible refine HUN.out.mono ?_); rintro r w14 ⟨rfl, hb14⟩))
        have HR14 := hid (hr.out.keep hb14)
        have kD : Below W1.heap.size W1 w14.drew := HR14.out.bel.drew
        have HRWc : Hid (∀ X, Below W1.heap.size W1 X → ∀ j v, C.toList[j]? = some v → X.cell? ((⟨w.heap.size, 0, none⟩ : Addr).add j) = some v) := fun X hX => hpRowAt2 (hpKeep HX.out.pc hX)
        have HRWo : Hid (∀ X, Below W1.heap.size W1 X → ∀ j v, (#[.int .i64 O.verdict, .int .i64 O.reply.fn, .int .i64 O.reply.exc, .slice da O.reply.data.length dc, .int .i64 O.reply.code, .int .i64 O.reply.level, .bool O.reply.more, .int .i64 O.reply.next, .slice oa O.reply.objs.length oc] : Array Value).toList[j]? = some v → X.cell? ((⟨w.heap.size + 1, 0, none⟩ : Addr).add j) = some v) := fun X hX => hpRowAt2 (hpKeep HX.out.po hX)
        clear hr hb14 hlt HUN PR hk
        refine wp_region_held_drew (S := fun V => Below W1.heap.size W1 V) (by kernel_rfl) kD (fun hH => ?_)
        clear hH
        refine tkD 0 118 (v := .agg C) rfl (by kernel_rfl) (fun _ _ _ h => h) rfl (by rfl) (by assumption) (fun X hX => run_load_rowS 27 (.tmp 3) rfl ⟨w.heap.size, 0, none⟩ rfl C _ (HRWc.out X hX) Tryz.underlying27 rfl hi) ?_; simp only [List.setIfInBounds_toArray, List.set_cons_zero, List.set_cons_succ]
        refine tkD 1 119 (v := ?_) rfl (by kernel_rfl) (fun _ _ _ h => h) rfl (by rfl) (by assumption) ?_ ?_; rotate_left; (intro w hSw; (try dsimp only at hSw); go_simp; try (with_reducible rfl)); simp only [List.setIfInBounds_toArray, List.set_cons_zero, List.set_cons_succ]
        refine tkD 2 120 (v := .agg #[.int .i64 O.verdict, .int .i64 O.reply.fn, .int .i64 O.reply.exc, .slice da O.reply.data.length dc, .int .i64 O.reply.code, .int .i64 O.reply.level, .bool O.reply.more, .int .i64 O.reply.next, .slice oa O.reply.objs.length oc]) rfl (by kernel_rfl) (fun _ _ _ h => h) rfl (by rfl) (by assumption) (fun X hX => run_load_rowS 55 (.tmp 4) rfl ⟨w.heap.size + 1, 0, none⟩ rfl #[.int .i64 O.verdict, .int .i64 O.reply.fn, .int .i64 O.reply.exc, .slice da O.reply.data.length dc, .int .i64 O.reply.code, .int .i64 O.reply.level, .bool O.reply.more, .int .i64 O.reply.next, .slice oa O.reply.objs.length oc] _ (HRWo.out X hX) Tryz.underlying55 rfl info9) ?_; simp only [List.setIfInBounds_toArray, List.set_cons_zero, List.set_cons_succ]
        refine wpAnyH_ready (rs := [3]) (by kernel_rfl) (by simp) ?_
        refine AllReadyH.cons rfl (fun K hK => ?_) AllReadyH.nil
        go_simp
        have hS3 : Below W1.heap.size W1 (w14.alloc (.cells #[.int .i64 O.verdict, .int .i64 O.reply.fn, .int .i64 O.reply.exc, .slice da O.reply.data.length dc, .int .i64 O.reply.code, .int .i64 O.reply.level, .bool O.reply.more, .int .i64 O.reply.next, .slice oa O.reply.objs.length oc] 55)).drew := (bta HR14.out.bel (Nat.le_refl _) _).drew
        have hb3 : Below w14.heap.size w14 (w14.alloc (.cells #[.int .i64 O.verdict, .int .i64 O.reply.fn, .int .i64 O.reply.exc, .slice da O.reply.data.length dc, .int .i64 O.reply.code, .int .i64 O.reply.level, .bool O.reply.more, .int .i64 O.reply.next, .slice oa O.reply.objs.length oc] 55)).drew := (bal' w14 _).drew
        have p3 : (w14.alloc (.cells #[.int .i64 O.verdict, .int .i64 O.reply.fn, .int .i64 O.reply.exc, .slice da O.reply.data.length dc, .int .i64 O.reply.code, .int .i64 O.reply.level, .bool O.reply.more, .int .i64 O.reply.next, .slice oa O.reply.objs.length oc] 55)).drew.heap[w14.heap.size]? = some (.cells #[.int .i64 O.verdict, .int .i64 O.reply.fn, .int .i64 O.reply.exc, .slice da O.reply.data.length dc, .int .i64 O.reply.code, .int .i64 O.reply.level, .bool O.reply.more, .int .i64 O.reply.next, .slice oa O.reply.objs.length oc] 55) := hpNew w14 _
        refine hK.out _ _ hS3 (fun hSx => ?_); clear hK K hSx
        obtain ⟨W15, hW15⟩ : ∃ W, (w14.alloc (.cells #[.int .i64 O.verdict, .int .i64 O.reply.fn, .int .i64 O.reply.exc, .slice da O.reply.data.length dc, .int .i64 O.reply.code, .int .i64 O.reply.level, .bool O.reply.more, .int .i64 O.reply.next, .slice oa O.reply.objs.length oc] 55)).drew = W := ⟨_, rfl⟩
        rw [hW15] at hS3 hb3 p3 ⊢
        have hown15 : W15.ownsRow W1.heap.size 55 9 (.slice a k cc) k (silC k) := own_keeps (F := fun _ => False) HR14.out.own (Keeps.of_below hb3) (fun _ _ e => e)
        have hcl15 : ∀ j u, (#[.int .i64 O.verdict, .int .i64 O.reply.fn, .int .i64 O.reply.exc, .slice da O.reply.data.length dc, .int .i64 O.reply.code, .int .i64 O.reply.level, .bool O.reply.more, .int .i64 O.reply.next, .slice oa O.reply.objs.length oc] : Array Value).toList[j]? = some u → W15.cell? ((⟨w14.heap.size, 0, none⟩ : Addr).add j) = some u := fun j u hj => hpRowAt2 p3 j u hj
        have hone : ∀ u ∈ (#[.int .i64 O.verdict, .int .i64 O.reply.fn, .int .i64 O.reply.exc, .slice da O.reply.data.length dc, .int .i64 O.reply.code, .int .i64 O.reply.level, .bool O.reply.more, .int .i64 O.reply.next, .slice oa O.reply.objs.length oc] : Array Value).toList, u.oneCell' = true := by
          intro u hu
          simp only [List.mem_cons, List.not_mem_nil, or_false] at hu
          rcases hu with rfl | rfl | rfl | rfl | rfl | rfl | rfl | rfl | rfl <;> rfl
        have hkm : k + 1 ≤ maxLen := by have := HUB.out; unfold maxLen; omega
        have hkb : (k + 1) * 104 ≤ 140737488355328 := by have := HUB.out; omega
        refine wpAnyH_ready (rs := [4]) (by kernel_rfl) (by simp) ?_
        refine AllReadyH.cons rfl (fun K hK => ?_) AllReadyH.nil
        refine step_appO rfl (.tmp 119) (.tmp 121) 28 rfl W1.heap.size 55 iO _ 9 104 Tryz.underlying28 hiO hzO0 hzO1 hzO2 rfl (by decide) (.slice a k cc) k (silC k) rfl hown15 ⟨w14.heap.size, 0, none⟩ 1 1 (#[.int .i64 O.verdict, .int .i64 O.reply.fn, .int .i64 O.reply.exc, .slice da O.reply.data.length dc, .int .i64 O.reply.code, .int .i64 O.reply.level, .bool O.reply.more, .int .i64 O.reply.next, .slice oa O.reply.objs.length oc] : Array Value).toList rfl rfl hcl15 hone hkm hkb hS3.size ?_
        intro v16 w16 hown16 hgr16 hnew16 hold16
        obtain ⟨a16, c16, rfl⟩ := own_slice hown16
        have hr16 : SeRel W1 P w16 g c k k (.slice a k cc) := HR14.out.old hb3 hgr16 hold16
        have hB16 := hr16.bel
        have hoc16 : Ocs w16 (.slice a16 (k + 1) c16) (List.replicate k (oN 3) ++ [O]) := Sls.of_own hown16 (CsL.snoc rfl (show OcR w16 (#[.int .i64 O.verdict, .int .i64 O.reply.fn, .int .i64 O.reply.exc, .slice da O.reply.data.length dc, .int .i64 O.reply.code, .int .i64 O.reply.level, .bool O.reply.more, .int .i64 O.reply.next, .slice oa O.reply.objs.length oc] : Array Value).toList O from ⟨da, dc, oa, oc, rfl, (HX.out.rp w16 hB16).d, (HX.out.rp w16 hB16).o, (HX.out.rp w16 hB16).hi, (HX.out.rp w16 hB16).lo⟩) _ _ (silC_rows w16 k)) (by simp)
        have HRY1 : Hid (Calls Tryz.prog 25 #[.agg C, .slice a16 (k + 1) c16] w16 fun r w' => r = .returned (.tuple #[.pointer none, .int .i64 12]) ∧ Below w16.heap.size w16 w') := by
          refine (HX.out.ry w16 (List.replicate k (oN 3) ++ [O]) _ hB16 hoc16 (fun y hy => ?_) (by rw [List.length_append, List.length_replicate]; have := HUB.out; show k + 1 ≤ 100000; omega)).mono fun r w' hp => ?_
          · rcases List.mem_append.1 hy with e | e
            · rw [(List.mem_replicate.1 e).2]
              exact oN_fit 3
            · rw [List.mem_singleton] at e
              subst e
              exact HX.out.fit
          · obtain ⟨⟨y, g3, h1, -⟩ | ⟨-, h1⟩, h5⟩ := hp
            · have h2 := swX_over c O
              rw [HU.out, h1] at h2
              cases h2
            · exact ⟨h1, h5⟩
        have HR16 := hid hr16
        clear hown16 hgr16 hnew16 hold16 hoc16 hr16 hown15 hcl15 hone hkm hkb p3 hb3 HR14
        refine hK.out _ _ hB16 (fun hSx => ?_)
        clear hK K hSx
        refine wpAnyH_ready (rs := [5]) (by kernel_rfl) (by simp) ?_; refine AllReadyH.cons rfl (fun K hK => ?_) AllReadyH.nil; go_simp
        refine HRY1.out.mono ?_
        rintro r w17 ⟨rfl, hb17⟩
        have hB17 := bt hB16 hb17 (Nat.le_refl _)
        refine hK.out _ _ hB17 (fun hSx => ?_); clear hK K hSx
        refine tkD 6 117 (v := ?_) rfl (by kernel_rfl) (fun _ _ _ h => h) rfl (by rfl) (by assumption) ?_ ?_; rotate_left; (intro w hSw; (try dsimp only at hSw); go_simp; try (with_reducible rfl)); simp only [List.setIfInBounds_toArray, List.set_cons_zero, List.set_cons_succ]
        refine tkD 7 124 (v := ?_) rfl (by kernel_rfl) (fun _ _ _ h => h) rfl (by rfl) (by assumption) ?_ ?_; rotate_left; (intro w hSw; (try dsimp only at hSw); go_simp; try (with_reducible rfl)); simp only [List.setIfInBounds_toArray, List.set_cons_zero, List.set_cons_succ]
        refine tkD 8 125 (v := ?_) rfl (by kernel_rfl) (fun _ _ _ h => h) rfl (by rfl) (by assumption) ?_ ?_; rotate_left; (intro w hSw; (try dsimp only at hSw); go_simp; try (with_reducible rfl)); simp only [List.setIfInBounds_toArray, List.set_cons_zero, List.set_cons_succ]
        refine tkD 9 21 (v := ?_) rfl (by kernel_rfl) (fun _ _ _ h => h) rfl (by rfl) (by assumption) ?_ ?_; rotate_left; (intro w hSw; (try dsimp only at hSw); go_simp; try (with_reducible rfl)); simp only [List.setIfInBounds_toArray, List.set_cons_zero, List.set_cons_succ]
        refine tkD 10 22 (v := ?_) rfl (by kernel_rfl) (fun _ _ _ h => h) rfl (by rfl) (by assumption) ?_ ?_; rotate_left; (intro w hSw; (try dsimp only at hSw); go_simp; try (with_reducible rfl)); simp only [List.setIfInBounds_toArray, List.set_cons_zero, List.set_cons_succ]
        refine wpAnyH_done (by kernel_rfl) ?_ _
        have HR17 := hid (HR16.out.keep hb17)
        have P17 := hid (hpKeep HX.out.pc hB17)
        have HRY2 : Hid (Calls Tryz.prog 25 #[.agg C, .slice a k cc] w17 fun r w' => ∃ gt, r = .returned (.tuple #[.pointer (some ⟨gt, 0, none⟩), .int .i64 0]) ∧ SwAt (Grw (fun _ => False) w17 w') w' gt c (swX k) ∧ Below w17.heap.size w17 w') := by
          refine (HX.out.ry w17 (List.replicate k (oN 3)) _ hB17 HR17.out.ocs (fun y hy => by rw [(List.mem_replicate.1 hy).2]; exact oN_fit 3) (by rw [List.length_replicate]; have := HUB.out; omega)).mono fun r w' hp => ?_
          have h := swX_run c k (by rw [HU.out]; exact Nat.le_refl _)
          obtain ⟨⟨y, g3, h1, h2, h3, -⟩ | ⟨h1, -⟩, h5⟩ := hp
          · rw [h1] at h
            injection h with h
            subst h
            exact ⟨g3, h2, h3, h5⟩
          · rw [h1] at h
            cases h
        clear HRY1 HR16 hb17
        go_upto_region 24 with (first
          | (refine wpList_load_row rfl 27 (.tmp 3) rfl w.heap.size rfl 27 C (0, 0) _ P17.out Tryz.underlying27 rfl hi ?_)
          | (go_at_call 25; (with_reducible refine HRY2.out.mono ?_); rintro r w18 ⟨gt, rfl, hst, hb18⟩))
        have hr18 := HR17.out.keep hb18
        have hk1 : 0 < k := HUB.out.1
        obtain ⟨-, b, rfl, hcb⟩ := hr18.at 0 hk1
        have hsil : SilAt b w18 := fun j u hj => by
          have hj9 : j < 9 := (List.getElem?_eq_some_iff.1 hj).1
          have h := hcb j u hj9 hj
          rw [Nat.zero_mul, Nat.zero_add] at h
          have e : (⟨b, 0, none⟩ : Addr).add j = ⟨b, j, none⟩ := by unfold Addr.add; split <;> simp_all
          rw [e]
          exact h
        have kD : Below W1.heap.size W1 w18.drew ∧ SilAt b w18.drew := ⟨hr18.bel.drew, hsil⟩
        have HFO : Hid (∀ X, Below w18.heap.size w18 X → Calls Tryz.prog 18 #[.pointer (some ⟨g, 0, none⟩), .agg #[.int .i64 O.verdict, .int .i64 O.reply.fn, .int .i64 O.reply.exc, .slice da O.reply.data.length dc, .int .i64 O.reply.code, .int .i64 O.reply.level, .bool O.reply.more, .int .i64 O.reply.next, .slice oa O.reply.objs.length oc]] X (SfPost P X g c (swX k) 12)) := fun X hX => by
          have hrx := hr18.keep hX
          have hdn : (swX k).done c = true := by rw [← HU.out]; exact swX_shut c
          have h := swfeed_any HX.out.chk hrx.a (swX_gd c (Cf.ok_of HX.out.chk).win k (by rw [HU.out]; exact Nat.le_refl _)) (by have := HUB.out; omega) O da dc oa oc (fun W hK => HX.out.rp W (hrx.bel.trans (hK.below hrx.bel.size (fun j hj e => by have := (hrx.lo j e).1; omega)))) HX.out.fit 12 (by show (12 : Int) = _; rw [hdn]; rfl)
          have e : (swX k).feed c O = swX k := by unfold Sp.feed; rw [if_pos hdn]
          rw [e] at h
          exact h
        have HPT : Hid (∀ X Q, SwAt Q X gt c (swX k) → Calls Tryz.prog 14 #[.pointer (some ⟨gt, 0, none⟩)] X (IntPost X (k : Int))) := fun X Q h => splace_any h
        have HUX : Hid (∀ X, Below W1.heap.size W1 X → Calls Tryz.prog 31 #[.agg C] X (IntPost X (k : Int))) := fun X hX => by rw [← HU.out]; exact HX.out.un X hX
        have HSO : Hid (∀ X, Calls Tryz.prog 32 #[.agg #[.int .i64 3, .int .i64 0, .int .i64 0, .slice none 0 0, .int .i64 0, .int .i64 0, .bool false, .int .i64 0, .slice none 0 0], .agg #[.int .i64 3, .int .i64 0, .int .i64 0, .slice none 0 0, .int .i64 0, .int .i64 0, .bool false, .int .i64 0, .slice none 0 0]] X (BoolPost X true)) := fun X => sameOc_any 3 0 0 (.slice none 0 0) 0 0 false 0 (.slice none 0 0) [] [] 3 0 0 (.slice none 0 0) 0 0 false 0 (.slice none 0 0) [] [] X (Bs.nil _) (Obs.nil _) (Bs.nil _) (Obs.nil _) true rfl
        have HRW2c : Hid (∀ X, Below W1.heap.size W1 X ∧ SilAt b X → ∀ j v, C.toList[j]? = some v → X.cell? ((⟨w.heap.size, 0, none⟩ : Addr).add j) = some v) := fun X hX => HRWc.out X hX.1
        have hdn := hr18.dn b rfl
        have hlo : ∀ j, P j → W1.heap.size ≤ j ∧ j < w17.heap.size := fun j hj => HR17.out.lo j hj
        have HST := hid hst
        have HR18 := hid hr18
        have dk1 : decide (0 < k) = true := decide_eq_true hk1
        have hki2 : (0 : Int) < (k : Int) := by omega
        clear hsil hcb hst hr18 HRY2 P17
        refine wp_region_held_drew (S := fun V => Below W1.heap.size W1 V ∧ SilAt b V) (by kernel_rfl) kD (fun hH => ?_)
        clear hH
        refine wpAnyH_ready (rs := [0]) (by kernel_rfl) (by simp) ?_; refine AllReadyH.cons rfl (fun K hK => ?_) AllReadyH.nil; go_simp
        refine (HAW.out _).mono ?_
        rintro r x1 ⟨rfl, h1⟩
        have h1' : Below w18.heap.size w18 x1 := bt (Below.refl _ _).drew h1 (Nat.le_refl _)
        have hS1 : Below W1.heap.size W1 x1 ∧ SilAt b x1 := ⟨bt kD.1 h1 (Nat.le_refl _), kD.2.keep h1⟩
        refine hK.out _ _ hS1 (fun hSx => ?_); clear hK K hSx
        refine tkD 1 133 (v := ?_) rfl (by kernel_rfl) (fun _ _ _ h => h) rfl (by rfl) (by assumption) ?_ ?_; rotate_left; (intro w hSw; (try dsimp only at hSw); go_simp; try (with_reducible rfl)); simp only [List.setIfInBounds_toArray, List.set_cons_zero, List.set_cons_succ]
        refine tkD 2 134 (v := ?_) rfl (by kernel_rfl) (fun _ _ _ h => h) rfl (by rfl) (by assumption) ?_ ?_; rotate_left; (intro w hSw; (try dsimp only at hSw); go_simp; try (with_reducible rfl)); simp only [List.setIfInBounds_toArray, List.set_cons_zero, List.set_cons_succ]
        refine tkD 3 135 (v := ?_) rfl (by kernel_rfl) (fun _ _ _ h => h) rfl (by rfl) (by assumption) ?_ ?_; rotate_left; (intro w hSw; (try dsimp only at hSw); go_simp; try (with_reducible rfl)); simp only [List.setIfInBounds_toArray, List.set_cons_zero, List.set_cons_succ]
        refine tkD 4 136 (v := ?_) rfl (by kernel_rfl) (fun _ _ _ h => h) rfl (by rfl) (by assumption) ?_ ?_; rotate_left; (intro w hSw; (try dsimp only at hSw); go_simp; try (with_reducible rfl)); simp only [List.setIfInBounds_toArray, List.set_cons_zero, List.set_cons_succ]
        refine tkD 5 137 (v := ?_) rfl (by kernel_rfl) (fun _ _ _ h => h) rfl (by rfl) (by assumption) ?_ ?_; rotate_left; (intro w hSw; (try dsimp only at hSw); go_simp; try (with_reducible rfl)); simp only [List.setIfInBounds_toArray, List.set_cons_zero, List.set_cons_succ]
        refine tkD 6 138 (v := ?_) rfl (by kernel_rfl) (fun _ _ _ h => h) rfl (by rfl) (by assumption) ?_ ?_; rotate_left; (intro w hSw; (try dsimp only at hSw); go_simp; try (with_reducible rfl)); simp only [List.setIfInBounds_toArray, List.set_cons_zero, List.set_cons_succ]
        refine tkD 7 139 (v := ?_) rfl (by kernel_rfl) (fun _ _ _ h => h) rfl (by rfl) (by assumption) ?_ ?_; rotate_left; (intro w hSw; (try dsimp only at hSw); go_simp; try (with_reducible rfl)); simp only [List.setIfInBounds_toArray, List.set_cons_zero, List.set_cons_succ]
        refine tkD 8 140 (v := .agg #[.int .i64 O.verdict, .int .i64 O.reply.fn, .int .i64 O.reply.exc, .slice da O.reply.data.length dc, .int .i64 O.reply.code, .int .i64 O.reply.level, .bool O.reply.more, .int .i64 O.reply.next, .slice oa O.reply.objs.length oc]) rfl (by kernel_rfl) (fun _ _ _ h => h) rfl (by rfl) (by assumption) (fun X hX => run_load_rowS 55 (.tmp 4) rfl ⟨w.heap.size + 1, 0, none⟩ rfl #[.int .i64 O.verdict, .int .i64 O.reply.fn, .int .i64 O.reply.exc, .slice da O.reply.data.length dc, .int .i64 O.reply.code, .int .i64 O.reply.level, .bool O.reply.more, .int .i64 O.reply.next, .slice oa O.reply.objs.length oc] _ (HRWo.out X hX.1) Tryz.underlying55 rfl info9) ?_; simp only [List.setIfInBounds_toArray, List.set_cons_zero, List.set_cons_succ]
        refine wpAnyH_ready (rs := [9]) (by kernel_rfl) (by simp) ?_; refine AllReadyH.cons rfl (fun K hK => ?_) AllReadyH.nil; go_simp
        refine (HFO.out _ h1').mono ?_
        rintro r x2 ⟨rfl, -, hk2⟩
        have hS2 : Below W1.heap.size W1 x2 ∧ SilAt b x2 := ⟨hS1.1.trans (hk2.below hS1.1.size (fun j hj e => by have := (hlo j e).1; omega)), fun j u hj => hk2.cell (hS1.2 j u hj) (by rw [Addr.add_block]; exact hdn)⟩
        have hT2 : SwAt (Grw (fun _ => False) w17 w18) x2 gt c (swX k) := (HST.out.keep (F := fun _ => False) (Keeps.of_below h1') (fun _ _ e => e.elim)).keep hk2 (fun j _ e hT => by
          rcases hT with hT | hT
          · exact hT
          · have := (hlo j e).2; omega)
        refine hK.out _ _ hS2 (fun hSx => ?_); clear hK K hSx
        refine tkD 10 142 (v := ?_) rfl (by kernel_rfl) (fun _ _ _ h => h) rfl (by rfl) (by assumption) ?_ ?_; rotate_left; (intro w hSw; (try dsimp only at hSw); go_simp; try (with_reducible rfl)); simp only [List.setIfInBounds_toArray, List.set_cons_zero, List.set_cons_succ]
        refine tkD 11 143 (v := ?_) rfl (by kernel_rfl) (fun _ _ _ h => h) rfl (by rfl) (by assumption) ?_ ?_; rotate_left; (intro w hSw; (try dsimp only at hSw); go_simp; try (with_reducible rfl)); simp only [List.setIfInBounds_toArray, List.set_cons_zero, List.set_cons_succ]
        refine tkD 12 144 (v := ?_) rfl (by kernel_rfl) (fun _ _ _ h => h) rfl (by rfl) (by assumption) ?_ ?_; rotate_left; (intro w hSw; (try dsimp only at hSw); go_simp; try (with_reducible rfl)); simp only [List.setIfInBounds_toArray, List.set_cons_zero, List.set_cons_succ]
        refine tkD 13 145 (v := ?_) rfl (by kernel_rfl) (fun _ _ _ h => h) rfl (by rfl) (by assumption) ?_ ?_; rotate_left; (intro w hSw; (try dsimp only at hSw); go_simp; try (with_reducible rfl)); simp only [List.setIfInBounds_toArray, List.set_cons_zero, List.set_cons_succ]
        refine tkD 14 146 (v := ?_) rfl (by kernel_rfl) (fun _ _ _ h => h) rfl (by rfl) (by assumption) ?_ ?_; rotate_left; (intro w hSw; (try dsimp only at hSw); go_simp; try (with_reducible rfl)); simp only [List.setIfInBounds_toArray, List.set_cons_zero, List.set_cons_succ]
        refine tkD 15 147 (v := ?_) rfl (by kernel_rfl) (fun _ _ _ h => h) rfl (by rfl) (by assumption) ?_ ?_; rotate_left; (intro w hSw; (try dsimp only at hSw); go_simp; try (with_reducible rfl)); simp only [List.setIfInBounds_toArray, List.set_cons_zero, List.set_cons_succ]
        refine tkD 16 148 (v := ?_) rfl (by kernel_rfl) (fun _ _ _ h => h) rfl (by rfl) (by assumption) ?_ ?_; rotate_left; (intro w hSw; (try dsimp only at hSw); go_simp; try (with_reducible rfl)); simp only [List.setIfInBounds_toArray, List.set_cons_zero, List.set_cons_succ]
        refine tkD 17 149 (v := ?_) rfl (by kernel_rfl) (fun _ _ _ h => h) rfl (by rfl) (by assumption) ?_ ?_; rotate_left; (intro w hSw; (try dsimp only at hSw); go_simp; try (with_reducible rfl)); simp only [List.setIfInBounds_toArray, List.set_cons_zero, List.set_cons_succ]
        refine tkD 18 150 (v := ?_) rfl (by kernel_rfl) (fun _ _ _ h => h) rfl (by rfl) (by assumption) ?_ ?_; rotate_left; (intro w hSw; (try dsimp only at hSw); go_simp; try (with_reducible rfl)); simp only [List.setIfInBounds_toArray, List.set_cons_zero, List.set_cons_succ]
        refine tkD 19 151 (v := ?_) rfl (by kernel_rfl) (fun _ _ _ h => h) rfl (by rfl) (by assumption) ?_ ?_; rotate_left; (intro w hSw; (try dsimp only at hSw); go_simp; try (with_reducible rfl)); simp only [List.setIfInBounds_toArray, List.set_cons_zero, List.set_cons_succ]
        refine tkD 20 152 (v := ?_) rfl (by kernel_rfl) (fun _ _ _ h => h) rfl (by rfl) (by assumption) ?_ ?_; rotate_left; (intro w hSw; (try dsimp only at hSw); go_simp; try (with_reducible rfl)); simp only [List.setIfInBounds_toArray, List.set_cons_zero, List.set_cons_succ]
        refine tkD 21 153 (v := ?_) rfl (by kernel_rfl) (fun _ _ _ h => h) rfl (by rfl) (by assumption) ?_ ?_; rotate_left; (intro w hSw; (try dsimp only at hSw); go_simp; try (with_reducible rfl)); simp only [List.setIfInBounds_toArray, List.set_cons_zero, List.set_cons_succ]
        refine tkD 22 154 (v := ?_) rfl (by kernel_rfl) (fun _ _ _ h => h) rfl (by rfl) (by assumption) ?_ ?_; rotate_left; (intro w hSw; (try dsimp only at hSw); go_simp; try (with_reducible rfl)); simp only [List.setIfInBounds_toArray, List.set_cons_zero, List.set_cons_succ]
        refine tkD 23 155 (v := ?_) rfl (by kernel_rfl) (fun _ _ _ h => h) rfl (by rfl) (by assumption) ?_ ?_; rotate_left; (intro w hSw; (try dsimp only at hSw); go_simp; try (with_reducible rfl)); simp only [List.setIfInBounds_toArray, List.set_cons_zero, List.set_cons_succ]
        refine tkD 24 156 (v := ?_) rfl (by kernel_rfl) (fun _ _ _ h => h) rfl (by rfl) (by assumption) ?_ ?_; rotate_left; (intro w hSw; (try dsimp only at hSw); go_simp; try (with_reducible rfl)); simp only [List.setIfInBounds_toArray, List.set_cons_zero, List.set_cons_succ]
        refine tkD 25 157 (v := ?_) rfl (by kernel_rfl) (fun _ _ _ h => h) rfl (by rfl) (by assumption) ?_ ?_; rotate_left; (intro w hSw; (try dsimp only at hSw); go_simp; try (with_reducible rfl)); simp only [List.setIfInBounds_toArray, List.set_cons_zero, List.set_cons_succ]
        refine tkD 27 159 (v := .agg C) rfl (by kernel_rfl) (fun _ _ _ h => h) rfl (by rfl) (by assumption) (fun X hX => run_load_rowS 27 (.tmp 3) rfl ⟨w.heap.size, 0, none⟩ rfl C _ (HRW2c.out X hX) Tryz.underlying27 rfl hi) ?_; simp only [List.setIfInBounds_toArray, List.set_cons_zero, List.set_cons_succ]
        refine wpAnyH_ready (rs := [26]) (by kernel_rfl) (by simp) ?_; refine AllReadyH.cons rfl (fun K hK => ?_) AllReadyH.nil; go_simp
        refine (HPT.out _ _ hT2).mono ?_
        rintro r x3 ⟨rfl, h3⟩
        have hS3 : Below W1.heap.size W1 x3 ∧ SilAt b x3 := ⟨bt hS2.1 h3 (Nat.le_refl _), hS2.2.keep h3⟩
        refine hK.out _ _ hS3 (fun hSx => ?_); clear hK K hSx
        refine wpAnyH_ready (rs := [28]) (by kernel_rfl) (by simp) ?_; refine AllReadyH.cons rfl (fun K hK => ?_) AllReadyH.nil; go_simp
        refine (HUX.out _ hS3.1).mono ?_
        rintro r x4 ⟨rfl, h4⟩
        have hS4 : Below W1.heap.size W1 x4 ∧ SilAt b x4 := ⟨bt hS3.1 h4 (Nat.le_refl _), hS3.2.keep h4⟩
        refine hK.out _ _ hS4 (fun hSx => ?_); clear hK K hSx
        refine tkD 29 161 (v := ?_) rfl (by kernel_rfl) (fun _ _ _ h => h) rfl (by rfl) (by assumption) ?_ ?_; rotate_left; (intro w hSw; (try dsimp only at hSw); go_simp; try (with_reducible rfl)); simp only [List.setIfInBounds_toArray, List.set_cons_zero, List.set_cons_succ]
        refine tkD 30 162 (v := ?_) rfl (by kernel_rfl) (fun _ _ _ h => h) rfl (by rfl) (by assumption) ?_ ?_; rotate_left; (intro w hSw; (try dsimp only at hSw); go_simp; try (with_reducible rfl)); simp only [List.setIfInBounds_toArray, List.set_cons_zero, List.set_cons_succ]
        refine tkD 31 163 (v := ?_) rfl (by kernel_rfl) (fun _ _ _ h => h) rfl (by rfl) (by assumption) ?_ ?_; rotate_left; (intro w hSw; (try dsimp only at hSw); go_simp; try (with_reducible rfl)); simp only [List.setIfInBounds_toArray, List.set_cons_zero, List.set_cons_succ]
        refine tkD 32 164 (v := ?_) rfl (by kernel_rfl) (fun _ _ _ h => h) rfl (by rfl) (by assumption) ?_ ?_; rotate_left; (intro w hSw; (try dsimp only at hSw); go_simp; try (with_reducible rfl)); simp only [List.setIfInBounds_toArray, List.set_cons_zero, List.set_cons_succ]
        refine tkD 33 165 (v := ?_) rfl (by kernel_rfl) (fun _ _ _ h => h) rfl (by rfl) (by assumption) ?_ ?_; rotate_left; (intro w hSw; (try dsimp only at hSw); go_simp; try (with_reducible rfl)); simp only [List.setIfInBounds_toArray, List.set_cons_zero, List.set_cons_succ]
        refine tkD 34 166 (v := .agg #[.int .i64 3, .int .i64 0, .int .i64 0, .slice none 0 0, .int .i64 0, .int .i64 0, .bool false, .int .i64 0, .slice none 0 0]) rfl (by kernel_rfl) (fun _ _ _ h => h) rfl (by rfl) (by assumption) (fun X hX => run_load_rowS 55 (.tmp 165) rfl ⟨b, 0, none⟩ rfl #[.int .i64 3, .int .i64 0, .int .i64 0, .slice none 0 0, .int .i64 0, .int .i64 0, .bool false, .int .i64 0, .slice none 0 0] _ hX.2 Tryz.underlying55 rfl info9) ?_; simp only [List.setIfInBounds_toArray, List.set_cons_zero, List.set_cons_succ]
        refine tkD 35 167 (v := ?_) rfl (by kernel_rfl) (fun _ _ _ h => h) rfl (by rfl) (by assumption) ?_ ?_; rotate_left; (intro w hSw; (try dsimp only at hSw); go_simp; try (with_reducible rfl)); simp only [List.setIfInBounds_toArray, List.set_cons_zero, List.set_cons_succ]
        refine wpAnyH_ready (rs := [36]) (by kernel_rfl) (by simp) ?_; refine AllReadyH.cons rfl (fun K hK => ?_) AllReadyH.nil; go_simp
        refine (HSO.out _).mono ?_
        rintro r x5 ⟨rfl, h5⟩
        have hS5 : Below W1.heap.size W1 x5 ∧ SilAt b x5 := ⟨bt hS4.1 h5 (Nat.le_refl _), hS4.2.keep h5⟩
        refine hK.out _ _ hS5 (fun hSx => ?_); clear hK K hSx
        refine tkD 37 169 (v := ?_) rfl (by kernel_rfl) (fun _ _ _ h => h) rfl (by rfl) (by assumption) ?_ ?_; rotate_left; (intro w hSw; (try dsimp only at hSw); go_simp; try (with_reducible rfl)); simp only [List.setIfInBounds_toArray, List.set_cons_zero, List.set_cons_succ]
        refine tkD 38 6 (v := ?_) rfl (by kernel_rfl) (fun _ _ _ h => h) rfl (by rfl) (by assumption) ?_ ?_; rotate_left; (intro w hSw; (try dsimp only at hSw); go_simp; try (with_reducible rfl)); simp only [List.setIfInBounds_toArray, List.set_cons_zero, List.set_cons_succ]
        refine wpAnyH_done (by kernel_rfl) ?_ _
        go_wp2
        go_ret
        exact ⟨rfl, bt HB1.out hS5.1 (Nat.le_refl _)⟩

end Go.Proofs.YtipnamoocemeeaaGreat
