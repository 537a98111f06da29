/-
  The walk of the law RecordProbe.
-/
import Derived.Test.YtliblgmpclefgaaPby
import Derived.Test.YtliblgmpclefgaaMwr
import Derived.Test.YtliblgmpclefgaaPbr
import Derived.Test.YtliblgmpclefgaaPbt
import Derived.Test.YtliblgmpclefgaaPbp
import Derived.Test.YtliblgmpclefgaaMawk
import Derived.Test.YtliblgmpclefgaaHn
import Derived.Deep.CutRange
import Derived.Deep.RegionHeldLaw
namespace Go.Proofs.Ytliblgmpclefgaa
open Go.RowKit

/-- 'wpList_load_row' for an operation that is wanted. -/
theorem wpList_load_rowG {P : Program} {ops : Array Oper} {rest : List Oper} {o : Oper} {a : Act} {w : World} {Q : Exit → Act → World → Prop} (hw : Region.wanted o (yielded ops a.tmps) = true) (ty : TypeId) (x : Operand) (ho : o.op = .load ty x)
    (g : Nat) (hx : a.eval x = .pointer (some ⟨g, 0, none⟩)) (t : TypeId) (cs : Array Value) (fr : Nat × Nat) (d : TypeDesc) (hg : w.heap[g]? = some (.cells cs t fr))
    (hu : P.underlying ty = some d) (hd : (match d with | .struct _ | .array _ _ => true | _ => false) = true) (hi : (P.info? ty).map (·.size) = some cs.size)
    (h : wpList P ops Q rest (a.put o.dst (.agg cs)) w) : wpList P ops Q (o :: rest) a w :=
  wpList_step fun K hK => by
    rw [if_pos hw]
    exact wp_load_row ty x ho g hx t cs fr d hg hu hd hi (hK _ _ h)

/-- Two probes that lie apart. -/
structure RpRel (w : World) (ga gb : Nat) (wn : Nat → Int × Int) (A B : Nat → Prop) (pa pb : Pb) (W : World) : Prop where
  a : PbAt A W ga wn pa
  b : PbAt B W gb wn pb
  la : ∀ j, A j → w.heap.size ≤ j ∧ j < W.heap.size
  lb : ∀ j, B j → w.heap.size ≤ j ∧ j < W.heap.size
  ab : ∀ j, A j → ¬ B j
  bel : Below w.heap.size w W
theorem RpRel.keep {w : World} {ga gb : Nat} {wn : Nat → Int × Int} {A B : Nat → Prop} {pa pb : Pb} {W W' : World} (h : RpRel w ga gb wn A B pa pb W) (hb : Below W.heap.size W W') : RpRel w ga gb wn A B pa pb W' :=
  ⟨h.a.keep (F := fun _ => False) (Keeps.of_below hb) (fun _ _ e => e.elim), h.b.keep (F := fun _ => False) (Keeps.of_below hb) (fun _ _ e => e.elim),
   fun j hj => ⟨(h.la j hj).1, Nat.lt_of_lt_of_le (h.la j hj).2 hb.size⟩, fun j hj => ⟨(h.lb j hj).1, Nat.lt_of_lt_of_le (h.lb j hj).2 hb.size⟩, h.ab, bt h.bel hb (Nat.le_refl _)⟩
theorem RpRel.fedA {w : World} {ga gb : Nat} {wn : Nat → Int × Int} {A B : Nat → Prop} {pa pb pa' : Pb} {W W' : World} (h : RpRel w ga gb wn A B pa pb W) (hf : PbFd A W ga wn pa' W') : ∃ A', RpRel w ga gb wn A' B pa' pb W' ∧ (∀ j, A' j → Grw A W W' j) := by
  obtain ⟨A', h1, h2, h3⟩ := hf
  have hs := h3.size
  have hsz := h.bel.size
  refine ⟨A', ⟨h2, h.b.keep h3 (fun j _ hj => h.ab j hj), fun j hj => ?_, fun j hj => ⟨(h.lb j hj).1, by have := (h.lb j hj).2; omega⟩, fun j hj hB => ?_, h.bel.trans (h3.below hsz (fun j hj hA => by have := (h.la j hA).1; omega))⟩, h1⟩
  · rcases h1 j hj with e | e
    · have := h.la j e; omega
    · omega
  · rcases h1 j hj with e | e
    · exact h.ab j e hB
    · have := (h.lb j hB).2; omega
theorem RpRel.fedB {w : World} {ga gb : Nat} {wn : Nat → Int × Int} {A B : Nat → Prop} {pa pb pb' : Pb} {W W' : World} (h : RpRel w ga gb wn A B pa pb W) (hf : PbFd B W gb wn pb' W') : ∃ B', RpRel w ga gb wn A B' pa pb' W' ∧ (∀ j, B' j → Grw B W W' j) := by
  obtain ⟨B', h1, h2, h3⟩ := hf
  have hs := h3.size
  have hsz := h.bel.size
  refine ⟨B', ⟨h.a.keep h3 (fun j _ hj hA => h.ab j hA hj), h2, fun j hj => ⟨(h.la j hj).1, by have := (h.la j hj).2; omega⟩, fun j hj => ?_, fun j hj hB => ?_, h.bel.trans (h3.below hsz (fun j hj hA => by have := (h.lb j hA).1; omega))⟩, h1⟩
  · rcases h1 j hj with e | e
    · have := h.lb j e; omega
    · omega
  · rcases h1 j hB with e | e
    · exact h.ab j hj e
    · have := (h.la j hj).2; omega

/-- A good state of a probe that has been fed at most k times. -/
structure RpGd (wn : Nat → Int × Int) (p : Pb) (k : Nat) : Prop where
  ok : p.ph.ok wn
  small : p.d.small
  q0 : 0 ≤ p.q
  q1 : p.q ≤ k
def RpS (ob : Nat) (O : Oc) (da : Option Addr) (dc : Nat) (oa : Option Addr) (oc : Nat) (V : World) : Prop := V.heap[ob]? = some (.cells #[.int .i64 O.verdict, .int .i64 O.reply.fn, .int .i64 O.reply.exc, .slice da O.reply.data.length dc, .int .i64 O.reply.code, .int .i64 O.reply.level, .bool O.reply.more, .int .i64 O.reply.next, .slice oa O.reply.objs.length oc] 59)

set_option maxRecDepth 100000 in
set_option maxHeartbeats 12800000 in
theorem Walk.recordProbe {w : World} (cs : Array Value) (hr : Rd Try.prog w 24 cs.toList) (lv : Value) (hlr : Rd Try.prog w 25 [lv]) :
    Calls Try.prog 4 #[.agg cs, lv] w fun r w' => r = .returned (.bool true) ∧ Below w.heap.size w w' := by
  obtain ⟨win, rfl, hwf⟩ := win_rd hr
  obtain ⟨l, hl, hnx⟩ := ocsx_rd hlr
  obtain ⟨la, lc, rfl, -⟩ := id hl
  obtain ⟨W0, hW0⟩ : ∃ W, w.alloc (.cells (#[.int .i64 (win 0).1, .int .i64 (win 0).2, .int .i64 (win 1).1, .int .i64 (win 1).2, .int .i64 (win 2).1, .int .i64 (win 2).2, .int .i64 (win 3).1, .int .i64 (win 3).2]) 24) = W := ⟨_, rfl⟩
  have hb0 : Below w.heap.size w W0 := by rw [← hW0]; exact bal' w _
  have p0 : WgI W0 w.heap.size win := by rw [← hW0]; exact hpNew w _
  have HAW : Hid (∀ X, Calls Try.prog 18 #[] X fun r w' => r = .returned (.bool true) ∧ Below X.heap.size X w') := fun X => recawake_any X
  obtain ⟨V, hV⟩ : ∃ V, smallOcs l 80 = V := ⟨_, rfl⟩
  have HMO : Hid (Calls Try.prog 6 #[.slice la l.length lc, .int .i64 80] W0 (BoolPost W0 V)) := mocs_any _ l 80 W0 (hl.keep hb0) V hV
  have HW0 := hid hW0
  have HB0 := hid hb0
  have HL := hid hl
  have P0 := hid p0
  clear hr hlr hW0 hb0 hl p0
  show Calls _ _ #[.agg (#[.int .i64 (win 0).1, .int .i64 (win 0).2, .int .i64 (win 1).1, .int .i64 (win 1).2, .int .i64 (win 2).1, .int .i64 (win 2).2, .int .i64 (win 3).1, .int .i64 (win 3).2]), _] w _
  obtain ⟨ln, hln⟩ : ∃ n, l.length = n := ⟨_, rfl⟩
  have HLM : Hid (V = true → ln ≤ 80) := fun h => by
    rw [h] at hV
    simp only [smallOcs, Bool.and_eq_true, decide_eq_true_eq] at hV
    have := hV.2
    omega
  rw [hln] at HMO HL ⊢
  have HLN := hid hln
  clear hln
  cases V with
  | false =>
    clear hV hnx hwf
    go_enter Try.func4, Try.ntmps4
    go_upto_region 1 with (fail)
    rw [HW0.out]
    go_wp2_with (first
      | (go_at_call 6; (with_reducible refine HMO.out.mono ?_); rintro r w1 ⟨rfl, hb1⟩)
      | (go_at_call 18; (with_reducible refine (HAW.out _).mono ?_); rintro r w2 ⟨rfl, hb2⟩))
    go_ret
    exact ⟨rfl, bt (bt HB0.out hb1 (Nat.le_refl _)) hb2 (Nat.le_refl _)⟩
  | true =>
    have HFT : Hid (∀ (i : Nat) (x : Oc), l[i]? = some x → x.fit) := fun i x h => small_fit hV hnx h
    have HWD : Hid (∀ X, Calls Try.prog 8 #[.agg (#[.int .i64 (win 0).1, .int .i64 (win 0).2, .int .i64 (win 1).1, .int .i64 (win 1).2, .int .i64 (win 2).1, .int .i64 (win 2).2, .int .i64 (win 3).1, .int .i64 (win 3).2])] X (WdPost X)) := fun X => windows_any win hwf X
    have HM80 := hid (HLM.out rfl)
    clear hV hnx hwf HLM
    go_enter Try.func4, Try.ntmps4
    go_upto_region 1 with (fail)
    rw [HW0.out]
    go_upto_region 3 with (go_at_call 6; (with_reducible refine HMO.out.mono ?_); rintro r w1 ⟨rfl, hb1⟩)
    have P1 := hid (hpKeep P0.out hb1)
    go_upto_region 4 with (first
      | (refine wpList_load_row rfl 24 (.tmp 2) rfl w.heap.size rfl 24 (#[.int .i64 (win 0).1, .int .i64 (win 0).2, .int .i64 (win 1).1, .int .i64 (win 1).2, .int .i64 (win 2).1, .int .i64 (win 2).2, .int .i64 (win 3).1, .int .i64 (win 3).2]) (0, 0) _ P1.out Try.underlying24 rfl infoW ?_)
      | (go_at_call 8; (with_reducible refine (HWD.out _).mono ?_); rintro r w2 ⟨wn, rfl, hw12, hb2⟩; have P2 := hid (hpKeep P1.out hb2))
      | (refine wpList_storeW rfl 24 (.tmp 2) (.tmp 22) rfl w.heap.size 0 _ 24 (WgC wn) rfl rfl P2.out (by simp [WgC]) infoW rfl ?_; intro w3 g3 hk3 hz3))
    have g3' : w3.heap[w.heap.size]? = some (.cells (#[.int .i64 (wn 0).1, .int .i64 (wn 0).2, .int .i64 (wn 1).1, .int .i64 (wn 1).2, .int .i64 (wn 2).1, .int .i64 (wn 2).2, .int .i64 (wn 3).1, .int .i64 (wn 3).2]) 24) := g3
    have hB2 : Below w.heap.size w w2 := bt (bt HB0.out hb1 (Nat.le_refl _)) hb2 (Nat.le_refl _)
    have hB3 : Below w.heap.size w w3 := hB2.trans (hk3.below hB2.size (fun j hj e => by omega))
    have hwok : WinOk wn := fun k hk => by have := hw12 k hk; exact ⟨this.1, by have := this.2.1; omega, this.2.2.1, this.2.2.2.1⟩
    have HNW : Hid (∀ X, Calls Try.prog 9 #[.agg (#[.int .i64 (wn 0).1, .int .i64 (wn 0).2, .int .i64 (wn 1).1, .int .i64 (wn 1).2, .int .i64 (wn 2).1, .int .i64 (wn 2).2, .int .i64 (wn 3).1, .int .i64 (wn 3).2])] X fun r w' => ∃ g : Nat, r = .returned (.pointer (some ⟨g, 0, none⟩)) ∧ X.heap.size ≤ g ∧ PbAt (Grw (fun _ => False) X w') w' g wn ⟨.test, Dv.zero, 0⟩ ∧ Below X.heap.size X w') := fun X => pnew_ok wn hwok X
    have HB3 := hid hB3
    have HWO := hid hwok
    have y0 : ∀ X, Below w3.heap.size w3 X → X.cell? ⟨w.heap.size, 0, none⟩ = some (.int .i64 (wn 0).1) := fun X h => hpCell (hpKeep g3' h) 0
    have y1 : ∀ X, Below w3.heap.size w3 X → X.cell? ⟨w.heap.size, 1, none⟩ = some (.int .i64 (wn 0).2) := fun X h => hpCell (hpKeep g3' h) 1
    have y2 : ∀ X, Below w3.heap.size w3 X → X.cell? ⟨w.heap.size, 2, none⟩ = some (.int .i64 (wn 1).1) := fun X h => hpCell (hpKeep g3' h) 2
    have y3 : ∀ X, Below w3.heap.size w3 X → X.cell? ⟨w.heap.size, 3, none⟩ = some (.int .i64 (wn 1).2) := fun X h => hpCell (hpKeep g3' h) 3
    have y4 : ∀ X, Below w3.heap.size w3 X → X.cell? ⟨w.heap.size, 4, none⟩ = some (.int .i64 (wn 2).1) := fun X h => hpCell (hpKeep g3' h) 4
    have y5 : ∀ X, Below w3.heap.size w3 X → X.cell? ⟨w.heap.size, 5, none⟩ = some (.int .i64 (wn 2).2) := fun X h => hpCell (hpKeep g3' h) 5
    have y6 : ∀ X, Below w3.heap.size w3 X → X.cell? ⟨w.heap.size, 6, none⟩ = some (.int .i64 (wn 3).1) := fun X h => hpCell (hpKeep g3' h) 6
    have y7 : ∀ X, Below w3.heap.size w3 X → X.cell? ⟨w.heap.size, 7, none⟩ = some (.int .i64 (wn 3).2) := fun X h => hpCell (hpKeep g3' h) 7
    have kD : Below w3.heap.size w3 w3.drew := (Below.refl _ _).drew
    clear g3 g3' hk3 hz3 hB2 hB3 hwok hw12 HWD P2 P1 P0 HMO HW0 hb1 hb2
    dsimp only [Act.put]
    go_cut [5, 6] from 23 to 26 (fun s5 s6 wc => ∃ ga gb, s5 = .pointer (some ⟨ga, 0, none⟩) ∧ s6 = .pointer (some ⟨gb, 0, none⟩) ∧ Hid (∃ A B, RpRel w ga gb wn A B ⟨.test, Dv.zero, 0⟩ ⟨.test, Dv.zero, 0⟩ wc))
    case first =>
      refine wp_region_held_drew (S := fun V => Below w3.heap.size w3 V) (by kernel_rfl) kD (fun hH => ?_)
      refine tkD 0 23 (v := ?_) rfl (by kernel_rfl) (fun _ _ _ h => h) rfl (by rfl) (by assumption) ?_ ?_; rotate_left; (intro w hSw; (try dsimp only at hSw); go_simp; try (with_reducible rfl)); simp only [List.setIfInBounds_toArray, List.set_cons_zero, List.set_cons_succ]
      refine tkD 2 25 (v := ?_) rfl (by kernel_rfl) (fun _ _ _ h => h) rfl (by rfl) (by assumption) ?_ ?_; rotate_left; (intro w hSw; (try dsimp only at hSw); go_simp; try (with_reducible rfl)); simp only [List.setIfInBounds_toArray, List.set_cons_zero, List.set_cons_succ]
      clear hH
      refine wpAnyH_ready (rs := [1]) (by kernel_rfl) (by simp) ?_
      refine AllReadyH.cons rfl (fun K hK => ?_) AllReadyH.nil
      go_simp
      refine (HNW.out _).mono ?_
      rintro r w4 ⟨ga, rfl, hga, hpa, hb4⟩
      have hB4 := bt kD hb4 (Nat.le_refl _)
      refine hK.out _ _ hB4 (fun hSx => ?_)
      clear hK K hSx
      refine wpAnyH_ready (rs := [3]) (by kernel_rfl) (by simp) ?_
      refine AllReadyH.cons rfl (fun K hK => ?_) AllReadyH.nil
      go_simp
      refine (HNW.out _).mono ?_
      rintro r w5 ⟨gb, rfl, hgb, hpb, hb5⟩
      have hB5 := bt hB4 hb5 (Nat.le_refl _)
      refine hK.out _ _ hB5 (fun hSx => ?_)
      clear hK K hSx
      refine tkD 4 5 (v := ?_) rfl (by kernel_rfl) (fun _ _ _ h => h) rfl (by rfl) (by assumption) ?_ ?_; rotate_left; (intro w hSw; (try dsimp only at hSw); go_simp; try (with_reducible rfl)); simp only [List.setIfInBounds_toArray, List.set_cons_zero, List.set_cons_succ]
      refine tkD 5 6 (v := ?_) rfl (by kernel_rfl) (fun _ _ _ h => h) rfl (by rfl) (by assumption) ?_ ?_; rotate_left; (intro w hSw; (try dsimp only at hSw); go_simp; try (with_reducible rfl)); simp only [List.setIfInBounds_toArray, List.set_cons_zero, List.set_cons_succ]
      refine wpAnyH_done (by kernel_rfl) ?_ _
      clear y0 y1 y2 y3 y4 y5 y6 y7
      go_wp2
      go_meet
      case rel =>
        refine ⟨ga, gb, rfl, rfl, Grw (fun _ => False) w3.drew w4, Grw (fun _ => False) w4 w5, hpa.keep (F := fun _ => False) (Keeps.of_below hb5) (fun _ _ e => e.elim), hpb, fun j hj => ?_, fun j hj => ?_, fun j hj e => ?_, bt HB3.out hB5 (Nat.le_refl _)⟩
        · have h3 : w.heap.size ≤ w3.drew.heap.size := HB3.out.size
          have h5 := hb5.size
          rcases hj with hj | hj
          · exact hj.elim
          · omega
        · have h3 : w.heap.size ≤ w3.heap.size := HB3.out.size
          have h4 := hB4.size
          rcases hj with hj | hj
          · exact hj.elim
          · omega
        · rcases hj with hj | hj
          · exact hj.elim
          · rcases e with e | e
            · exact e.elim
            · omega
    case rest =>
      obtain ⟨ga, gb, rfl, rfl, hst⟩ := hcut
      clear y0 y1 y2 y3 y4 y5 y6 y7 kD HNW
      have HST := hid hst.out
      clear hst
      go_wp2_with fail
      go_loopw [7] (fun iv wr => ∃ (k : Nat) (pb : Pb), iv = .int .i64 k ∧ k ≤ ln ∧ Hid (RpGd wn pb k) ∧ Hid (∃ A B, RpRel w ga gb wn A B pb pb wr)) (fun iv _ => ln - (intOf iv).toNat)
      case atStart => exact ⟨0, ⟨.test, Dv.zero, 0⟩, rfl, Nat.zero_le _, ⟨trivial, Dv.zero_small, Int.le_refl _, Int.le_refl _⟩, HST.out⟩
      case round =>
        clear HST
        obtain ⟨k, pb, rfl, hk, hgd, hrl⟩ := hrel
        obtain ⟨A, B, hrr⟩ := hrl.out
        have HR := hid hrr
        clear hrr hrl
        have hk80 := HM80.out
        obtain ⟨D, hD⟩ : ∃ D, (!pb.ph.isDone) = D := ⟨_, rfl⟩
        by_cases hlt : k < ln
        · obtain ⟨rq, hrq⟩ : ∃ q, pb.ph.ask = q := ⟨_, rfl⟩
          have HNA : Hid (Calls Try.prog 11 #[.pointer (some ⟨ga, 0, none⟩)] wr (AskPost wr rq D)) := pnext_any HR.out.a hgd.out.ok rq D hrq hD
          have HNB : Hid (∀ X, Below wr.heap.size wr X → Calls Try.prog 11 #[.pointer (some ⟨gb, 0, none⟩)] X (AskPost X rq D)) := fun X hX => pnext_any (HR.out.keep hX).b hgd.out.ok rq D hrq hD
          obtain ⟨x, hx⟩ := get_some HLN.out hlt
          obtain ⟨-, -, -, hel⟩ := HL.out.get
          obtain ⟨b, o, da, dc, oa, oc, rfl, ⟨y0, y1, y2, y3, y4, y5, y6, y7, y8⟩, hxd, hxo, hxl1, hxl2⟩ := hel k x hx
          have HFX := hid (HFT.out k x hx)
          have hkl : (k : Int) < (ln : Int) := by omega
          have hrpx : ∀ W', Below w.heap.size w W' → RpIs W' x.reply da dc oa oc := fun W' hW => ⟨hxd.keep hW, hxo.keep hW, hxl1, hxl2⟩
          have HRPX := hid hrpx
          have HY := hid (And.intro y0 (And.intro y1 (And.intro y2 (And.intro y3 (And.intro y4 (And.intro y5 (And.intro y6 (And.intro y7 y8))))))))
          have HRQ := hid hrq
          have HDD := hid hD
          clear hel hx hxd hxo hxl1 hxl2 hrpx y0 y1 y2 y3 y4 y5 y6 y7 y8 hrq hD
          go_upto_region 12 with (first
            | (go_at_call 11; (with_reducible refine HNA.out.mono ?_); rintro r x5 ⟨rfl, hb5⟩)
            | (go_at_call 11; (with_reducible refine (HNB.out _ (bta hb5 (Nat.le_refl _) _)).mono ?_); rintro r x6 ⟨rfl, hb6⟩))
          obtain ⟨W7, hW7⟩ : ∃ W, x6.alloc (.cells #[.int .i64 rq.fn, .int .i64 rq.addr, .int .i64 rq.qty, .int .i64 rq.code, .int .i64 rq.obj] 34) = W := ⟨_, rfl⟩
          have hb7 : Below wr.heap.size wr W7 := by rw [← hW7]; exact bta (bt (bta hb5 (Nat.le_refl _) _) hb6 (Nat.le_refl _)) (Nat.le_refl _) _
          have pA : W7.heap[x5.heap.size]? = some (.cells #[.int .i64 rq.fn, .int .i64 rq.addr, .int .i64 rq.qty, .int .i64 rq.code, .int .i64 rq.obj] 34) := by rw [← hW7]; exact hpKeep (hpKeep (hpNew x5 _) hb6) (bal' _ _)
          have pB : W7.heap[x6.heap.size]? = some (.cells #[.int .i64 rq.fn, .int .i64 rq.addr, .int .i64 rq.qty, .int .i64 rq.code, .int .i64 rq.obj] 34) := by rw [← hW7]; exact hpNew _ _
          rw [hW7]
          have a0 : W7.cell? ⟨x5.heap.size, 0, none⟩ = some (.int .i64 rq.fn) := hpCell pA 0
          have a1 : W7.cell? ⟨x5.heap.size, 1, none⟩ = some (.int .i64 rq.addr) := hpCell pA 1
          have a2 : W7.cell? ⟨x5.heap.size, 2, none⟩ = some (.int .i64 rq.qty) := hpCell pA 2
          have a3 : W7.cell? ⟨x5.heap.size, 3, none⟩ = some (.int .i64 rq.code) := hpCell pA 3
          have a4 : W7.cell? ⟨x5.heap.size, 4, none⟩ = some (.int .i64 rq.obj) := hpCell pA 4
          have n0 : W7.cell? ⟨x6.heap.size, 0, none⟩ = some (.int .i64 rq.fn) := hpCell pB 0
          have n1 : W7.cell? ⟨x6.heap.size, 1, none⟩ = some (.int .i64 rq.addr) := hpCell pB 1
          have n2 : W7.cell? ⟨x6.heap.size, 2, none⟩ = some (.int .i64 rq.qty) := hpCell pB 2
          have n3 : W7.cell? ⟨x6.heap.size, 3, none⟩ = some (.int .i64 rq.code) := hpCell pB 3
          have n4 : W7.cell? ⟨x6.heap.size, 4, none⟩ = some (.int .i64 rq.obj) := hpCell pB 4
          have hw7 : Below w.heap.size w W7 := bt HR.out.bel hb7 (Nat.le_refl _)
          have y0 := cell_keep hw7 HY.out.1
          have y1 := cell_keep hw7 HY.out.2.1
          have y2 := cell_keep hw7 HY.out.2.2.1
          have y3 := cell_keep hw7 HY.out.2.2.2.1
          have y4 := cell_keep hw7 HY.out.2.2.2.2.1
          have y5 := cell_keep hw7 HY.out.2.2.2.2.2.1
          have y6 := cell_keep hw7 HY.out.2.2.2.2.2.2.1
          have y7 := cell_keep hw7 HY.out.2.2.2.2.2.2.2.1
          have y8 := cell_keep hw7 HY.out.2.2.2.2.2.2.2.2
          clear pB hW7 hb5 hb6 HNA HNB HY hw7
          generalize x5.heap.size = qa at *
          generalize x6.heap.size = qb at *
          go_upto_region 15 with (fail)
          clear n0 n1 n2 n3 n4 a1 a2 a3 a4 y0 y1 y2 y3 y4 y5 y6 y7 y8 a0
          obtain ⟨ob, hob⟩ : ∃ n, W7.heap.size = n := ⟨_, rfl⟩
          obtain ⟨W8, hW8⟩ : ∃ W, W7.alloc (.cells #[.int .i64 x.verdict, .int .i64 x.reply.fn, .int .i64 x.reply.exc, .slice da x.reply.data.length dc, .int .i64 x.reply.code, .int .i64 x.reply.level, .bool x.reply.more, .int .i64 x.reply.next, .slice oa x.reply.objs.length oc] 59) = W := ⟨_, rfl⟩
          have hb8 : Below wr.heap.size wr W8 := by rw [← hW8]; exact bta hb7 (Nat.le_refl _) _
          have pA8 : W8.heap[qa]? = some (.cells #[.int .i64 rq.fn, .int .i64 rq.addr, .int .i64 rq.qty, .int .i64 rq.code, .int .i64 rq.obj] 34) := by rw [← hW8]; exact hpKeep pA (bal' _ _)
          have pO : W8.heap[ob]? = some (.cells #[.int .i64 x.verdict, .int .i64 x.reply.fn, .int .i64 x.reply.exc, .slice da x.reply.data.length dc, .int .i64 x.reply.code, .int .i64 x.reply.level, .bool x.reply.more, .int .i64 x.reply.next, .slice oa x.reply.objs.length oc] 59) := by rw [← hW8, ← hob]; exact hpNew _ _
          rw [hW8, hob]
          have hobl : wr.heap.size ≤ ob := by rw [← hob]; exact hb7.size
          have v0 : W8.cell? ⟨ob, 0, none⟩ = some (.int .i64 x.verdict) := hpCell pO 0
          have v1 : W8.cell? ⟨ob, 1, none⟩ = some (.int .i64 x.reply.fn) := hpCell pO 1
          have f1 : W8.frozen? ⟨ob, 1, none⟩ = false := hpFree pO 1
          have a0 : W8.cell? ⟨qa, 0, none⟩ = some (.int .i64 rq.fn) := hpCell pA8 0
          have HPO := hid pO
          have HB8 := hid hb8
          clear hb7 pA pA8 pO hb8 hW8 hob
          obtain ⟨T, hT⟩ : ∃ b, (x.verdict == 1 && D) = b := ⟨_, rfl⟩
          obtain ⟨O, hO⟩ : ∃ y : Oc, (if T = true then (⟨x.verdict, { x.reply with fn := rq.fn }⟩ : Oc) else x) = y := ⟨_, rfl⟩
          have HOO := hid hO
          have HTT := hid hT
          clear hO
          go_cut [66] from 61 to 66 (fun s66 wc => W8 = wc ∧ s66 = .bool T)
          case first =>
            have hvc : (x.verdict == 1) = false ∨ ((x.verdict == 1) = true ∧ D = false) ∨ ((x.verdict == 1) = true ∧ D = true) := by
              cases D <;> cases h : (x.verdict == 1) <;> simp
            rcases hvc with hv | ⟨hv, hD'⟩ | ⟨hv, hD'⟩
            · go_wp2
              go_meet
              case rel => exact ⟨rfl, by rw [← hT, hv]; rfl⟩
            · subst hD'
              go_wp2
              go_meet
              case rel => exact ⟨rfl, by rw [← hT, hv]; rfl⟩
            · subst hD'
              go_wp2
              go_meet
              case rel => exact ⟨rfl, by rw [← hT, hv]; rfl⟩
          case rest =>
          obtain ⟨e8, rfl⟩ := hcut
          subst e8
          clear hT
          go_upto_if 66 with (fail)
          go_cut [] from 61 to 70 (fun wc => Hid (∃ da dc oa oc, RpS ob O da dc oa oc wc ∧ (∀ W', Below w.heap.size w W' → RpIs W' O.reply da dc oa oc) ∧ Below wr.heap.size wr wc))
          case first =>
            cases T with
            | false =>
              have e : O = x := HOO.out.symm
              go_wp2
              go_meet
              case rel => rw [e]; exact ⟨da, dc, oa, oc, HPO.out, HRPX.out, HB8.out⟩
            | true =>
              have e : O = ⟨x.verdict, { x.reply with fn := rq.fn }⟩ := HOO.out.symm
              go_wp2
              go_meet
              case rel =>
                rw [e]
                have hk : Keeps (· = ob) W8 (W8.setCell ⟨ob, 1, none⟩ (.int .i64 rq.fn)) := (Keeps.refl _ _).set _ _ rfl
                exact ⟨da, dc, oa, oc, hpSetP HPO.out rfl, fun W' hW => ⟨(HRPX.out W' hW).d, (HRPX.out W' hW).o, (HRPX.out W' hW).hi, (HRPX.out W' hW).lo⟩, HB8.out.trans (hk.below HB8.out.size (fun j hj e => by omega))⟩
          case rest =>
            clear v0 v1 f1 a0
            obtain ⟨ya, yc, za, zc, hS, hrpo, hbc⟩ := hcut.out
            have hcl : O.verdict = 1 → ¬ pb.ph = .done → O.reply.fn = pb.ph.ask.fn := fun h1 h2 => by
              rw [← HOO.out] at h1 ⊢
              have hdn : pb.ph.isDone = false := by
                cases h : pb.ph.isDone with
                | false => rfl
                | true => exact absurd (by cases e : pb.ph <;> rw [e] at h <;> first | rfl | cases h) h2
              have hv1 : x.verdict = 1 := by
                split at h1 <;> exact h1
              have hTt : T = true := by rw [← HTT.out, ← HDD.out, hdn, hv1]; rfl
              rw [if_pos hTt]
              exact (congrArg Rq.fn HRQ.out).symm
            have hfit : O.fit := by
              rw [← HOO.out]
              split
              · exact ⟨HFX.out.objs, HFX.out.vals, HFX.out.data, HFX.out.next⟩
              · exact HFX.out
            have hfs := feed_strip wn pb hgd.out.ok O hcl
            obtain ⟨p', hp'⟩ : ∃ p', (if pb.ph.isDone then pb else pb.feed wn O) = p' := ⟨_, rfl⟩
            obtain ⟨E, hE⟩ : ∃ e : Int, (if pb.ph.isDone then 12 else 0) = e := ⟨_, rfl⟩
            have HPA : Hid (p' = if pb.ph.isDone then pb else pb.feed wn O) := hp'.symm
            have HPB : Hid (p' = if pb.ph.isDone then pb else pb.feed wn O.strip) := by show _ = _; rw [← hfs]; exact hp'.symm
            have HE : Hid (E = if pb.ph.isDone then 12 else 0) := hE.symm
            have HGN := hid (pfed_good HWO.out hgd.out.ok hgd.out.small hgd.out.q0 hfit HPA.out)
            have hr0 := (HR.out.keep hbc).keep (Below.refl wc.heap.size wc).drew
            have hS0 : RpS ob O ya yc za zc wc.drew := hS
            have hnA : ¬ A ob := fun e => by have := (HR.out.la ob e).2; omega
            have hnB : ¬ B ob := fun e => by have := (HR.out.lb ob e).2; omega
            have HFA := hid (pfed_any HWO.out hr0.a hgd.out.ok hgd.out.q0 (by have := hgd.out.q1; omega) O ya yc za zc (fun W hK => hrpo W (hr0.bel.trans (hK.below hr0.bel.size (fun j hj e => by have := (hr0.la j e).1; omega)))) hfit p' E HPA HE)
            have z0 : ∀ V, RpS ob O ya yc za zc V → V.cell? ⟨ob, 0, none⟩ = some (.int .i64 O.verdict) := fun V h => hpCell h 0
            have z1 : ∀ V, RpS ob O ya yc za zc V → V.cell? ⟨ob, 1, none⟩ = some (.int .i64 O.reply.fn) := fun V h => hpCell h 1
            have z2 : ∀ V, RpS ob O ya yc za zc V → V.cell? ⟨ob, 2, none⟩ = some (.int .i64 O.reply.exc) := fun V h => hpCell h 2
            have z3 : ∀ V, RpS ob O ya yc za zc V → V.cell? ⟨ob, 3, none⟩ = some (.slice ya O.reply.data.length yc) := fun V h => hpCell h 3
            have z4 : ∀ V, RpS ob O ya yc za zc V → V.cell? ⟨ob, 4, none⟩ = some (.int .i64 O.reply.code) := fun V h => hpCell h 4
            have z5 : ∀ V, RpS ob O ya yc za zc V → V.cell? ⟨ob, 5, none⟩ = some (.int .i64 O.reply.level) := fun V h => hpCell h 5
            have z6 : ∀ V, RpS ob O ya yc za zc V → V.cell? ⟨ob, 6, none⟩ = some (.bool O.reply.more) := fun V h => hpCell h 6
            have z7 : ∀ V, RpS ob O ya yc za zc V → V.cell? ⟨ob, 7, none⟩ = some (.int .i64 O.reply.next) := fun V h => hpCell h 7
            have z8 : ∀ V, RpS ob O ya yc za zc V → V.cell? ⟨ob, 8, none⟩ = some (.slice za O.reply.objs.length zc) := fun V h => hpCell h 8
            have HR0 := hid hr0
            have HFI := hid hfit
            have HRO := hid hrpo
            clear hfs hp' hE hr0 hS hfit hrpo hbc hcut hcl
            go_upto_region 17 with (fail)
            go_cut [78] from 71 to 78 (fun s78 wd => s78 = .bool false ∧ Hid (∃ A B, RpRel w ga gb wn A B p' p' wd))
            case first =>
              refine wp_region_held_drew (S := RpS ob O ya yc za zc) (by kernel_rfl) hS0 (fun hH => ?_)
              refine tkD 0 71 (v := ?_) rfl (by kernel_rfl) (fun _ _ _ h => h) rfl (by rfl) (by assumption) ?_ ?_; rotate_left; (intro w hSw; (try dsimp only at hSw); go_simp; try (with_reducible rfl)); simp only [List.setIfInBounds_toArray, List.set_cons_zero, List.set_cons_succ]
              refine tkD 1 72 (v := ?_) rfl (by kernel_rfl) (fun _ _ _ h => h) rfl (by rfl) (by assumption) ?_ ?_; rotate_left; (intro w hSw; (try dsimp only at hSw); go_simp; try (with_reducible rfl)); simp only [List.setIfInBounds_toArray, List.set_cons_zero, List.set_cons_succ]
              refine tkD 3 74 (v := ?_) rfl (by kernel_rfl) (fun _ _ _ h => h) rfl (by rfl) (by assumption) ?_ ?_; rotate_left; (intro w hSw; (try dsimp only at hSw); go_simp; try (with_reducible rfl)); simp only [List.setIfInBounds_toArray, List.set_cons_zero, List.set_cons_succ]
              refine tkD 4 75 (v := ?_) rfl (by kernel_rfl) (fun _ _ _ h => h) rfl (by rfl) (by assumption) ?_ ?_; rotate_left; (intro w hSw; (try dsimp only at hSw); go_simp; try (with_reducible rfl)); simp only [List.setIfInBounds_toArray, List.set_cons_zero, List.set_cons_succ]
              clear hH z0 z1 z2 z3 z4 z5 z6 z7 z8
              refine wpAnyH_ready (rs := [2]) (by kernel_rfl) (by simp) ?_
              refine AllReadyH.cons rfl (fun K hK => ?_) AllReadyH.nil
              go_simp
              refine HFA.out.mono ?_
              rintro r x1 ⟨rfl, hfa⟩
              obtain ⟨A', hr1, -⟩ := HR0.out.fedA hfa
              obtain ⟨_, _, _, hkA⟩ := id hfa
              have hS1 : RpS ob O ya yc za zc x1 := hpKeeps hS0 hkA hnA
              have HR1 := hid hr1
              have HST := hid (strip_one O ya za yc zc x1 (HRO.out x1 hr1.bel) HFI.out)
              refine hK.out _ _ hS1 (fun hSx => ?_)
              clear hK K hSx
              refine wpAnyH_ready (rs := [5]) (by kernel_rfl) (by simp) ?_
              refine AllReadyH.cons rfl (fun K hK => ?_) AllReadyH.nil
              go_simp
              refine HST.out.mono ?_
              rintro r x2 ⟨sa, sc, ta, tc, rfl, hrd2, hb2⟩
              have hr2 := HR1.out.keep hb2
              have hS2 : RpS ob O ya yc za zc x2 := hpKeep hS1 hb2
              have HR2 := hid hr2
              have HFB := hid (pfed_any HWO.out hr2.b hgd.out.ok hgd.out.q0 (by have := hgd.out.q1; omega) O.strip sa sc ta tc (fun W hK => hrd2 W (Agree.of_keeps hK (fun j e => (HR1.out.lb j e).2))) HFI.out.strip p' E HPB HE)
              refine hK.out _ _ hS2 (fun hSx => ?_)
              clear hK K hSx
              refine wpAnyH_ready (rs := [6]) (by kernel_rfl) (by simp) ?_
              refine AllReadyH.cons rfl (fun K hK => ?_) AllReadyH.nil
              go_simp
              refine HFB.out.mono ?_
              rintro r x3 ⟨rfl, hfb⟩
              obtain ⟨B', hr3, -⟩ := HR2.out.fedB hfb
              obtain ⟨_, _, _, hkB⟩ := id hfb
              have hS3 : RpS ob O ya yc za zc x3 := hpKeeps hS2 hkB hnB
              refine hK.out _ _ hS3 (fun hSx => ?_)
              clear hK K hSx
              refine tkD 7 78 (v := ?_) rfl (by kernel_rfl) (fun _ _ _ h => h) rfl (by rfl) (by assumption) ?_ ?_; rotate_left; (intro w hSw; (try dsimp only at hSw); go_simp; try (with_reducible rfl)); simp only [List.setIfInBounds_toArray, List.set_cons_zero, List.set_cons_succ]
              refine wpAnyH_done (by kernel_rfl) ?_ _
              go_wp2
              go_meet
              case rel => exact ⟨rfl, _, _, hr3⟩
            case rest =>
              obtain ⟨rfl, hR'⟩ := hcut
              clear z0 z1 z2 z3 z4 z5 z6 z7 z8 hS0
              have HGN' : Hid (RpGd wn p' (k + 1)) := by
                obtain ⟨h1, h2, h3, h4⟩ := HGN.out
                exact ⟨h1, h2, h3, by have := hgd.out.q1; omega⟩
              go_wp2
              go_roundw
              case rel => exact ⟨k + 1, p', by go_num, by omega, HGN', hR'⟩
              case measure => simp [intOf]; omega
        · obtain ⟨dd, hdd⟩ : ∃ d, (if pb.ph.isDone then pb.d else Dv.zero) = d := ⟨_, rfl⟩
          have hsm : dd.small := by
            rw [← hdd]
            split
            · exact hgd.out.small
            · exact Dv.zero_small
          have HRA := hid (presult_any HR.out.a hgd.out.small dd _ rfl hdd.symm)
          have HRB := hid (fun X (hX : Below wr.heap.size wr X) => presult_any (HR.out.keep hX).b hgd.out.small dd _ rfl hdd.symm)
          have HSM := hid hsm
          obtain ⟨V, hV⟩ : ∃ b, pb.ph.isDone = b := ⟨_, rfl⟩
          rw [hV] at HRA HRB
          have hkl : ¬ (k : Int) < (ln : Int) := by omega
          clear hD hdd hsm hV
          go_upto_region 20 with (first
            | (go_at_call 13; (with_reducible refine HRA.out.mono ?_); rintro r x4 ⟨ov, sv, mv, rfl, hr4, hc4⟩; have h14 := DvC_one (hr4 x4 (Agree.refl _ _)); have HR4 := hid hr4; clear hr4)
            | (refine wpList_storeW rfl 44 (.tmp 13) (.tmp 82) rfl x4.heap.size 0 _ 44 (DvC dd ov sv mv) rfl rfl (hpNew x4 (.cells #[.int .i64 0, .int .i64 0, .int .i64 0, .int .i64 0, .int .i64 0, .slice none 0 0, .int .i64 0, .slice none 0 0, .int .i64 0, .int .i64 0, .slice none 0 0, .int .i64 0, .int .i64 0, .slice none 0 0, .int .i64 0, .int .i64 0, .slice none 0 0, .int .i64 0, .int .i64 0, .slice none 0 0, .string ⟨#[]⟩] 44)) (by simp [DvC]) info21 h14 ?_; intro x5 g5 hk5 hz5))
          have g5' : x5.heap[x4.heap.size]? = some (.cells (DvC dd ov sv mv) 44) := g5
          have hb5' : Below x4.heap.size x4 x5 := (bal' x4 (.cells #[.int .i64 0, .int .i64 0, .int .i64 0, .int .i64 0, .int .i64 0, .slice none 0 0, .int .i64 0, .slice none 0 0, .int .i64 0, .int .i64 0, .slice none 0 0, .int .i64 0, .int .i64 0, .slice none 0 0, .int .i64 0, .int .i64 0, .slice none 0 0, .int .i64 0, .int .i64 0, .slice none 0 0, .string ⟨#[]⟩] 44)).trans (hk5.below (by simp) (fun j hj e => by omega))
          have hb5 : Below wr.heap.size wr x5 := (bta hc4 (Nat.le_refl _) (.cells #[.int .i64 0, .int .i64 0, .int .i64 0, .int .i64 0, .int .i64 0, .slice none 0 0, .int .i64 0, .slice none 0 0, .int .i64 0, .int .i64 0, .slice none 0 0, .int .i64 0, .int .i64 0, .slice none 0 0, .int .i64 0, .int .i64 0, .slice none 0 0, .int .i64 0, .int .i64 0, .slice none 0 0, .string ⟨#[]⟩] 44)).trans (hk5.below (by have := hc4.size; simp; omega) (fun j hj e => by have := hc4.size; omega))
          have hg5 : DvRd x5 dd ov sv mv := HR4.out x5 ⟨hb5'.size, fun j _ hl => by rw [hk5.block j (by simp; omega) (by omega)]; exact (bal' x4 _).block j hl⟩
          have HG5 := hid hg5
          have HP5 := hid g5'
          have HB5 := hid hb5
          clear g5 g5' hk5 hz5 hb5' hg5 hb5 h14 HR4 hc4 HRA
          generalize x4.heap.size = pa at *
          go_upto_region 21 with (first
            | (go_at_call 13; (with_reducible refine (HRB.out _ HB5.out).mono ?_); rintro r x6 ⟨ov6, sv6, mv6, rfl, hr6, hc6⟩; have h16 := DvC_one (hr6 x6 (Agree.refl _ _)); have HR6 := hid hr6; clear hr6)
            | (refine wpList_storeW rfl 44 (.tmp 15) (.tmp 87) rfl x6.heap.size 0 _ 44 (DvC dd ov6 sv6 mv6) rfl rfl (hpNew x6 (.cells #[.int .i64 0, .int .i64 0, .int .i64 0, .int .i64 0, .int .i64 0, .slice none 0 0, .int .i64 0, .slice none 0 0, .int .i64 0, .int .i64 0, .slice none 0 0, .int .i64 0, .int .i64 0, .slice none 0 0, .int .i64 0, .int .i64 0, .slice none 0 0, .int .i64 0, .int .i64 0, .slice none 0 0, .string ⟨#[]⟩] 44)) (by simp [DvC]) info21 h16 ?_; intro x7 g7 hk7 hz7))
          have g7' : x7.heap[x6.heap.size]? = some (.cells (DvC dd ov6 sv6 mv6) 44) := g7
          have hb7' : Below x6.heap.size x6 x7 := (bal' x6 (.cells #[.int .i64 0, .int .i64 0, .int .i64 0, .int .i64 0, .int .i64 0, .slice none 0 0, .int .i64 0, .slice none 0 0, .int .i64 0, .int .i64 0, .slice none 0 0, .int .i64 0, .int .i64 0, .slice none 0 0, .int .i64 0, .int .i64 0, .slice none 0 0, .int .i64 0, .int .i64 0, .slice none 0 0, .string ⟨#[]⟩] 44)).trans (hk7.below (by simp) (fun j hj e => by omega))
          have hb57 : Below x5.heap.size x5 x7 := bt hc6 hb7' (Nat.le_refl _)
          have hg7 : DvRd x7 dd ov6 sv6 mv6 := HR6.out x7 ⟨hb7'.size, fun j _ hl => by rw [hk7.block j (by simp; omega) (by omega)]; exact (bal' x6 _).block j hl⟩
          have hg57 : DvRd x7 dd ov sv mv := ⟨HG5.out.1.keep hb57, HG5.out.2.1.keep hb57, fun k hk => (HG5.out.2.2 k hk).keep hb57⟩
          have hp57 := hpKeep HP5.out hb57
          have HSD : Hid (∀ X, Below x7.heap.size x7 X → Calls Try.prog 15 #[.agg (DvC dd ov sv mv), .agg (DvC dd ov6 sv6 mv6)] X (BoolPost X true)) := fun X hX =>
            samedev_eq dd HSM.out ov sv mv ov6 sv6 mv6 X ⟨hg57.1.keep hX, hg57.2.1.keep hX, fun k hk => (hg57.2.2 k hk).keep hX⟩ ⟨hg7.1.keep hX, hg7.2.1.keep hX, fun k hk => (hg7.2.2 k hk).keep hX⟩
          have HGA := hid (fun X (hX : Below x7.heap.size x7 X) => hpKeep hp57 hX)
          have HGB := hid (fun X (hX : Below x7.heap.size x7 X) => hpKeep g7' hX)
          have HB7 := hid (bt (bt HR.out.bel HB5.out (Nat.le_refl _)) hb57 (Nat.le_refl _))
          clear g7 g7' hk7 hz7 hb7' hg7 h16 HR6 hc6 HRB HP5 HG5 HB5 hg57 hp57 hb57
          generalize x6.heap.size = pc at *
          have hi1 : (Try.prog.info? 44).map (·.size) = some (DvC dd ov sv mv).size := info21
          have hi2 : (Try.prog.info? 44).map (·.size) = some (DvC dd ov6 sv6 mv6).size := info21
          generalize DvC dd ov sv mv = C1 at *
          generalize DvC dd ov6 sv6 mv6 = C2 at *
          go_wp2_with (first
            | (go_at_call 18; (with_reducible refine (HAW.out _).mono ?_); rintro r x8 ⟨rfl, hb8⟩)
            | (refine wpList_load_rowG (by rfl) 44 (.tmp 13) rfl pa rfl 44 C1 (0, 0) _ (HGA.out _ hb8) Try.underlying44 rfl hi1 ?_)
            | (refine wpList_load_rowG (by rfl) 44 (.tmp 15) rfl pc rfl 44 C2 (0, 0) _ (HGB.out _ hb8) Try.underlying44 rfl hi2 ?_)
            | (go_at_call 15; (with_reducible refine (HSD.out _ hb8).mono ?_); rintro r x9 ⟨rfl, hb9⟩))
          go_ret
          exact ⟨rfl, bt (bt HB7.out hb8 (Nat.le_refl _)) hb9 (Nat.le_refl _)⟩

end Go.Proofs.Ytliblgmpclefgaa
