/-
  The walk of the law ProbeBudget.
-/
import Derived.Test.YtliblgmpclefgaaMbh
import Derived.Test.YtliblgmpclefgaaPbt
import Derived.Test.YtliblgmpclefgaaOcn
namespace Go.Proofs.Ytliblgmpclefgaa
open Go.RowKit

theorem okWide_arr4 {P : Program} {w : World} {r : Reach} {base : Nat} {t e : TypeId} {n : Nat} {v : Value} (ht : P.underlying t = some (.array n e)) (h : Value.okWide P w r base t v) : ∃ cs, v = .agg cs ∧ cs.size = P.cellsOf t := by
  simp only [Value.okWide, ht] at h
  obtain ⟨cs, h1, h2, _⟩ := h
  exact ⟨cs, h1, h2⟩
theorem cellsW : Try.prog.cellsOf 24 = 8 := by kernel_rfl
theorem cellsR : Try.prog.cellsOf 23 = 2 := by kernel_rfl
theorem win_rd {w : World} {cs : Array Value} (h : Rd Try.prog w 24 cs.toList) : ∃ win : Nat → Int × Int, cs = WgC win ∧ ∀ k, k < 4 → (Lit.int .i64 (win k).1).wf = true ∧ (Lit.int .i64 (win k).2).wf = true := by
  obtain ⟨hl, hel⟩ := h.array Try.underlying24
  rw [cellsW] at hl
  have hk : ∀ k, k < 4 → ∃ a b : Int, cs.toList[k * 2]? = some (.int .i64 a) ∧ cs.toList[k * 2 + 1]? = some (.int .i64 b) ∧ (Lit.int .i64 a).wf = true ∧ (Lit.int .i64 b).wf = true := fun k hk => by
    have h1 := hel k hk
    rw [cellsR] at h1
    obtain ⟨hl1, hf⟩ := h1.struct Try.underlying23
    rw [cellsR] at hl1
    obtain ⟨c0, c1, e⟩ := lst2 hl1
    rw [e] at hf
    have f0 := hf _ (List.mem_cons_self ..)
    have f1 := hf _ (List.mem_cons_of_mem _ (List.mem_cons_self ..))
    simp only [cellsInt, List.drop_zero, List.drop_succ_cons, List.take_succ_cons, List.take_zero] at f0 f1
    obtain ⟨a, e0, w0⟩ := Rd.int Try.underlying3 f0
    obtain ⟨b, e1, w1⟩ := Rd.int Try.underlying3 f1
    simp only [List.cons.injEq, and_true] at e0 e1
    subst e0 e1
    refine ⟨a, b, ?_, ?_, w0, w1⟩
    · have := congrArg (fun l => l[0]?) e
      simpa using this
    · have := congrArg (fun l => l[1]?) e
      simpa using this
  obtain ⟨a0, b0, p0, q0, u0, v0⟩ := hk 0 (by decide)
  obtain ⟨a1, b1, p1, q1, u1, v1⟩ := hk 1 (by decide)
  obtain ⟨a2, b2, p2, q2, u2, v2⟩ := hk 2 (by decide)
  obtain ⟨a3, b3, p3, q3, u3, v3⟩ := hk 3 (by decide)
  refine ⟨fun k => if k = 0 then (a0, b0) else if k = 1 then (a1, b1) else if k = 2 then (a2, b2) else (a3, b3), ?_, fun k hk => ?_⟩
  · obtain ⟨l⟩ := cs
    obtain ⟨x0, x1, x2, x3, x4, x5, x6, x7, rfl⟩ := lst8 hl
    simp at p0 q0 p1 q1 p2 q2 p3 q3
    subst p0 q0 p1 q1 p2 q2 p3 q3
    rfl
  · match k, hk with
    | 0, _ => exact ⟨u0, v0⟩
    | 1, _ => exact ⟨u1, v1⟩
    | 2, _ => exact ⟨u2, v2⟩
    | 3, _ => exact ⟨u3, v3⟩

theorem small_fit {l : List Oc} {n : Int} (h : smallOcs l n = true) (hx : ∀ (i : Nat) (x : Oc), l[i]? = some x → x.reply.next ≤ 9223372036854775807) {i : Nat} {x : Oc} (hi : l[i]? = some x) : x.fit := by
  simp only [smallOcs, Bool.and_eq_true, List.all_eq_true, Rp.small, smallObs, decide_eq_true_eq] at h
  have h1 := h.1 x (List.mem_of_getElem? hi)
  exact ⟨h1.2.1, h1.2.2, h1.1, hx i x hi⟩

/-- Where the law's loop stands. -/
structure BgRel (w : World) (g sb cb : Nat) (wn : Nat → Int × Int) (U : Int) (k : Nat) (qb : Nat) (P : Nat → Prop) (pb : Pb) (W : World) : Prop where
  rq : W.heap[qb]? = some (.cells #[.int .i64 pb.ph.ask.fn, .int .i64 pb.ph.ask.addr, .int .i64 pb.ph.ask.qty, .int .i64 pb.ph.ask.code, .int .i64 pb.ph.ask.obj] 34)
  nq : ¬ P qb
  at_ : PbAt P W g wn pb
  good : PbGood wn U pb
  q : pb.q = k
  lo : ∀ j, P j → w.heap.size ≤ j ∧ j < W.heap.size
  ns : ¬ P sb
  nc : ¬ P cb
  st : W.heap[sb]? = some (.cells #[.int .i64 1200, .int .i64 0] 64)
  cf : W.heap[cb]? = some (.cells #[.slice (some ⟨sb, 0, none⟩) 1 1, .int .i64 1, .int .i64 1, .int .i64 0, .int .i64 1, .int .i64 0, .int .i64 (wn 0).1, .int .i64 (wn 0).2, .int .i64 (wn 1).1, .int .i64 (wn 1).2, .int .i64 (wn 2).1, .int .i64 (wn 2).2, .int .i64 (wn 3).1, .int .i64 (wn 3).2, .int .i64 1, .int .i64 0] 67)
  bel : Below w.heap.size w W

set_option maxRecDepth 100000 in
set_option maxHeartbeats 12800000 in
theorem Walk.probeBudget {w : World} (cs : Array Value) (hr : Rd Try.prog w 24 cs.toList) (lv : Value) (hlr : Rd Try.prog w 25 [lv]) :
    Calls Try.prog 5 #[.agg cs, lv] w fun r w' => r = .returned (.bool true) ∧ Below w.heap.size w w' := by
  obtain ⟨win, rfl, hwf⟩ := win_rd hr
  obtain ⟨l, hl, hnx⟩ := ocsx_rd hlr
  obtain ⟨la, lc, rfl, -⟩ := id hl
  obtain ⟨W0, hW0⟩ : ∃ W, w.alloc (.cells #[.int .i64 (win 0).1, .int .i64 (win 0).2, .int .i64 (win 1).1, .int .i64 (win 1).2, .int .i64 (win 2).1, .int .i64 (win 2).2, .int .i64 (win 3).1, .int .i64 (win 3).2] 24) = W := ⟨_, rfl⟩
  have hb0 : Below w.heap.size w W0 := by rw [← hW0]; exact bal' w _
  have p0 : WgI W0 w.heap.size win := by rw [← hW0]; exact hpNew w _
  have HAW := hid awake26_any
  obtain ⟨V, hV⟩ : ∃ V, smallOcs l 60 = V := ⟨_, rfl⟩
  have HMO : Hid (Calls Try.prog 6 #[.slice la l.length lc, .int .i64 60] W0 (BoolPost W0 V)) := mocs_any _ l 60 W0 (hl.keep hb0) V hV
  have HW0 := hid hW0
  have HB0 := hid hb0
  have HL := hid hl
  have P0 := hid p0
  clear hr hlr hW0 hb0 hl p0
  show Calls _ _ #[.agg #[.int .i64 (win 0).1, .int .i64 (win 0).2, .int .i64 (win 1).1, .int .i64 (win 1).2, .int .i64 (win 2).1, .int .i64 (win 2).2, .int .i64 (win 3).1, .int .i64 (win 3).2], _] w _
  obtain ⟨ln, hln⟩ : ∃ n, l.length = n := ⟨_, rfl⟩
  rw [hln] at HMO HL ⊢
  have HLN := hid hln
  clear hln
  cases V with
  | false =>
    clear hV hnx hwf
    go_enter Try.func5, Try.ntmps5
    go_upto_region 1 with (fail)
    rw [HW0.out]
    go_wp2_with (first
      | (go_at_call 6; (with_reducible refine HMO.out.mono ?_); rintro r w1 ⟨rfl, hb1⟩)
      | (go_at_call 7; (with_reducible refine (HAW.out _).mono ?_); rintro r w2 ⟨rfl, hb2⟩))
    go_ret
    exact ⟨rfl, bt (bt HB0.out hb1 (Nat.le_refl _)) hb2 (Nat.le_refl _)⟩
  | true =>
    have HFT : Hid (∀ (i : Nat) (x : Oc), l[i]? = some x → x.fit) := fun i x h => small_fit hV hnx h
    have HWD : Hid (∀ X, Calls Try.prog 8 #[.agg #[.int .i64 (win 0).1, .int .i64 (win 0).2, .int .i64 (win 1).1, .int .i64 (win 1).2, .int .i64 (win 2).1, .int .i64 (win 2).2, .int .i64 (win 3).1, .int .i64 (win 3).2]] X (WdPost X)) := fun X => windows_any win hwf X
    clear hV hnx hwf
    go_enter Try.func5, Try.ntmps5
    go_upto_region 1 with (fail)
    rw [HW0.out]
    go_upto_region 3 with (go_at_call 6; (with_reducible refine HMO.out.mono ?_); rintro r w1 ⟨rfl, hb1⟩)
    have P1 := hid (hpKeep P0.out hb1)
    go_upto_region 4 with (first
      | (refine wpList_load_row rfl 24 (.tmp 2) rfl w.heap.size rfl 24 #[.int .i64 (win 0).1, .int .i64 (win 0).2, .int .i64 (win 1).1, .int .i64 (win 1).2, .int .i64 (win 2).1, .int .i64 (win 2).2, .int .i64 (win 3).1, .int .i64 (win 3).2] (0, 0) _ P1.out Try.underlying24 rfl infoW ?_)
      | (go_at_call 8; (with_reducible refine (HWD.out _).mono ?_); rintro r w2 ⟨wn, rfl, hw12, hb2⟩; have P2 := hid (hpKeep P1.out hb2))
      | (refine wpList_storeW rfl 24 (.tmp 2) (.tmp 18) rfl w.heap.size 0 _ 24 (WgC wn) rfl rfl P2.out (by simp [WgC]) infoW rfl ?_; intro w3 g3 hk3 hz3))
    have g3' : w3.heap[w.heap.size]? = some (.cells #[.int .i64 (wn 0).1, .int .i64 (wn 0).2, .int .i64 (wn 1).1, .int .i64 (wn 1).2, .int .i64 (wn 2).1, .int .i64 (wn 2).2, .int .i64 (wn 3).1, .int .i64 (wn 3).2] 24) := g3
    have hB2 : Below w.heap.size w w2 := bt (bt HB0.out hb1 (Nat.le_refl _)) hb2 (Nat.le_refl _)
    have hB3 : Below w.heap.size w w3 := hB2.trans (hk3.below hB2.size (fun j hj e => by omega))
    have hwok : WinOk wn := fun k hk => by have := hw12 k hk; exact ⟨this.1, by have := this.2.1; omega, this.2.2.1, this.2.2.2.1⟩
    have HNW : Hid (∀ X, Calls Try.prog 9 #[.agg #[.int .i64 (wn 0).1, .int .i64 (wn 0).2, .int .i64 (wn 1).1, .int .i64 (wn 1).2, .int .i64 (wn 2).1, .int .i64 (wn 2).2, .int .i64 (wn 3).1, .int .i64 (wn 3).2]] X fun r w' => ∃ g : Nat, r = .returned (.pointer (some ⟨g, 0, none⟩)) ∧ X.heap.size ≤ g ∧ PbAt (Grw (fun _ => False) X w') w' g wn ⟨.test, Dv.zero, 0⟩ ∧ Below X.heap.size X w') := fun X => pnew_ok wn hwok X
    have G3 := hid g3'
    have HB3 := hid hB3
    have HWO := hid hwok
    have HW12 := hid hw12
    clear g3 g3' hk3 hz3 hB2 hB3 hwok hw12 HWD P2 P1 P0 HMO HW0 hb1 hb2
    go_upto_region 7 with (first
      | (refine wpList_load_row rfl 24 (.tmp 2) rfl w.heap.size rfl 24 #[.int .i64 (wn 0).1, .int .i64 (wn 0).2, .int .i64 (wn 1).1, .int .i64 (wn 1).2, .int .i64 (wn 2).1, .int .i64 (wn 2).2, .int .i64 (wn 3).1, .int .i64 (wn 3).2] (0, 0) _ G3.out Try.underlying24 rfl infoW ?_)
      | (go_at_call 9; (with_reducible refine (HNW.out _).mono ?_); rintro r w4 ⟨g, rfl, hg4, hp4, hb4⟩))
    have G4 := hid (hpKeep (hpKeep G3.out hb4) (bal' w4 (.cells #[.int .i64 1200, .int .i64 0] 64)))
    obtain ⟨W5, hW5⟩ : ∃ W, (w4.alloc (.cells #[.int .i64 1200, .int .i64 0] 64)).alloc (.cells #[.slice (some ⟨w4.heap.size, 0, none⟩) 1 1, .int .i64 1, .int .i64 1, .int .i64 0, .int .i64 1, .int .i64 0, .int .i64 (wn 0).1, .int .i64 (wn 0).2, .int .i64 (wn 1).1, .int .i64 (wn 1).2, .int .i64 (wn 2).1, .int .i64 (wn 2).2, .int .i64 (wn 3).1, .int .i64 (wn 3).2, .int .i64 1, .int .i64 0] 67) = W := ⟨_, rfl⟩
    have hb5 : Below w4.heap.size w4 W5 := by rw [← hW5]; exact bta (bal' w4 _) (Nat.le_refl _) _
    have hz5 : W5.heap.size = w4.heap.size + 2 := by rw [← hW5]; simp
    have pS : W5.heap[w4.heap.size]? = some (.cells #[.int .i64 1200, .int .i64 0] 64) := by rw [← hW5]; exact hpKeep (hpNew w4 _) (bal' _ _)
    have pC : W5.heap[w4.heap.size + 1]? = some (.cells #[.slice (some ⟨w4.heap.size, 0, none⟩) 1 1, .int .i64 1, .int .i64 1, .int .i64 0, .int .i64 1, .int .i64 0, .int .i64 (wn 0).1, .int .i64 (wn 0).2, .int .i64 (wn 1).1, .int .i64 (wn 1).2, .int .i64 (wn 2).1, .int .i64 (wn 2).2, .int .i64 (wn 3).1, .int .i64 (wn 3).2, .int .i64 1, .int .i64 0] 67) := by
      rw [← hW5]
      have := hpNew (w4.alloc (.cells #[.int .i64 1200, .int .i64 0] 64)) (.cells #[.slice (some ⟨w4.heap.size, 0, none⟩) 1 1, .int .i64 1, .int .i64 1, .int .i64 0, .int .i64 1, .int .i64 0, .int .i64 (wn 0).1, .int .i64 (wn 0).2, .int .i64 (wn 1).1, .int .i64 (wn 1).2, .int .i64 (wn 2).1, .int .i64 (wn 2).2, .int .i64 (wn 3).1, .int .i64 (wn 3).2, .int .i64 1, .int .i64 0] 67)
      simpa using this
    have hp5 := hp4.keep (F := fun _ => False) (Keeps.of_below hb5) (fun _ _ e => e.elim)
    have HNX := hid (pnext_any hp5 trivial rqT true rfl rfl)
    have HP5 := hid hp5
    have PS := hid pS
    have PC := hid pC
    have HW5 := hid hW5
    have HB4 := hid hb4
    have HB5 := hid hb5
    have HZ5 := hid hz5
    clear hp4 hp5 pS pC hW5 hb4 hb5 hz5 HNW
    go_upto_region 8 with (refine wpList_load_row rfl 24 (.tmp 2) rfl w.heap.size rfl 24 #[.int .i64 (wn 0).1, .int .i64 (wn 0).2, .int .i64 (wn 1).1, .int .i64 (wn 1).2, .int .i64 (wn 2).1, .int .i64 (wn 2).2, .int .i64 (wn 3).1, .int .i64 (wn 3).2] (0, 0) _ G4.out Try.underlying24 rfl infoW ?_)
    rw [HW5.out]
    clear G4
    go_wp2_with (go_at_call 11; (with_reducible refine HNX.out.mono ?_); rintro r w6 ⟨rfl, hb6⟩)
    obtain ⟨U, hU⟩ : ∃ U, unitS wn 4 = U := ⟨_, rfl⟩
    have HU := hid hU
    have hUb := unitS_bd HW12.out 4 (Nat.le_refl _)
    rw [hU] at hUb
    have HST : Hid (BgRel w g w4.heap.size (w4.heap.size + 1) wn U 0 w6.heap.size (Grw (fun _ => False) w3 w4) ⟨.test, Dv.zero, 0⟩ (w6.alloc (.cells #[.int .i64 rqT.fn, .int .i64 rqT.addr, .int .i64 rqT.qty, .int .i64 rqT.code, .int .i64 rqT.obj] 34))) := by
      have hz := HZ5.out
      have h6 := hb6.size
      have h3 := HB3.out.size
      have h4 := HB4.out.size
      refine ⟨hpNew _ _, fun e => ?_, (HP5.out.keep (F := fun _ => False) (Keeps.of_below hb6) (fun _ _ e => e.elim)).keep (F := fun _ => False) (Keeps.of_below (bal' _ _)) (fun _ _ e => e.elim), ⟨trivial, trivial, Dv.zero_small, Int.le_refl _, ?_⟩, rfl, fun j hj => ?_, fun e => ?_, fun e => ?_, hpKeep (hpKeep PS.out hb6) (bal' _ _), hpKeep (hpKeep PC.out hb6) (bal' _ _), bta (bt (bt (bt HB3.out HB4.out (Nat.le_refl _)) HB5.out (Nat.le_refl _)) hb6 (Nat.le_refl _)) (Nat.le_refl _) _⟩
      · rcases e with e | e
        · exact e
        · omega
      · show 0 + (34 + tl wn 0) ≤ U
        unfold tl
        rw [HU.out]
        show 0 + (34 + (U - 34)) ≤ U
        omega
      · rcases hj with hj | hj
        · exact hj.elim
        · simp
          omega
      · rcases e with e | e
        · exact e
        · omega
      · rcases e with e | e
        · exact e
        · omega
    clear PS PC HP5 HNX HB5 HZ5 hU HB4
    generalize w4.heap.size = sb at *
    generalize hqb : w6.heap.size = qb0 at *
    go_loopw [7, 8, 9] (fun iv sq sk wr => ∃ (k qb : Nat) (P : Nat → Prop) (pb : Pb) (D : Bool), iv = .int .i64 k ∧ sq = .pointer (some ⟨qb, 0, none⟩) ∧ sk = .bool D ∧ Hid ((!pb.ph.isDone) = D) ∧ (k : Int) ≤ U ∧ Hid (BgRel w g sb (sb + 1) wn U k qb P pb wr)) (fun iv _ _ _ => U.toNat - (intOf iv).toNat)
    case atStart => exact ⟨0, qb0, _, ⟨.test, Dv.zero, 0⟩, true, rfl, rfl, rfl, rfl, by omega, HST.out⟩
    case round =>
      obtain ⟨k, qb, P, pb, D, rfl, rfl, rfl, hD, hkU, hrel⟩ := hrel
      clear HST
      cases D with
      | false =>
        have hdn : pb.ph.isDone = true := by have := hD.out; cases h : pb.ph.isDone <;> simp_all
        have HRS := hid (presult_any hrel.out.at_ hrel.out.good.small pb.d true hdn (by rw [hdn]; rfl))
        have hki : (0 : Int) ≤ (k : Int) := Int.natCast_nonneg _
        clear hD
        go_upto_region 20 with (fail)
        go_wp2_with (first
          | (go_at_call 13; (with_reducible refine HRS.out.mono ?_); rintro r x4 ⟨ov, sv, mv, rfl, hr4, hc4⟩; have h14 := DvC_one (hr4 x4 (Agree.refl _ _)); have HQ4 := hid ((hrel.out.at_.keep (F := fun _ => False) (Keeps.of_below hc4) (fun _ _ e => e.elim)).keep (F := fun _ => False) (Keeps.of_below (bal' x4 (.cells #[.int .i64 0, .int .i64 0, .int .i64 0, .int .i64 0, .int .i64 0, .slice none 0 0, .int .i64 0, .slice none 0 0, .int .i64 0, .int .i64 0, .slice none 0 0, .int .i64 0, .int .i64 0, .slice none 0 0, .int .i64 0, .int .i64 0, .slice none 0 0, .int .i64 0, .int .i64 0, .slice none 0 0, .string ⟨#[]⟩] 44))) (fun _ _ e => e.elim)); clear hr4)
          | (refine wpList_storeW rfl 44 (.tmp 11) (.tmp 81) rfl x4.heap.size 0 _ 44 (DvC pb.d ov sv mv) rfl rfl (hpNew x4 (.cells #[.int .i64 0, .int .i64 0, .int .i64 0, .int .i64 0, .int .i64 0, .slice none 0 0, .int .i64 0, .slice none 0 0, .int .i64 0, .int .i64 0, .slice none 0 0, .int .i64 0, .int .i64 0, .slice none 0 0, .int .i64 0, .int .i64 0, .slice none 0 0, .int .i64 0, .int .i64 0, .slice none 0 0, .string ⟨#[]⟩] 44)) (by simp [DvC]) info21 h14 ?_; intro x5 g5 hk5 hz5; have HQU := hid (fun X (hX : Below x5.heap.size x5 X) => pqueries_any ((HQ4.out.keep hk5 (fun j _ e h => (by have := (hrel.out.lo j h).2; have := hc4.size; omega))).keep (F := fun _ => False) (Keeps.of_below hX) (fun _ _ e => e.elim)) (k : Int) hrel.out.q))
          | (go_at_call 7; (with_reducible refine (HAW.out _).mono ?_); rintro r x6 ⟨rfl, hb6⟩)
          | (go_at_call 14; (with_reducible refine (HQU.out _ hb6).mono ?_); rintro r x7 ⟨rfl, hb7⟩))
        go_ret
        have hs0 := hrel.out.bel.size
        have hs4 := hc4.size
        exact ⟨rfl, bt (bt ((bta (bt hrel.out.bel hc4 (Nat.le_refl _)) (Nat.le_refl _) _).trans (hk5.below (B := w.heap.size) (by simp; omega) (fun j hj e => by omega))) hb6 (Nat.le_refl _)) hb7 (Nat.le_refl _)⟩
      | true =>
        have hnd : pb.ph.isDone = false := by have := hD.out; cases h : pb.ph.isDone <;> simp_all
        have hd : pb.ph ≠ .done := fun e => by rw [e] at hnd; cases hnd
        have hki : (0 : Int) ≤ (k : Int) := Int.natCast_nonneg _
        clear hD hnd
        obtain ⟨qf, hqf⟩ : ∃ a, pb.ph.ask.fn = a := ⟨_, rfl⟩
        obtain ⟨qo, hqo⟩ : ∃ a, pb.ph.ask.obj = a := ⟨_, rfl⟩
        have c0 : wr.cell? ⟨qb, 0, none⟩ = some (.int .i64 qf) := by rw [← hqf]; exact hpCell hrel.out.rq 0
        have c4 : wr.cell? ⟨qb, 4, none⟩ = some (.int .i64 qo) := by rw [← hqo]; exact hpCell hrel.out.rq 4
        obtain ⟨nx, hnx⟩ : ∃ a, IntKind.i64.wrap (qo + 2) = a := ⟨_, rfl⟩
        have hnxb : nx ≤ 9223372036854775807 := by have := bounds_i64 (wf_wrap .i64 (qo + 2)); rw [hnx] at this; exact this.2
        clear hqf hqo
        go_upto_region 13 with (fail)
        obtain ⟨x1, hx1⟩ : ∃ X, (wr.alloc (.cells #[.int .i64 qo, .slice none 0 0] 69)).alloc (.cells #[.int .i64 1, .int .i64 qf, .int .i64 0, .slice none 0 0, .int .i64 3, .int .i64 1, .bool true, .int .i64 nx, .slice (some ⟨wr.heap.size, 0, none⟩) 1 1] 59) = X := ⟨_, rfl⟩
        rw [hx1]
        have hb1x : Below wr.heap.size wr x1 := by rw [← hx1]; exact bta (bal' wr _) (Nat.le_refl _) _
        have pB : x1.heap[wr.heap.size]? = some (.cells #[.int .i64 qo, .slice none 0 0] 69) := by rw [← hx1]; exact hpKeep (hpNew wr _) (bal' _ _)
        have pO : x1.heap[wr.heap.size + 1]? = some (.cells #[.int .i64 1, .int .i64 qf, .int .i64 0, .slice none 0 0, .int .i64 3, .int .i64 1, .bool true, .int .i64 nx, .slice (some ⟨wr.heap.size, 0, none⟩) 1 1] 59) := by
          rw [← hx1]
          have := hpNew (wr.alloc (.cells #[.int .i64 qo, .slice none 0 0] 69)) (.cells #[.int .i64 1, .int .i64 qf, .int .i64 0, .slice none 0 0, .int .i64 3, .int .i64 1, .bool true, .int .i64 nx, .slice (some ⟨wr.heap.size, 0, none⟩) 1 1] 59)
          simpa using this
        have hPn : ∀ j, P j → j < wr.heap.size := fun j hj => (hrel.out.lo j hj).2
        have hobs : ∀ W', Keeps P x1 W' → Obs W' (.slice (some ⟨wr.heap.size, 0, none⟩) 1 1) [⟨qo, []⟩] := fun W' hW => by
          have hp := hpKeeps pB hW (fun e => by have := hPn _ e; omega)
          refine ⟨some ⟨wr.heap.size, 0, none⟩, 1, rfl, Nat.le_refl _, by decide, fun h => (by cases h), fun _ => ⟨wr.heap.size, 0, rfl, fun i y hy => ?_⟩⟩
          match i, hy with
          | 0, hy =>
            simp at hy
            subst hy
            exact ⟨hpCell hp 0, _, hpCell hp 1, Bs.nil _⟩
          | i + 1, hy => simp at hy
        clear hx1 c0 c4 hnx
        by_cases hlt : k < ln
        · obtain ⟨x, hx⟩ := get_some HLN.out hlt
          obtain ⟨-, -, -, hel⟩ := HL.out.get
          obtain ⟨b, o, da, dc, oa, oc, rfl, ⟨y0, y1, y2, y3, y4, y5, y6, y7, y8⟩, hxd, hxo, hxl1, hxl2⟩ := hel k x hx
          have hwx : Below w.heap.size w x1 := bt hrel.out.bel hb1x (Nat.le_refl _)
          have HFX := hid (HFT.out k x hx)
          have hkl : (k : Int) < (ln : Int) := by omega
          replace y0 := cell_keep hwx y0
          replace y1 := cell_keep hwx y1
          replace y2 := cell_keep hwx y2
          replace y3 := cell_keep hwx y3
          replace y4 := cell_keep hwx y4
          replace y5 := cell_keep hwx y5
          replace y6 := cell_keep hwx y6
          replace y7 := cell_keep hwx y7
          replace y8 := cell_keep hwx y8
          have hrpx : ∀ W', Below w.heap.size w W' → RpIs W' x.reply da dc oa oc := fun W' hW => ⟨hxd.keep hW, hxo.keep hW, hxl1, hxl2⟩
          have HRPX := hid hrpx
          clear hel hx hxd hxo hxl1 hxl2 hrpx
          by_cases hv : x.verdict = 0
          · have hvz : (x.verdict != 0) = false := by rw [bne_eq_false_iff_eq]; exact hv
            clear hv
            go_upto_region 15 with (fail)
            clear y0 y1 y2 y3 y4 y5 y6 y7 y8
            have HRD : Hid (InAt P x1 (⟨1, ⟨qf, 0, [], 3, 1, true, nx, [⟨qo, []⟩]⟩⟩ : Oc) none 0 (some ⟨wr.heap.size, 0, none⟩) 1) := fun W' hW => ⟨Bs.nil _, hobs W' hW, (by show (1 : Int) ≤ 9223372036854775807; decide), (by show -9223372036854775808 ≤ (1 : Int); decide)⟩
            have HFI : Hid (Oc.fit (⟨1, ⟨qf, 0, [], 3, 1, true, nx, [⟨qo, []⟩]⟩⟩ : Oc)) := ⟨(by show 1 ≤ 40; decide), fun y hy => (by simp at hy; subst hy; show 0 ≤ 300; decide), (by show 0 ≤ 300; decide), hnxb⟩
            obtain ⟨xt, hxt⟩ : ∃ X, x1 = X := ⟨_, rfl⟩
            have hOt : xt.heap[wr.heap.size + 1]? = some (.cells #[.int .i64 1, .int .i64 qf, .int .i64 0, .slice none 0 0, .int .i64 3, .int .i64 1, .bool true, .int .i64 nx, .slice (some ⟨wr.heap.size, 0, none⟩) 1 1] 59) := by rw [← hxt]; exact pO
            have hBt : Below wr.heap.size wr xt := by rw [← hxt]; exact hb1x
            rw [hxt] at HRD
            rw [hxt]
            have hgs := PbGood.step HW12.out hrel.out.good hd HFI.out
            have HGS := hid hgs.1
            have hkU2 : ¬ U ≤ (k : Int) := by have := hgs.2; have := hrel.out.q; omega
            have HPT := hid (hrel.out.at_.keep (F := fun _ => False) (Keeps.of_below hBt) (fun _ _ e => e.elim))
            have PCt := hid (hpKeep hrel.out.cf hBt)
            have pst := hpKeep hrel.out.st hBt
            have prq := hpKeep hrel.out.rq hBt
            have HUN : Hid (Calls Try.prog 20 #[.agg #[.slice (some ⟨sb, 0, none⟩) 1 1, .int .i64 1, .int .i64 1, .int .i64 0, .int .i64 1, .int .i64 0, .int .i64 (wn 0).1, .int .i64 (wn 0).2, .int .i64 (wn 1).1, .int .i64 (wn 1).2, .int .i64 (wn 2).1, .int .i64 (wn 2).2, .int .i64 (wn 3).1, .int .i64 (wn 3).2, .int .i64 1, .int .i64 0]] xt (IntPost xt U)) := unit_any sb 1 wn HW12.out xt (hpCell pst 0) (hpCell pst 1) U HU.out
            have HFE : Hid (∀ X, Below xt.heap.size xt X → Calls Try.prog 16 #[.pointer (some ⟨g, 0, none⟩), .agg #[.int .i64 1, .int .i64 qf, .int .i64 0, .slice none 0 0, .int .i64 3, .int .i64 1, .bool true, .int .i64 nx, .slice (some ⟨wr.heap.size, 0, none⟩) 1 1]] X (FeedEnd (PbFed P X g wn (pb.feed wn (⟨1, ⟨qf, 0, [], 3, 1, true, nx, [⟨qo, []⟩]⟩⟩ : Oc))))) := fun X hX => pfeed_any HWO.out (HPT.out.keep (F := fun _ => False) (Keeps.of_below hX) (fun _ _ e => e.elim)) hrel.out.good.ok hd hrel.out.good.q0 (by have := hrel.out.q; omega) (⟨1, ⟨qf, 0, [], 3, 1, true, nx, [⟨qo, []⟩]⟩⟩ : Oc) _ _ _ _ (HRD.out.keeps (Keeps.of_below hX) P (fun _ _ e => e)) HFI.out
            have HRQ := hid prq
            have HBT := hid hBt
            have e0 : ∀ X, Below xt.heap.size xt X → X.cell? ⟨wr.heap.size + 1, 0, none⟩ = some (.int .i64 1) := fun X h => hpCell (hpKeep hOt h) 0
            have e1 : ∀ X, Below xt.heap.size xt X → X.cell? ⟨wr.heap.size + 1, 1, none⟩ = some (.int .i64 qf) := fun X h => hpCell (hpKeep hOt h) 1
            have e2 : ∀ X, Below xt.heap.size xt X → X.cell? ⟨wr.heap.size + 1, 2, none⟩ = some (.int .i64 0) := fun X h => hpCell (hpKeep hOt h) 2
            have e3 : ∀ X, Below xt.heap.size xt X → X.cell? ⟨wr.heap.size + 1, 3, none⟩ = some (.slice none 0 0) := fun X h => hpCell (hpKeep hOt h) 3
            have e4 : ∀ X, Below xt.heap.size xt X → X.cell? ⟨wr.heap.size + 1, 4, none⟩ = some (.int .i64 3) := fun X h => hpCell (hpKeep hOt h) 4
            have e5 : ∀ X, Below xt.heap.size xt X → X.cell? ⟨wr.heap.size + 1, 5, none⟩ = some (.int .i64 1) := fun X h => hpCell (hpKeep hOt h) 5
            have e6 : ∀ X, Below xt.heap.size xt X → X.cell? ⟨wr.heap.size + 1, 6, none⟩ = some (.bool true) := fun X h => hpCell (hpKeep hOt h) 6
            have e7 : ∀ X, Below xt.heap.size xt X → X.cell? ⟨wr.heap.size + 1, 7, none⟩ = some (.int .i64 nx) := fun X h => hpCell (hpKeep hOt h) 7
            have e8 : ∀ X, Below xt.heap.size xt X → X.cell? ⟨wr.heap.size + 1, 8, none⟩ = some (.slice (some ⟨wr.heap.size, 0, none⟩) 1 1) := fun X h => hpCell (hpKeep hOt h) 8
            obtain ⟨pb', hpb'⟩ : ∃ y, pb.feed wn (⟨1, ⟨qf, 0, [], 3, 1, true, nx, [⟨qo, []⟩]⟩⟩ : Oc) = y := ⟨_, rfl⟩
            rw [hpb'] at HFE HGS
            obtain ⟨D', hD'⟩ : ∃ D, (!pb'.ph.isDone) = D := ⟨_, rfl⟩
            obtain ⟨rq', hrq'⟩ : ∃ q, pb'.ph.ask = q := ⟨_, rfl⟩
            have hq' : pb'.q = (k : Int) + 1 := by rw [← hpb', ← hrel.out.q]; rfl
            have HQQ := hid hq'
            have HDD := hid hD'
            have HRR := hid hrq'
            have sw1 : IntKind.i64.wrap ((k : Int) + 1) = (k : Int) + 1 := IntWalk.i64_in _ (by omega)
            clear hgs hpb' hq' hD' hrq' pst prq hOt hBt
            go_wp2_with (first
              | (refine wpList_load_row rfl 67 (.tmp 6) rfl (sb + 1) rfl 67 #[.slice (some ⟨sb, 0, none⟩) 1 1, .int .i64 1, .int .i64 1, .int .i64 0, .int .i64 1, .int .i64 0, .int .i64 (wn 0).1, .int .i64 (wn 0).2, .int .i64 (wn 1).1, .int .i64 (wn 1).2, .int .i64 (wn 2).1, .int .i64 (wn 2).2, .int .i64 (wn 3).1, .int .i64 (wn 3).2, .int .i64 1, .int .i64 0] (0, 0) _ PCt.out Try.underlying67 rfl infoC ?_)
              | (go_at_call 20; (with_reducible refine HUN.out.mono ?_); rintro r xu ⟨rfl, hbu⟩)
              | (go_at_call 16; (with_reducible refine (HFE.out _ hbu).mono ?_); rintro r xf ⟨rfl, hpf, hkf⟩; have rqf := hpKeeps (hpKeep HRQ.out hbu) hkf hrel.out.nq; have u0 := hpCell rqf 0; have u1 := hpCell rqf 1; have u2 := hpCell rqf 2; have u3 := hpCell rqf 3; have u4 := hpCell rqf 4; have HNX := hid (fun (o : Obj) => pnext_any (hpf.keep (F := fun _ => False) (Keeps.of_below (bal' xf o)) (fun _ _ e => e.elim)) HGS.out.ok rq' D' HRR.out HDD.out))
              | (go_at_call 11; (with_reducible refine (HNX.out _).mono ?_); rintro r xn ⟨rfl, hbn⟩; have HZN := hid (hpKeep (hpNew xf (.cells #[.int .i64 pb.ph.ask.fn, .int .i64 pb.ph.ask.addr, .int .i64 pb.ph.ask.qty, .int .i64 pb.ph.ask.code, .int .i64 pb.ph.ask.obj] 34)) hbn))
              | (refine wpList_storeW rfl 34 (.tmp 8) (.tmp 36) rfl xf.heap.size 0 _ 34 #[.int .i64 rq'.fn, .int .i64 rq'.addr, .int .i64 rq'.qty, .int .i64 rq'.code, .int .i64 rq'.obj] rfl rfl HZN.out (by simp) (by kernel_rfl) rfl ?_; intro xs gs hks hzs))
            have z1 := HBT.out.size
            have z2 := hbu.size
            have z3 := hkf.size
            have z4 := hbn.size
            have z5 : xf.heap.size < xn.heap.size := by simp at z4; omega
            have z6 := hks.size
            have zs := hpLt hrel.out.st
            have zc := hpLt hrel.out.cf
            have zw := hrel.out.bel.size
            have hbx : Below w.heap.size w xf := (bt (bt hrel.out.bel HBT.out (Nat.le_refl _)) hbu (Nat.le_refl _)).trans (hkf.below (by omega) (fun j hj e => by have := (hrel.out.lo j e).1; omega))
            have HREL : Hid (BgRel w g sb (sb + 1) wn U (k + 1) xf.heap.size (Grw P xu xf) pb' xs) := by
              refine ⟨?_, fun e => ?_, ?_, HGS.out, (by rw [HQQ.out]; omega), fun j hj => ?_, fun e => ?_, fun e => ?_, ?_, ?_, (bt (bta hbx (Nat.le_refl _) _) hbn (Nat.le_refl _)).trans (hks.below (by omega) (fun j hj e => by omega))⟩
              · rw [HRR.out]
                exact gs
              · rcases e with e | e
                · have := (hrel.out.lo _ e).2
                  omega
                · omega
              · refine ((hpf.keep (F := fun _ => False) (Keeps.of_below (bal' xf _)) (fun _ _ e => e.elim)).keep (F := fun _ => False) (Keeps.of_below hbn) (fun _ _ e => e.elim)).keep hks (fun j _ e h => ?_)
                rcases h with h | h
                · have := (hrel.out.lo _ h).2
                  omega
                · omega
              · rcases hj with h | h
                · have := hrel.out.lo _ h
                  omega
                · omega
              · rcases e with e | e
                · exact hrel.out.ns e
                · omega
              · rcases e with e | e
                · exact hrel.out.nc e
                · omega
              · exact hpKeeps (hpKeep (hpKeep (hpKeeps (hpKeep (hpKeep hrel.out.st HBT.out) hbu) hkf hrel.out.ns) (bal' xf _)) hbn) hks (by omega)
              · exact hpKeeps (hpKeep (hpKeep (hpKeeps (hpKeep (hpKeep hrel.out.cf HBT.out) hbu) hkf hrel.out.nc) (bal' xf _)) hbn) hks (by omega)
            go_roundw
            case rel => exact ⟨k + 1, xf.heap.size, Grw P xu xf, pb', D', by go_num, rfl, rfl, HDD.out, by omega, HREL.out⟩
            case measure => simp [intOf]; omega
          · have hvz : (x.verdict != 0) = true := by rw [bne_iff_ne]; exact hv
            clear hv
            go_upto_region 15 with (refine wpList_storeW rfl 59 (.tmp 10) (.tmp 64) rfl (wr.heap.size + 1) 0 _ 59 #[.int .i64 x.verdict, .int .i64 x.reply.fn, .int .i64 x.reply.exc, .slice da x.reply.data.length dc, .int .i64 x.reply.code, .int .i64 x.reply.level, .bool x.reply.more, .int .i64 x.reply.next, .slice oa x.reply.objs.length oc] rfl rfl pO (by simp) (by kernel_rfl) rfl ?_; intro xt gt hkt hzt)
            have hOt : xt.heap[wr.heap.size + 1]? = some (.cells #[.int .i64 x.verdict, .int .i64 x.reply.fn, .int .i64 x.reply.exc, .slice da x.reply.data.length dc, .int .i64 x.reply.code, .int .i64 x.reply.level, .bool x.reply.more, .int .i64 x.reply.next, .slice oa x.reply.objs.length oc] 59) := gt
            have hBt : Below wr.heap.size wr xt := hb1x.trans (hkt.below hb1x.size (fun j hj e => by omega))
            have HRD : Hid (InAt P xt x da dc oa oc) := fun W' hW => HRPX.out W' ((bt hrel.out.bel hBt (Nat.le_refl _)).trans (hW.below (by have := hrel.out.bel.size; have := hBt.size; omega) (fun j hj e => by have := (hrel.out.lo j e).1; omega)))
            have HFI := hid HFX.out
            clear y0 y1 y2 y3 y4 y5 y6 y7 y8 gt hkt hzt
            have hgs := PbGood.step HW12.out hrel.out.good hd HFI.out
            have HGS := hid hgs.1
            have hkU2 : ¬ U ≤ (k : Int) := by have := hgs.2; have := hrel.out.q; omega
            have HPT := hid (hrel.out.at_.keep (F := fun _ => False) (Keeps.of_below hBt) (fun _ _ e => e.elim))
            have PCt := hid (hpKeep hrel.out.cf hBt)
            have pst := hpKeep hrel.out.st hBt
            have prq := hpKeep hrel.out.rq hBt
            have HUN : Hid (Calls Try.prog 20 #[.agg #[.slice (some ⟨sb, 0, none⟩) 1 1, .int .i64 1, .int .i64 1, .int .i64 0, .int .i64 1, .int .i64 0, .int .i64 (wn 0).1, .int .i64 (wn 0).2, .int .i64 (wn 1).1, .int .i64 (wn 1).2, .int .i64 (wn 2).1, .int .i64 (wn 2).2, .int .i64 (wn 3).1, .int .i64 (wn 3).2, .int .i64 1, .int .i64 0]] xt (IntPost xt U)) := unit_any sb 1 wn HW12.out xt (hpCell pst 0) (hpCell pst 1) U HU.out
            have HFE : Hid (∀ X, Below xt.heap.size xt X → Calls Try.prog 16 #[.pointer (some ⟨g, 0, none⟩), .agg #[.int .i64 x.verdict, .int .i64 x.reply.fn, .int .i64 x.reply.exc, .slice da x.reply.data.length dc, .int .i64 x.reply.code, .int .i64 x.reply.level, .bool x.reply.more, .int .i64 x.reply.next, .slice oa x.reply.objs.length oc]] X (FeedEnd (PbFed P X g wn (pb.feed wn x)))) := fun X hX => pfeed_any HWO.out (HPT.out.keep (F := fun _ => False) (Keeps.of_below hX) (fun _ _ e => e.elim)) hrel.out.good.ok hd hrel.out.good.q0 (by have := hrel.out.q; omega) x _ _ _ _ (HRD.out.keeps (Keeps.of_below hX) P (fun _ _ e => e)) HFI.out
            have HRQ := hid prq
            have HBT := hid hBt
            have e0 : ∀ X, Below xt.heap.size xt X → X.cell? ⟨wr.heap.size + 1, 0, none⟩ = some (.int .i64 x.verdict) := fun X h => hpCell (hpKeep hOt h) 0
            have e1 : ∀ X, Below xt.heap.size xt X → X.cell? ⟨wr.heap.size + 1, 1, none⟩ = some (.int .i64 x.reply.fn) := fun X h => hpCell (hpKeep hOt h) 1
            have e2 : ∀ X, Below xt.heap.size xt X → X.cell? ⟨wr.heap.size + 1, 2, none⟩ = some (.int .i64 x.reply.exc) := fun X h => hpCell (hpKeep hOt h) 2
            have e3 : ∀ X, Below xt.heap.size xt X → X.cell? ⟨wr.heap.size + 1, 3, none⟩ = some (.slice da x.reply.data.length dc) := fun X h => hpCell (hpKeep hOt h) 3
            have e4 : ∀ X, Below xt.heap.size xt X → X.cell? ⟨wr.heap.size + 1, 4, none⟩ = some (.int .i64 x.reply.code) := fun X h => hpCell (hpKeep hOt h) 4
            have e5 : ∀ X, Below xt.heap.size xt X → X.cell? ⟨wr.heap.size + 1, 5, none⟩ = some (.int .i64 x.reply.level) := fun X h => hpCell (hpKeep hOt h) 5
            have e6 : ∀ X, Below xt.heap.size xt X → X.cell? ⟨wr.heap.size + 1, 6, none⟩ = some (.bool x.reply.more) := fun X h => hpCell (hpKeep hOt h) 6
            have e7 : ∀ X, Below xt.heap.size xt X → X.cell? ⟨wr.heap.size + 1, 7, none⟩ = some (.int .i64 x.reply.next) := fun X h => hpCell (hpKeep hOt h) 7
            have e8 : ∀ X, Below xt.heap.size xt X → X.cell? ⟨wr.heap.size + 1, 8, none⟩ = some (.slice oa x.reply.objs.length oc) := fun X h => hpCell (hpKeep hOt h) 8
            obtain ⟨pb', hpb'⟩ : ∃ y, pb.feed wn x = y := ⟨_, rfl⟩
            rw [hpb'] at HFE HGS
            obtain ⟨D', hD'⟩ : ∃ D, (!pb'.ph.isDone) = D := ⟨_, rfl⟩
            obtain ⟨rq', hrq'⟩ : ∃ q, pb'.ph.ask = q := ⟨_, rfl⟩
            have hq' : pb'.q = (k : Int) + 1 := by rw [← hpb', ← hrel.out.q]; rfl
            have HQQ := hid hq'
            have HDD := hid hD'
            have HRR := hid hrq'
            have sw1 : IntKind.i64.wrap ((k : Int) + 1) = (k : Int) + 1 := IntWalk.i64_in _ (by omega)
            clear hgs hpb' hq' hD' hrq' pst prq hOt hBt
            go_wp2_with (first
              | (refine wpList_load_row rfl 67 (.tmp 6) rfl (sb + 1) rfl 67 #[.slice (some ⟨sb, 0, none⟩) 1 1, .int .i64 1, .int .i64 1, .int .i64 0, .int .i64 1, .int .i64 0, .int .i64 (wn 0).1, .int .i64 (wn 0).2, .int .i64 (wn 1).1, .int .i64 (wn 1).2, .int .i64 (wn 2).1, .int .i64 (wn 2).2, .int .i64 (wn 3).1, .int .i64 (wn 3).2, .int .i64 1, .int .i64 0] (0, 0) _ PCt.out Try.underlying67 rfl infoC ?_)
              | (go_at_call 20; (with_reducible refine HUN.out.mono ?_); rintro r xu ⟨rfl, hbu⟩)
              | (go_at_call 16; (with_reducible refine (HFE.out _ hbu).mono ?_); rintro r xf ⟨rfl, hpf, hkf⟩; have rqf := hpKeeps (hpKeep HRQ.out hbu) hkf hrel.out.nq; have u0 := hpCell rqf 0; have u1 := hpCell rqf 1; have u2 := hpCell rqf 2; have u3 := hpCell rqf 3; have u4 := hpCell rqf 4; have HNX := hid (fun (o : Obj) => pnext_any (hpf.keep (F := fun _ => False) (Keeps.of_below (bal' xf o)) (fun _ _ e => e.elim)) HGS.out.ok rq' D' HRR.out HDD.out))
              | (go_at_call 11; (with_reducible refine (HNX.out _).mono ?_); rintro r xn ⟨rfl, hbn⟩; have HZN := hid (hpKeep (hpNew xf (.cells #[.int .i64 pb.ph.ask.fn, .int .i64 pb.ph.ask.addr, .int .i64 pb.ph.ask.qty, .int .i64 pb.ph.ask.code, .int .i64 pb.ph.ask.obj] 34)) hbn))
              | (refine wpList_storeW rfl 34 (.tmp 8) (.tmp 36) rfl xf.heap.size 0 _ 34 #[.int .i64 rq'.fn, .int .i64 rq'.addr, .int .i64 rq'.qty, .int .i64 rq'.code, .int .i64 rq'.obj] rfl rfl HZN.out (by simp) (by kernel_rfl) rfl ?_; intro xs gs hks hzs))
            have z1 := HBT.out.size
            have z2 := hbu.size
            have z3 := hkf.size
            have z4 := hbn.size
            have z5 : xf.heap.size < xn.heap.size := by simp at z4; omega
            have z6 := hks.size
            have zs := hpLt hrel.out.st
            have zc := hpLt hrel.out.cf
            have zw := hrel.out.bel.size
            have hbx : Below w.heap.size w xf := (bt (bt hrel.out.bel HBT.out (Nat.le_refl _)) hbu (Nat.le_refl _)).trans (hkf.below (by omega) (fun j hj e => by have := (hrel.out.lo j e).1; omega))
            have HREL : Hid (BgRel w g sb (sb + 1) wn U (k + 1) xf.heap.size (Grw P xu xf) pb' xs) := by
              refine ⟨?_, fun e => ?_, ?_, HGS.out, (by rw [HQQ.out]; omega), fun j hj => ?_, fun e => ?_, fun e => ?_, ?_, ?_, (bt (bta hbx (Nat.le_refl _) _) hbn (Nat.le_refl _)).trans (hks.below (by omega) (fun j hj e => by omega))⟩
              · rw [HRR.out]
                exact gs
              · rcases e with e | e
                · have := (hrel.out.lo _ e).2
                  omega
                · omega
              · refine ((hpf.keep (F := fun _ => False) (Keeps.of_below (bal' xf _)) (fun _ _ e => e.elim)).keep (F := fun _ => False) (Keeps.of_below hbn) (fun _ _ e => e.elim)).keep hks (fun j _ e h => ?_)
                rcases h with h | h
                · have := (hrel.out.lo _ h).2
                  omega
                · omega
              · rcases hj with h | h
                · have := hrel.out.lo _ h
                  omega
                · omega
              · rcases e with e | e
                · exact hrel.out.ns e
                · omega
              · rcases e with e | e
                · exact hrel.out.nc e
                · omega
              · exact hpKeeps (hpKeep (hpKeep (hpKeeps (hpKeep (hpKeep hrel.out.st HBT.out) hbu) hkf hrel.out.ns) (bal' xf _)) hbn) hks (by omega)
              · exact hpKeeps (hpKeep (hpKeep (hpKeeps (hpKeep (hpKeep hrel.out.cf HBT.out) hbu) hkf hrel.out.nc) (bal' xf _)) hbn) hks (by omega)
            go_roundw
            case rel => exact ⟨k + 1, xf.heap.size, Grw P xu xf, pb', D', by go_num, rfl, rfl, HDD.out, by omega, HREL.out⟩
            case measure => simp [intOf]; omega
        · have hkl : ¬ (k : Int) < (ln : Int) := by omega
          go_upto_region 15 with (fail)
          have HRD : Hid (InAt P x1 (⟨1, ⟨qf, 0, [], 3, 1, true, nx, [⟨qo, []⟩]⟩⟩ : Oc) none 0 (some ⟨wr.heap.size, 0, none⟩) 1) := fun W' hW => ⟨Bs.nil _, hobs W' hW, (by show (1 : Int) ≤ 9223372036854775807; decide), (by show -9223372036854775808 ≤ (1 : Int); decide)⟩
          have HFI : Hid (Oc.fit (⟨1, ⟨qf, 0, [], 3, 1, true, nx, [⟨qo, []⟩]⟩⟩ : Oc)) := ⟨(by show 1 ≤ 40; decide), fun y hy => (by simp at hy; subst hy; show 0 ≤ 300; decide), (by show 0 ≤ 300; decide), hnxb⟩
          obtain ⟨xt, hxt⟩ : ∃ X, x1 = X := ⟨_, rfl⟩
          have hOt : xt.heap[wr.heap.size + 1]? = some (.cells #[.int .i64 1, .int .i64 qf, .int .i64 0, .slice none 0 0, .int .i64 3, .int .i64 1, .bool true, .int .i64 nx, .slice (some ⟨wr.heap.size, 0, none⟩) 1 1] 59) := by rw [← hxt]; exact pO
          have hBt : Below wr.heap.size wr xt := by rw [← hxt]; exact hb1x
          rw [hxt] at HRD
          rw [hxt]
          have hgs := PbGood.step HW12.out hrel.out.good hd HFI.out
          have HGS := hid hgs.1
          have hkU2 : ¬ U ≤ (k : Int) := by have := hgs.2; have := hrel.out.q; omega
          have HPT := hid (hrel.out.at_.keep (F := fun _ => False) (Keeps.of_below hBt) (fun _ _ e => e.elim))
          have PCt := hid (hpKeep hrel.out.cf hBt)
          have pst := hpKeep hrel.out.st hBt
          have prq := hpKeep hrel.out.rq hBt
          have HUN : Hid (Calls Try.prog 20 #[.agg #[.slice (some ⟨sb, 0, none⟩) 1 1, .int .i64 1, .int .i64 1, .int .i64 0, .int .i64 1, .int .i64 0, .int .i64 (wn 0).1, .int .i64 (wn 0).2, .int .i64 (wn 1).1, .int .i64 (wn 1).2, .int .i64 (wn 2).1, .int .i64 (wn 2).2, .int .i64 (wn 3).1, .int .i64 (wn 3).2, .int .i64 1, .int .i64 0]] xt (IntPost xt U)) := unit_any sb 1 wn HW12.out xt (hpCell pst 0) (hpCell pst 1) U HU.out
          have HFE : Hid (∀ X, Below xt.heap.size xt X → Calls Try.prog 16 #[.pointer (some ⟨g, 0, none⟩), .agg #[.int .i64 1, .int .i64 qf, .int .i64 0, .slice none 0 0, .int .i64 3, .int .i64 1, .bool true, .int .i64 nx, .slice (some ⟨wr.heap.size, 0, none⟩) 1 1]] X (FeedEnd (PbFed P X g wn (pb.feed wn (⟨1, ⟨qf, 0, [], 3, 1, true, nx, [⟨qo, []⟩]⟩⟩ : Oc))))) := fun X hX => pfeed_any HWO.out (HPT.out.keep (F := fun _ => False) (Keeps.of_below hX) (fun _ _ e => e.elim)) hrel.out.good.ok hd hrel.out.good.q0 (by have := hrel.out.q; omega) (⟨1, ⟨qf, 0, [], 3, 1, true, nx, [⟨qo, []⟩]⟩⟩ : Oc) _ _ _ _ (HRD.out.keeps (Keeps.of_below hX) P (fun _ _ e => e)) HFI.out
          have HRQ := hid prq
          have HBT := hid hBt
          have e0 : ∀ X, Below xt.heap.size xt X → X.cell? ⟨wr.heap.size + 1, 0, none⟩ = some (.int .i64 1) := fun X h => hpCell (hpKeep hOt h) 0
          have e1 : ∀ X, Below xt.heap.size xt X → X.cell? ⟨wr.heap.size + 1, 1, none⟩ = some (.int .i64 qf) := fun X h => hpCell (hpKeep hOt h) 1
          have e2 : ∀ X, Below xt.heap.size xt X → X.cell? ⟨wr.heap.size + 1, 2, none⟩ = some (.int .i64 0) := fun X h => hpCell (hpKeep hOt h) 2
          have e3 : ∀ X, Below xt.heap.size xt X → X.cell? ⟨wr.heap.size + 1, 3, none⟩ = some (.slice none 0 0) := fun X h => hpCell (hpKeep hOt h) 3
          have e4 : ∀ X, Below xt.heap.size xt X → X.cell? ⟨wr.heap.size + 1, 4, none⟩ = some (.int .i64 3) := fun X h => hpCell (hpKeep hOt h) 4
          have e5 : ∀ X, Below xt.heap.size xt X → X.cell? ⟨wr.heap.size + 1, 5, none⟩ = some (.int .i64 1) := fun X h => hpCell (hpKeep hOt h) 5
          have e6 : ∀ X, Below xt.heap.size xt X → X.cell? ⟨wr.heap.size + 1, 6, none⟩ = some (.bool true) := fun X h => hpCell (hpKeep hOt h) 6
          have e7 : ∀ X, Below xt.heap.size xt X → X.cell? ⟨wr.heap.size + 1, 7, none⟩ = some (.int .i64 nx) := fun X h => hpCell (hpKeep hOt h) 7
          have e8 : ∀ X, Below xt.heap.size xt X → X.cell? ⟨wr.heap.size + 1, 8, none⟩ = some (.slice (some ⟨wr.heap.size, 0, none⟩) 1 1) := fun X h => hpCell (hpKeep hOt h) 8
          obtain ⟨pb', hpb'⟩ : ∃ y, pb.feed wn (⟨1, ⟨qf, 0, [], 3, 1, true, nx, [⟨qo, []⟩]⟩⟩ : Oc) = y := ⟨_, rfl⟩
          rw [hpb'] at HFE HGS
          obtain ⟨D', hD'⟩ : ∃ D, (!pb'.ph.isDone) = D := ⟨_, rfl⟩
          obtain ⟨rq', hrq'⟩ : ∃ q, pb'.ph.ask = q := ⟨_, rfl⟩
          have hq' : pb'.q = (k : Int) + 1 := by rw [← hpb', ← hrel.out.q]; rfl
          have HQQ := hid hq'
          have HDD := hid hD'
          have HRR := hid hrq'
          have sw1 : IntKind.i64.wrap ((k : Int) + 1) = (k : Int) + 1 := IntWalk.i64_in _ (by omega)
          clear hgs hpb' hq' hD' hrq' pst prq hOt hBt
          go_wp2_with (first
            | (refine wpList_load_row rfl 67 (.tmp 6) rfl (sb + 1) rfl 67 #[.slice (some ⟨sb, 0, none⟩) 1 1, .int .i64 1, .int .i64 1, .int .i64 0, .int .i64 1, .int .i64 0, .int .i64 (wn 0).1, .int .i64 (wn 0).2, .int .i64 (wn 1).1, .int .i64 (wn 1).2, .int .i64 (wn 2).1, .int .i64 (wn 2).2, .int .i64 (wn 3).1, .int .i64 (wn 3).2, .int .i64 1, .int .i64 0] (0, 0) _ PCt.out Try.underlying67 rfl infoC ?_)
            | (go_at_call 20; (with_reducible refine HUN.out.mono ?_); rintro r xu ⟨rfl, hbu⟩)
            | (go_at_call 16; (with_reducible refine (HFE.out _ hbu).mono ?_); rintro r xf ⟨rfl, hpf, hkf⟩; have rqf := hpKeeps (hpKeep HRQ.out hbu) hkf hrel.out.nq; have u0 := hpCell rqf 0; have u1 := hpCell rqf 1; have u2 := hpCell rqf 2; have u3 := hpCell rqf 3; have u4 := hpCell rqf 4; have HNX := hid (fun (o : Obj) => pnext_any (hpf.keep (F := fun _ => False) (Keeps.of_below (bal' xf o)) (fun _ _ e => e.elim)) HGS.out.ok rq' D' HRR.out HDD.out))
            | (go_at_call 11; (with_reducible refine (HNX.out _).mono ?_); rintro r xn ⟨rfl, hbn⟩; have HZN := hid (hpKeep (hpNew xf (.cells #[.int .i64 pb.ph.ask.fn, .int .i64 pb.ph.ask.addr, .int .i64 pb.ph.ask.qty, .int .i64 pb.ph.ask.code, .int .i64 pb.ph.ask.obj] 34)) hbn))
            | (refine wpList_storeW rfl 34 (.tmp 8) (.tmp 36) rfl xf.heap.size 0 _ 34 #[.int .i64 rq'.fn, .int .i64 rq'.addr, .int .i64 rq'.qty, .int .i64 rq'.code, .int .i64 rq'.obj] rfl rfl HZN.out (by simp) (by kernel_rfl) rfl ?_; intro xs gs hks hzs))
          have z1 := HBT.out.size
          have z2 := hbu.size
          have z3 := hkf.size
          have z4 := hbn.size
          have z5 : xf.heap.size < xn.heap.size := by simp at z4; omega
          have z6 := hks.size
          have zs := hpLt hrel.out.st
          have zc := hpLt hrel.out.cf
          have zw := hrel.out.bel.size
          have hbx : Below w.heap.size w xf := (bt (bt hrel.out.bel HBT.out (Nat.le_refl _)) hbu (Nat.le_refl _)).trans (hkf.below (by omega) (fun j hj e => by have := (hrel.out.lo j e).1; omega))
          have HREL : Hid (BgRel w g sb (sb + 1) wn U (k + 1) xf.heap.size (Grw P xu xf) pb' xs) := by
            refine ⟨?_, fun e => ?_, ?_, HGS.out, (by rw [HQQ.out]; omega), fun j hj => ?_, fun e => ?_, fun e => ?_, ?_, ?_, (bt (bta hbx (Nat.le_refl _) _) hbn (Nat.le_refl _)).trans (hks.below (by omega) (fun j hj e => by omega))⟩
            · rw [HRR.out]
              exact gs
            · rcases e with e | e
              · have := (hrel.out.lo _ e).2
                omega
              · omega
            · refine ((hpf.keep (F := fun _ => False) (Keeps.of_below (bal' xf _)) (fun _ _ e => e.elim)).keep (F := fun _ => False) (Keeps.of_below hbn) (fun _ _ e => e.elim)).keep hks (fun j _ e h => ?_)
              rcases h with h | h
              · have := (hrel.out.lo _ h).2
                omega
              · omega
            · rcases hj with h | h
              · have := hrel.out.lo _ h
                omega
              · omega
            · rcases e with e | e
              · exact hrel.out.ns e
              · omega
            · rcases e with e | e
              · exact hrel.out.nc e
              · omega
            · exact hpKeeps (hpKeep (hpKeep (hpKeeps (hpKeep (hpKeep hrel.out.st HBT.out) hbu) hkf hrel.out.ns) (bal' xf _)) hbn) hks (by omega)
            · exact hpKeeps (hpKeep (hpKeep (hpKeeps (hpKeep (hpKeep hrel.out.cf HBT.out) hbu) hkf hrel.out.nc) (bal' xf _)) hbn) hks (by omega)
          go_roundw
          case rel => exact ⟨k + 1, xf.heap.size, Grw P xu xf, pb', D', by go_num, rfl, rfl, HDD.out, by omega, HREL.out⟩
          case measure => simp [intOf]; omega

end Go.Proofs.Ytliblgmpclefgaa
