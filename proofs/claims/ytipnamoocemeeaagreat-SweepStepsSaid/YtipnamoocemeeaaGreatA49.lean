/-
  Texts 49 of the claim.
-/
import Derived.Test.YtipnamoocemeeaaGreatA45
import Derived.Test.YtipnamoocemeeaaGreatA48
import Derived.Deep.CutBlock
import Derived.Deep.CutRange
/-
  The reference's sweep: Feed.
-/
namespace Go.Proofs.YtipnamoocemeeaaGreat
open Go.RowKit
theorem RqAt.step {P : Nat → Prop} {W0 W : World} {g : Nat} {win : Nat → Int × Int} {p : Pb} (h : RqAt P W0 W g win p) : ∃ st : Int, W.cell? ⟨g, 8, none⟩ = some (.int .i64 st) ∧ (st != 11) = !p.ph.isDone := by
  obtain ⟨-, -, Q, st, iV, sV, mV, ov, sv, mv, -, hi, -, hp⟩ := h
  refine ⟨st, hi.step, ?_⟩
  have hbd : ∀ n : Int, n < 11 → (n != 11) = true := fun n h => by rw [bne_iff_ne]; omega
  cases e : p.ph with
  | test => rw [e] at hp; obtain rfl : st = 0 := hp; rfl
  | ident y => rw [e] at hp; obtain rfl : st = 1 := hp.1; rfl
  | server => rw [e] at hp; obtain rfl : st = 2 := hp; rfl
  | seek k s =>
    rw [e] at hp
    exact hbd _ (by have := hp.1; have := hp.2.1; omega)
  | map k m =>
    rw [e] at hp
    exact hbd _ (by have := hp.1; have := hp.2.1; omega)
  | done => rw [e] at hp; obtain rfl : st = 11 := hp; rfl
theorem RqAt.devS {P : Nat → Prop} {W0 W : World} {g : Nat} {win : Nat → Int × Int} {p : Pb} (h : RqAt P W0 W g win p) : ∃ ov sv mv Qp, (∀ j v, (DvC p.d ov sv mv).toList[j]? = some v → W.cell? ((⟨g, 12, none⟩ : Addr).add j) = some v) ∧ RdSt (FQ P Qp g) W p.d ov sv mv := by
  obtain ⟨-, -, Q, st, iV, sV, mV, ov, sv, mv, hQ, hi, hd, -⟩ := h
  refine ⟨ov, sv, mv, Q, fun j v hj => ?_, hd⟩
  have e : (⟨g, 12, none⟩ : Addr).add j = ⟨g, 12 + j, none⟩ := by unfold Addr.add; split <;> simp_all
  have e2 : (RqC win st iV sV mV p.d ov sv mv p.q).toList.drop 12 = (DvC p.d ov sv mv).toList ++ [.int .i64 p.q] := rfl
  have h2 : ((RqC win st iV sV mV p.d ov sv mv p.q).toList.drop 12)[j]? = some v := by
    rw [e2, List.getElem?_append_left (List.getElem?_eq_some_iff.1 hj).1]
    exact hj
  rw [List.getElem?_drop] at h2
  rw [e, hpCell hi]
  simpa using h2
theorem RsS.wide {P P' M Q : Nat → Prop} {W0 W : World} {g : Nat} {c : Cf} {x : Sp} {sv pv : Value} {fa : Option Addr} {fc : Nat} {cs : List Value} (h : RsS P M Q W0 W g c x sv pv fa fc cs) (hP : ∀ j, P j → P' j) (hl : ∀ j, P' j → j < W.heap.size) : RsS P' M Q W0 W g c x sv pv fa fc cs := by
  have hSF : ∀ j, SwF M P' j → SwF M P j := fun j e => by
    rcases e with e | e
    · exact .inl e
    · exact .inr (fun hp => e (hP j hp))
  exact ⟨h.mg, fun j hj => ⟨hP j (h.mp j hj).1, (h.mp j hj).2⟩, fun j hj => hP j (h.lo j hj), hl, h.qm, h.rw_, h.at_, fun W2 h2 => h.st W2 (h2.mono (fun j _ e => hSF j e)), h.own, CsL.mono (fun r f hr => DvQ.keeps (Keeps.refl _ _) (fun _ _ e => e) (fun j _ e => hSF j e) r f hr) _ _ h.dv⟩
theorem RsAt.wide {P P' : Nat → Prop} {W0 W : World} {g : Nat} {c : Cf} {x : Sp} (h : RsAt P W0 W g c x) (hP : ∀ j, P j → P' j) (hl : ∀ j, P' j → j < W.heap.size) : RsAt P' W0 W g c x := by
  obtain ⟨M, Q, sv, gp, fa, fc, cs, hs, h2⟩ := h
  exact ⟨M, Q, sv, gp, fa, fc, cs, hs.wide hP hl, h2⟩
/-- The probe has been fed, and the count of queries is one more. -/
theorem RsS.fed {P M Q : Nat → Prop} {W0 W W1 W2 : World} {g gp : Nat} {c : Cf} {x : Sp} {sv : Value} {fa : Option Addr} {fc : Nat} {cs : List Value} (h : RsS P M Q W0 W g c x sv (.pointer (some ⟨gp, 0, none⟩)) fa fc cs) (hW1 : W.setCell ⟨g, 19, none⟩ (.int .i64 (x.cnt + 1)) = W1) {p : Pb}
    (hk2 : Keeps Q W1 W2) :
    ∃ M', RsS (Grw P W W2) M' (Grw Q W1 W2) W0 W2 g c { x with pb := p, cnt := x.cnt + 1 } sv (.pointer (some ⟨gp, 0, none⟩)) fa fc cs ∧ Keeps M W W2 ∧ (∀ j, j < W.heap.size → M' j → M j) := by
  have hk1 : Keeps (· = g) W W1 := by rw [← hW1]; exact (Keeps.refl _ _).set _ _ rfl
  have hz1 : W1.heap.size = W.heap.size := by rw [← hW1]; simp
  have h1 : RsI W1 g c sv (.pointer (some ⟨gp, 0, none⟩)) (.slice fa x.fd.length fc) x.at_ (x.cnt + 1) := by
    rw [← hW1]
    exact hpSetP (C := SwC c sv (.pointer (some ⟨gp, 0, none⟩)) (.slice fa x.fd.length fc) x.at_ (x.cnt + 1)) (i := 19) (u := .int .i64 (x.cnt + 1)) h.at_ rfl
  have hk : Keeps (fun j => j = g ∨ Q j) W W2 := (hk1.mono (fun j _ e => .inl e)).trans (hk2.mono (fun j _ e => .inr e)) (fun _ _ e => e)
  have hI : RsI W2 g c sv (.pointer (some ⟨gp, 0, none⟩)) (.slice fa x.fd.length fc) x.at_ (x.cnt + 1) := hpKeeps h1 hk2 (fun e => (h.qm g e).2 rfl)
  obtain ⟨a1, a2, a3⟩ := h.to (Q' := Grw Q W1 W2) (at' := x.at_) (pb' := p) (cnt' := x.cnt + 1) (pv' := .pointer (some ⟨gp, 0, none⟩)) hk hI (fun j e => by
    rcases e with e | e
    · exact .inl e
    · exact .inr ⟨by omega, e.2⟩)
  exact ⟨_, a1, a2, a3⟩
theorem RsC_wrow {c : Cf} {sv pv fv : Value} {a n : Int} {W : World} {g : Nat} (h : RsI W g c sv pv fv a n) (j : Nat) (v : Value) (hj : (#[.int .i64 (c.win 0).1, .int .i64 (c.win 0).2, .int .i64 (c.win 1).1, .int .i64 (c.win 1).2, .int .i64 (c.win 2).1, .int .i64 (c.win 2).2, .int .i64 (c.win 3).1, .int .i64 (c.win 3).2] : Array Value).toList[j]? = some v) : W.cell? ((⟨g, 6, none⟩ : Addr).add j) = some v := by
  have e : (⟨g, 6, none⟩ : Addr).add j = ⟨g, 6 + j, none⟩ := by unfold Addr.add; split <;> simp_all
  have h1 := CfC_win (c := c) (sv := sv) j v hj
  rw [e, hpCell h]
  refine SwC_cf (6 + j) v ?_
  simpa using h1
/-- The probe that has ended is let go: its device reads whatever happens to what may change now. -/
theorem RsS.drop {P M Q Qp : Nat → Prop} {W0 W X : World} {g gp : Nat} {c : Cf} {x : Sp} {sv pv : Value} {fa : Option Addr} {fc : Nat} {cs : List Value} {d : Dv} {ov dv : Value} {mv : Nat → Value} (h : RsS P M Q W0 W g c x sv pv fa fc cs) (hb : Below W.heap.size W X) (hr : RdSt (FQ (RsQ W0 Q) Qp gp) W d ov dv mv) :
    ∃ M8, RsS (Grw P W X) M8 (fun _ => False) W0 X g c x sv pv fa fc cs ∧ RdSt (SwF M8 (Grw P W X)) X d ov dv mv ∧ (∀ j, M8 j → M j) := by
  obtain ⟨b1, b2, b3⟩ := h.to (W' := X) (Q' := fun _ => False) (at' := x.at_) (pb' := x.pb) (cnt' := x.cnt) (pv' := pv) (Keeps.of_below hb) (hpKeep h.at_ hb) (fun j e => e.elim)
  refine ⟨_, b1, hr.keeps (Keeps.of_below (F := fun _ => False) hb) (fun _ _ e => e.elim) (fun j hj e => .inl (fun hq => ?_)), fun j hj => ?_⟩
  · rcases e with (e | e | e) | e
    · subst e
      rcases hq with e2 | e2
      · have := (h.mp _ h.mg).2; omega
      · exact (h.qm _ e2).2 rfl
    · rcases hq with e2 | e2
      · have := (h.mp _ (h.rw_ j e).1).2; omega
      · exact (h.rw_ j e).2.2 e2
    · exact e
    · refine e (.inl ?_)
      rcases hq with e2 | e2
      · exact h.lo j e2
      · exact (h.mp j (h.qm j e2).1).1
  · rcases hj with e | e | e
    · subst e; exact h.mg
    · exact (h.rw_ j e).1
    · exact e.elim
/-- What Feed leaves. -/
def RsfPost (P : Nat → Prop) (W0 w : World) (g : Nat) (c : Cf) (x' : Sp) (E : Int) (r : Ending) (w' : World) : Prop :=
  r = .returned (.int .i64 E) ∧ RsAt (Grw P w w') W0 w' g c x' ∧ Keeps (fun j => P j ∧ W0.heap.size ≤ j) w w'
/-- Behind the device that was put into the row, or not. -/
def RoR (P M : Nat → Prop) (W0 X : World) (g : Nat) (c : Cf) (x : Sp) (sv pv : Value) (fdN : List Fd) (wc : World) : Prop :=
  ∃ M1 fa1 fc1 cs1, RsS (Grw P X wc) M1 (fun _ => False) W0 wc g c { x with fd := fdN } sv pv fa1 fc1 cs1 ∧ Keeps M X wc ∧ (∀ j, j < X.heap.size → M1 j → M j)

set_option maxRecDepth 100000 in
set_option maxHeartbeats 12800000 in
theorem rsfeed_s {P : Nat → Prop} {W0 w : World} {g : Nat} {c : Cf} {x : Sp} {k : Nat} (hc : chkE c = 0) (h : RsAt P W0 w g c x) (hgd : SpGd c x k) (hk : k ≤ 100000) (O : Oc) (da : Option Addr) (dc : Nat) (oa : Option Addr) (oc : Nat) (HI : RpIs W0 O.reply da dc oa oc) (hO : O.fit) (E : Int) (hE : Hid (E = if x.done c then 12 else 0)) :
    Calls Tryz.prog 19 #[.pointer (some ⟨g, 0, none⟩), .agg #[.int .i64 O.verdict, .int .i64 O.reply.fn, .int .i64 O.reply.exc, .slice da O.reply.data.length dc, .int .i64 O.reply.code, .int .i64 O.reply.level, .bool O.reply.more, .int .i64 O.reply.next, .slice oa O.reply.objs.length oc]] w (RsfPost P W0 w g c (x.feed c O) E) := by
  obtain ⟨M, Q, sv, gp, fa, fc, cs, hs, hqg, hpb⟩ := h
  obtain ⟨OC, hOC⟩ : ∃ C, (#[.int .i64 O.verdict, .int .i64 O.reply.fn, .int .i64 O.reply.exc, .slice da O.reply.data.length dc, .int .i64 O.reply.code, .int .i64 O.reply.level, .bool O.reply.more, .int .i64 O.reply.next, .slice oa O.reply.objs.length oc] : Array Value) = C := ⟨_, rfl⟩
  have hOs : OC.size = 9 := by rw [← hOC]; rfl
  have hOi : (Tryz.prog.info? 55).map (·.size) = some OC.size := by rw [hOs]; exact infoO9
  have hgl : g < w.heap.size := hpLt hs.at_
  have hub := (Cf.ok_of hc).units_bd
  have hwin := (Cf.ok_of hc).win
  obtain ⟨V0, hV0⟩ : ∃ W, w.alloc (.cells OC 55) = W := ⟨_, rfl⟩
  have hb0 : Below w.heap.size w V0 := by rw [← hV0]; exact bal' w _
  have hz0 : V0.heap.size = w.heap.size + 1 := by rw [← hV0]; simp
  have p0 : V0.heap[w.heap.size]? = some (.cells OC 55) := by rw [← hV0]; exact hpNew w _
  have h0 : RsS P M Q W0 V0 g c x sv (.pointer (some ⟨gp, 0, none⟩)) fa fc cs := hs.keep (F := fun _ => False) (Keeps.of_below hb0) (fun _ _ e => e.elim)
  have hp0 := hpb.keep (F := fun _ => False) (Keeps.of_below hb0) (fun _ _ e => e.elim)
  have HPL : Hid (∀ X, Below V0.heap.size V0 X → Calls Tryz.prog 50 #[.agg (CfC c sv), .int .i64 (x.at_ : Int)] X (PlcPost X c x.at_)) := fun X hX => rplace_ok c hc sv x.at_ (by have := hgd.at1; have := hub.2.1; omega) X (h0.st X (Keeps.of_below hX))
  have HRW : Hid (∀ X, Below V0.heap.size V0 X → ∀ j v, (CfC c sv).toList[j]? = some v → X.cell? ((⟨g, 0, none⟩ : Addr).add j) = some v) := fun X hX j v hj => by
    have e : (⟨g, 0, none⟩ : Addr).add j = ⟨g, j, none⟩ := by unfold Addr.add; split <;> simp_all
    rw [e, hpCell (hpKeep h0.at_ hX)]
    exact SwC_cf j v hj
  obtain ⟨C, hC⟩ : ∃ C, CfC c sv = C := ⟨_, rfl⟩
  have hi : (Tryz.prog.info? 27).map (·.size) = some C.size := by rw [← hC]; exact infoCf
  rw [hC] at HPL HRW
  have kD : Below V0.heap.size V0 V0.drew := (Below.refl _ _).drew
  have c16 : ∀ X, Below V0.heap.size V0 X → X.cell? ⟨g, 16, none⟩ = some (.int .i64 x.at_) := fun X k => hpCell (hpKeep h0.at_ k) 16
  have HV0 := hid hV0
  have HB0 := hid hb0
  have HZ0 := hid hz0
  have H0 := hid h0
  have HPLS : Hid (∀ j, P j → j < w.heap.size) := hs.pl
  by_cases hlt : x.at_ < c.units
  · have hok := Cf.ok_of hc
    obtain ⟨a1, a2, a3, a4, a5⟩ := hgd.fed hok.win hO
    have hE0 : E = 0 := by rw [hE.out, if_neg (by unfold Sp.done; rw [decide_eq_true_eq]; omega)]
    subst hE0
    have hxf : x.feed c O = x.next c (x.pb.feed c.win O) := by unfold Sp.feed; rw [if_neg (by unfold Sp.done; rw [decide_eq_true_eq]; omega)]
    rw [hxf]
    obtain ⟨p', hp'⟩ : ∃ p, x.pb.feed c.win O = p := ⟨_, rfl⟩
    rw [hp'] at a1 a2 a3 a4 a5 ⊢
    have sw : IntKind.i64.wrap (x.cnt + 1) = x.cnt + 1 := IntWalk.i64_in _ (by have := hgd.c0; have := hgd.c1; omega)
    have HPE : Hid (p' = if x.pb.ph.isDone then x.pb else x.pb.feed c.win O) := by show _ = _; rw [hgd.nd]; exact hp'.symm
    have HEE : Hid ((0 : Int) = if x.pb.ph.isDone then 12 else 0) := by show _ = _; rw [hgd.nd]; rfl
    have HFD : Hid (∀ X, RqAt (RsQ W0 Q) W0 X gp c.win x.pb → Calls Tryz.prog 57 #[.pointer (some ⟨gp, 0, none⟩), .agg OC] X (RqFed (RsQ W0 Q) W0 X gp c.win p' 0)) := fun X hX => by
      rw [← hOC]
      exact rpfed_any hok.win hX hgd.ok hgd.tidy hgd.q0 (by have := hgd.q1; omega) O da dc oa oc HI hO p' 0 HPE HEE
    have HPL2 : Hid (∀ X, Below V0.heap.size V0 X → Calls Tryz.prog 50 #[.agg C, .int .i64 (x.at_ : Int)] X fun r w' => r = .returned (.tuple #[.int .i64 (c.pSet x.at_), .int .i64 (c.pUnit x.at_), .bool true]) ∧ Below X.heap.size X w') := fun X hX => (HPL.out X hX).mono fun _ _ h => by
      obtain ⟨h1, h2⟩ := h
      rw [if_pos hlt] at h1
      exact ⟨h1, h2⟩
    obtain ⟨ps, hps⟩ : ∃ p, c.pSet x.at_ = p := ⟨_, rfl⟩
    obtain ⟨pu, hpu⟩ : ∃ p, c.pUnit x.at_ = p := ⟨_, rfl⟩
    rw [hps, hpu] at HPL2
    have HPS := hid (And.intro hps hpu)
    have HLT := hid hlt
    have HSM := hid a2
    have HQG := hid hqg
    have HP0 := hid hp0
    have HWI := hid hwin
    have HFL : Hid (x.fd.length ≤ 1000000) := by show _ ≤ _; have := hgd.fl; have := hgd.at1; have := hub.2.1; omega
    have hat : (x.at_ : Int) + 1 ≤ 1000000 := by have := hub.2.1; omega
    have HGM : Hid (¬ g = w.heap.size) := by show ¬ _; omega
    have HNQ : Hid (¬ Q w.heap.size) := fun e => by have := hs.pl _ (hs.mp _ (hs.qm _ e).1).1; omega
    have hnd := hgd.nd
    have HND : Hid (∀ X, Below W0.heap.size W0 X → Calls Tryz.prog 47 #[.agg #[.int .i64 (c.win 0).1, .int .i64 (c.win 0).2, .int .i64 (c.win 1).1, .int .i64 (c.win 1).2, .int .i64 (c.win 2).1, .int .i64 (c.win 2).2, .int .i64 (c.win 3).1, .int .i64 (c.win 3).2]] X fun r w' => ∃ g : Nat, r = .returned (.pointer (some ⟨g, 0, none⟩)) ∧ X.heap.size ≤ g ∧ RqAt (fun j => j < W0.heap.size ∨ (X.heap.size ≤ j ∧ j < w'.heap.size)) W0 w' g c.win ⟨.test, Dv.zero, 0⟩ ∧ Below X.heap.size X w') := fun X hX => rpnew_ok c.win hok.win W0 X hX
    rw [hOC]
    clear hOC hs h0 hV0 hb0 hz0 hqg hpb hp0 hok a1 a2 a3 a4 a5 hE hxf hC hps hpu hc hlt hgd hk HI hO hp' hOs HPL hnd hub hwin
    go_enter Tryz.func19, Tryz.ntmps19
    go_upto_region 1 with (fail)
    rw [HV0.out]
    refine wp_region_held_drew (S := fun V => Below V0.heap.size V0 V) (by kernel_rfl) kD (fun hH => ?_); clear hH; refine tkD 0 10 (v := ?_) rfl (by kernel_rfl) (fun _ _ _ h => h) rfl (by rfl) (by assumption) ?_ ?_; rotate_left; (intro w hSw; (try dsimp only at hSw); go_simp; try (with_reducible rfl)); simp only [List.setIfInBounds_toArray, List.set_cons_zero, List.set_cons_succ]; refine tkD 1 11 (v := ?_) rfl (by kernel_rfl) (fun _ _ _ h => h) rfl (by rfl) (by assumption) ?_ ?_; rotate_left; (intro w hSw; (try dsimp only at hSw); go_simp; try (with_reducible rfl)); simp only [List.setIfInBounds_toArray, List.set_cons_zero, List.set_cons_succ]; refine tkD 2 12 (v := ?_) rfl (by kernel_rfl) (fun _ _ _ h => h) rfl (by rfl) (by assumption) ?_ ?_; rotate_left; (intro w hSw; (try dsimp only at hSw); go_simp; try (with_reducible rfl)); simp only [List.setIfInBounds_toArray, List.set_cons_zero, List.set_cons_succ]; refine tkD 3 13 (v := .agg C) rfl (by kernel_rfl) (fun _ _ _ h => h) rfl (by rfl) (by assumption) (fun X hX => run_load_rowS 27 (.tmp 12) rfl ⟨g, 0, none⟩ rfl C _ (HRW.out X hX) Tryz.underlying27 rfl hi) ?_; simp only [List.setIfInBounds_toArray, List.set_cons_zero, List.set_cons_succ]; refine tkD 4 14 (v := ?_) rfl (by kernel_rfl) (fun _ _ _ h => h) rfl (by rfl) (by assumption) ?_ ?_; rotate_left; (intro w hSw; (try dsimp only at hSw); go_simp; try (with_reducible rfl)); simp only [List.setIfInBounds_toArray, List.set_cons_zero, List.set_cons_succ]; refine tkD 5 15 (v := ?_) rfl (by kernel_rfl) (fun _ _ _ h => h) rfl (by rfl) (by assumption) ?_ ?_; rotate_left; (intro w hSw; (try dsimp only at hSw); go_simp; try (with_reducible rfl)); simp only [List.setIfInBounds_toArray, List.set_cons_zero, List.set_cons_succ]; refine tkD 6 16 (v := ?_) rfl (by kernel_rfl) (fun _ _ _ h => h) rfl (by rfl) (by assumption) ?_ ?_; rotate_left; (intro w hSw; (try dsimp only at hSw); go_simp; try (with_reducible rfl)); simp only [List.setIfInBounds_toArray, List.set_cons_zero, List.set_cons_succ]; refine tkD 7 17 (v := ?_) rfl (by kernel_rfl) (fun _ _ _ h => h) rfl (by rfl) (by assumption) ?_ ?_; rotate_left; (intro w hSw; (try dsimp only at hSw); go_simp; try (with_reducible rfl)); simp only [List.setIfInBounds_toArray, List.set_cons_zero, List.set_cons_succ]; refine wpAnyH_ready (rs := [8]) (by kernel_rfl) (by simp) ?_; refine AllReadyH.cons rfl (fun K hK => ?_) AllReadyH.nil; go_simp; refine (HPL2.out _ kD).mono ?_; rintro r w1 ⟨rfl, hb1⟩; have hB1 := bt kD hb1 (Nat.le_refl _); refine hK.out _ _ hB1 (fun hS1 => ?_); clear hK K; refine tkD 9 9 (v := ?_) rfl (by kernel_rfl) (fun _ _ _ h => h) rfl (by rfl) (by assumption) ?_ ?_; rotate_left; (intro w hSw; (try dsimp only at hSw); go_simp; try (with_reducible rfl)); simp only [List.setIfInBounds_toArray, List.set_cons_zero, List.set_cons_succ]; refine tkD 10 19 (v := ?_) rfl (by kernel_rfl) (fun _ _ _ h => h) rfl (by rfl) (by assumption) ?_ ?_; rotate_left; (intro w hSw; (try dsimp only at hSw); go_simp; try (with_reducible rfl)); simp only [List.setIfInBounds_toArray, List.set_cons_zero, List.set_cons_succ]; refine tkD 11 20 (v := ?_) rfl (by kernel_rfl) (fun _ _ _ h => h) rfl (by rfl) (by assumption) ?_ ?_; rotate_left; (intro w hSw; (try dsimp only at hSw); go_simp; try (with_reducible rfl)); simp only [List.setIfInBounds_toArray, List.set_cons_zero, List.set_cons_succ]; refine tkD 12 21 (v := ?_) rfl (by kernel_rfl) (fun _ _ _ h => h) rfl (by rfl) (by assumption) ?_ ?_; rotate_left; (intro w hSw; (try dsimp only at hSw); go_simp; try (with_reducible rfl)); simp only [List.setIfInBounds_toArray, List.set_cons_zero, List.set_cons_succ]; refine tkD 13 5 (v := ?_) rfl (by kernel_rfl) (fun _ _ _ h => h) rfl (by rfl) (by assumption) ?_ ?_; rotate_left; (intro w hSw; (try dsimp only at hSw); go_simp; try (with_reducible rfl)); simp only [List.setIfInBounds_toArray, List.set_cons_zero, List.set_cons_succ]; refine tkD 14 6 (v := ?_) rfl (by kernel_rfl) (fun _ _ _ h => h) rfl (by rfl) (by assumption) ?_ ?_; rotate_left; (intro w hSw; (try dsimp only at hSw); go_simp; try (with_reducible rfl)); simp only [List.setIfInBounds_toArray, List.set_cons_zero, List.set_cons_succ]; refine tkD 15 7 (v := ?_) rfl (by kernel_rfl) (fun _ _ _ h => h) rfl (by rfl) (by assumption) ?_ ?_; rotate_left; (intro w hSw; (try dsimp only at hSw); go_simp; try (with_reducible rfl)); simp only [List.setIfInBounds_toArray, List.set_cons_zero, List.set_cons_succ]; refine wpAnyH_done (by kernel_rfl) ?_ _
    have p1 := hpKeep p0 hB1
    have hs1 : RsS P M Q W0 w1 g c x sv (.pointer (some ⟨gp, 0, none⟩)) fa fc cs := H0.out.keep (F := fun _ => False) (Keeps.of_below hB1) (fun _ _ e => e.elim)
    have hpp1 := HP0.out.keep (F := fun _ => False) (Keeps.of_below hB1) (fun _ _ e => e.elim)
    have c19 : w1.cell? ⟨g, 19, none⟩ = some (.int .i64 x.cnt) := hpCell hs1.at_ 19
    have f19 : w1.frozen? ⟨g, 19, none⟩ = false := hpFree hs1.at_ 19
    clear hS1 c16 kD p0 HRW hi hb1 HPL2
    go_upto_region 5 with (fail)
    obtain ⟨W1, hW1⟩ : ∃ W, w1.setCell ⟨g, 19, none⟩ (.int .i64 (x.cnt + 1)) = W := ⟨_, rfl⟩
    have hk1 : Keeps (· = g) w1 W1 := by rw [← hW1]; exact (Keeps.refl _ _).set _ _ rfl
    have hpX : RqAt (RsQ W0 Q) W0 W1.drew gp c.win x.pb := (hpp1.keep (F := (· = g)) hk1 (fun j _ e hQ => by
      subst e
      rcases hQ with e2 | e2
      · have := (hs1.mp _ hs1.mg).2; omega
      · exact (hs1.qm _ e2).2 rfl)).keep (F := fun _ => False) (Keeps.of_below (Below.refl _ _).drew) (fun _ _ e => e.elim)
    have hI1 : RsI W1 g c sv (.pointer (some ⟨gp, 0, none⟩)) (.slice fa x.fd.length fc) x.at_ (x.cnt + 1) := by
      rw [← hW1]
      exact hpSetP (C := SwC c sv (.pointer (some ⟨gp, 0, none⟩)) (.slice fa x.fd.length fc) x.at_ (x.cnt + 1)) (i := 19) (u := .int .i64 (x.cnt + 1)) hs1.at_ rfl
    have q1 : W1.heap[w.heap.size]? = some (.cells OC 55) := hpKeeps p1 hk1 (fun e => HGM.out e.symm)
    have kD : Keeps (fun _ => False) W1 W1.drew := Keeps.of_below (Below.refl _ _).drew
    have hFS : FkS g w.heap.size (.pointer (some ⟨gp, 0, none⟩)) OC W1.drew := ⟨hpCell (hpKeeps hI1 kD (fun e => e)) 17, hpKeeps q1 kD (fun e => e)⟩
    have d17 : ∀ X, FkS g w.heap.size (.pointer (some ⟨gp, 0, none⟩)) OC X → X.cell? ⟨g, 17, none⟩ = some (.pointer (some ⟨gp, 0, none⟩)) := fun X h => h.c17
    have HRO : Hid (∀ X, FkS g w.heap.size (.pointer (some ⟨gp, 0, none⟩)) OC X → ∀ j v, OC.toList[j]? = some v → X.cell? ((⟨w.heap.size, 0, none⟩ : Addr).add j) = some v) := fun X hX => hpRowAt2 hX.row
    have HFE := hid (HFD.out _ hpX)
    have HQ1 := hid q1
    have HW1 := hid hW1
    have HS1 := hid hs1
    have HB1 := hid hB1
    rw [hW1]
    clear hW1 hpX hpp1 hI1 q1 kD p1 hs1 hB1 c19 f19 hk1
    refine wp_region_held_drew (S := fun V => FkS g w.heap.size (.pointer (some ⟨gp, 0, none⟩)) OC V) (by kernel_rfl) hFS (fun hH => ?_)
    clear hH
    refine tkD 0 31 (v := ?_) rfl (by kernel_rfl) (fun _ _ _ h => h) rfl (by rfl) (by assumption) ?_ ?_; rotate_left; (intro w hSw; (try dsimp only at hSw); go_simp; try (with_reducible rfl)); simp only [List.setIfInBounds_toArray, List.set_cons_zero, List.set_cons_succ]
    refine tkD 1 32 (v := ?_) rfl (by kernel_rfl) (fun _ _ _ h => h) rfl (by rfl) (by assumption) ?_ ?_; rotate_left; (intro w hSw; (try dsimp only at hSw); go_simp; try (with_reducible rfl)); simp only [List.setIfInBounds_toArray, List.set_cons_zero, List.set_cons_succ]
    refine tkD 2 33 (v := ?_) rfl (by kernel_rfl) (fun _ _ _ h => h) rfl (by rfl) (by assumption) ?_ ?_; rotate_left; (intro w hSw; (try dsimp only at hSw); go_simp; try (with_reducible rfl)); simp only [List.setIfInBounds_toArray, List.set_cons_zero, List.set_cons_succ]
    refine tkD 3 34 (v := ?_) rfl (by kernel_rfl) (fun _ _ _ h => h) rfl (by rfl) (by assumption) ?_ ?_; rotate_left; (intro w hSw; (try dsimp only at hSw); go_simp; try (with_reducible rfl)); simp only [List.setIfInBounds_toArray, List.set_cons_zero, List.set_cons_succ]
    refine tkD 4 35 (v := .agg OC) rfl (by kernel_rfl) (fun _ _ _ h => h) rfl (by rfl) (by assumption) (fun X hX => run_load_rowS 55 (.tmp 3) rfl ⟨w.heap.size, 0, none⟩ rfl OC _ (HRO.out X hX) Tryz.underlying55 rfl hOi) ?_; simp only [List.setIfInBounds_toArray, List.set_cons_zero, List.set_cons_succ]
    refine wpAnyH_ready (rs := [5]) (by kernel_rfl) (by simp) ?_; refine AllReadyH.cons rfl (fun K hK => ?_) AllReadyH.nil
    go_simp
    refine HFE.out.mono ?_
    rintro r W2 ⟨rfl, hf1, hf2⟩
    have hkQ : Keeps Q W1 W2 := (Keeps.of_below (Below.refl _ _).drew).trans (hf2.mono (fun j _ e => by
      rcases e.1 with e2 | e2
      · have := e.2; omega
      · exact e2)) (fun _ _ e => e)
    have hp2 : RqAt (RsQ W0 (Grw Q W1 W2)) W0 W2 gp c.win p' := by
      have h := hf1
      rw [RsQ_grw] at h
      exact h
    obtain ⟨M2, hs2, hk2, hm2⟩ := RsS.fed HS1.out HW1.out (p := p') hkQ
    have hF2 : FkS g w.heap.size (.pointer (some ⟨gp, 0, none⟩)) OC W2 := ⟨hpCell hs2.at_ 17, hpKeeps HQ1.out hkQ HNQ.out⟩
    refine hK.out _ _ hF2 (fun hSx => ?_)
    clear hK K hSx hF2 d17 HRO HFE hFS hf1 hf2
    refine wpAnyH_done (by kernel_rfl) ?_ _
    obtain ⟨V, hV⟩ : ∃ V, p'.ph.isDone = V := ⟨_, rfl⟩
    obtain ⟨st, hst, hst2⟩ := hp2.step
    rw [hV] at hst2
    have e17 : W2.cell? ⟨g, 17, none⟩ = some (.pointer (some ⟨gp, 0, none⟩)) := hpCell hs2.at_ 17
    have HS2 := hid hs2
    have HK2 := hid hk2
    have HM2 := hid hm2
    have HP2 := hid hp2
    have HNX : Hid (x.next c p' = if V = true then ⟨x.at_ + 1, Pb0, x.fd ++ (if p'.d.st = 1 then [] else [⟨ps, pu, p'.d⟩]), x.cnt + 1⟩ else ⟨x.at_, p', x.fd, x.cnt + 1⟩) := by
      show _ = _
      unfold Sp.next
      rw [hV, HPS.out.1, HPS.out.2]
    have HZ2 : Hid (w1.heap.size ≤ W2.heap.size) := hk2.size
    have HZ1 : Hid (w.heap.size + 1 ≤ w1.heap.size) := by show _ ≤ _; have := HB1.out.size; have := HZ0.out; omega
    have HKM : Hid (Keeps (fun j => P j ∧ W0.heap.size ≤ j) w W2) := ((Keeps.of_below (HB0.out.trans (HB1.out.mono HB0.out.size))).trans (F := fun j => P j ∧ W0.heap.size ≤ j) (hk2.mono (fun j _ e => H0.out.mp j e)) (fun _ _ e => e))
    clear hV hs2 hk2 hm2 hp2 hkQ
    cases V with
    | false =>
      have g1 : (st != 11) = true := hst2
      clear hst2
      go_wp2
      go_ret
      refine ⟨rfl, ?_, HKM.out⟩
      rw [HNX.out, if_neg (by decide)]
      have h9 : RsAt (Grw P w1 W2) W0 W2 g c ⟨x.at_, p', x.fd, x.cnt + 1⟩ := ⟨_, _, _, _, _, _, _, HS2.out, .inl HQG.out, HP2.out⟩
      exact h9.wide (fun j e => by
        rcases e with e | e
        · exact .inl e
        · exact .inr ⟨by have := HZ1.out; omega, e.2⟩) (fun j e => by
        have := HZ1.out
        have := HZ2.out
        rcases e with e | e
        · have := HPLS.out j e; omega
        · exact e.2)
    | true =>
      have g1 : (st != 11) = false := hst2
      clear hst2
      obtain ⟨ov, dv, mv, Qp, hdc, hrd⟩ := HP2.out.devS
      obtain ⟨d, hd⟩ : ∃ d, p'.d = d := ⟨_, rfl⟩
      have hone := DvC_one (hrd W2 (Keeps.refl _ _))
      rw [hd] at hdc hrd HNX HSM hone
      obtain ⟨DC, hDC⟩ : ∃ C, DvC d ov dv mv = C := ⟨_, rfl⟩
      obtain ⟨DF, hDF⟩ : ∃ C, DvF ⟨ps, pu, d⟩ ov dv mv = C := ⟨_, rfl⟩
      have hcs : DC.size = 21 := by rw [← hDC]; rfl
      have hDi : (Tryz.prog.info? 91).map (·.size) = some DC.size := by rw [hcs]; exact info21
      have hfs : DF.size = 21 := by rw [← hDF]; rfl
      have hfi : (Tryz.prog.info? 91).map (·.size) = some DF.size := by rw [hfs]; exact info21
      have hfold : Array.foldl (fun (cs : Array Value) (x : Value × Nat) => cs.setIfInBounds x.snd x.fst) #[.int .i64 0, .int .i64 0, .int .i64 0, .int .i64 0, .int .i64 0, .slice none 0 0, .int .i64 0, .slice none 0 0, .int .i64 0, .int .i64 0, .slice none 0 0, .int .i64 0, .int .i64 0, .slice none 0 0, .int .i64 0, .int .i64 0, .slice none 0 0, .int .i64 0, .int .i64 0, .slice none 0 0, .string ⟨#[]⟩] DF.zipIdx 0 21 = DF := by have h := dvFold ⟨ps, pu, d⟩ ov dv mv DF hDF; rw [hfs] at h; exact h
      have hfone : ∀ u ∈ DF.toList, u.oneCell' = true := by
        have h1 := DvF_one (f := ⟨ps, pu, d⟩) (hrd W2 (Keeps.refl _ _))
        rw [hDF] at h1
        exact List.all_eq_true.1 h1
      rw [hDC] at hdc hone
      have HDC := hid hDC
      have HDF := hid hDF
      have HFO := hid hfone
      have HFF := hid hfold
      have HRD := hid hrd
      have HCS := hid hcs
      clear hDC hDF hfone hfold hrd hd hcs
      go_upto_region 9 with (first
        | (refine wpList_load_at rfl 91 (.tmp 50) rfl ⟨gp, 12, none⟩ rfl DC _ hdc Tryz.underlying91 rfl hDi ?_)
        | (refine wpList_storeW rfl 91 (.tmp 8) (.tmp 51) rfl W2.heap.size 0 _ 91 DC rfl rfl (hpNew W2 (.cells #[.int .i64 0, .int .i64 0, .int .i64 0, .int .i64 0, .int .i64 0, .slice none 0 0, .int .i64 0, .slice none 0 0, .int .i64 0, .int .i64 0, .slice none 0 0, .int .i64 0, .int .i64 0, .slice none 0 0, .int .i64 0, .int .i64 0, .slice none 0 0, .int .i64 0, .int .i64 0, .slice none 0 0, .string ⟨#[]⟩] 91)) (by simp [HCS.out]) hDi hone ?_; intro x9 g9 hk9 hz9))
      have g9' : x9.heap[W2.heap.size]? = some (.cells DC 91) := by rw [g9, List.drop_eq_nil_of_le (by simp [HCS.out])]; simp
      have hb9 : Below W2.heap.size W2 x9 := (bal' W2 (.cells #[.int .i64 0, .int .i64 0, .int .i64 0, .int .i64 0, .int .i64 0, .slice none 0 0, .int .i64 0, .slice none 0 0, .int .i64 0, .int .i64 0, .slice none 0 0, .int .i64 0, .int .i64 0, .slice none 0 0, .int .i64 0, .int .i64 0, .slice none 0 0, .int .i64 0, .int .i64 0, .slice none 0 0, .string ⟨#[]⟩] 91)).trans (hk9.below (by simp) (fun j hj e => by omega))
      have e0 : x9.cell? ⟨W2.heap.size, 0, none⟩ = some (.int .i64 0) := by rw [hpCell g9', ← HDC.out]; rfl
      have f0 : x9.frozen? ⟨W2.heap.size, 0, none⟩ = false := hpFree g9' 0
      have e1 : x9.cell? ⟨W2.heap.size, 1, none⟩ = some (.int .i64 0) := by rw [hpCell g9', ← HDC.out]; rfl
      have f1 : x9.frozen? ⟨W2.heap.size, 1, none⟩ = false := hpFree g9' 1
      have hx9 : x9.heap.size = W2.heap.size + 1 := by rw [hz9]; simp
      clear g9 hk9 hz9 hdc hone
      go_upto_region 10 with (fail)
      obtain ⟨X2, hX2⟩ : ∃ X, (x9.setCell ⟨W2.heap.size, 0, none⟩ (.int .i64 ps)).setCell ⟨W2.heap.size, 1, none⟩ (.int .i64 pu) = X := ⟨_, rfl⟩
      have q2 : X2.heap[W2.heap.size]? = some (.cells DF 91 (0, 0)) := by
        have q1 := hpSet (hpSet g9' 0 (.int .i64 ps)) 1 (.int .i64 pu)
        rw [hX2] at q1
        rw [q1, ← HDC.out, ← HDF.out]
        rfl
      have hkx : Keeps (· = W2.heap.size) x9 X2 := by
        rw [← hX2]
        have a : Keeps (· = W2.heap.size) x9 (x9.setCell ⟨W2.heap.size, 0, none⟩ (.int .i64 ps)) := (Keeps.refl _ _).set _ _ rfl
        exact a.set _ _ rfl
      have hb2 : Below W2.heap.size W2 X2 := hb9.trans (hkx.below hb9.size (fun j hj e => by omega))
      have hx2 : X2.heap.size = W2.heap.size + 1 := by rw [← hX2, ← hx9]; simp
      have c2 : X2.cell? ⟨W2.heap.size, 2, none⟩ = some (.int .i64 d.st) := by rw [hpCell q2, ← HDF.out]; rfl
      rw [hX2]
      obtain ⟨M8, hs8, hrd8, hm8⟩ := RsS.drop HS2.out hb2 HRD.out
      have HS8 := hid hs8
      have HRD8 := hid hrd8
      have HM8 := hid hm8
      have HQ2 := hid q2
      have HX2 := hid hx2
      have HB2 := hid hb2
      have HNB : Hid (¬ (Value.slice fa x.fd.length fc).ownBlock = some W2.heap.size) := fun e => by have := HS2.out.pl _ (HS2.out.mp _ (HS2.out.rw_ _ e).1).1; omega
      have HGB : Hid (¬ g = W2.heap.size) := fun e => by have := HS2.out.pl _ (HS2.out.mp _ HS2.out.mg).1; omega
      have HI2 : Hid (RsI X2 g c sv (.pointer (some ⟨gp, 0, none⟩)) (.slice fa x.fd.length fc) x.at_ (x.cnt + 1)) := hs8.at_
      have HBW : Hid (Below W0.heap.size W0 X2) := by
        have h1 : Below W0.heap.size W0 W2 := by obtain ⟨-, h, -⟩ := HP2.out; exact h
        exact bt h1 hb2 (Nat.le_refl _)
      obtain ⟨n, hn⟩ : ∃ n, x.fd.length = n := ⟨_, rfl⟩
      have HN := hid hn
      have hm : n ≤ 1000000 := by rw [← hn]; exact HFL.out
      obtain ⟨fdN, hfd⟩ : ∃ l, x.fd ++ (if d.st = 1 then [] else [(⟨ps, pu, d⟩ : Fd)]) = l := ⟨_, rfl⟩
      have HFDN := hid hfd
      rw [hfd] at HNX
      obtain ⟨i5, hid5, hz0', hz15, hz2⟩ := info_parts infoDv
      have HAT := hid hat
      clear hX2 hkx hb9 e0 f0 e1 f1 g9' hx9 hs8 hrd8 hm8 hb2 hn hfd hx2 hat hst e17 sw g1 hgl
      go_upto_if 58 with (fail)
      go_cut [] from 59 to 68 (fun wc => Hid (RoR (Grw (Grw P w1 W2) W2 X2) M8 W0 X2 g c { x with pb := p', cnt := x.cnt + 1 } sv (.pointer (some ⟨gp, 0, none⟩)) fdN wc))
      case first =>
        by_cases h1 : d.st = 1
        · have g1 : (d.st != 1) = false := by rw [bne_eq_false_iff_eq]; exact h1
          have HE : Hid (x.fd = fdN) := by show _ = _; rw [← HFDN.out, if_pos h1, List.append_nil]
          clear h1
          generalize (d.st != 1) = T at *
          subst g1
          go_wp2
          go_meet
          case rel =>
            refine ⟨M8, fa, fc, cs, ?_, Keeps.refl _ _, fun _ _ e => e⟩
            rw [← HE.out]
            exact HS8.out.wide (fun j e => .inl e) (fun j e => by
              rcases e with e | e
              · exact HS8.out.pl j e
              · exact e.2)
        · have g1 : (d.st != 1) = true := by rw [bne_iff_ne]; exact h1
          have HE : Hid (fdN = x.fd ++ [⟨ps, pu, d⟩]) := by show _ = _; rw [← HFDN.out, if_neg h1]
          clear h1
          generalize (d.st != 1) = T at *
          subst g1
          go_upto_region 11 with (fail)
          have hSd3 : X2.drew.heap[W2.heap.size]? = some (.cells DF 91 (0, 0)) := hpKeep q2 (Below.refl _ _).drew
          have hI3 : RsI X2.drew g c sv (.pointer (some ⟨gp, 0, none⟩)) (.slice fa x.fd.length fc) x.at_ (x.cnt + 1) := hpKeep HI2.out (Below.refl _ _).drew
          have d18 : X2.drew.cell? ⟨g, 18, none⟩ = some (.slice fa x.fd.length fc) := hpCell hI3 18
          have HRR : Hid (∀ X : World, X.heap[W2.heap.size]? = some (.cells DF 91 (0, 0)) → ∀ j v, DF.toList[j]? = some v → X.cell? ((⟨W2.heap.size, 0, none⟩ : Addr).add j) = some v) := fun X hX j v hj => hpRowAt2 hX j v hj
          clear c2 q2 hI3
          refine wp_region_held_drew (S := fun V => V.heap[W2.heap.size]? = some (.cells DF 91 (0, 0))) (by kernel_rfl) hSd3 (fun hH => ?_)
          clear hH
          refine tkD 0 59 (v := ?_) rfl (by kernel_rfl) (fun _ _ _ h => h) rfl (by rfl) (by assumption) ?_ ?_; rotate_left; (intro w hSw; (try dsimp only at hSw); go_simp; try (with_reducible rfl)); simp only [List.setIfInBounds_toArray, List.set_cons_zero, List.set_cons_succ]
          refine tkD 1 60 (v := ?_) rfl (by kernel_rfl) (fun _ _ _ h => h) rfl (by rfl) (by assumption) ?_ ?_; rotate_left; (intro w hSw; (try dsimp only at hSw); go_simp; try (with_reducible rfl)); simp only [List.setIfInBounds_toArray, List.set_cons_zero, List.set_cons_succ]
          refine tkD 2 61 (v := ?_) rfl (by kernel_rfl) (fun _ _ _ h => h) rfl (by rfl) (by assumption) ?_ ?_; rotate_left; (intro w hSw; (try dsimp only at hSw); go_simp; try (with_reducible rfl)); simp only [List.setIfInBounds_toArray, List.set_cons_zero, List.set_cons_succ]
          refine tkD 3 62 (v := ?_) rfl (by kernel_rfl) (fun _ _ _ h => h) rfl (by rfl) (by assumption) ?_ ?_; rotate_left; (intro w hSw; (try dsimp only at hSw); go_simp; try (with_reducible rfl)); simp only [List.setIfInBounds_toArray, List.set_cons_zero, List.set_cons_succ]
          refine tkD 5 64 (v := .agg DF) rfl (by kernel_rfl) (fun _ _ _ h => h) rfl (by rfl) (by assumption) (fun X hX => run_load_rowS 91 (.tmp 8) rfl ⟨W2.heap.size, 0, none⟩ rfl DF _ (HRR.out X hX) Tryz.underlying91 rfl hfi) ?_; simp only [List.setIfInBounds_toArray, List.set_cons_zero, List.set_cons_succ]
          refine wpAnyH_ready (rs := [4, 6]) (by kernel_rfl) (by simp) ?_
          refine AllReadyH.cons rfl (fun K hK => ?_) (AllReadyH.cons rfl (fun K hK => ?_) AllReadyH.nil)
          · go_simp
            refine hK.out _ _ hSd3 (fun hSe => ?_)
            clear hK K
            refine wpAnyH_ready (rs := [6]) (by kernel_rfl) (by simp) ?_; refine AllReadyH.cons rfl (fun K hK => ?_) AllReadyH.nil
            go_simp
            rw [HFF.out]
            obtain ⟨X3, hX3⟩ : ∃ X, (X2.alloc (.cells DF 91)).drew = X := ⟨_, rfl⟩
            have kx3 : Below X2.heap.size X2 X3 := by rw [← hX3]; exact (bal' X2 _).drew
            have n3 : X3.heap[X2.heap.size]? = some (.cells DF 91 (0, 0)) := by rw [← hX3]; exact hpNew X2 _
            rw [hX3]
            have hSd4 := hpKeep HQ2.out kx3
            have hown3 := own_keeps HS8.out.own (Keeps.of_below (F := fun _ => False) kx3) (fun _ _ e => e)
            refine hK.out _ _ hSd4 (fun hSf => ?_)
            clear hK K
            refine wpAnyH_ready (rs := [7]) (by kernel_rfl) (by simp) ?_; refine AllReadyH.cons rfl (fun K hK => ?_) AllReadyH.nil; refine step_appN rfl (.tmp 63) (.tmp 65) 44 rfl 0 91 i5 _ 21 272 Tryz.underlying44 hid5 hz0' hz15 hz2 rfl (by decide) (.slice fa x.fd.length fc) x.fd.length cs rfl hown3 ⟨X2.heap.size, 0, none⟩ 1 1 DF.toList rfl (by rw [Array.length_toList, hfs]) (fun j u hj => hpRowAt2 n3 j u hj) HFO.out (by rw [HN.out]; unfold maxLen; omega) (by rw [HN.out]; omega) (by omega) ?_; intro v6 w6 hown6 hgr6 hnew6; obtain ⟨a6, c6, rfl⟩ := own_slice hown6; have k36 := Keeps.of_grown (F := fun j => (Value.slice fa x.fd.length fc).ownBlock = some j) hgr6 (fun _ h => h); have hS6 := hpKeeps hSd4 k36 (fun e => HNB.out e); have hg6 : RsI w6 g c sv (.pointer (some ⟨gp, 0, none⟩)) (.slice fa x.fd.length fc) x.at_ (x.cnt + 1) := hpKeeps (hpKeep HI2.out kx3) k36 (fun e => (HS8.out.rw_ g e).2.1 rfl); go_simp; refine hK.out _ _ hS6 (fun hSg => ?_); clear hK K; refine tkD 8 67 (v := ?_) rfl (by kernel_rfl) (fun _ _ _ h => h) rfl (by rfl) (by assumption) ?_ ?_; rotate_left; (intro w hSw; (try dsimp only at hSw); go_simp; try (with_reducible rfl)); simp only [List.setIfInBounds_toArray, List.set_cons_zero, List.set_cons_succ]; refine tkD 9 68 (v := ?_) rfl (by kernel_rfl) (fun _ _ _ h => h) rfl (by rfl) (by assumption) ?_ ?_; rotate_left; (intro w hSw; (try dsimp only at hSw); go_simp; try (with_reducible rfl)); simp only [List.setIfInBounds_toArray, List.set_cons_zero, List.set_cons_succ]; have e6 : w6.cell? ⟨g, 18, none⟩ = some (.slice fa x.fd.length fc) := hpCell hg6 18; have f6 : w6.frozen? ⟨g, 18, none⟩ = false := hpFree hg6 18; refine wpAnyH_ready (rs := [10]) (by kernel_rfl) (by simp) ?_; refine AllReadyH.cons rfl (fun K hK => ?_) AllReadyH.nil; go_simp; refine hK.out _ _ ((hpOther (Ne.symm HGB.out)).trans hS6) (fun hSh => ?_); clear hK K; refine wpAnyH_done (by kernel_rfl) ?_ _
            go_wp2
            go_meet
            case rel =>
              obtain ⟨M', b1, b2, b3⟩ := RsS.app HS8.out (f := ⟨ps, pu, d⟩) HRD8.out kx3 hgr6 hnew6 (by rw [HDF.out]; exact hown6)
              have e : Grw (Grw (Grw P w1 W2) W2 X2) X2 w6 = Grw (Grw (Grw P w1 W2) W2 X2) X2 (w6.setCell ⟨g, 18, none⟩ (.slice a6 (x.fd.length + 1) c6)) := by funext j; simp [Grw]
              rw [e] at b1
              refine ⟨M', a6, c6, cs ++ (DvF ⟨ps, pu, d⟩ ov dv mv).toList, ?_, b2, b3⟩
              rw [HE.out]
              exact b1
          · go_simp
            rw [HFF.out]
            obtain ⟨X3, hX3⟩ : ∃ X, (X2.alloc (.cells DF 91)).drew = X := ⟨_, rfl⟩
            have kx3 : Below X2.heap.size X2 X3 := by rw [← hX3]; exact (bal' X2 _).drew
            have n3 : X3.heap[X2.heap.size]? = some (.cells DF 91 (0, 0)) := by rw [← hX3]; exact hpNew X2 _
            rw [hX3]
            have hSd4 := hpKeep HQ2.out kx3
            have hown3 := own_keeps HS8.out.own (Keeps.of_below (F := fun _ => False) kx3) (fun _ _ e => e)
            refine hK.out _ _ hSd4 (fun hSf => ?_)
            clear hK K
            have d18x : X3.cell? ⟨g, 18, none⟩ = some (.slice fa x.fd.length fc) := hpCell (hpKeep HI2.out kx3) 18
            refine wpAnyH_ready (rs := [4]) (by kernel_rfl) (by simp) ?_; refine AllReadyH.cons rfl (fun K hK => ?_) AllReadyH.nil
            go_simp
            refine hK.out _ _ hSd4 (fun hSe => ?_)
            clear hK K
            refine wpAnyH_ready (rs := [7]) (by kernel_rfl) (by simp) ?_; refine AllReadyH.cons rfl (fun K hK => ?_) AllReadyH.nil; refine step_appN rfl (.tmp 63) (.tmp 65) 44 rfl 0 91 i5 _ 21 272 Tryz.underlying44 hid5 hz0' hz15 hz2 rfl (by decide) (.slice fa x.fd.length fc) x.fd.length cs rfl hown3 ⟨X2.heap.size, 0, none⟩ 1 1 DF.toList rfl (by rw [Array.length_toList, hfs]) (fun j u hj => hpRowAt2 n3 j u hj) HFO.out (by rw [HN.out]; unfold maxLen; omega) (by rw [HN.out]; omega) (by omega) ?_; intro v6 w6 hown6 hgr6 hnew6; obtain ⟨a6, c6, rfl⟩ := own_slice hown6; have k36 := Keeps.of_grown (F := fun j => (Value.slice fa x.fd.length fc).ownBlock = some j) hgr6 (fun _ h => h); have hS6 := hpKeeps hSd4 k36 (fun e => HNB.out e); have hg6 : RsI w6 g c sv (.pointer (some ⟨gp, 0, none⟩)) (.slice fa x.fd.length fc) x.at_ (x.cnt + 1) := hpKeeps (hpKeep HI2.out kx3) k36 (fun e => (HS8.out.rw_ g e).2.1 rfl); go_simp; refine hK.out _ _ hS6 (fun hSg => ?_); clear hK K; refine tkD 8 67 (v := ?_) rfl (by kernel_rfl) (fun _ _ _ h => h) rfl (by rfl) (by assumption) ?_ ?_; rotate_left; (intro w hSw; (try dsimp only at hSw); go_simp; try (with_reducible rfl)); simp only [List.setIfInBounds_toArray, List.set_cons_zero, List.set_cons_succ]; refine tkD 9 68 (v := ?_) rfl (by kernel_rfl) (fun _ _ _ h => h) rfl (by rfl) (by assumption) ?_ ?_; rotate_left; (intro w hSw; (try dsimp only at hSw); go_simp; try (with_reducible rfl)); simp only [List.setIfInBounds_toArray, List.set_cons_zero, List.set_cons_succ]; have e6 : w6.cell? ⟨g, 18, none⟩ = some (.slice fa x.fd.length fc) := hpCell hg6 18; have f6 : w6.frozen? ⟨g, 18, none⟩ = false := hpFree hg6 18; refine wpAnyH_ready (rs := [10]) (by kernel_rfl) (by simp) ?_; refine AllReadyH.cons rfl (fun K hK => ?_) AllReadyH.nil; go_simp; refine hK.out _ _ ((hpOther (Ne.symm HGB.out)).trans hS6) (fun hSh => ?_); clear hK K; refine wpAnyH_done (by kernel_rfl) ?_ _
            go_wp2
            go_meet
            case rel =>
              obtain ⟨M', b1, b2, b3⟩ := RsS.app HS8.out (f := ⟨ps, pu, d⟩) HRD8.out kx3 hgr6 hnew6 (by rw [HDF.out]; exact hown6)
              have e : Grw (Grw (Grw P w1 W2) W2 X2) X2 w6 = Grw (Grw (Grw P w1 W2) W2 X2) X2 (w6.setCell ⟨g, 18, none⟩ (.slice a6 (x.fd.length + 1) c6)) := by funext j; simp [Grw]
              rw [e] at b1
              refine ⟨M', a6, c6, cs ++ (DvF ⟨ps, pu, d⟩ ov dv mv).toList, ?_, b2, b3⟩
              rw [HE.out]
              exact b1
      case rest =>
        obtain ⟨M1, fa1, fc1, cs1, hs3, hk3, hm3⟩ := hcut.out
        have gI : RsI wc g c sv (.pointer (some ⟨gp, 0, none⟩)) (.slice fa1 fdN.length fc1) x.at_ (x.cnt + 1) := hs3.at_
        have hat := HAT.out
        have s16 : wc.cell? ⟨g, 16, none⟩ = some (.int .i64 x.at_) := hpCell gI 16
        have z16 : wc.frozen? ⟨g, 16, none⟩ = false := hpFree gI 16
        have HS3 := hid hs3
        have HK3 := hid hk3
        have HM3 := hid hm3
        have HGI := hid gI
        clear hs3 hk3 hm3 gI hcut c2 q2
        go_upto_region 13 with (fail)
        obtain ⟨X4, hX4⟩ : ∃ X, wc.setCell ⟨g, 16, none⟩ (.int .i64 ((x.at_ : Int) + 1)) = X := ⟨_, rfl⟩
        have h4 : RsI X4 g c sv (.pointer (some ⟨gp, 0, none⟩)) (.slice fa1 fdN.length fc1) ((x.at_ : Int) + 1) (x.cnt + 1) := by
          rw [← hX4]
          exact hpSetP (C := SwC c sv (.pointer (some ⟨gp, 0, none⟩)) (.slice fa1 fdN.length fc1) ((x.at_ : Int) + 1) (x.cnt + 1)) (i := 16) (u := .int .i64 ((x.at_ : Int) + 1)) HGI.out rfl
        have k4 : Keeps (· = g) wc X4 := by rw [← hX4]; exact (Keeps.refl _ _).set _ _ rfl
        have z4 : X4.heap.size = wc.heap.size := by rw [← hX4]; simp
        have hbW : Below W0.heap.size W0 X4 := (HBW.out.trans (HK3.out.below HBW.out.size (fun j hj e => by have := (HS8.out.mp j e).2; omega))).trans (k4.below (by have := HBW.out.size; have := HK3.out.size; omega) (fun j hj e => by subst e; have := (HS8.out.mp _ HS8.out.mg).2; omega))
        rw [hX4]
        have H4 := hid h4
        have K4 := hid k4
        have Z4 := hid z4
        have HWR : Hid (∀ j v, (#[.int .i64 (c.win 0).1, .int .i64 (c.win 0).2, .int .i64 (c.win 1).1, .int .i64 (c.win 1).2, .int .i64 (c.win 2).1, .int .i64 (c.win 2).2, .int .i64 (c.win 3).1, .int .i64 (c.win 3).2] : Array Value).toList[j]? = some v → X4.cell? ((⟨g, 6, none⟩ : Addr).add j) = some v) := fun j v hj => RsC_wrow h4 j v hj
        have HN4 := hid (HND.out X4 hbW)
        clear hX4 h4 k4 z4 s16 z16 hat HND
        go_wp2_with (first
          | (refine wpList_load_at rfl 25 (.tmp 80) rfl ⟨g, 6, none⟩ rfl #[.int .i64 (c.win 0).1, .int .i64 (c.win 0).2, .int .i64 (c.win 1).1, .int .i64 (c.win 1).2, .int .i64 (c.win 2).1, .int .i64 (c.win 2).2, .int .i64 (c.win 3).1, .int .i64 (c.win 3).2] _ HWR.out Tryz.underlying25 rfl infoW ?_)
          | (go_at_call 47; (with_reducible refine HN4.out.mono ?_); rintro r w6 ⟨gq, rfl, hgq, hp6, hb6⟩; have e17 : w6.cell? ⟨g, 17, none⟩ = some (.pointer (some ⟨gp, 0, none⟩)) := hpCell (hpKeep H4.out hb6) 17; have f17 : w6.frozen? ⟨g, 17, none⟩ = false := hpFree (hpKeep H4.out hb6) 17; have HP6 := hid hp6; have HB6 := hid hb6; have HGQ := hid hgq; clear hp6 hb6 hgq))
        go_ret
        obtain ⟨X7, hX7⟩ : ∃ X, w6.setCell ⟨g, 17, none⟩ (.pointer (some ⟨gq, 0, none⟩)) = X := ⟨_, rfl⟩
        have hB6 := HB6.out
        have hs7 : Keeps (· = g) w6 X7 := by rw [← hX7]; exact (Keeps.refl _ _).set _ _ rfl
        have hz7 : X7.heap.size = w6.heap.size := by rw [← hX7]; simp
        have hk : Keeps (fun j => j = g ∨ False) wc X7 := ((K4.out.mono (fun j _ e => .inl e)).trans (Keeps.of_below hB6) (fun _ _ e => e)).trans (hs7.mono (fun j _ e => .inl e)) (fun _ _ e => e)
        have hg4 : g < X4.heap.size := hpLt H4.out
        have h7 : RsI X7 g c sv (.pointer (some ⟨gq, 0, none⟩)) (.slice fa1 fdN.length fc1) ((x.at_ : Int) + 1) (x.cnt + 1) := by
          rw [← hX7]
          exact hpSetP (C := SwC c sv (.pointer (some ⟨gq, 0, none⟩)) (.slice fa1 fdN.length fc1) ((x.at_ : Int) + 1) (x.cnt + 1)) (i := 17) (u := .pointer (some ⟨gq, 0, none⟩)) (hpKeep H4.out hB6) rfl
        have hg0 := (HS8.out.mp _ HS8.out.mg).2
        have hp7 : RqAt (RsQ W0 (RsN X4 w6)) W0 X7 gq c.win Pb0 := HP6.out.keep (F := (· = g)) hs7 (fun j _ e hq => by
          rcases hq with e2 | e2 <;> omega)
        have hgl6 := HP6.out.lt
        have z64 := hB6.size
        have z4 := Z4.out
        have zc := HK3.out.size
        have zx := HB2.out.size
        have z2 := HZ2.out
        have z1 := HZ1.out
        obtain ⟨b1, b2, b3⟩ := HS3.out.to (Q' := RsN X4 w6) (at' := x.at_ + 1) (pb' := Pb0) (cnt' := x.cnt + 1) (pv' := .pointer (some ⟨gq, 0, none⟩)) hk h7 (fun j e => .inr ⟨by have := e.1; omega, by have := e.2; omega⟩)
        rw [hX7]
        refine ⟨rfl, ?_, ?_⟩
        · rw [HNX.out, if_pos trivial]
          have h9 : RsAt _ W0 X7 g c ⟨x.at_ + 1, Pb0, fdN, x.cnt + 1⟩ := ⟨_, _, _, _, _, _, _, b1, ⟨HGQ.out, hgl6⟩, hp7⟩
          refine h9.wide (fun j e => ?_) (fun j e => ?_)
          · rcases e with (((e | e) | e) | e) | e
            · exact .inl e
            · exact .inr ⟨by omega, by omega⟩
            · exact .inr ⟨by omega, by omega⟩
            · exact .inr ⟨by omega, by omega⟩
            · exact .inr ⟨by omega, by omega⟩
          · rcases e with e | e
            · have := HPLS.out j e; omega
            · exact e.2
        · have hM8 : ∀ j, j < w.heap.size → M8 j → P j ∧ W0.heap.size ≤ j := fun j hj e => H0.out.mp j (HM2.out j (by omega) (HM8.out j e))
          refine ((HKM.out.trans (Keeps.of_below (F := fun _ => False) HB2.out) (fun _ _ e => e.elim)).trans HK3.out hM8).trans hk (fun j hj e => ?_)
          rcases e with e | e
          · subst e
            exact hM8 _ hj HS8.out.mg
          · exact e.elim
  · have hE0 : E = 12 := by rw [hE.out, if_pos (by unfold Sp.done; rw [decide_eq_true_eq]; omega)]
    subst hE0
    have hxf : x.feed c O = x := by unfold Sp.feed; rw [if_pos (by unfold Sp.done; rw [decide_eq_true_eq]; omega)]
    rw [hxf]
    have HPL2 : Hid (∀ X, Below V0.heap.size V0 X → Calls Tryz.prog 50 #[.agg C, .int .i64 (x.at_ : Int)] X fun r w' => r = .returned (.tuple #[.int .i64 0, .int .i64 0, .bool false]) ∧ Below X.heap.size X w') := fun X hX => (HPL.out X hX).mono fun _ _ h => by
      obtain ⟨h1, h2⟩ := h
      rw [if_neg hlt] at h1
      exact ⟨h1, h2⟩
    have HEN : Hid (∀ X, Below w.heap.size w X → RsfPost P W0 w g c x 12 (.returned (.int .i64 12)) X) := fun X hX => ⟨rfl, RsAt.wide ⟨M, Q, sv, gp, fa, fc, cs, hs.keep (F := fun _ => False) (Keeps.of_below hX) (fun _ _ e => e.elim), hqg, hpb.keep (F := fun _ => False) (Keeps.of_below hX) (fun _ _ e => e.elim)⟩ (fun j e => .inl e) (fun j e => by
      rcases e with e | e
      · have := hs.pl j e; have := hX.size; omega
      · exact e.2), Keeps.of_below hX⟩
    rw [hOC]
    clear hOC hs h0 hV0 hb0 hz0 p0 hqg hpb hp0 hE hxf hC hc hlt hgd hk HI hO hOs HPL hub hwin
    go_enter Tryz.func19, Tryz.ntmps19
    go_upto_region 1 with (fail)
    rw [HV0.out]
    refine wp_region_held_drew (S := fun V => Below V0.heap.size V0 V) (by kernel_rfl) kD (fun hH => ?_); clear hH; refine tkD 0 10 (v := ?_) rfl (by kernel_rfl) (fun _ _ _ h => h) rfl (by rfl) (by assumption) ?_ ?_; rotate_left; (intro w hSw; (try dsimp only at hSw); go_simp; try (with_reducible rfl)); simp only [List.setIfInBounds_toArray, List.set_cons_zero, List.set_cons_succ]; refine tkD 1 11 (v := ?_) rfl (by kernel_rfl) (fun _ _ _ h => h) rfl (by rfl) (by assumption) ?_ ?_; rotate_left; (intro w hSw; (try dsimp only at hSw); go_simp; try (with_reducible rfl)); simp only [List.setIfInBounds_toArray, List.set_cons_zero, List.set_cons_succ]; refine tkD 2 12 (v := ?_) rfl (by kernel_rfl) (fun _ _ _ h => h) rfl (by rfl) (by assumption) ?_ ?_; rotate_left; (intro w hSw; (try dsimp only at hSw); go_simp; try (with_reducible rfl)); simp only [List.setIfInBounds_toArray, List.set_cons_zero, List.set_cons_succ]; refine tkD 3 13 (v := .agg C) rfl (by kernel_rfl) (fun _ _ _ h => h) rfl (by rfl) (by assumption) (fun X hX => run_load_rowS 27 (.tmp 12) rfl ⟨g, 0, none⟩ rfl C _ (HRW.out X hX) Tryz.underlying27 rfl hi) ?_; simp only [List.setIfInBounds_toArray, List.set_cons_zero, List.set_cons_succ]; refine tkD 4 14 (v := ?_) rfl (by kernel_rfl) (fun _ _ _ h => h) rfl (by rfl) (by assumption) ?_ ?_; rotate_left; (intro w hSw; (try dsimp only at hSw); go_simp; try (with_reducible rfl)); simp only [List.setIfInBounds_toArray, List.set_cons_zero, List.set_cons_succ]; refine tkD 5 15 (v := ?_) rfl (by kernel_rfl) (fun _ _ _ h => h) rfl (by rfl) (by assumption) ?_ ?_; rotate_left; (intro w hSw; (try dsimp only at hSw); go_simp; try (with_reducible rfl)); simp only [List.setIfInBounds_toArray, List.set_cons_zero, List.set_cons_succ]; refine tkD 6 16 (v := ?_) rfl (by kernel_rfl) (fun _ _ _ h => h) rfl (by rfl) (by assumption) ?_ ?_; rotate_left; (intro w hSw; (try dsimp only at hSw); go_simp; try (with_reducible rfl)); simp only [List.setIfInBounds_toArray, List.set_cons_zero, List.set_cons_succ]; refine tkD 7 17 (v := ?_) rfl (by kernel_rfl) (fun _ _ _ h => h) rfl (by rfl) (by assumption) ?_ ?_; rotate_left; (intro w hSw; (try dsimp only at hSw); go_simp; try (with_reducible rfl)); simp only [List.setIfInBounds_toArray, List.set_cons_zero, List.set_cons_succ]; refine wpAnyH_ready (rs := [8]) (by kernel_rfl) (by simp) ?_; refine AllReadyH.cons rfl (fun K hK => ?_) AllReadyH.nil; go_simp; refine (HPL2.out _ kD).mono ?_; rintro r w1 ⟨rfl, hb1⟩; have hB1 := bt kD hb1 (Nat.le_refl _); refine hK.out _ _ hB1 (fun hS1 => ?_); clear hK K; refine tkD 9 9 (v := ?_) rfl (by kernel_rfl) (fun _ _ _ h => h) rfl (by rfl) (by assumption) ?_ ?_; rotate_left; (intro w hSw; (try dsimp only at hSw); go_simp; try (with_reducible rfl)); simp only [List.setIfInBounds_toArray, List.set_cons_zero, List.set_cons_succ]; refine tkD 10 19 (v := ?_) rfl (by kernel_rfl) (fun _ _ _ h => h) rfl (by rfl) (by assumption) ?_ ?_; rotate_left; (intro w hSw; (try dsimp only at hSw); go_simp; try (with_reducible rfl)); simp only [List.setIfInBounds_toArray, List.set_cons_zero, List.set_cons_succ]; refine tkD 11 20 (v := ?_) rfl (by kernel_rfl) (fun _ _ _ h => h) rfl (by rfl) (by assumption) ?_ ?_; rotate_left; (intro w hSw; (try dsimp only at hSw); go_simp; try (with_reducible rfl)); simp only [List.setIfInBounds_toArray, List.set_cons_zero, List.set_cons_succ]; refine tkD 12 21 (v := ?_) rfl (by kernel_rfl) (fun _ _ _ h => h) rfl (by rfl) (by assumption) ?_ ?_; rotate_left; (intro w hSw; (try dsimp only at hSw); go_simp; try (with_reducible rfl)); simp only [List.setIfInBounds_toArray, List.set_cons_zero, List.set_cons_succ]; refine tkD 13 5 (v := ?_) rfl (by kernel_rfl) (fun _ _ _ h => h) rfl (by rfl) (by assumption) ?_ ?_; rotate_left; (intro w hSw; (try dsimp only at hSw); go_simp; try (with_reducible rfl)); simp only [List.setIfInBounds_toArray, List.set_cons_zero, List.set_cons_succ]; refine tkD 14 6 (v := ?_) rfl (by kernel_rfl) (fun _ _ _ h => h) rfl (by rfl) (by assumption) ?_ ?_; rotate_left; (intro w hSw; (try dsimp only at hSw); go_simp; try (with_reducible rfl)); simp only [List.setIfInBounds_toArray, List.set_cons_zero, List.set_cons_succ]; refine tkD 15 7 (v := ?_) rfl (by kernel_rfl) (fun _ _ _ h => h) rfl (by rfl) (by assumption) ?_ ?_; rotate_left; (intro w hSw; (try dsimp only at hSw); go_simp; try (with_reducible rfl)); simp only [List.setIfInBounds_toArray, List.set_cons_zero, List.set_cons_succ]; refine wpAnyH_done (by kernel_rfl) ?_ _
    clear c16 kD hS1 hb1 HRW hi
    have hB := bt HB0.out hB1 (Nat.le_refl _)
    go_wp2
    go_ret
    exact HEN.out _ hB

end Go.Proofs.YtipnamoocemeeaaGreat
