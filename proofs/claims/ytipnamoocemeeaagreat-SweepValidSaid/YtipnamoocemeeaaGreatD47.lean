/-
  Texts 47 of the claim.
-/
import Derived.Test.YtipnamoocemeeaaGreatD33
import Derived.Test.YtipnamoocemeeaaGreatD26
import Derived.Test.YtipnamoocemeeaaGreatD18
namespace Go.Proofs.YtipnamoocemeeaaGreat
open Go.RowKit
theorem infoO9 : (Tryz.prog.info? 55).map (·.size) = some 9 := by kernel_rfl
theorem SwS.wide {P P' M Q : Nat → Prop} {W : World} {g : Nat} {c : Cf} {x : Sp} {sv pv : Value} {fa : Option Addr} {fc : Nat} {cs : List Value} (h : SwS P M Q W g c x sv pv fa fc cs) (hP : ∀ j, P j → P' j) (hl : ∀ j, P' j → j < W.heap.size) : SwS P' M Q W g c x sv pv fa fc cs := by
  have hSF : ∀ j, SwF M P' j → SwF M P j := fun j e => by
    rcases e with e | e
    · exact .inl e
    · exact .inr (fun hp => e (hP j hp))
  exact ⟨h.mg, fun j hj => hP j (h.mp j hj), hl, h.qm, h.rw_, h.at_, fun W2 h2 => h.st W2 (h2.mono (fun j _ e => hSF j e)), h.own, CsL.mono (fun r f hr => DvQ.keeps (Keeps.refl _ _) (fun _ _ e => e) (fun j _ e => hSF j e) r f hr) _ _ h.dv, h.pr, h.no⟩
theorem SwAt.wide {P P' : Nat → Prop} {W : World} {g : Nat} {c : Cf} {x : Sp} (h : SwAt P W g c x) (hP : ∀ j, P j → P' j) (hl : ∀ j, P' j → j < W.heap.size) : SwAt P' W g c x := by
  obtain ⟨M, Q, sv, pv, fa, fc, cs, hs⟩ := h
  exact ⟨M, Q, sv, pv, fa, fc, cs, hs.wide hP hl⟩
def SfPost (P : Nat → Prop) (w : World) (g : Nat) (c : Cf) (x' : Sp) (E : Int) (r : Ending) (w' : World) : Prop :=
  r = .returned (.int .i64 E) ∧ SwAt (Grw P w w') w' g c x' ∧ Keeps P w w'
structure FkS (g b : Nat) (pv : Value) (OC : Array Value) (V : World) : Prop where
  c17 : V.cell? ⟨g, 17, none⟩ = some pv
  row : V.heap[b]? = some (.cells OC 55)
set_option maxRecDepth 100000 in
set_option maxHeartbeats 6400000 in
theorem swfeed_any {P : Nat → Prop} {w : World} {g : Nat} {c : Cf} {x : Sp} {k : Nat} (hc : chkE c = 0) (h : SwAt P w g c x) (hgd : SpGd c x k) (hk : k ≤ 999999) (O : Oc) (da : Option Addr) (dc : Nat) (oa : Option Addr) (oc : Nat) (HI : InAt P w O da dc oa oc) (hO : O.fit) (E : Int) (hE : Hid (E = if x.done c then 12 else 0)) :
    Calls Tryz.prog 18 #[.pointer (some ⟨g, 0, none⟩), .agg #[.int .i64 O.verdict, .int .i64 O.reply.fn, .int .i64 O.reply.exc, .slice da O.reply.data.length dc, .int .i64 O.reply.code, .int .i64 O.reply.level, .bool O.reply.more, .int .i64 O.reply.next, .slice oa O.reply.objs.length oc]] w (SfPost P w g c (x.feed c O) E) := by
  obtain ⟨M, Q, sv, pv, fa, fc, cs, hs⟩ := h
  obtain ⟨OC, hOC⟩ : ∃ C, (#[.int .i64 O.verdict, .int .i64 O.reply.fn, .int .i64 O.reply.exc, .slice da O.reply.data.length dc, .int .i64 O.reply.code, .int .i64 O.reply.level, .bool O.reply.more, .int .i64 O.reply.next, .slice oa O.reply.objs.length oc] : Array Value) = C := ⟨_, rfl⟩
  have hOs : OC.size = 9 := by rw [← hOC]; rfl
  have hOi : (Tryz.prog.info? 55).map (·.size) = some OC.size := by rw [hOs]; exact infoO9
  have hgl : g < w.heap.size := hpLt hs.at_
  obtain ⟨W0, hW0⟩ : ∃ W, w.alloc (.cells OC 55) = W := ⟨_, rfl⟩
  have hb0 : Below w.heap.size w W0 := by rw [← hW0]; exact bal' w _
  have hz0 : W0.heap.size = w.heap.size + 1 := by rw [← hW0]; simp
  have p0 : W0.heap[w.heap.size]? = some (.cells OC 55) := by rw [← hW0]; exact hpNew w _
  have h0 : SwS P M Q W0 g c x sv pv fa fc cs := hs.keep (F := fun _ => False) (Keeps.of_below hb0) (fun _ _ e => e.elim)
  have kP0 : Keeps P w W0 := Keeps.of_below hb0
  have HW0 := hid hW0
  have HB0 := hid hb0
  have HZ0 := hid hz0
  by_cases hlt : x.at_ < c.units
  · obtain ⟨gp, rfl, hq, hp⟩ := h0.pr hlt
    have hok := Cf.ok_of hc
    obtain ⟨a1, a2, a3, a4, a5⟩ := hgd.fed hok.win hO
    have hE0 : E = 0 := by rw [hE.out, if_neg (by unfold Sp.done; rw [decide_eq_true_eq]; omega)]
    subst hE0
    have hxf : x.feed c O = x.next c (x.pb.feed c.win O) := by unfold Sp.feed; rw [if_neg (by unfold Sp.done; rw [decide_eq_true_eq]; omega)]
    rw [hxf]
    obtain ⟨p', hp'⟩ : ∃ p, x.pb.feed c.win O = p := ⟨_, rfl⟩
    rw [hp'] at a1 a2 a3 a4 a5 ⊢
    have sw : IntKind.i64.wrap (x.cnt + 1) = x.cnt + 1 := IntWalk.i64_in _ (by have := hgd.c0; have := hgd.c1; omega)
    obtain ⟨W1, hW1⟩ : ∃ W, W0.setCell ⟨g, 19, none⟩ (.int .i64 (x.cnt + 1)) = W := ⟨_, rfl⟩
    have hk1 : Keeps (· = g) W0 W1 := by rw [← hW1]; exact (Keeps.refl _ _).set _ _ rfl
    have hz1 : W1.heap.size = W0.heap.size := by rw [← hW1]; simp
    have kD : Keeps (fun _ => False) W1 W1.drew := Keeps.of_below (Below.refl _ _).drew
    have hpX : PbAt Q W1.drew gp c.win x.pb := (hp.keep (F := (· = g)) hk1 (fun j _ e hQ => (h0.qm j hQ).2 e)).keep kD (fun _ _ e => e.elim)
    have kPX : Keeps P w W1.drew := (kP0.trans (hk1.mono (fun j _ e => by subst e; exact h0.mp _ h0.mg)) (fun _ _ e => e)).trans kD (fun _ _ e => e.elim)
    have hfe := pfeed_any hok.win hpX hgd.ok (fun e => by have := hgd.nd; rw [e] at this; cases this) hgd.q0 (by have := hgd.q1; omega) O da dc oa oc (HI.keeps kPX Q (fun j _ e => h0.mp j (h0.qm j e).1)) hO
    rw [hp', hOC] at hfe
    have HFE := hid hfe
    have hI1 : SwI W1 g c sv (.pointer (some ⟨gp, 0, none⟩)) (.slice fa x.fd.length fc) x.at_ (x.cnt + 1) := by
      rw [← hW1]
      exact hpSetP (C := SwC c sv (.pointer (some ⟨gp, 0, none⟩)) (.slice fa x.fd.length fc) x.at_ (x.cnt + 1)) (i := 19) (u := .int .i64 (x.cnt + 1)) h0.at_ rfl
    have p1 : W1.heap[w.heap.size]? = some (.cells OC 55) := hpKeeps p0 hk1 (fun e => by omega)
    have c17 : W0.cell? ⟨g, 17, none⟩ = some (.pointer (some ⟨gp, 0, none⟩)) := hpCell h0.at_ 17
    have c19 : W0.cell? ⟨g, 19, none⟩ = some (.int .i64 x.cnt) := hpCell h0.at_ 19
    have f19 : W0.frozen? ⟨g, 19, none⟩ = false := hpFree h0.at_ 19
    have hFS : FkS g w.heap.size (.pointer (some ⟨gp, 0, none⟩)) OC W1.drew := ⟨hpCell (hpKeeps hI1 kD (fun e => e)) 17, hpKeeps p1 kD (fun e => e)⟩
    have d17 : ∀ X, FkS g w.heap.size (.pointer (some ⟨gp, 0, none⟩)) OC X → X.cell? ⟨g, 17, none⟩ = some (.pointer (some ⟨gp, 0, none⟩)) := fun X h => h.c17
    have HRW : Hid (∀ X, FkS g w.heap.size (.pointer (some ⟨gp, 0, none⟩)) OC X → ∀ j v, OC.toList[j]? = some v → X.cell? ((⟨w.heap.size, 0, none⟩ : Addr).add j) = some v) := fun X hX => hpRowAt2 hX.row
    have HW1 := hid hW1
    have H0 := hid h0
    have HC := hid hc
    have HLT := hid hlt
    have HSM := hid a2
    have HK1 := hid hk1
    have HZ1 := hid hz1
    have HNQ : Hid (¬ Q w.heap.size) := fun e => by have := hs.pl _ (hs.mp _ (hs.qm _ e).1); omega
    have HFL : Hid (x.fd.length ≤ 1000000) := by show _ ≤ _; have := hgd.fl; have := hgd.at1; have := hok.units_bd.2.1; omega
    have HGM : Hid (¬ g = w.heap.size) := by show ¬ _; omega
    have HPL : Hid (∀ j, P j → j < w.heap.size) := hs.pl
    rw [hOC]
    clear hOC hs h0 hW0 hb0 hz0 p0 kP0 hq hp hok a1 a2 a3 a4 a5 hE hxf hk1 hz1 kD hpX kPX hfe hI1 p1 hc hlt hgd hk HI hO hp' hW1 hOs
    go_enter Tryz.func18, Tryz.ntmps18
    go_upto_region 1 with (fail)
    rw [HW0.out]
    go_upto_region 6 with (fail)
    rw [HW1.out]
    refine wp_region_held_drew (S := fun V => FkS g w.heap.size (.pointer (some ⟨gp, 0, none⟩)) OC V) (by kernel_rfl) hFS (fun hH => ?_)
    clear hH
    refine tkD 0 23 (v := ?_) rfl (by kernel_rfl) (fun _ _ _ h => h) rfl (by rfl) (by assumption) ?_ ?_; rotate_left; (intro w hSw; (try dsimp only at hSw); go_simp; try (with_reducible rfl)); simp only [List.setIfInBounds_toArray, List.set_cons_zero, List.set_cons_succ]
    refine tkD 1 24 (v := ?_) rfl (by kernel_rfl) (fun _ _ _ h => h) rfl (by rfl) (by assumption) ?_ ?_; rotate_left; (intro w hSw; (try dsimp only at hSw); go_simp; try (with_reducible rfl)); simp only [List.setIfInBounds_toArray, List.set_cons_zero, List.set_cons_succ]
    refine tkD 2 25 (v := ?_) rfl (by kernel_rfl) (fun _ _ _ h => h) rfl (by rfl) (by assumption) ?_ ?_; rotate_left; (intro w hSw; (try dsimp only at hSw); go_simp; try (with_reducible rfl)); simp only [List.setIfInBounds_toArray, List.set_cons_zero, List.set_cons_succ]
    refine tkD 3 26 (v := ?_) rfl (by kernel_rfl) (fun _ _ _ h => h) rfl (by rfl) (by assumption) ?_ ?_; rotate_left; (intro w hSw; (try dsimp only at hSw); go_simp; try (with_reducible rfl)); simp only [List.setIfInBounds_toArray, List.set_cons_zero, List.set_cons_succ]
    refine tkD 4 27 (v := .agg OC) rfl (by kernel_rfl) (fun _ _ _ h => h) rfl (by rfl) (by assumption) (fun X hX => run_load_rowS 55 (.tmp 3) rfl ⟨w.heap.size, 0, none⟩ rfl OC _ (HRW.out X hX) Tryz.underlying55 rfl hOi) ?_; simp only [List.setIfInBounds_toArray, List.set_cons_zero, List.set_cons_succ]
    refine wpAnyH_ready (rs := [5]) (by kernel_rfl) (by simp) ?_; refine AllReadyH.cons rfl (fun K hK => ?_) AllReadyH.nil
    go_simp
    refine HFE.out.mono ?_
    rintro r W2 ⟨rfl, hf⟩
    have hf' : PbFed Q (W0.setCell ⟨g, 19, none⟩ (.int .i64 (x.cnt + 1))) gp c.win p' W2 := by
      rw [HW1.out]
      exact ⟨hf.1, (Keeps.of_below (Below.refl _ _).drew).trans hf.2 (fun _ _ e => e)⟩
    obtain ⟨M2, hs2, hk2, hm2⟩ := SwS.fed H0.out HLT.out hf'
    have hF2 : FkS g w.heap.size (.pointer (some ⟨gp, 0, none⟩)) OC W2 := ⟨hpCell hs2.at_ 17, hpKeeps hFS.row hf.2 HNQ.out⟩
    refine hK.out _ _ hF2 (fun hSx => ?_)
    clear hK K hSx
    refine wpAnyH_done (by kernel_rfl) ?_ _
    obtain ⟨V, hV⟩ : ∃ V, p'.ph.isDone = V := ⟨_, rfl⟩
    obtain ⟨dd, hdd⟩ : ∃ d, (if p'.ph.isDone then p'.d else Dv.zero) = d := ⟨_, rfl⟩
    rw [HW1.out] at hs2
    obtain ⟨gp2, hgp2, hq2, hp2⟩ := hs2.pr HLT.out
    obtain rfl : gp = gp2 := by cases hgp2; rfl
    have HRS : Hid (Calls Tryz.prog 55 #[.pointer (some ⟨gp, 0, none⟩)] W2 (ResPost W2 dd V)) := presult_any hp2 HSM.out dd V hV hdd.symm
    have e17 : W2.cell? ⟨g, 17, none⟩ = some (.pointer (some ⟨gp, 0, none⟩)) := hpCell hs2.at_ 17
    have HS2 := hid hs2
    have HK2 := hid hk2
    have HM2 := hid hm2
    have HNX : Hid (x.next c p' = if V = true then ⟨x.at_ + 1, Pb0, x.fd ++ (if dd.st = 1 then [] else [⟨c.pSet x.at_, c.pUnit x.at_, dd⟩]), x.cnt + 1⟩ else ⟨x.at_, p', x.fd, x.cnt + 1⟩) := by
      show _ = _
      unfold Sp.next
      rw [hV]
      cases V
      · rfl
      · rw [← hdd, hV]; rfl
    clear hV hdd hgp2 hq2 hp2 hs2 hk2 hm2 hf hf' hF2 c17 c19 f19 d17
    go_upto_region 8 with (first
      | (go_at_call 55; (with_reducible refine HRS.out.mono ?_); rintro r x8 ⟨ov, sv2, mv, rfl, hr8, hc8⟩; have h14 := DvC_one (hr8 x8 (Agree.refl _ _)); have HR8 := hid hr8; clear hr8)
      | (refine wpList_storeW rfl 91 (.tmp 5) (.tmp 35) rfl x8.heap.size 0 _ 91 (DvC dd ov sv2 mv) rfl rfl (hpNew x8 (.cells #[.int .i64 0, .int .i64 0, .int .i64 0, .int .i64 0, .int .i64 0, .slice none 0 0, .int .i64 0, .slice none 0 0, .int .i64 0, .int .i64 0, .slice none 0 0, .int .i64 0, .int .i64 0, .slice none 0 0, .int .i64 0, .int .i64 0, .slice none 0 0, .int .i64 0, .int .i64 0, .slice none 0 0, .string ⟨#[]⟩] 91)) (by simp [DvC]) info21 h14 ?_; intro x9 g9 hk9 hz9))
    have g9' : x9.heap[x8.heap.size]? = some (.cells (DvC dd ov sv2 mv) 91) := g9
    have hb89 : Below x8.heap.size x8 x9 := (bal' x8 (.cells #[.int .i64 0, .int .i64 0, .int .i64 0, .int .i64 0, .int .i64 0, .slice none 0 0, .int .i64 0, .slice none 0 0, .int .i64 0, .int .i64 0, .slice none 0 0, .int .i64 0, .int .i64 0, .slice none 0 0, .int .i64 0, .int .i64 0, .slice none 0 0, .int .i64 0, .int .i64 0, .slice none 0 0, .string ⟨#[]⟩] 91)).trans (hk9.below (by simp) (fun j hj e => by omega))
    have hb29 : Below W2.heap.size W2 x9 := bt hc8 hb89 (Nat.le_refl _)
    have hx9 : x9.heap.size = x8.heap.size + 1 := by rw [hz9]; simp
    have hs9 : SwS (Grw (Grw P W0 W2) W2 x9) M2 (Grw Q W1 W2) x9 g c { x with pb := p', cnt := x.cnt + 1 } sv (.pointer (some ⟨gp, 0, none⟩)) fa fc cs := (HS2.out.keep (F := fun _ => False) (Keeps.of_below hb29) (fun _ _ e => e.elim)).wide (fun j e => .inl e) (fun j e => by
      have := hb29.size
      rcases e with e | e
      · have := HS2.out.pl j e; omega
      · exact e.2)
    have hrd9 : RdSt (SwF M2 (Grw (Grw P W0 W2) W2 x9)) x9 dd ov sv2 mv := fun W' hW => HR8.out W' ⟨by have := hW.size; have := hb89.size; omega, fun j hj hl => by
      rw [hW.block j (by omega) (fun e => ?_)]
      · exact hb89.block j hl
      · rcases e with e | e
        · have := HS2.out.pl j (HS2.out.mp j e); omega
        · exact e (.inr ⟨hj, by omega⟩)⟩
    have HS9 := hid hs9
    have HB29 := hid hb29
    have HZ2 : Hid (W0.heap.size ≤ W2.heap.size) := HK2.out.size
    clear g9 hk9 hz9 hb89 hs9 hb29 h14 HR8 hc8 HRS e17
    cases V with
    | false =>
      go_wp2
      go_ret
      refine ⟨rfl, ?_, ?_⟩
      · rw [HNX.out, if_neg (by decide)]
        have h9 : SwAt (Grw (Grw P W0 W2) W2 x9) x9 g c ⟨x.at_, p', x.fd, x.cnt + 1⟩ := ⟨_, _, _, _, _, _, _, HS9.out⟩
        rw [Grw_grw HZ2.out HB29.out.size] at h9
        exact h9.wide (fun j e => by
          rcases e with e | e
          · exact .inl e
          · exact .inr ⟨by have := HZ0.out; omega, e.2⟩) (fun j e => by
          have := HB29.out.size
          have := HZ2.out
          have := HZ0.out
          rcases e with e | e
          · have := HPL.out j e; omega
          · exact e.2)
      · exact ((Keeps.of_below HB0.out).trans (HK2.out.mono (fun j _ e => H0.out.mp j e)) (fun _ _ e => e)).trans (F := P) (Keeps.of_below (F := fun _ => False) HB29.out) (fun _ _ e => e.elim)
    | true =>
      have HCO : Hid (Calls Tryz.prog 56 #[.pointer (some ⟨g, 0, none⟩), .agg (DvC dd ov sv2 mv)] x9 fun r w' => r = .returned (.tuple #[]) ∧ SwAt (Grw (Grw (Grw P W0 W2) W2 x9) x9 w') w' g c ⟨x.at_ + 1, Pb0, x.fd ++ (if dd.st = 1 then [] else [⟨c.pSet x.at_, c.pUnit x.at_, dd⟩]), x.cnt + 1⟩ ∧ Keeps M2 x9 w') := swcollect_any HC.out HS9.out HLT.out HFL.out dd ov sv2 mv hrd9
      obtain ⟨DC, hDC⟩ : ∃ C, DvC dd ov sv2 mv = C := ⟨_, rfl⟩
      have hDi : (Tryz.prog.info? 91).map (·.size) = some DC.size := by rw [← hDC]; exact info21
      rw [hDC] at HCO g9'
      clear hDC hrd9
      go_wp2_with (first
        | (refine wpList_load_row rfl 91 (.tmp 5) rfl x8.heap.size rfl 91 DC (0, 0) _ g9' Tryz.underlying91 rfl hDi ?_)
        | (go_at_call 56; (with_reducible refine HCO.out.mono ?_); rintro r x10 ⟨rfl, h10, hk10⟩))
      go_ret
      refine ⟨rfl, ?_, ?_⟩
      · rw [HNX.out, if_pos trivial]
        have hz10 := hk10.size
        rw [Grw_grw HZ2.out HB29.out.size, Grw_grw (Nat.le_trans HZ2.out HB29.out.size) hz10] at h10
        exact h10.wide (fun j e => by
          rcases e with e | e
          · exact .inl e
          · exact .inr ⟨by have := HZ0.out; omega, e.2⟩) (fun j e => by
          have := HB29.out.size
          have := HZ2.out
          have := HZ0.out
          rcases e with e | e
          · have := HPL.out j e; omega
          · exact e.2)
      · refine (((Keeps.of_below HB0.out).trans (HK2.out.mono (fun j _ e => H0.out.mp j e)) (fun _ _ e => e)).trans (F := P) (Keeps.of_below (F := fun _ => False) HB29.out) (fun _ _ e => e.elim)).trans hk10 (fun j hj e => H0.out.mp j (HM2.out j (by have := HZ0.out; omega) e))
  · obtain rfl := h0.no (by omega)
    have hE0 : E = 12 := by rw [hE.out, if_pos (by unfold Sp.done; rw [decide_eq_true_eq]; omega)]
    subst hE0
    have hxf : x.feed c O = x := by unfold Sp.feed; rw [if_pos (by unfold Sp.done; rw [decide_eq_true_eq]; omega)]
    rw [hxf]
    have c17 : W0.cell? ⟨g, 17, none⟩ = some (.pointer none) := hpCell h0.at_ 17
    have hz : W0.heap.size = w.heap.size + 1 := HZ0.out
    have HEN : Hid (SfPost P w g c x 12 (.returned (.int .i64 12)) W0) := ⟨rfl, SwAt.wide ⟨M, Q, sv, _, fa, fc, cs, h0⟩ (fun j e => .inl e) (fun j e => by
      rcases e with e | e
      · have := hs.pl j e; omega
      · exact e.2), kP0⟩
    rw [hOC]
    clear hOC hs h0 hW0 hb0 hz0 p0 kP0 hE hxf hc hlt hgd hk HI hO hOs hz
    go_enter Tryz.func18, Tryz.ntmps18
    go_upto_region 1 with (fail)
    rw [HW0.out]
    go_wp2
    go_ret
    exact HEN.out
end Go.Proofs.YtipnamoocemeeaaGreat
