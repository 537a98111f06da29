/-
  Texts 25 of the claim.
-/
import Derived.Test.YtipnamoocemeeaaGreatD24
import Derived.Test.YtipnamoocemeeaaGreatD15
namespace Go.Proofs.YtipnamoocemeeaaGreat
open Go.RowKit
def PbFed (P : Nat → Prop) (w : World) (g : Nat) (win : Nat → Int × Int) (p : Pb) (w' : World) : Prop := PbAt (Grw P w w') w' g win p ∧ Keeps P w w'
theorem IdAt.wide {P P' : Nat → Prop} {W : World} {g : Nat} {x : Idn} {v : Value} {cs : List Value} (h : IdAt P W g x v cs) (hP : ∀ j, P j → P' j) : IdAt P' W g x v cs :=
  ⟨h.at_, h.own, CsL.mono (fun r z hz => ObQF.keeps (F := ObF P g v) (Keeps.refl _ _) (fun j _ hj => by
    rcases hj with hj | hj | hj
    · exact .inl (fun e => hj (hP j e))
    · exact .inr (.inl hj)
    · exact .inr (.inr hj)) r z hz) _ _ h.obs, hP _ h.pg, fun j hj => ⟨hP _ (h.pv j hj).1, (h.pv j hj).2⟩⟩
theorem MpAt.stay {P F : Nat → Prop} {w w' : World} {g : Nat} {m : Mp} {v : Value} {q : Int} (h : MpAt P w g m v q) (hk : Keeps F w w') (hF : ∀ j, P j → ¬ F j) : MpAt P w' g m v q :=
  ⟨hpKeeps h.at_ hk (hF _ h.pg), h.own.keeps hk (fun j hj => hF _ (h.pv j hj).1), h.pg, h.pv⟩
theorem Grw.wide {Q : Nat → Prop} {w W8 X X' : World} (h1 : w.heap.size ≤ W8.heap.size) (h2 : X.heap.size ≤ X'.heap.size) (j : Nat) (h : Grw Q W8 X j) : Grw Q w X' j := by
  rcases h with h | h
  · exact .inl h
  · exact .inr ⟨by omega, by omega⟩
set_option maxHeartbeats 1600000 in
theorem pfeed_any {P : Nat → Prop} {w : World} {g : Nat} {win : Nat → Int × Int} (hw : WinOk win) {p : Pb} (h : PbAt P w g win p) (hok : p.ph.ok win) (hd : p.ph ≠ .done) (hq0 : 0 ≤ p.q) (hq1 : p.q ≤ 1000000) (O : Oc) (da : Option Addr) (dc : Nat) (oa : Option Addr) (oc : Nat) (HI : InAt P w O da dc oa oc) (hO : O.fit) :
    Calls Tryz.prog 54 #[.pointer (some ⟨g, 0, none⟩), .agg #[.int .i64 O.verdict, .int .i64 O.reply.fn, .int .i64 O.reply.exc, .slice da O.reply.data.length dc, .int .i64 O.reply.code, .int .i64 O.reply.level, .bool O.reply.more, .int .i64 O.reply.next, .slice oa O.reply.objs.length oc]] w (FeedEnd (PbFed P w g win (p.feed win O))) := by
  obtain ⟨Q, pr, af, ov, sv, mv, hP, hQ, hpb, hrd, hpr⟩ := h
  have hgl : g < w.heap.size := hpLt hpb
  have sw : IntKind.i64.wrap (p.q + 1) = p.q + 1 := IntWalk.i64_in _ (by omega)
  obtain ⟨W8, hW8⟩ : ∃ W, ((w.alloc (.cells #[.int .i64 O.verdict, .int .i64 O.reply.fn, .int .i64 O.reply.exc, .slice da O.reply.data.length dc, .int .i64 O.reply.code, .int .i64 O.reply.level, .bool O.reply.more, .int .i64 O.reply.next, .slice oa O.reply.objs.length oc] 55)).setCell ⟨g, 31, none⟩ (.int .i64 (p.q + 1))).drew = W := ⟨_, rfl⟩
  have hk8 : Keeps (· = g) w W8 := by rw [← hW8]; exact (ks1 (Keeps.of_below (bal' w _)) _ _).trans (Keeps.of_below (Below.refl _ _).drew) (fun _ _ e => e)
  have hk8' : Keeps (fun j => Q j ∨ j = g) w W8 := hk8.mono (fun _ _ e => .inr e)
  have hp8 : PbI W8 g win pr af p.d ov sv mv (p.q + 1) := by rw [← hW8]; exact ((hpb.keep (bal' w _)).setQ _).keep (Below.refl _ _).drew
  have hs8 := hk8.size
  have hrd8 : RdSt (FQ P Q g) W8 p.d ov sv mv := hrd.keeps hk8 (fun _ _ e => .inr (.inr e)) (fun _ _ e => e)
  have HI8 : InAt P W8 O da dc oa oc := HI.keeps (hk8.mono (fun _ _ e => by subst e; exact hP)) P (fun _ _ e => e)
  have h31 : (PbC win pr af p.d ov sv mv p.q)[31]? = some (.int .i64 p.q) := rfl
  have hpf : p.feed win O = ⟨(p.step win O).1, (p.step win O).2, p.q + 1⟩ := rfl
  rw [hpf]
  unfold Pb.step
  match hph : p.ph, hpr, hok with
  | .done, _, _ => exact absurd hph hd
  | .ident x, hpr, hok =>
    obtain ⟨b, v, cs, bi, bp, rfl, rfl, hI, hbp, hbi⟩ := hpr
    have hx := hok.1
    have hst := hok.2
    have hI8 : IdAt Q W8 b x v cs := hI.stay hk8 (fun j hj e => (hQ j hj).2.1 e)
    have hfd := ifeed_any hI8 hst hx O da dc oa oc (fun W hW => HI8 W (hW.mono (fun j _ e => (hQ j e).1))) hO
    have hfin := Idn.feed_fin hx hO
    show Calls _ _ _ _ (FeedEnd (PbFed P w g win ⟨(if (x.feed O).st = 0 then (Ph.ident (x.feed O), p.d) else (Ph.server, p.d.ident (x.feed O))).1, (if (x.feed O).st = 0 then (Ph.ident (x.feed O), p.d) else (Ph.server, p.d.ident (x.feed O))).2, p.q + 1⟩))
    generalize x.feed O = y at *
    have hall : ∀ X, IdFed Q W8 b y (.returned (.int .i64 0)) X → Keeps (fun j => Q j ∨ j = g) w X ∧ PbI X g win _ _ p.d ov sv mv (p.q + 1) := fun X hX =>
      ⟨hk8'.trans hX.2.2 (fun _ _ e => .inl e), hpKeeps hp8 hX.2.2 (fun e => (hQ g e).2.1 rfl)⟩
    refine pfeed_ident_go g b bi bp _ w hpb rfl p.q h31 (p.q + 1) sw O da dc oa oc (fun X => IdFed Q W8 b y (.returned (.int .i64 0)) X) _ ?_ ?_ (if y.st = 0 then y.ask else ⟨0, 0, 0, 0, 0⟩) (decide (y.st = 0)) ?_ ?_ ?_
    · show Calls _ _ _ _ _
      rw [hW8]
      exact hfd.mono (fun r X h => ⟨h.1, rfl, h.2⟩)
    · exact fun X hX => ⟨hpCell (hall X hX).2 8, hpCell (hall X hX).2 9⟩
    · intro X hX
      obtain ⟨_, ⟨v', cs', hA⟩, _⟩ := hX
      exact inext_any b y v' X hA.at_ _ _ rfl rfl
    · intro hV X X' hX hb
      have h0 : y.st = 0 := of_decide_eq_true hV
      have hkX := (hall X hX).1.trans (Keeps.of_below (F := fun j => Q j ∨ j = g) hb) (fun _ _ e => e)
      have hpX := (hall X hX).2.keep hb
      obtain ⟨_, ⟨v', cs', hA⟩, _⟩ := hX
      rw [if_pos h0]
      exact PbAt.stay hP hgl hQ hkX hpX hrd ⟨b, v', cs', bi, bp, rfl, rfl, (hA.keep hb).wide (Grw.wide hs8 hb.size), hbp.grow hkX, hbi.grow hkX⟩
    · intro hV X X' hX hb
      have h0 : ¬ y.st = 0 := of_decide_eq_false hV
      have hkX := (hall X hX).1.trans (Keeps.of_below (F := fun j => Q j ∨ j = g) hb) (fun _ _ e => e)
      have hpX := (hall X hX).2.keep hb
      obtain ⟨_, ⟨v', cs', hA⟩, _⟩ := hX
      rw [if_neg h0]
      exact (af_ident (Grw P w X') Q g b bi bp win _ _ p.d ov sv mv (p.q + 1) X' hpX (hrd.for hkX) _ y v' cs' (hA.keep hb) hfin (hbp.at hkX) (box_ne hpX (hbp.at hkX)) (hbi.at hkX) (box_ne hpX (hbi.at hkX))).mono (fun r w' h => PbAt.after hP hgl hQ hkX h)
  | .test, hpr, _ =>
    obtain ⟨b, bp, rfl, rfl, hQb, ho, hbp⟩ := hpr
    have hbg : b ≠ g := (hQ b hQb).2.1
    have ho8 : OnAt W8 b rqT _ false := hpKeeps ho hk8 hbg
    have hbp8 := hbp.at hk8'
    have hpb8 : bp ≠ b := by
      rintro rfl
      have := hbp8.symm.trans ho8
      simp [OnC] at this
    have hfd := once_test P Q g b bp win _ _ p.d ov sv mv (p.q + 1) W8 hp8 hrd8 rqT ho8 hQb hbg hbp8 (box_ne hp8 hbp8) hpb8 O da dc oa oc
    refine pfeed_test_go g b _ w hpb rfl p.q h31 (p.q + 1) sw O da dc oa oc (fun X => OnFed P Q W8 g b win (.iface 145 (.pointer (some ⟨b, 0, none⟩))) (.func (.func 84) #[.pointer (some ⟨g, 0, none⟩)] #[]) (p.q + 1) rqT (.func (.func 82) #[] #[.pointer (some ⟨bp, 0, none⟩)]) { p.d with st := stateOf O.verdict } (.returned (.int .i64 0)) X) _ ?_ ?_ rqT false ?_ ?_ ?_
    · show Calls _ _ _ _ _
      rw [hW8]
      exact hfd.mono (fun r X h => ⟨h.1, rfl, h.2⟩)
    · intro X hX
      obtain ⟨_, ⟨ov1, sv1, mv1, hp1, _⟩, _, _⟩ := hX
      exact ⟨hpCell hp1 8, hpCell hp1 9⟩
    · intro X hX
      exact once_next b rqT _ true X hX.2.2.1 false rfl
    · exact fun e => absurd e (by decide)
    · intro _ X X' hX hb
      obtain ⟨_, ⟨ov1, sv1, mv1, hp1, hr1⟩, _, hk1⟩ := hX
      have hkX : Keeps (fun j => Q j ∨ j = g) w X' := (hk8'.trans hk1 (fun j _ e => by rcases e with e | e; exact .inr e; subst e; exact .inl hQb)).trans (Keeps.of_below (F := fun j => Q j ∨ j = g) hb) (fun _ _ e => e)
      have hsz := hk1.size
      have hp2 := hp1.keep hb
      refine (identify_any g win _ _ _ ov1 sv1 mv1 (p.q + 1) X' hp2 _ rfl).mono (fun r w' h => PbAt.after hP hgl hQ hkX ⟨h.1, X', ov1, sv1, mv1, Nat.le_refl _, ?_, h.2, h.2.2⟩)
      refine hr1.keeps (H := fun _ => False) (Keeps.of_below hb) (fun _ _ e => e.elim) (fun j hj e => ?_)
      have hlt : j < w.heap.size := by
        rcases Nat.lt_or_ge j w.heap.size with hh | hh
        · exact hh
        · rcases e.2 with e1 | e1 | e1
          · exact absurd (Or.inr ⟨hh, e.1⟩) e1
          · exact absurd (hQ j e1).2.2 (by omega)
          · omega
      exact ⟨by omega, by
        rcases e.2 with e1 | e1 | e1
        · exact .inl (fun h => e1 (.inl h))
        · exact .inr (.inl e1)
        · exact .inr (.inr e1)⟩
  | .server, hpr, _ =>
    obtain ⟨b, bp, bq, rfl, rfl, hQb, ho, hbp, hbq⟩ := hpr
    have hbg : b ≠ g := (hQ b hQb).2.1
    have ho8 : OnAt W8 b rqS _ false := hpKeeps ho hk8 hbg
    have hbp8 := hbp.at hk8'
    have hpb8 : bp ≠ b := by
      rintro rfl
      have := hbp8.symm.trans ho8
      simp [OnC] at this
    have hfd := once_server P Q g b bp win _ _ p.d ov sv mv (p.q + 1) W8 hp8 hrd8 rqS ho8 hQb hbg hbp8 (box_ne hp8 hbp8) hpb8 O da dc oa oc hO.data (fun W hW => (HI8 W (hW.mono (fun _ _ e => by subst e; exact (hQ _ hQb).1))).d)
    refine pfeed_server_go g b bq _ w hpb rfl p.q h31 (p.q + 1) sw O da dc oa oc (fun X => OnFed P Q W8 g b win (.iface 145 (.pointer (some ⟨b, 0, none⟩))) (.func (.func 158) #[] #[.pointer (some ⟨bq, 0, none⟩)]) (p.q + 1) rqS (.func (.func 155) #[] #[.pointer (some ⟨bp, 0, none⟩)]) { p.d with srv := srvSt O, sd := srvData O } (.returned (.int .i64 0)) X) _ ?_ ?_ rqS false ?_ ?_ ?_
    · show Calls _ _ _ _ _
      rw [hW8]
      exact hfd.mono (fun r X h => ⟨h.1, rfl, h.2⟩)
    · intro X hX
      obtain ⟨_, ⟨ov1, sv1, mv1, hp1, _⟩, _, _⟩ := hX
      exact ⟨hpCell hp1 8, hpCell hp1 9⟩
    · intro X hX
      exact once_next b rqS _ true X hX.2.2.1 false rfl
    · exact fun e => absurd e (by decide)
    · intro _ X X' hX hb
      obtain ⟨_, ⟨ov1, sv1, mv1, hp1, hr1⟩, _, hk1⟩ := hX
      have hkX : Keeps (fun j => Q j ∨ j = g) w X' := (hk8'.trans hk1 (fun j _ e => by rcases e with e | e; exact .inr e; subst e; exact .inl hQb)).trans (Keeps.of_below (F := fun j => Q j ∨ j = g) hb) (fun _ _ e => e)
      have hsz := hk1.size
      have hp2 := hp1.keep hb
      obtain ⟨ph', d', hm⟩ : ∃ a b, meas win 4 { p.d with srv := srvSt O, sd := srvData O } = (a, b) := ⟨_, _, rfl⟩
      show Calls _ _ _ _ (fun r w' => r = _ ∧ PbFed P w g win ⟨(meas win 4 _).1, (meas win 4 _).2, p.q + 1⟩ w')
      rw [hm]
      have hms := meas_same win 4 _ _ _ hm
      refine (af_server (Grw P w X') Q g bq win _ _ _ ov1 sv1 mv1 (p.q + 1) X' hp2 ?_ (hbq.at hkX) ph' d' hm hms).mono (fun r w' h => PbAt.after hP hgl hQ hkX h)
      refine hr1.keeps (H := fun _ => False) (Keeps.of_below hb) (fun _ _ e => e.elim) (fun j hj e => ?_)
      have hjX : j < X'.heap.size := Nat.lt_of_lt_of_le hj hb.size
      have hlt : j < w.heap.size := by
        rcases Nat.lt_or_ge j w.heap.size with hh | hh
        · exact hh
        · rcases e with e1 | e1 | e1
          · exact absurd (Or.inr ⟨hh, hjX⟩) e1
          · exact absurd (hQ j e1).2.2 (by omega)
          · omega
      exact ⟨by omega, by
        rcases e with e1 | e1 | e1
        · exact .inl (fun h => e1 (.inl h))
        · exact .inr (.inl e1)
        · exact .inr (.inr e1)⟩
  | .seek k s, hpr, hok =>
    obtain ⟨b, bp, bk, bs, rfl, rfl, hk4, hQb, hS, hbp, hbk, hbs⟩ := hpr
    obtain ⟨_, hc, hg, hst, hf⟩ := hok
    have hbg : b ≠ g := (hQ b hQb).2.1
    have hS8 : SrAt W8 b s := hpKeeps hS hk8 hbg
    have hfd := sfeed_any b s hg.ok hst O.verdict O.reply.exc (.int .i64 O.reply.fn) (.slice da O.reply.data.length dc) (.int .i64 O.reply.code) (.int .i64 O.reply.level) (.bool O.reply.more) (.int .i64 O.reply.next) (.slice oa O.reply.objs.length oc) W8 hS8
    have hfo := Sr.feed_ok hg hst hf O.verdict O.reply.exc
    show Calls _ _ _ _ (FeedEnd (PbFed P w g win ⟨(if (s.feed O.verdict O.reply.exc).st = 0 then (Ph.seek k (s.feed O.verdict O.reply.exc), p.d) else aftS win k (s.feed O.verdict O.reply.exc) p.d).1, (if (s.feed O.verdict O.reply.exc).st = 0 then (Ph.seek k (s.feed O.verdict O.reply.exc), p.d) else aftS win k (s.feed O.verdict O.reply.exc) p.d).2, p.q + 1⟩))
    generalize s.feed O.verdict O.reply.exc = y at *
    have hall : ∀ X, SrFed W8 b y (.returned (.int .i64 0)) X → Keeps (fun j => Q j ∨ j = g) w X ∧ PbI X g win _ _ p.d ov sv mv (p.q + 1) := fun X hX =>
      ⟨hk8'.trans hX.2.2 (fun _ _ e => by subst e; exact .inl hQb), hpKeeps hp8 hX.2.2 (Ne.symm hbg)⟩
    refine pfeed_seek_go g b bp bk bs _ w hpb rfl p.q h31 (p.q + 1) sw O da dc oa oc (fun X => SrFed W8 b y (.returned (.int .i64 0)) X) _ ?_ ?_ y.ask (decide (y.st = 0)) ?_ ?_ ?_
    · show Calls _ _ _ _ _
      rw [hW8]
      exact hfd.mono (fun r X h => ⟨h.1, rfl, h.2⟩)
    · exact fun X hX => ⟨hpCell (hall X hX).2 8, hpCell (hall X hX).2 9⟩
    · intro X hX
      exact snext_any b y hfo.ok X hX.2.1
    · intro hV X X' hX hb
      have h0 : y.st = 0 := of_decide_eq_true hV
      have hkX := (hall X hX).1.trans (Keeps.of_below (F := fun j => Q j ∨ j = g) hb) (fun _ _ e => e)
      have hpX := (hall X hX).2.keep hb
      rw [if_pos h0]
      exact PbAt.stay hP hgl hQ hkX hpX hrd ⟨b, bp, bk, bs, rfl, rfl, hk4, .inl hQb, hX.2.1.keep hb, hbp.grow hkX, hbk.grow hkX, hbs.grow hkX⟩
    · intro hV X X' hX hb
      have h0 : ¬ y.st = 0 := of_decide_eq_false hV
      have hkX := (hall X hX).1.trans (Keeps.of_below (F := fun j => Q j ∨ j = g) hb) (fun _ _ e => e)
      have hpX := (hall X hX).2.keep hb
      rw [if_neg h0]
      exact (af_seek (Grw P w X') Q g b bp bk bs win hw _ _ p.d ov sv mv (p.q + 1) X' hpX (hrd.for hkX) k hk4 hc y (hX.2.1.keep hb) (fun e => (hfo.fin e).1) (hbp.at hkX) (hbk.at hkX) (hbs.at hkX) (box_ne hpX (hbp.at hkX)) (box_ne hpX (hbk.at hkX)) _ _ rfl).mono (fun r w' h => PbAt.after hP hgl hQ hkX h)
  | .map k m, hpr, hok =>
    obtain ⟨b, v, qq, bm, bp, bk, rfl, rfl, hk4, hM, hbp, hbk, hbm⟩ := hpr
    obtain ⟨_, hm, hr⟩ := hok
    have hQb : Q b := hM.pg
    have hbg : b ≠ g := (hQ b hQb).2.1
    have hM8 : MpAt Q W8 b m v qq := hM.stay hk8 (fun j hj e => (hQ j hj).2.1 e)
    have hfd := mfeed_any hM8 hm hr O.verdict O.reply.exc (.int .i64 O.reply.fn) (.slice da O.reply.data.length dc) (.int .i64 O.reply.code) (.int .i64 O.reply.level) (.bool O.reply.more) (.int .i64 O.reply.next) (.slice oa O.reply.objs.length oc)
    have hfo := Mp.feed_ok hm hr O.verdict O.reply.exc
    show Calls _ _ _ _ (FeedEnd (PbFed P w g win ⟨(if (m.feed O.verdict O.reply.exc).rest = 0 then aftM win k (rle (m.feed O.verdict O.reply.exc).ks) p.d else (Ph.map k (m.feed O.verdict O.reply.exc), p.d)).1, (if (m.feed O.verdict O.reply.exc).rest = 0 then aftM win k (rle (m.feed O.verdict O.reply.exc).ks) p.d else (Ph.map k (m.feed O.verdict O.reply.exc), p.d)).2, p.q + 1⟩))
    generalize m.feed O.verdict O.reply.exc = y at *
    have hall : ∀ X, MpFeed Q W8 b y (.returned (.int .i64 0)) X → Keeps (fun j => Q j ∨ j = g) w X ∧ PbI X g win _ _ p.d ov sv mv (p.q + 1) := fun X hX =>
      ⟨hk8'.trans hX.2.2 (fun _ _ e => by subst e; exact .inl hQb), hpKeeps hp8 hX.2.2 (Ne.symm hbg)⟩
    refine pfeed_map_go g b bm bp bk _ w hpb rfl p.q h31 (p.q + 1) sw O da dc oa oc (fun X => MpFeed Q W8 b y (.returned (.int .i64 0)) X) _ ?_ ?_ y.ask (!decide (y.rest = 0)) ?_ ?_ ?_
    · show Calls _ _ _ _ _
      rw [hW8]
      exact hfd.mono (fun r X h => ⟨h.1, rfl, h.2⟩)
    · exact fun X hX => ⟨hpCell (hall X hX).2 8, hpCell (hall X hX).2 9⟩
    · intro X hX
      obtain ⟨_, ⟨v', q', hA⟩, _⟩ := hX
      exact mnext_any hA hfo _ _ rfl rfl
    · intro hV X X' hX hb
      have h0 : ¬ y.rest = 0 := fun e => by rw [decide_eq_true e] at hV; cases hV
      have hkX := (hall X hX).1.trans (Keeps.of_below (F := fun j => Q j ∨ j = g) hb) (fun _ _ e => e)
      have hpX := (hall X hX).2.keep hb
      obtain ⟨_, ⟨v', q', hA⟩, _⟩ := hX
      rw [if_neg h0]
      exact PbAt.stay hP hgl hQ hkX hpX hrd ⟨b, v', q', bm, bp, bk, rfl, rfl, hk4, hA.grow hb _ (Grw.wide hs8 hb.size), hbp.grow hkX, hbk.grow hkX, hbm.grow hkX⟩
    · intro hV X X' hX hb
      have h0 : y.rest = 0 := by
        rcases Decidable.em (y.rest = 0) with e | e
        · exact e
        · rw [decide_eq_false e] at hV; cases hV
      have hkX := (hall X hX).1.trans (Keeps.of_below (F := fun j => Q j ∨ j = g) hb) (fun _ _ e => e)
      have hpX := (hall X hX).2.keep hb
      obtain ⟨_, ⟨v', q', hA⟩, _⟩ := hX
      rw [if_pos h0]
      exact (af_map (Grw P w X') Q _ g b bp bk bm win _ _ p.d ov sv mv (p.q + 1) X' hpX (hrd.for hkX) k hk4 y v' q' (hA.grow hb _ (fun _ e => e)) hfo h0 (hbp.at hkX) (hbk.at hkX) (hbm.at hkX) (box_ne hpX (hbp.at hkX)) (box_ne hpX (hbk.at hkX)) (box_ne hpX (hbm.at hkX)) _ _ _ rfl rfl).mono (fun r w' h => PbAt.after hP hgl hQ hkX h)
end Go.Proofs.YtipnamoocemeeaaGreat
