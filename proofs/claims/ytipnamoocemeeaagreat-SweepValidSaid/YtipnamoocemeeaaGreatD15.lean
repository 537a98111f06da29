/-
  Texts 15 of the claim.
-/
import Derived.Test.YtipnamoocemeeaaGreatD14
namespace Go.Proofs.YtipnamoocemeeaaGreat
open Go.RowKit
structure Sr.good (s : Sr) : Prop where
  lo0 : 0 ≤ s.lo
  gap : s.lo + 2 ≤ s.hi
  hi1 : s.hi ≤ 2001
  fst : s.cnt ≠ 0 → 1 ≤ s.lo
  cnt0 : 0 ≤ s.cnt
  sum : s.cnt + s.hi - s.lo ≤ 2001
theorem Sr.good.ok {s : Sr} (h : s.good) : s.ok := ⟨h.lo0, by have := h.gap; have := h.hi1; omega, by have := h.gap; have := h.lo0; omega, h.hi1, h.cnt0, by have := h.sum; have := h.gap; omega⟩
theorem Sr.good.qty {s : Sr} (h : s.good) : s.lo < s.qty ∧ s.qty < s.hi ∨ (s.cnt = 0 ∧ s.qty = 1) := by
  unfold Sr.qty
  have := h.gap
  split
  · exact .inr ⟨by assumption, rfl⟩
  · exact .inl (by omega)
theorem Sr.new_good (t : Int) (h1 : 1 ≤ t) (h2 : t ≤ 4) : (Sr.new t).good := by
  have hb := limI_bd t
  have h : 125 ≤ limI t := by unfold limI; repeat' split <;> omega
  exact ⟨by show (0 : Int) ≤ 0; decide, by show 0 + 2 ≤ limI t + 1; omega, by show limI t + 1 ≤ 2001; omega, fun e => absurd rfl e, by show (0 : Int) ≤ 0; decide, by show 0 + (limI t + 1) - 0 ≤ 2001; omega⟩
structure Sr.fedOk (s y : Sr) : Prop where
  ok : y.ok
  good : y.st = 0 → y.good
  fin : y.st = 2 → 1 ≤ y.most ∧ y.most ≤ 2000
  tb : y.tb = s.tb
  cnt : y.cnt = s.cnt + 1
theorem Sr.feed_ok {s : Sr} (h : s.good) (hst : s.st = 0) (hf : s.cnt = 0 → s.lo = 0) (v x : Int) : s.fedOk (s.feed v x) := by
  have h1 := h.lo0
  have h2 := h.gap
  have h3 := h.hi1
  have h4 := h.fst
  have h5 := h.cnt0
  have h6 := h.sum
  have hq : 1 ≤ s.qty ∧ s.lo < s.qty ∧ s.qty < s.hi := by
    unfold Sr.qty
    split
    · rename_i e
      have := hf e
      omega
    · have := h4 (by assumption)
      omega
  unfold Sr.feed Sr.took
  split
  · unfold Sr.met
    split
    · rename_i hm
      have hm2 : s.hi = s.qty + 1 := hm.2
      exact ⟨⟨by show 0 ≤ s.qty; omega, by show s.qty ≤ 2001; omega, by show 0 ≤ s.hi; omega, by show s.hi ≤ 2001; omega, by show 0 ≤ s.cnt + 1; omega, by show s.cnt + 1 ≤ 100000; omega⟩, fun e => absurd (show (2 : Int) = 0 from e) (by decide), fun _ => by unfold Sr.most; rw [if_pos rfl]; show 1 ≤ s.qty ∧ s.qty ≤ 2000; omega, rfl, rfl⟩
    · rename_i hm
      have hm2 : ¬ s.hi = s.qty + 1 := fun e => hm ⟨hst, e⟩
      exact ⟨⟨by show 0 ≤ s.qty; omega, by show s.qty ≤ 2001; omega, by show 0 ≤ s.hi; omega, by show s.hi ≤ 2001; omega, by show 0 ≤ s.cnt + 1; omega, by show s.cnt + 1 ≤ 100000; omega⟩, fun _ => ⟨by show 0 ≤ s.qty; omega, by show s.qty + 2 ≤ s.hi; omega, h3, fun _ => hq.1, by show 0 ≤ s.cnt + 1; omega, by show s.cnt + 1 + s.hi - s.qty ≤ 2001; omega⟩, fun e => absurd (hst.symm.trans e) (by decide), rfl, rfl⟩
  · split
    · unfold Sr.met
      rw [if_neg (fun e => absurd e.1 (by show ¬ (5 : Int) = 0; decide))]
      exact ⟨⟨h1, by show s.lo ≤ 2001; omega, by show 0 ≤ s.hi; omega, h3, by show 0 ≤ s.cnt + 1; omega, by show s.cnt + 1 ≤ 100000; omega⟩, fun e => absurd (show (5 : Int) = 0 from e) (by decide), fun e => absurd (show (5 : Int) = 2 from e) (by decide), rfl, rfl⟩
    · split
      · rename_i hc
        have hl := h4 hc.1
        unfold Sr.met
        split
        · rename_i hm
          have hm2 : s.qty = s.lo + 1 := hm.2
          exact ⟨⟨h1, by show s.lo ≤ 2001; omega, by show 0 ≤ s.qty; omega, by show s.qty ≤ 2001; omega, by show 0 ≤ s.cnt + 1; omega, by show s.cnt + 1 ≤ 100000; omega⟩, fun e => absurd (show (2 : Int) = 0 from e) (by decide), fun _ => by unfold Sr.most; rw [if_pos rfl]; show 1 ≤ s.lo ∧ s.lo ≤ 2000; omega, rfl, rfl⟩
        · rename_i hm
          have hm2 : ¬ s.qty = s.lo + 1 := fun e => hm ⟨hst, e⟩
          exact ⟨⟨h1, by show s.lo ≤ 2001; omega, by show 0 ≤ s.qty; omega, by show s.qty ≤ 2001; omega, by show 0 ≤ s.cnt + 1; omega, by show s.cnt + 1 ≤ 100000; omega⟩, fun _ => ⟨h1, by show s.lo + 2 ≤ s.qty; omega, by show s.qty ≤ 2001; omega, fun _ => hl, by show 0 ≤ s.cnt + 1; omega, by show s.cnt + 1 + s.qty - s.lo ≤ 2001; omega⟩, fun e => absurd (hst.symm.trans e) (by decide), rfl, rfl⟩
      · unfold Sr.met
        rw [if_neg (fun e => absurd e.1 (by show ¬ (4 : Int) = 0; decide))]
        exact ⟨⟨h1, by show s.lo ≤ 2001; omega, by show 0 ≤ s.hi; omega, h3, by show 0 ≤ s.cnt + 1; omega, by show s.cnt + 1 ≤ 100000; omega⟩, fun e => absurd (show (4 : Int) = 0 from e) (by decide), fun e => absurd (show (4 : Int) = 2 from e) (by decide), rfl, rfl⟩
structure Pb where
  ph : Ph
  d : Dv
  q : Int
def Ph.ok (win : Nat → Int × Int) : Ph → Prop
  | .test => True
  | .ident x => x.ok ∧ x.st = 0
  | .server => True
  | .seek k s => k < 4 ∧ ¬ (win k).2 = 0 ∧ s.good ∧ s.st = 0 ∧ (s.cnt = 0 → s.lo = 0)
  | .map k m => k < 4 ∧ m.ok ∧ ¬ m.rest = 0
  | .done => True
def Ph.ask : Ph → Rq
  | .test => rqT
  | .ident x => x.ask
  | .server => rqS
  | .seek _ s => s.ask
  | .map _ m => m.ask
  | .done => ⟨0, 0, 0, 0, 0⟩
def Pb.step (win : Nat → Int × Int) (p : Pb) (O : Oc) : Ph × Dv :=
  match p.ph with
  | .test => (if stateOf O.verdict = 2 then .ident Idn.new else .done, { p.d with st := stateOf O.verdict })
  | .ident x => if (x.feed O).st = 0 then (.ident (x.feed O), p.d) else (.server, p.d.ident (x.feed O))
  | .server => meas win 4 { p.d with srv := srvSt O, sd := srvData O }
  | .seek k s => if (s.feed O.verdict O.reply.exc).st = 0 then (.seek k (s.feed O.verdict O.reply.exc), p.d) else aftS win k (s.feed O.verdict O.reply.exc) p.d
  | .map k m => if (m.feed O.verdict O.reply.exc).rest = 0 then aftM win k (rle (m.feed O.verdict O.reply.exc).ks) p.d else (.map k (m.feed O.verdict O.reply.exc), p.d)
  | .done => (.done, p.d)
def Pb.feed (win : Nat → Int × Int) (p : Pb) (O : Oc) : Pb := ⟨(p.step win O).1, (p.step win O).2, p.q + 1⟩
theorem meas_ok {win : Nat → Int × Int} : ∀ (n : Nat), n ≤ 4 → ∀ (d : Dv) (ph : Ph) (d' : Dv), meas win n d = (ph, d') → ph.ok win
  | 0, _, d, ph, d', h => by
    have := (Prod.mk.inj h).1
    subst this
    trivial
  | n + 1, hn, d, ph, d', h => by
    unfold meas at h
    split at h
    · exact meas_ok n (by omega) _ ph d' h
    · have := (Prod.mk.inj h).1
      subst this
      exact ⟨by omega, by assumption, Sr.new_good _ (by omega) (by omega), rfl, fun _ => rfl⟩
theorem aftS_ok {win : Nat → Int × Int} (hw : WinOk win) {k : Nat} (hk : k < 4) (hc : ¬ (win k).2 = 0) {s : Sr} (hs : s.st = 2 → 1 ≤ s.most ∧ s.most ≤ 2000) {d : Dv} {ph : Ph} {d' : Dv} (h : aftS win k s d = (ph, d')) : ph.ok win := by
  unfold aftS at h
  by_cases h2 : s.st = 2
  · simp only [if_pos h2] at h
    have := (Prod.mk.inj h).1
    subst this
    have hwk := hw k hk
    have hm := hs h2
    refine ⟨hk, Mp.new_ok (by omega) (by omega) (by omega) (by omega) (by omega) (by omega) (by unfold minI; split <;> omega) (by unfold minI; split <;> omega), ?_⟩
    show ¬ (win k).2 - ((0 : Nat) : Int) = 0
    omega
  · simp only [if_neg h2] at h
    exact meas_ok _ (by omega) _ _ _ h
theorem Pb.step_ok {win : Nat → Int × Int} (hw : WinOk win) {p : Pb} (hp : p.ph.ok win) {O : Oc} (hO : O.fit) : (p.step win O).1.ok win := by
  unfold Pb.step
  split
  · split
    · exact ⟨Idn.new_ok, rfl⟩
    · trivial
  · rename_i x e
    rw [e] at hp
    split
    · exact ⟨Idn.feed_ok hp.1 hO (by assumption), by assumption⟩
    · trivial
  · exact meas_ok 4 (Nat.le_refl _) _ _ _ rfl
  · rename_i k s e
    rw [e] at hp
    obtain ⟨hk, hc, hg, hst, hf⟩ := hp
    have hy := Sr.feed_ok hg hst hf O.verdict O.reply.exc
    split
    · rename_i h0
      exact ⟨hk, hc, hy.good h0, h0, fun e => by have := hy.cnt; have := hg.cnt0; omega⟩
    · exact aftS_ok hw hk hc hy.fin rfl
  · rename_i k m e
    rw [e] at hp
    obtain ⟨hk, hm, hr⟩ := hp
    split
    · exact meas_ok _ (by omega) _ _ _ rfl
    · exact ⟨hk, Mp.feed_ok hm hr _ _, by assumption⟩
  · trivial
def PbAt (P : Nat → Prop) (W : World) (g : Nat) (win : Nat → Int × Int) (p : Pb) : Prop :=
  ∃ (Q : Nat → Prop) (pr af ov sv : Value) (mv : Nat → Value), P g ∧ (∀ j, Q j → P j ∧ j ≠ g ∧ j < W.heap.size) ∧ PbI W g win pr af p.d ov sv mv p.q ∧ RdSt (FQ P Q g) W p.d ov sv mv ∧ PrAt (FQ P Q g) Q W g pr af p.ph
theorem Grw_grw {P : Nat → Prop} {a b c : World} (h1 : a.heap.size ≤ b.heap.size) (h2 : b.heap.size ≤ c.heap.size) : Grw (Grw P a b) b c = Grw P a c := by
  funext j
  apply propext
  constructor
  · rintro ((h | h) | h)
    · exact .inl h
    · exact .inr ⟨h.1, by omega⟩
    · exact .inr ⟨by omega, h.2⟩
  · rintro (h | h)
    · exact .inl (.inl h)
    · by_cases hj : j < b.heap.size
      · exact .inl (.inr ⟨h.1, hj⟩)
      · exact .inr ⟨by omega, h.2⟩
theorem PbAt.after {P Q : Nat → Prop} {w X w' : World} {g : Nat} {win : Nat → Int × Int} {q : Int} {ph : Ph} {d : Dv} {r : Ending} (hP : P g) (hgl : g < w.heap.size) (hQ : ∀ j, Q j → P j ∧ j ≠ g ∧ j < w.heap.size) (hk : Keeps (fun j => Q j ∨ j = g) w X) (h : AfPost (Grw P w X) Q X g win q ph d r w') :
    r = .returned (.tuple #[]) ∧ PbAt (Grw P w w') w' g win ⟨ph, d, q⟩ ∧ Keeps P w w' := by
  obtain ⟨hr, w2, ov, sv, mv, hs, hrd, ⟨⟨pr, af, hpb, Q', hQ', hpr⟩, hkg⟩, hK⟩ := h
  have h1 := hk.size
  have h2 := hkg.size
  refine ⟨hr, ⟨Q', pr, af, ov, sv, mv, .inl hP, fun j hj => ⟨.inr ⟨by have := (hQ' j hj).1; omega, (hQ' j hj).2⟩, by have := (hQ' j hj).1; omega, (hQ' j hj).2⟩, hpb, ?_, ?_⟩, (hk.mono (fun j _ e => by rcases e with e | e; exact (hQ j e).1; subst e; exact hP)).trans hK (fun j _ e => by subst e; exact hP)⟩
  · refine hrd.keeps (H := (· = g)) hkg (fun j _ e => ⟨by subst e; omega, .inr (.inr e)⟩) (fun j hj e => ?_)
    rcases e with e | e | e
    · have hlt : j < w.heap.size := by
        rcases Nat.lt_or_ge j w.heap.size with hh | hh
        · exact hh
        · exact absurd (Or.inr ⟨hh, by omega⟩) e
      exact ⟨by omega, .inl (fun hh => by rcases hh with hh | hh; exact e (.inl hh); omega)⟩
    · have := (hQ' j e).1
      omega
    · exact ⟨by omega, .inr (.inr e)⟩
  · have := hpr (Grw P w w2)
    rw [Grw_grw (by omega) h2] at this
    exact this
theorem FQ.grow {P Q : Nat → Prop} {w X : World} {g j : Nat} (hj : j < w.heap.size) (h : FQ (Grw P w X) (Grw Q w X) g j) : FQ P Q g j := by
  rcases h with h | h | h
  · exact .inl (fun e => h (.inl e))
  · rcases h with h | h
    · exact .inr (.inl h)
    · omega
  · exact .inr (.inr h)
theorem St.grow {P Q : Nat → Prop} {w X : World} {g b : Nat} {o : Obj} (h : St (FQ P Q g) w b o) (hk : Keeps (fun j => Q j ∨ j = g) w X) : St (FQ (Grw P w X) (Grw Q w X) g) X b o := fun W' hW =>
  h W' ((hk.mono (fun j _ e => by rcases e with e | e; exact .inr (.inl e); exact .inr (.inr e))).trans hW (fun _ hj e => FQ.grow hj e))
theorem St.at {P Q : Nat → Prop} {w X : World} {g b : Nat} {o : Obj} (h : St (FQ P Q g) w b o) (hk : Keeps (fun j => Q j ∨ j = g) w X) : X.heap[b]? = some o :=
  h X (hk.mono (fun j _ e => by rcases e with e | e; exact .inr (.inl e); exact .inr (.inr e)))
theorem PbAt.stay {P Q : Nat → Prop} {w X : World} {g : Nat} {win : Nat → Int × Int} {q : Int} {ph : Ph} {d : Dv} {pr af ov sv : Value} {mv : Nat → Value} (hP : P g) (hgl : g < w.heap.size) (hQ : ∀ j, Q j → P j ∧ j ≠ g ∧ j < w.heap.size) (hk : Keeps (fun j => Q j ∨ j = g) w X) (hpb : PbI X g win pr af d ov sv mv q) (hrd : RdSt (FQ P Q g) w d ov sv mv) (hpr : PrAt (FQ (Grw P w X) (Grw Q w X) g) (Grw Q w X) X g pr af ph) :
    PbAt (Grw P w X) X g win ⟨ph, d, q⟩ ∧ Keeps P w X := by
  have h1 := hk.size
  refine ⟨⟨Grw Q w X, pr, af, ov, sv, mv, .inl hP, fun j hj => ?_, hpb, ?_, hpr⟩, hk.mono (fun j _ e => by rcases e with e | e; exact (hQ j e).1; subst e; exact hP)⟩
  · rcases hj with hj | hj
    · exact ⟨.inl (hQ j hj).1, (hQ j hj).2.1, by have := (hQ j hj).2.2; omega⟩
    · exact ⟨.inr hj, by omega, hj.2⟩
  · exact hrd.keeps hk (fun j _ e => by rcases e with e | e; exact .inr (.inl e); exact .inr (.inr e)) (fun j hj e => FQ.grow hj e)
theorem RdSt.for {P Q : Nat → Prop} {w X : World} {g : Nat} {d : Dv} {ov sv : Value} {mv : Nat → Value} (hk : Keeps (fun j => Q j ∨ j = g) w X) (h : RdSt (FQ P Q g) w d ov sv mv) : RdSt (FQ (Grw P w X) Q g) X d ov sv mv :=
  h.keeps hk (fun j _ e => by rcases e with e | e; exact .inr (.inl e); exact .inr (.inr e)) (fun j hj e => by
    rcases e with e | e | e
    · exact .inl (fun h => e (.inl h))
    · exact .inr (.inl e)
    · exact .inr (.inr e))
theorem box_ne {W : World} {g : Nat} {win : Nat → Int × Int} {pr af : Value} {d : Dv} {ov sv : Value} {mv : Nat → Value} {q : Int} (h : PbI W g win pr af d ov sv mv q) {b : Nat} {x : Value} {t : TypeId} (hb : W.heap[b]? = some (.cells #[x] t)) : b ≠ g := by
  rintro rfl
  have : some (Obj.cells #[x] t) = some (Obj.cells (PbC win pr af d ov sv mv q) 143) := hb.symm.trans h
  simp [PbC] at this
theorem PbI.setQ {W : World} {g : Nat} {win : Nat → Int × Int} {pr af : Value} {d : Dv} {ov sv : Value} {mv : Nat → Value} {q : Int} (h : PbI W g win pr af d ov sv mv q) (q' : Int) : PbI (W.setCell ⟨g, 31, none⟩ (.int .i64 q')) g win pr af d ov sv mv q' := hpSetP h rfl
end Go.Proofs.YtipnamoocemeeaaGreat
