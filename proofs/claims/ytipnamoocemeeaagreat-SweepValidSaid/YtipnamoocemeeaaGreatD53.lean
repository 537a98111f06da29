/-
  Texts 53 of the claim.
-/
import Derived.Test.YtipnamoocemeeaaGreatD51
import Derived.Test.YtipnamoocemeeaaGreatD52
import Derived.Test.YtipnamoocemeeaaGreatD49
import Derived.Test.YtipnamoocemeeaaGreatD33
import Derived.Test.YtipnamoocemeeaaGreatD31
import Derived.Test.YtipnamoocemeeaaGreatD47
import Derived.Deep.CutBlock
import Derived.Deep.CutRange
import Derived.Test.YtipnamoocemeeaaGreatD22
import Derived.Test.YtipnamoocemeeaaGreatD19
import Derived.Test.YtipnamoocemeeaaGreatD48
import Derived.Test.YtipnamoocemeeaaGreatD18
import Derived.Test.YtipnamoocemeeaaGreatD20
import Derived.Deep.RegionHeldLaw
namespace Go.Proofs.YtipnamoocemeeaaGreat
open Go.RowKit
def TbW : Ph → Prop
  | .seek k s => s.tb = (k : Int) + 1
  | _ => True
theorem TbW.meas {win : Nat → Int × Int} : ∀ (n : Nat) (d : Dv), TbW (meas win n d).1
  | 0, _ => trivial
  | n + 1, d => by
    show TbW (if (win (3 - n)).2 = 0 then Go.Proofs.YtipnamoocemeeaaGreat.meas win n (d.tab (3 - n) { d.ts (3 - n) with st := 6 }) else (.seek (3 - n) (Sr.new ((3 - n : Nat) + 1)), d)).1
    split
    · exact TbW.meas n _
    · rfl
theorem TbW.step {win : Nat → Int × Int} {p : Pb} (hok : p.ph.ok win) (h : TbW p.ph) (O : Oc) : TbW (p.step win O).1 := by
  obtain ⟨ph, d, q⟩ := p
  cases ph with
  | test =>
    show TbW (if stateOf O.verdict = 2 then .ident Idn.new else .done)
    split <;> trivial
  | ident x =>
    show TbW (if (x.feed O).st = 0 then (Ph.ident (x.feed O), d) else (Ph.server, d.ident (x.feed O))).1
    split <;> trivial
  | server => exact TbW.meas 4 _
  | seek k s =>
    obtain ⟨k4, hwk, hg, hst, hf⟩ := hok
    have ht := (Sr.feed_ok hg hst hf O.verdict O.reply.exc).tb
    show TbW (if (s.feed O.verdict O.reply.exc).st = 0 then (Ph.seek k (s.feed O.verdict O.reply.exc), d) else aftS win k (s.feed O.verdict O.reply.exc) d).1
    split
    · exact ht.trans h
    · unfold aftS
      dsimp only
      split
      · trivial
      · exact TbW.meas _ _
  | map k m =>
    show TbW (if (m.feed O.verdict O.reply.exc).rest = 0 then aftM win k (rle (m.feed O.verdict O.reply.exc).ks) d else (Ph.map k (m.feed O.verdict O.reply.exc), d)).1
    split
    · exact TbW.meas _ _
    · trivial
  | done => trivial
def NxI (l : List Sl) (ms : List Nat) : Ph → Prop
  | .ident x => x.next = 0 ∨ ∃ j s, ms = [j] ∧ l[j]? = some s ∧ ∃ o ∈ s.objs, x.next = o.id
  | _ => True
theorem NxI.meas {l : List Sl} {ms : List Nat} {win : Nat → Int × Int} : ∀ (n : Nat) (d : Dv), NxI l ms (meas win n d).1
  | 0, _ => trivial
  | n + 1, d => by
    show NxI l ms (if (win (3 - n)).2 = 0 then Go.Proofs.YtipnamoocemeeaaGreat.meas win n (d.tab (3 - n) { d.ts (3 - n) with st := 6 }) else (.seek (3 - n) (Sr.new ((3 - n : Nat) + 1)), d)).1
    split
    · exact NxI.meas n _
    · trivial
theorem NxI.step {l : List Sl} {ms : List Nat} {win : Nat → Int × Int} {p : Pb} {O : Oc} (hO : O.verdict = 1 → ∃ j s, ms = [j] ∧ l[j]? = some s ∧ RpJ s O.reply) : NxI l ms (p.step win O).1 := by
  obtain ⟨ph, d, q⟩ := p
  cases ph with
  | test =>
    show NxI l ms (if stateOf O.verdict = 2 then .ident Idn.new else .done)
    split
    · exact .inl rfl
    · trivial
  | ident x =>
    show NxI l ms (if (x.feed O).st = 0 then (Ph.ident (x.feed O), d) else (Ph.server, d.ident (x.feed O))).1
    split
    · rename_i e
      show (x.feed O).next = 0 ∨ _
      unfold Idn.feed at e ⊢
      split at e
      · exact absurd (show (5 : Int) = 0 from e) (by decide)
      · rename_i hA
        rw [if_neg hA]
        split at e
        · exact absurd (show (4 : Int) = 0 from e) (by decide)
        · rename_i hb
          rw [if_neg hb]
          obtain ⟨h1, h2, -, -⟩ := Idn.bad_no (by simpa using hb)
          have hm : O.reply.more = true := by
            cases hm : O.reply.more with
            | true => rfl
            | false =>
              rw [hm] at e
              exact absurd (show (2 : Int) = 0 from e) (by decide)
          obtain ⟨j, s, e1, e2, e3⟩ := hO h1
          exact .inr ⟨j, s, e1, e2, e3.nx h2 hm⟩
    · trivial
  | server => exact NxI.meas 4 _
  | seek k s =>
    show NxI l ms (if (s.feed O.verdict O.reply.exc).st = 0 then (Ph.seek k (s.feed O.verdict O.reply.exc), d) else aftS win k (s.feed O.verdict O.reply.exc) d).1
    split
    · trivial
    · unfold aftS
      dsimp only
      split
      · trivial
      · exact NxI.meas _ _
  | map k m =>
    show NxI l ms (if (m.feed O.verdict O.reply.exc).rest = 0 then aftM win k (rle (m.feed O.verdict O.reply.exc).ks) d else (Ph.map k (m.feed O.verdict O.reply.exc), d)).1
    split
    · exact NxI.meas _ _
    · trivial
  | done => trivial
theorem ask_ok {l : List Sl} {ms : List Nat} {win : Nat → Int × Int} {p : Pb} (hP : BusP l) (hok : p.ph.ok win) (hv : DvW win p.ph p.d) (ht : TbW p.ph) (hd : p.ph.isDone = false) (hn : NxI l ms p.ph) :
    p.ph.ask.ok = true ∧ ∀ j s, ms = [j] → l[j]? = some s → p.ph.ask.fn = 43 → p.ph.ask.code = 3 ∧ (0 < s.lv → fromO p.ph.ask.obj s.objs ≠ []) := by
  obtain ⟨ph, d, q⟩ := p
  cases ph with
  | test => exact ⟨rfl, fun _ _ _ _ e => absurd (show (3 : Int) = 43 from e) (by decide)⟩
  | ident x =>
    have hb : 0 ≤ x.next ∧ x.next ≤ 255 := by
      rcases hn with h | ⟨j, s, -, h2, o, ho, h3⟩
      · omega
      · have hsv := hP.2 s (List.mem_of_getElem? h2)
        by_cases e : 0 < s.lv
        · have := Sl.val_ids hsv e o ho
          omega
        · have hl := hsv.lv
          have h4 := hsv.l0 (by omega)
          rw [List.eq_nil_of_length_eq_zero h4] at ho
          cases ho
    refine ⟨?_, fun j s e1 e2 _ => ⟨rfl, fun h0 => ?_⟩⟩
    · show Rq.ok ⟨43, 0, 0, 3, x.next⟩ = true
      unfold Rq.ok
      simp [hb.1, hb.2]
    · show fromO x.next s.objs ≠ []
      have hsv := hP.2 s (List.mem_of_getElem? e2)
      have hmem : ∃ o ∈ s.objs, x.next ≤ o.id := by
        rcases hn with h | ⟨j2, s2, e3, e4, o, ho, h3⟩
        · have hon := (hsv.on h0).2
          cases hl : s.objs with
          | nil => rw [hl] at hon; exact absurd hon (by decide)
          | cons o rest =>
            have := Sl.val_ids hsv h0 o (by rw [hl]; exact List.mem_cons_self)
            exact ⟨o, List.mem_cons_self, by omega⟩
        · rw [e1] at e3
          injection e3 with e3
          subst e3
          rw [e2] at e4
          cases e4
          exact ⟨o, ho, by omega⟩
      obtain ⟨o, ho, hle⟩ := hmem
      intro e
      have h5 : o ∈ fromO x.next s.objs := List.mem_filter.2 ⟨ho, decide_eq_true hle⟩
      rw [e] at h5
      cases h5
  | server => exact ⟨rfl, fun _ _ _ _ e => absurd (show (17 : Int) = 43 from e) (by decide)⟩
  | seek k r =>
    obtain ⟨_, h2⟩ := hv
    obtain ⟨hk, hwk, hg, h0, hf⟩ := hok
    have h1 : r.tb = (k : Int) + 1 := ht
    have h2 : r.hi ≤ limI ((k : Int) + 1) + 1 := h2
    have hb := limI_bd ((k : Nat) + 1)
    have hl : 125 ≤ limI ((k : Nat) + 1) := by unfold limI; repeat' split <;> omega
    have hq : 1 ≤ r.qty ∧ r.qty ≤ limI ((k : Nat) + 1) := by
      have g1 := hg.lo0
      rcases hg.qty with e | e
      · omega
      · omega
    have ha : (Ph.seek k r).ask = ⟨r.tb, 0, r.qty, 0, 0⟩ := by
      show r.ask = _
      unfold Sr.ask
      rw [if_pos h0]
    show Rq.ok (Ph.seek k r).ask = true ∧ _
    refine ⟨?_, fun j s _ _ e => ?_⟩
    · rw [ha]
      unfold Rq.ok
      simp only [h1]
      rw [if_pos (by omega)]
      simp [hq.1, hq.2]
      omega
    · have e : (Ph.seek k r).ask.fn = 43 := e
      rw [ha] at e
      have e : r.tb = 43 := e
      omega
  | map k m =>
    obtain ⟨-, -, -, -, -, -, -, -, hT⟩ := hv
    obtain ⟨hk, hmo, hmr⟩ := hok
    have h1 := hT.tb
    have hsz := Mp.size_bd hmo hmr
    have hbd := limI_bd ((k : Nat) + 1)
    have hsm : m.size ≤ m.most := by
      unfold Mp.size
      split
      · split <;> omega
      · split
        · rename_i e
          have := hmo.se e
          have := hT.hi e
          omega
        · exact hmo.m0
    have hmm := hT.mo
    have hkl := hmo.kl
    have hf0 := hmo.f0
    have hf1 := hmo.f1
    have hrd : m.rest = m.cnt - m.ks.length := rfl
    have ha : (Ph.map k m).ask = ⟨m.tb, m.first + m.ks.length, m.size, 0, 0⟩ := by
      show m.ask = _
      unfold Mp.ask
      rw [if_neg hmr]
    show Rq.ok (Ph.map k m).ask = true ∧ _
    refine ⟨?_, fun j s _ _ e => ?_⟩
    · rw [ha]
      unfold Rq.ok
      simp only [h1]
      rw [if_pos (by omega)]
      have e1 : 0 ≤ m.first + (m.ks.length : Int) := by omega
      have e2 : m.size ≤ limI ((k : Nat) + 1) := by omega
      have e3 : m.first + (m.ks.length : Int) ≤ 65536 - m.size := by omega
      simp [hsz.1, e1, e2, e3]
    · have e : (Ph.map k m).ask.fn = 43 := e
      rw [ha] at e
      have e : m.tb = 43 := e
      omega
  | done => cases hd
def mbAt (c : Cf) (l : List Sl) (a : Nat) : List Nat := match c.sets[(c.pSet a).toNat]? with | some st => memb l st.1 st.2 (c.pUnit a) l.length | none => []
structure SvS (c : Cf) (l : List Sl) (U : Int) (x : Sp) (k : Nat) : Prop where
  gd : SpGd c x k
  vi : SvI c x
  tb : TbW x.pb.ph
  nx : NxI l (mbAt c l x.at_) x.pb.ph
  pg : PbGood c.win U x.pb
  cn : x.cnt = k
  bd : (k : Int) ≤ x.at_ * U + x.pb.q
theorem Pb0_good {c : Cf} {U : Int} (hU : unitS c.win 4 = U) : PbGood c.win U Pb0 := by
  refine ⟨trivial, trivial, Dv.zero_small, Int.le_refl _, ?_⟩
  show 0 + (34 + (unitS c.win 4 - 34)) ≤ U
  omega
theorem SvS.ini (c : Cf) (l : List Sl) {U : Int} (hU : unitS c.win 4 = U) : SvS c l U Sp.ini 0 :=
  ⟨SpGd.ini c, SvI.ini c, trivial, trivial, Pb0_good hU, rfl, by show ((0 : Nat) : Int) ≤ ((0 : Nat) : Int) * U + 0; simp⟩
theorem SvS.less {c : Cf} {l : List Sl} {U : Int} {x : Sp} {k : Nat} (h : SvS c l U x k) (hw : ∀ k, k < 4 → okW12 (c.win k)) (hlt : x.at_ < c.units) : (k : Int) < (c.units : Int) * U ∧ x.pb.q < U := by
  have hd : x.pb.ph ≠ .done := fun e => by have h1 := h.gd.nd; rw [e] at h1; cases h1
  have hq := (PbGood.step hw h.pg hd (oN_fit 3)).2
  have h1 := h.bd
  refine ⟨?_, hq⟩
  have h2 : ((x.at_ : Int) + 1) * U ≤ (c.units : Int) * U := Int.mul_le_mul_of_nonneg_right (by omega) (by have := h.pg.q0; omega)
  rw [Int.add_mul, Int.one_mul] at h2
  omega
theorem SvS.feed {c : Cf} {l : List Sl} {U : Int} (hU : unitS c.win 4 = U) (hn1 : 1 ≤ c.n) {x : Sp} {k : Nat} (h : SvS c l U x k) (hw : ∀ k, k < 4 → okW12 (c.win k)) (hlt : x.at_ < c.units) {O : Oc} (hO : O.jr) (hm : O.verdict = 1 → ∃ j s, mbAt c l x.at_ = [j] ∧ l[j]? = some s ∧ RpJ s O.reply) :
    SvS c l U (x.feed c O) (k + 1) := by
  have hwo : WinOk c.win := fun k hk => by have := hw k hk; exact ⟨this.1, by have := this.2.1; omega, this.2.2.1, this.2.2.2.1⟩
  have hd : x.pb.ph ≠ .done := fun e => by have h1 := h.gd.nd; rw [e] at h1; cases h1
  obtain ⟨hpg, hq⟩ := PbGood.step hw h.pg hd hO.fit
  have hgd := h.gd.feed hwo hO.fit
  have hvi := SvI.feed hn1 h.gd h.vi hO
  have htb := TbW.step (win := c.win) h.gd.ok h.tb O
  have hnx := NxI.step (win := c.win) (p := x.pb) hm
  have hndone : x.done c = false := by unfold Sp.done; rw [decide_eq_false_iff_not]; omega
  have hcn := h.cn
  have hbd := h.bd
  have hph : (x.pb.feed c.win O).ph = (x.pb.step c.win O).1 := rfl
  have hqq : (x.pb.feed c.win O).q = x.pb.q + 1 := rfl
  rw [← hph] at htb hnx
  unfold Sp.feed at hgd hvi ⊢
  rw [if_neg (by rw [hndone]; decide)] at hgd hvi ⊢
  generalize x.pb.feed c.win O = p at *
  unfold Sp.next at hgd hvi ⊢
  by_cases e : p.ph.isDone = true
  · rw [if_pos e] at hgd hvi ⊢
    refine ⟨hgd, hvi, trivial, trivial, Pb0_good hU, ?_, ?_⟩
    · show x.cnt + 1 = ((k + 1 : Nat) : Int)
      omega
    · show ((k + 1 : Nat) : Int) ≤ ((x.at_ + 1 : Nat) : Int) * U + 0
      have e1 : ((x.at_ + 1 : Nat) : Int) = (x.at_ : Int) + 1 := by omega
      rw [e1, Int.add_mul, Int.one_mul]
      omega
  · rw [if_neg e] at hgd hvi ⊢
    refine ⟨hgd, hvi, htb, hnx, hpg, ?_, ?_⟩
    · show x.cnt + 1 = ((k + 1 : Nat) : Int)
      omega
    · show ((k + 1 : Nat) : Int) ≤ (x.at_ : Int) * U + p.q
      omega
end Go.Proofs.YtipnamoocemeeaaGreat

namespace Go.Proofs.YtipnamoocemeeaaGreat
open Go.RowKit
end Go.Proofs.YtipnamoocemeeaaGreat

namespace Go.Proofs.YtipnamoocemeeaaGreat
open Go.RowKit
end Go.Proofs.YtipnamoocemeeaaGreat

namespace Go.Proofs.YtipnamoocemeeaaGreat
open Go.RowKit
theorem cellsCf : Tryz.prog.cellsOf 27 = 16 := by kernel_rfl
theorem cellsSts : Tryz.prog.cellsOf 22 = 1 := by kernel_rfl
theorem cellsSet : Tryz.prog.cellsOf 82 = 2 := by kernel_rfl
theorem cellsWin : Tryz.prog.cellsOf 25 = 8 := by kernel_rfl
theorem set_rd {w : World} {cs : List Value} (h : Rd Tryz.prog w 82 cs) : ∃ x, RgR w cs x := by
  obtain ⟨hl, hf⟩ := h.struct Tryz.underlying82
  rw [cellsSet] at hl
  obtain ⟨c0, c1, rfl⟩ := lst2 hl
  have f0 := hf _ (List.mem_cons_self ..)
  have f1 := hf _ (List.mem_cons_of_mem _ (List.mem_cons_self ..))
  simp only [cellsInt, List.drop_zero, List.drop_succ_cons, List.take_succ_cons, List.take_zero] at f0 f1
  obtain ⟨a, rfl, w0⟩ := int_rd f0
  obtain ⟨b, rfl, w1⟩ := int_rd f1
  exact ⟨(a, b), rfl, w0, w1⟩
theorem sets_rd {w : World} {v : Value} (h : Rd Tryz.prog w 22 [v]) : ∃ l, Rgs w v l :=
  Sls.of_rd (R := RgR) Tryz.underlying22 cellsSet (by decide) (fun _ h => set_rd h) h
theorem lst16 {α : Type} {l : List α} (h : l.length = 16) : ∃ a b c d e f g i j k m n o p q r, l = [a, b, c, d, e, f, g, i, j, k, m, n, o, p, q, r] := by
  match l, h with
  | [a, b, c, d, e, f, g, i, j, k, m, n, o, p, q, r], _ => exact ⟨a, b, c, d, e, f, g, i, j, k, m, n, o, p, q, r, rfl⟩
structure CfW (c : Cf) : Prop where
  fi : wfI c.fi
  la : wfI c.la
theorem cf_rd {w : World} {cs : Array Value} (h : Rd Tryz.prog w 27 cs.toList) : ∃ c sv, cs = CfC c sv ∧ Rgs w sv c.sets ∧ CfW c := by
  obtain ⟨hl, hf⟩ := h.struct Tryz.underlying27
  rw [cellsCf] at hl
  obtain ⟨cl⟩ := cs
  obtain ⟨c0, c1, c2, c3, c4, c5, c6, c7, c8, c9, c10, c11, c12, c13, c14, c15, rfl⟩ := lst16 hl
  have f0 := hf _ (List.mem_cons_self ..)
  have f1 := hf _ (List.mem_cons_of_mem _ (List.mem_cons_self ..))
  have f2 := hf _ (List.mem_cons_of_mem _ (List.mem_cons_of_mem _ (List.mem_cons_self ..)))
  have f3 := hf _ (List.mem_cons_of_mem _ (List.mem_cons_of_mem _ (List.mem_cons_of_mem _ (List.mem_cons_self ..))))
  have f4 := hf _ (List.mem_cons_of_mem _ (List.mem_cons_of_mem _ (List.mem_cons_of_mem _ (List.mem_cons_of_mem _ (List.mem_cons_self ..)))))
  have f5 := hf _ (List.mem_cons_of_mem _ (List.mem_cons_of_mem _ (List.mem_cons_of_mem _ (List.mem_cons_of_mem _ (List.mem_cons_of_mem _ (List.mem_cons_self ..))))))
  have f6 := hf _ (List.mem_cons_of_mem _ (List.mem_cons_of_mem _ (List.mem_cons_of_mem _ (List.mem_cons_of_mem _ (List.mem_cons_of_mem _ (List.mem_cons_of_mem _ (List.mem_cons_self ..)))))))
  have f7 := hf _ (List.mem_cons_of_mem _ (List.mem_cons_of_mem _ (List.mem_cons_of_mem _ (List.mem_cons_of_mem _ (List.mem_cons_of_mem _ (List.mem_cons_of_mem _ (List.mem_cons_of_mem _ (List.mem_cons_self ..))))))))
  have f8 := hf _ (List.mem_cons_of_mem _ (List.mem_cons_of_mem _ (List.mem_cons_of_mem _ (List.mem_cons_of_mem _ (List.mem_cons_of_mem _ (List.mem_cons_of_mem _ (List.mem_cons_of_mem _ (List.mem_cons_of_mem _ (List.mem_cons_self ..)))))))))
  simp only [cellsInt, cellsSts, cellsWin, List.drop_zero, List.drop_succ_cons, List.take_succ_cons, List.take_zero] at f0 f1 f2 f3 f4 f5 f6 f7 f8
  obtain ⟨l, hll⟩ := sets_rd f0
  obtain ⟨b1, rfl, w1⟩ := int_rd f1
  obtain ⟨b2, rfl, w2⟩ := int_rd f2
  obtain ⟨b3, rfl, w3⟩ := int_rd f3
  obtain ⟨b4, rfl, w4⟩ := int_rd f4
  obtain ⟨b5, rfl, w5⟩ := int_rd f5
  obtain ⟨hl2, g2⟩ := f6.array Tryz.underlying25
  have t0 := g2 0 (by decide)
  have t1 := g2 1 (by decide)
  have t2 := g2 2 (by decide)
  have t3 := g2 3 (by decide)
  simp only [cellsRg, Nat.zero_mul, Nat.reduceMul, List.drop_zero, List.drop_succ_cons, List.take_succ_cons, List.take_zero] at t0 t1 t2 t3
  obtain ⟨x0, e0, -, -⟩ := rg_rd t0
  obtain ⟨x1, e1, -, -⟩ := rg_rd t1
  obtain ⟨x2, e2, -, -⟩ := rg_rd t2
  obtain ⟨x3, e3, -, -⟩ := rg_rd t3
  obtain ⟨b7, rfl, w7⟩ := int_rd f7
  obtain ⟨b8, rfl, w8⟩ := int_rd f8
  simp only [List.cons.injEq, and_true] at e0 e1 e2 e3
  obtain ⟨rfl, rfl⟩ := e0
  obtain ⟨rfl, rfl⟩ := e1
  obtain ⟨rfl, rfl⟩ := e2
  obtain ⟨rfl, rfl⟩ := e3
  exact ⟨⟨l, b1, b2, b3, b4, b5, mk4 x0 x1 x2 x3, b7, b8⟩, c0, rfl, hll, w1, w2⟩
end Go.Proofs.YtipnamoocemeeaaGreat

namespace Go.Proofs.YtipnamoocemeeaaGreat
open Go.RowKit
end Go.Proofs.YtipnamoocemeeaaGreat
