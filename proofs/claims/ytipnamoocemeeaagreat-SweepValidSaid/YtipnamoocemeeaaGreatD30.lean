/-
  Texts 30 of the claim.
-/
import Derived.Test.YtipnamoocemeeaaGreatD28
import Derived.Test.YtipnamoocemeeaaGreatD29
import Derived.Test.YtipnamoocemeeaaGreatD26
import Derived.Test.YtipnamoocemeeaaGreatD18
import Derived.Deep.CutBlock
import Derived.Deep.MidRow
namespace Go.Proofs.YtipnamoocemeeaaGreat
open Go.RowKit
theorem setV_one : ∀ (l : List (Int × Int)), ∀ u ∈ setV l, u.oneCell' = true
  | [], u, hu => by cases hu
  | x :: l, u, hu => by
    simp only [setV, List.mem_cons] at hu
    rcases hu with rfl | rfl | hu
    · rfl
    · rfl
    · exact setV_one l u hu
theorem setV_csl {w : World} : ∀ (l : List (Int × Int)), (∀ x ∈ l, wfI x.1 ∧ wfI x.2) → CsL 2 (RgR w) (setV l) l
  | [], _ => rfl
  | x :: l, h => ⟨[.int .i64 x.1, .int .i64 x.2], setV l, rfl, rfl, ⟨rfl, (h x (List.mem_cons_self ..)).1, (h x (List.mem_cons_self ..)).2⟩, setV_csl l (fun y hy => h y (List.mem_cons_of_mem _ hy))⟩
theorem Rgs.wf {w : World} {v : Value} {l : List (Int × Int)} (h : Rgs w v l) : ∀ x ∈ l, wfI x.1 ∧ wfI x.2 := fun x hx => by
  obtain ⟨i, hi⟩ := List.getElem?_of_mem hx
  obtain ⟨b, o, c, _, w1, w2, _⟩ := h.at hi
  exact ⟨w1, w2⟩
theorem Rgs.rowV {w : World} {b o n c : Nat} {l : List (Int × Int)} (h : Rgs w (.slice (some ⟨b, o, none⟩) n c) l) : ∀ j u, (setV l)[j]? = some u → w.cell? ⟨b, o + j, none⟩ = some u := by
  intro j u hj
  have hjl := (List.getElem?_eq_some_iff.1 hj).1
  rw [setV_length] at hjl
  obtain ⟨x, hx⟩ := gs (l := l) rfl (show j / 2 < l.length by omega)
  obtain ⟨b', o', c', hv, -, -, hcl⟩ := h.at hx
  simp only [Value.slice.injEq, Option.some.injEq, Addr.mk.injEq, and_true] at hv
  obtain ⟨⟨rfl, rfl⟩, -, -⟩ := hv
  obtain ⟨e0, e1⟩ := hcl w (Below.refl _ _)
  obtain ⟨s0, s1⟩ := setV_get l (j / 2) x hx
  rcases Nat.mod_two_eq_zero_or_one j with e | e
  · have ej : j = j / 2 * 2 := by omega
    rw [ej] at hj ⊢
    rw [s0] at hj
    cases hj
    exact e0
  · have ej : j = j / 2 * 2 + 1 := by omega
    rw [ej] at hj ⊢
    rw [s1] at hj
    cases hj
    exact e1
def CloneSPost (w : World) (l : List (Int × Int)) (r : Ending) (w' : World) : Prop := ∃ a c, r = .returned (.slice a l.length c) ∧ (∀ W', Agree w.heap.size w' W' → Rgs W' (.slice a l.length c) l) ∧ Below w.heap.size w w'
theorem CloneSPost.own {w w' : World} {l : List (Int × Int)} {v : Value} {n : Nat} {cs : List Value} (hcs : cs = setV l) (hn : n = l.length) (hwf : ∀ x ∈ l, wfI x.1 ∧ wfI x.2) (h : w'.ownsRow w.heap.size 82 2 v n cs) (hb : Below w.heap.size w w') : CloneSPost w l (.returned v) w' := by
  subst hcs hn
  obtain ⟨a, c, rfl⟩ := own_slice h
  exact ⟨a, c, rfl, fun W' hW => Sls.of_own (own_agree h (Nat.le_refl _) hW) (setV_csl l hwf) rfl, hb⟩
set_option maxHeartbeats 1600000 in
theorem cloneS_any (v : Value) (l : List (Int × Int)) (w : World) (hv : Rgs w v l) (hl : l.length ≤ 1000000) : Calls Tryz.prog 42 #[v] w (CloneSPost w l) := by
  obtain ⟨i5, hi, hz0, hz1, hz2⟩ := info_parts infoS
  have hwf := hid hv.wf
  obtain ⟨a, c, rfl, hc, hcm, hac, h4⟩ := id hv
  unfold maxLen at hcm
  have hq := Lib.run_eql_slice_nil (P := Tryz.prog)
  cases a with
  | none =>
    obtain rfl := hac rfl
    have hl0 : l.length = 0 := by omega
    have : l = [] := List.eq_nil_of_length_eq_zero hl0
    subst this
    clear hv h4
    go_enter Tryz.func42, Tryz.ntmps42
    go_wp2
    go_ret
    exact CloneSPost.own (cs := []) (n := 0) rfl rfl hwf.out (World.ownsRow_nil _ _ _ _) (Below.refl _ _)
  | some a =>
    by_cases hne : l = []
    · subst hne
      clear hv h4
      go_enter Tryz.func42, Tryz.ntmps42
      go_wp2_with (at_builtin; refine wpList_appN rfl _ _ 22 rfl w.heap.size 82 i5 _ 2 16 Tryz.underlying22 hi hz0 hz1 hz2 rfl (by decide) _ 0 [] rfl (World.ownsRow_made _ _ _ (Nat.le_refl _) (by decide) rfl) a 0 c [] rfl rfl (by simp) (by simp) (by unfold maxLen; omega) (by omega) (by simp) ?c3)
      case c3 =>
        intro v' w1 hown hgr _
        have hbel := (bal' w (.cells #[] 82)).grown hgr (bal' w (.cells #[] 82)).size (by intro k hk; simp [Value.ownBlock] at hk; omega)
        have HOWN := hid hown
        clear hgr hown
        go_wp2
        go_ret
        exact CloneSPost.own (cs := []) (n := 0) rfl rfl hwf.out (by simpa using HOWN.out) hbel
    · obtain ⟨b, o, hab, -⟩ := h4 hne
      cases hab
      have hcell : Hid (∀ j u, (setV l)[j]? = some u → (w.alloc (.cells #[] 82)).cell? ((⟨b, o, none⟩ : Addr).add j) = some u) := fun j u hj => by
        have e1 : (⟨b, o, none⟩ : Addr).add j = ⟨b, o + j, none⟩ := by unfold Addr.add; split <;> simp_all
        rw [e1]
        exact cell_keep (bal' w _) (hv.rowV j u hj)
      have HL : Hid ((setV l).length = l.length * 2) := setV_length l
      have H1 : Hid (∀ u ∈ setV l, u.oneCell' = true) := setV_one l
      clear hv h4 hne
      go_enter Tryz.func42, Tryz.ntmps42
      go_wp2_with (at_builtin; refine wpList_appN rfl _ _ 22 rfl w.heap.size 82 i5 _ 2 16 Tryz.underlying22 hi hz0 hz1 hz2 rfl (by decide) _ 0 [] rfl (World.ownsRow_made _ _ _ (Nat.le_refl _) (by decide) rfl) ⟨b, o, none⟩ l.length c (setV l) rfl HL.out hcell.out H1.out (by unfold maxLen; omega) (by omega) (by simp) ?c3)
      case c3 =>
        intro v' w1 hown hgr _
        have hbel := (bal' w (.cells #[] 82)).grown hgr (bal' w (.cells #[] 82)).size (by intro k hk; simp [Value.ownBlock] at hk; omega)
        have HOWN := hid (show w1.ownsRow w.heap.size 82 2 v' l.length (setV l) by simpa using hown)
        clear hgr hown
        go_wp2
        go_ret
        exact CloneSPost.own rfl rfl hwf.out HOWN.out hbel
def SwF (M P : Nat → Prop) (j : Nat) : Prop := M j ∨ ¬ P j
def DvQ (F : Nat → Prop) (W : World) (r : List Value) (f : Fd) : Prop := ∃ ov sv mv, r = (DvF f ov sv mv).toList ∧ RdSt F W f.d ov sv mv
theorem DvQ.keeps {F G H : Nat → Prop} {W W' : World} (hk : Keeps H W W') (h1 : ∀ j, j < W.heap.size → H j → F j) (h2 : ∀ j, j < W.heap.size → G j → F j) (r : List Value) (f : Fd) (h : DvQ F W r f) : DvQ G W' r f := by
  obtain ⟨ov, sv, mv, e, hr⟩ := h
  exact ⟨ov, sv, mv, e, hr.keeps hk h1 h2⟩
def SwC (c : Cf) (sv pv fv : Value) (at_ cnt : Int) : Array Value := #[sv, .int .i64 c.fi, .int .i64 c.la, .int .i64 c.re, .int .i64 c.ti, .int .i64 c.de, .int .i64 (c.win 0).1, .int .i64 (c.win 0).2, .int .i64 (c.win 1).1, .int .i64 (c.win 1).2, .int .i64 (c.win 2).1, .int .i64 (c.win 2).2, .int .i64 (c.win 3).1, .int .i64 (c.win 3).2, .int .i64 c.ev, .int .i64 c.st, .int .i64 at_, pv, fv, .int .i64 cnt]
def SwI (W : World) (g : Nat) (c : Cf) (sv pv fv : Value) (at_ cnt : Int) : Prop := W.heap[g]? = some (.cells (SwC c sv pv fv at_ cnt) 96)
structure SwS (P M Q : Nat → Prop) (W : World) (g : Nat) (c : Cf) (x : Sp) (sv pv : Value) (fa : Option Addr) (fc : Nat) (cs : List Value) : Prop where
  mg : M g
  mp : ∀ j, M j → P j
  pl : ∀ j, P j → j < W.heap.size
  qm : ∀ j, Q j → M j ∧ j ≠ g
  rw_ : ∀ j, (Value.slice fa x.fd.length fc).ownBlock = some j → M j ∧ j ≠ g ∧ ¬ Q j
  at_ : SwI W g c sv pv (.slice fa x.fd.length fc) x.at_ x.cnt
  st : ∀ W', Keeps (SwF M P) W W' → Rgs W' sv c.sets
  own : W.ownsRow 0 91 21 (.slice fa x.fd.length fc) x.fd.length cs
  dv : CsL 21 (DvQ (SwF M P) W) cs x.fd
  pr : x.at_ < c.units → ∃ gp, pv = .pointer (some ⟨gp, 0, none⟩) ∧ Q gp ∧ PbAt Q W gp c.win x.pb
  no : c.units ≤ x.at_ → pv = .pointer none
def SwAt (P : Nat → Prop) (W : World) (g : Nat) (c : Cf) (x : Sp) : Prop := ∃ M Q sv pv fa fc cs, SwS P M Q W g c x sv pv fa fc cs
theorem SwS.keep {P M Q F : Nat → Prop} {W W' : World} {g : Nat} {c : Cf} {x : Sp} {sv pv : Value} {fa : Option Addr} {fc : Nat} {cs : List Value} (h : SwS P M Q W g c x sv pv fa fc cs) (hk : Keeps F W W') (hF : ∀ j, j < W.heap.size → F j → ¬ P j) : SwS P M Q W' g c x sv pv fa fc cs := by
  have hk' : Keeps (SwF M P) W W' := hk.mono (fun j hj e => .inr (hF j hj e))
  have hkP : Keeps (fun j => ¬ P j) W W' := hk.mono hF
  refine ⟨h.mg, h.mp, fun j hj => Nat.lt_of_lt_of_le (h.pl j hj) hk.size, h.qm, h.rw_, hpKeeps h.at_ hkP (fun e => e (h.mp _ h.mg)), fun W2 h2 => h.st W2 (hk'.trans h2 (fun _ _ e => e)), own_keeps h.own hkP (fun j hj e => e (h.mp _ (h.rw_ j hj).1)), CsL.mono (fun r f hr => DvQ.keeps hk' (fun _ _ e => e) (fun _ _ e => e) r f hr) _ _ h.dv, fun hl => ?_, h.no⟩
  obtain ⟨gp, e1, e2, e3⟩ := h.pr hl
  exact ⟨gp, e1, e2, e3.keep hkP (fun j _ e hq => e (h.mp _ (h.qm j hq).1))⟩
theorem SwAt.keep {P F : Nat → Prop} {W W' : World} {g : Nat} {c : Cf} {x : Sp} (h : SwAt P W g c x) (hk : Keeps F W W') (hF : ∀ j, j < W.heap.size → F j → ¬ P j) : SwAt P W' g c x := by
  obtain ⟨M, Q, sv, pv, fa, fc, cs, hs⟩ := h
  exact ⟨M, Q, sv, pv, fa, fc, cs, hs.keep hk hF⟩
set_option maxRecDepth 100000 in
set_option maxHeartbeats 1600000 in
theorem splace_any {P : Nat → Prop} {w : World} {g : Nat} {c : Cf} {x : Sp} (h : SwAt P w g c x) : Calls Tryz.prog 14 #[.pointer (some ⟨g, 0, none⟩)] w (IntPost w (x.at_ : Int)) := by
  obtain ⟨M, Q, sv, pv, fa, fc, cs, hs⟩ := h
  have c16 : w.cell? ⟨g, 16, none⟩ = some (.int .i64 x.at_) := hpCell hs.at_ 16
  clear hs
  go_enter Tryz.func14, Tryz.ntmps14
  go_wp2
  go_ret
  exact ⟨rfl, Below.refl _ _⟩
set_option maxRecDepth 100000 in
set_option maxHeartbeats 1600000 in
theorem squeries_any {P : Nat → Prop} {w : World} {g : Nat} {c : Cf} {x : Sp} (h : SwAt P w g c x) : Calls Tryz.prog 15 #[.pointer (some ⟨g, 0, none⟩)] w (IntPost w x.cnt) := by
  obtain ⟨M, Q, sv, pv, fa, fc, cs, hs⟩ := h
  have c19 : w.cell? ⟨g, 19, none⟩ = some (.int .i64 x.cnt) := hpCell hs.at_ 19
  clear hs
  go_enter Tryz.func15, Tryz.ntmps15
  go_wp2
  go_ret
  exact ⟨rfl, Below.refl _ _⟩
end Go.Proofs.YtipnamoocemeeaaGreat

namespace Go.Proofs.YtipnamoocemeeaaGreat
open Go.RowKit
theorem info5 : (Tryz.prog.info? 39).map (·.size) = some 5 := by kernel_rfl
theorem run_load_rowS {P : Program} {ev : Operand → Value} {o : Oper} {w : World} (ty : TypeId) (x : Operand) (ho : o.op = .load ty x)
    (ad : Addr) (hx : ev x = .pointer (some ad)) (cs : Array Value) (d : TypeDesc) (hc : ∀ j v, cs.toList[j]? = some v → w.cell? (ad.add j) = some v)
    (hu : P.underlying ty = some d) (hd : (match d with | .struct _ | .array _ _ => true | _ => false) = true) (hi : (P.info? ty).map (·.size) = some cs.size) :
    (execOp ev o).run P w = .ok (.value (.agg cs)) w := by
  unfold execOp
  simp only [ho, hx, Instr.loadAt, Instr.sureAddr, Sem.run_bind, Sem.run_pure, Result.andThen_ok, run_loadVar_at w ad ty cs d hc hu hd hi]
theorem hpRowAt2 {w : World} {b : Nat} {C : Array Value} {t : TypeId} {fz : Nat × Nat} (h : w.heap[b]? = some (.cells C t fz)) (j : Nat) (v : Value) (hj : C.toList[j]? = some v) : w.cell? ((⟨b, 0, none⟩ : Addr).add j) = some v := by
  have e : (⟨b, 0, none⟩ : Addr).add j = ⟨b, j, none⟩ := by unfold Addr.add; split <;> simp_all
  rw [e, hpCell h]
  simpa using hj
theorem step_storeS {P : Program} {w : World} {ops : Array Oper} {op : Oper} {a : Act} {K : Act → World → Prop} {Q : Exit → Act → World → Prop} {E : Prop} (hgd : op.guard = none) (ty : TypeId) (x y : Operand) (ho : op.op = .store ty x y)
    (p o : Nat) (old : Array Value) (t : TypeId) (cells : Array Value) (hx : a.eval x = .pointer (some ⟨p, o, none⟩)) (hy : a.eval y = .agg cells)
    (hb : w.heap[p]? = some (.cells old t (0, 0))) (hsz : o + cells.size ≤ old.size) (hi : (P.info? ty).map (·.size) = some cells.size) (h1 : cells.toList.all (·.oneCell') = true)
    (h : ∀ w', w'.heap[p]? = some (.cells (old.toList.take o ++ cells.toList ++ old.toList.drop (o + cells.toList.length)).toArray t (0, 0)) → Keeps (· = p) w w' → w'.heap.size = w.heap.size → K (a.put op.dst undef) w') :
    if Region.wanted op (yielded ops a.tmps) = true then Oper.wp P op a w K Q else E := by
  rw [if_pos (by simp [Region.wanted, hgd])]
  refine wp_store_mid ty x y ho p o cells hx hy (fun j hj => ?_) hi (by rw [← Array.all_toList]; exact h1) ?_
  · refine ⟨?_, hpFree hb _⟩
    rw [hpCell hb]
    simp
    omega
  · obtain ⟨k1, k2⟩ := keepsCells p cells.toList o w
    exact h _ (hpSetCells p t (0, 0) cells.toList o w old hb (by simpa using hsz)) k1 k2
theorem SwC_cf {c : Cf} {sv pv fv : Value} {a n : Int} (j : Nat) (v : Value) (h : (CfC c sv).toList[j]? = some v) : (SwC c sv pv fv a n)[j]? = some v := by
  have e : (SwC c sv pv fv a n).toList = (CfC c sv).toList ++ [.int .i64 a, pv, fv, .int .i64 n] := rfl
  have h2 : (SwC c sv pv fv a n).toList[j]? = some v := by
    rw [e, List.getElem?_append_left (List.getElem?_eq_some_iff.1 h).1]
    exact h
  simpa using h2
structure NxS (b : Nat) (q : Rq) (W V : World) : Prop where
  h : V.heap[b]? = some (.cells #[.int .i64 q.fn, .int .i64 q.addr, .int .i64 q.qty, .int .i64 q.code, .int .i64 q.obj] 39)
  k : Keeps (· = b) W V
def NxPost (w : World) (c : Cf) (x : Sp) (r : Ending) (w' : World) : Prop :=
  r = .returned (.tuple (if x.at_ < c.units then #[.int .i64 (c.pSet x.at_), .int .i64 (c.pUnit x.at_), .agg (#[.int .i64 x.pb.ph.ask.fn, .int .i64 x.pb.ph.ask.addr, .int .i64 x.pb.ph.ask.qty, .int .i64 x.pb.ph.ask.code, .int .i64 x.pb.ph.ask.obj]), .bool true] else #[.int .i64 0, .int .i64 0, .agg (#[.int .i64 0, .int .i64 0, .int .i64 0, .int .i64 0, .int .i64 0]), .bool false])) ∧ Below w.heap.size w w'
set_option maxRecDepth 100000 in
set_option maxHeartbeats 6400000 in
theorem snext_sw {P : Nat → Prop} {w : World} {g : Nat} {c : Cf} {x : Sp} (hc : chkE c = 0) (h : SwAt P w g c x) (hok : x.at_ < c.units → x.pb.ph.ok c.win ∧ x.pb.ph.isDone = false) (ha : x.at_ ≤ 1000000) :
    Calls Tryz.prog 12 #[.pointer (some ⟨g, 0, none⟩)] w (NxPost w c x) := by
  obtain ⟨M, Q, sv, pv, fa, fc, cs, hs⟩ := h
  have hgl : g < w.heap.size := hpLt hs.at_
  obtain ⟨W0, hW0⟩ : ∃ W, w.alloc (.cells #[.int .i64 0, .int .i64 0, .int .i64 0, .int .i64 0, .int .i64 0] 39) = W := ⟨_, rfl⟩
  have hb0 : Below w.heap.size w W0 := by rw [← hW0]; exact bal' w _
  have p0 : W0.heap[w.heap.size]? = some (.cells #[.int .i64 0, .int .i64 0, .int .i64 0, .int .i64 0, .int .i64 0] 39) := by rw [← hW0]; exact hpNew w _
  have hz0 : W0.heap.size = w.heap.size + 1 := by rw [← hW0]; simp
  have hg0 := hpKeep hs.at_ hb0
  have c17 : ∀ X, Below W0.heap.size W0 X → X.cell? ⟨g, 17, none⟩ = some pv := fun X k => hpCell (hpKeep hg0 k) 17
  have c16 : ∀ X, Below W0.heap.size W0 X → X.cell? ⟨g, 16, none⟩ = some (.int .i64 x.at_) := fun X k => hpCell (hpKeep hg0 k) 16
  have k0 : Below W0.heap.size W0 W0 := Below.refl _ _
  have HW0 := hid hW0
  have HB0 := hid hb0
  have HZ0 := hid hz0
  clear hW0 hb0 hz0
  by_cases hlt : x.at_ < c.units
  · obtain ⟨gp, rfl, hqg, hpb⟩ := hs.pr hlt
    have hpb0 := hpb.keep (F := fun _ => False) (Keeps.of_below HB0.out) (fun _ _ e => e.elim)
    obtain ⟨hok1, hok2⟩ := hok hlt
    have HNX : Hid (∀ X, Below W0.heap.size W0 X → Calls Tryz.prog 49 #[.pointer (some ⟨gp, 0, none⟩)] X (AskPost X x.pb.ph.ask true)) := fun X hX => pnext_any (hpb0.keep (F := fun _ => False) (Keeps.of_below hX) (fun _ _ e => e.elim)) hok1 _ true rfl (by rw [hok2]; rfl)
    have HPL : Hid (∀ X, Below W0.heap.size W0 X → Calls Tryz.prog 48 #[.agg (CfC c sv), .int .i64 (x.at_ : Int)] X fun r w' => r = .returned (.tuple #[.int .i64 (c.pSet x.at_), .int .i64 (c.pUnit x.at_), .bool true]) ∧ Below X.heap.size X w') := fun X hX => (pplace_ok c hc sv x.at_ ha X (hs.st X (Keeps.of_below (bt HB0.out hX (Nat.le_refl _))))).mono fun _ _ h => by
      obtain ⟨h1, h2⟩ := h
      rw [if_pos hlt] at h1
      exact ⟨h1, h2⟩
    have HRW : Hid (∀ X, Below W0.heap.size W0 X → ∀ j v, (CfC c sv).toList[j]? = some v → X.cell? ((⟨g, 0, none⟩ : Addr).add j) = some v) := fun X hX j v hj => by
      have e : (⟨g, 0, none⟩ : Addr).add j = ⟨g, j, none⟩ := by unfold Addr.add; split <;> simp_all
      rw [e, hpCell (hpKeep hg0 hX)]
      exact SwC_cf j v hj
    have HP : Hid (∀ X, Below w.heap.size w X → NxPost w c x (.returned (.tuple #[.int .i64 (c.pSet x.at_), .int .i64 (c.pUnit x.at_), .agg (#[.int .i64 x.pb.ph.ask.fn, .int .i64 x.pb.ph.ask.addr, .int .i64 x.pb.ph.ask.qty, .int .i64 x.pb.ph.ask.code, .int .i64 x.pb.ph.ask.obj]), .bool true])) X) := fun X hX => ⟨by rw [if_pos hlt], hX⟩
    obtain ⟨C, hC⟩ : ∃ C, CfC c sv = C := ⟨_, rfl⟩
    have hi : (Tryz.prog.info? 27).map (·.size) = some C.size := by rw [← hC]; exact infoCf
    rw [hC] at HPL HRW
    obtain ⟨ps, hps⟩ : ∃ p, c.pSet x.at_ = p := ⟨_, rfl⟩
    obtain ⟨pu, hpu⟩ : ∃ p, c.pUnit x.at_ = p := ⟨_, rfl⟩
    obtain ⟨q, hq⟩ : ∃ p, x.pb.ph.ask = p := ⟨_, rfl⟩
    rw [hps, hpu] at HPL
    rw [hps, hpu, hq] at HP
    rw [hq] at HNX
    have kD : Below W0.heap.size W0 W0.drew := (Below.refl _ _).drew
    have hgw : ¬ g = w.heap.size := by omega
    clear hs hpb hpb0 hok hok1 hok2 hlt hC hps hpu hq hc hqg
    go_enter Tryz.func12, Tryz.ntmps12
    go_upto_region 1 with (fail)
    rw [HW0.out]
    go_upto_region 3 with (fail)
    refine wp_region_held_drew (S := fun V => Below W0.heap.size W0 V) (by kernel_rfl) kD (fun hH => ?_)
    clear hH
    refine tkD 0 17 (v := ?_) rfl (by kernel_rfl) (fun _ _ _ h => h) rfl (by rfl) (by assumption) ?_ ?_; rotate_left; (intro w hSw; (try dsimp only at hSw); go_simp; try (with_reducible rfl)); simp only [List.setIfInBounds_toArray, List.set_cons_zero, List.set_cons_succ]
    refine tkD 1 18 (v := ?_) rfl (by kernel_rfl) (fun _ _ _ h => h) rfl (by rfl) (by assumption) ?_ ?_; rotate_left; (intro w hSw; (try dsimp only at hSw); go_simp; try (with_reducible rfl)); simp only [List.setIfInBounds_toArray, List.set_cons_zero, List.set_cons_succ]
    refine tkD 2 19 (v := ?_) rfl (by kernel_rfl) (fun _ _ _ h => h) rfl (by rfl) (by assumption) ?_ ?_; rotate_left; (intro w hSw; (try dsimp only at hSw); go_simp; try (with_reducible rfl)); simp only [List.setIfInBounds_toArray, List.set_cons_zero, List.set_cons_succ]
    refine tkD 3 20 (v := .agg C) rfl (by kernel_rfl) (fun _ _ _ h => h) rfl (by rfl) (by assumption) (fun X hX => run_load_rowS 27 (.tmp 19) rfl ⟨g, 0, none⟩ rfl C _ (HRW.out X hX) Tryz.underlying27 rfl hi) ?_; simp only [List.setIfInBounds_toArray, List.set_cons_zero, List.set_cons_succ]
    refine tkD 4 21 (v := ?_) rfl (by kernel_rfl) (fun _ _ _ h => h) rfl (by rfl) (by assumption) ?_ ?_; rotate_left; (intro w hSw; (try dsimp only at hSw); go_simp; try (with_reducible rfl)); simp only [List.setIfInBounds_toArray, List.set_cons_zero, List.set_cons_succ]
    refine tkD 5 22 (v := ?_) rfl (by kernel_rfl) (fun _ _ _ h => h) rfl (by rfl) (by assumption) ?_ ?_; rotate_left; (intro w hSw; (try dsimp only at hSw); go_simp; try (with_reducible rfl)); simp only [List.setIfInBounds_toArray, List.set_cons_zero, List.set_cons_succ]
    refine tkD 6 23 (v := ?_) rfl (by kernel_rfl) (fun _ _ _ h => h) rfl (by rfl) (by assumption) ?_ ?_; rotate_left; (intro w hSw; (try dsimp only at hSw); go_simp; try (with_reducible rfl)); simp only [List.setIfInBounds_toArray, List.set_cons_zero, List.set_cons_succ]
    refine tkD 7 24 (v := ?_) rfl (by kernel_rfl) (fun _ _ _ h => h) rfl (by rfl) (by assumption) ?_ ?_; rotate_left; (intro w hSw; (try dsimp only at hSw); go_simp; try (with_reducible rfl)); simp only [List.setIfInBounds_toArray, List.set_cons_zero, List.set_cons_succ]
    refine wpAnyH_ready (rs := [8]) (by kernel_rfl) (by simp) ?_; refine AllReadyH.cons rfl (fun K hK => ?_) AllReadyH.nil
    go_simp
    refine (HPL.out _ kD).mono ?_
    rintro r w1 ⟨rfl, hb1⟩
    have hB1 := bt kD hb1 (Nat.le_refl _)
    refine hK.out _ _ hB1 (fun hS1 => ?_)
    clear hK K
    refine tkD 9 16 (v := ?_) rfl (by kernel_rfl) (fun _ _ _ h => h) rfl (by rfl) (by assumption) ?_ ?_; rotate_left; (intro w hSw; (try dsimp only at hSw); go_simp; try (with_reducible rfl)); simp only [List.setIfInBounds_toArray, List.set_cons_zero, List.set_cons_succ]
    refine tkD 10 26 (v := ?_) rfl (by kernel_rfl) (fun _ _ _ h => h) rfl (by rfl) (by assumption) ?_ ?_; rotate_left; (intro w hSw; (try dsimp only at hSw); go_simp; try (with_reducible rfl)); simp only [List.setIfInBounds_toArray, List.set_cons_zero, List.set_cons_succ]
    refine tkD 11 27 (v := ?_) rfl (by kernel_rfl) (fun _ _ _ h => h) rfl (by rfl) (by assumption) ?_ ?_; rotate_left; (intro w hSw; (try dsimp only at hSw); go_simp; try (with_reducible rfl)); simp only [List.setIfInBounds_toArray, List.set_cons_zero, List.set_cons_succ]
    refine tkD 12 28 (v := ?_) rfl (by kernel_rfl) (fun _ _ _ h => h) rfl (by rfl) (by assumption) ?_ ?_; rotate_left; (intro w hSw; (try dsimp only at hSw); go_simp; try (with_reducible rfl)); simp only [List.setIfInBounds_toArray, List.set_cons_zero, List.set_cons_succ]
    refine tkD 13 2 (v := ?_) rfl (by kernel_rfl) (fun _ _ _ h => h) rfl (by rfl) (by assumption) ?_ ?_; rotate_left; (intro w hSw; (try dsimp only at hSw); go_simp; try (with_reducible rfl)); simp only [List.setIfInBounds_toArray, List.set_cons_zero, List.set_cons_succ]
    refine tkD 14 3 (v := ?_) rfl (by kernel_rfl) (fun _ _ _ h => h) rfl (by rfl) (by assumption) ?_ ?_; rotate_left; (intro w hSw; (try dsimp only at hSw); go_simp; try (with_reducible rfl)); simp only [List.setIfInBounds_toArray, List.set_cons_zero, List.set_cons_succ]
    refine wpAnyH_done (by kernel_rfl) ?_ _
    have p1 := hpKeep p0 hB1
    have c17' := c17 w1 hB1
    clear hS1 c16 c17
    go_upto_region 5 with (first
      | (go_at_call 49; (with_reducible refine (HNX.out _ hB1).mono ?_); rintro r w2 ⟨rfl, hb2⟩; have p2 := hpKeep p1 hb2)
      | (refine wpList_storeW rfl 39 (.tmp 4) (.tmp 35) rfl w.heap.size 0 _ 39 #[.int .i64 q.fn, .int .i64 q.addr, .int .i64 q.qty, .int .i64 q.code, .int .i64 q.obj] rfl rfl p2 (by simp) info5 rfl ?_; intro w3 g3 hk3 hz3))
    dsimp only [Act.put]
    have g3' : w3.heap[w.heap.size]? = some (.cells #[.int .i64 q.fn, .int .i64 q.addr, .int .i64 q.qty, .int .i64 q.code, .int .i64 q.obj] 39) := g3
    have hB2 := bt hB1 hb2 (Nat.le_refl _)
    have HB3 : Hid (Below w.heap.size w w3) := (bt HB0.out hB2 (Nat.le_refl _)).trans (hk3.below (by have := hB2.size; have := HZ0.out; omega) (fun j hj e => by omega))
    have hSd : NxS w.heap.size q w3 w3.drew := ⟨g3', Keeps.of_below (Below.refl _ _).drew⟩
    clear g3 hk3 hz3 p1 p2 hb2 c17' g3'
    refine wp_region_held_drew (S := fun V => NxS w.heap.size q w3 V) (by kernel_rfl) hSd (fun hH => ?_)
    clear hH
    refine tkD 0 37 (v := ?_) rfl (by kernel_rfl) (fun _ _ _ h => h) rfl (by rfl) (by assumption) ?_ ?_; rotate_left; (intro w hSw; (try dsimp only at hSw); go_simp; try (with_reducible rfl)); simp only [List.setIfInBounds_toArray, List.set_cons_zero, List.set_cons_succ]
    refine tkD 1 38 (v := ?_) rfl (by kernel_rfl) (fun _ _ _ h => h) rfl (by rfl) (by assumption) ?_ ?_; rotate_left; (intro w hSw; (try dsimp only at hSw); go_simp; try (with_reducible rfl)); simp only [List.setIfInBounds_toArray, List.set_cons_zero, List.set_cons_succ]
    refine tkD 2 39 (v := .agg #[.int .i64 q.fn, .int .i64 q.addr, .int .i64 q.qty, .int .i64 q.code, .int .i64 q.obj]) rfl (by kernel_rfl) (fun _ _ _ h => h) rfl (by rfl) (by assumption) (fun X hX => run_load_rowS 39 (.tmp 4) rfl ⟨w.heap.size, 0, none⟩ rfl #[.int .i64 q.fn, .int .i64 q.addr, .int .i64 q.qty, .int .i64 q.code, .int .i64 q.obj] _ (hpRowAt2 (NxS.h hX)) Tryz.underlying39 rfl info5) ?_; simp only [List.setIfInBounds_toArray, List.set_cons_zero, List.set_cons_succ]
    refine tkD 3 2 (v := ?_) rfl (by kernel_rfl) (fun _ _ _ h => h) rfl (by rfl) (by assumption) ?_ ?_; rotate_left; (intro w hSw; (try dsimp only at hSw); go_simp; try (with_reducible rfl)); simp only [List.setIfInBounds_toArray, List.set_cons_zero, List.set_cons_succ]
    refine tkD 4 3 (v := ?_) rfl (by kernel_rfl) (fun _ _ _ h => h) rfl (by rfl) (by assumption) ?_ ?_; rotate_left; (intro w hSw; (try dsimp only at hSw); go_simp; try (with_reducible rfl)); simp only [List.setIfInBounds_toArray, List.set_cons_zero, List.set_cons_succ]
    refine wpAnyH_ready (rs := [5]) (by kernel_rfl) (by simp) ?_; refine AllReadyH.cons rfl (fun K hK => ?_) AllReadyH.nil
    refine step_storeS rfl 39 (.tmp 4) (.tmp 39) rfl w.heap.size 0 _ 39 #[.int .i64 q.fn, .int .i64 q.addr, .int .i64 q.qty, .int .i64 q.code, .int .i64 q.obj] rfl rfl hSd.h (by simp) info5 rfl ?_
    intro w4 g4 hk4 hz4
    have g4' : w4.heap[w.heap.size]? = some (.cells #[.int .i64 q.fn, .int .i64 q.addr, .int .i64 q.qty, .int .i64 q.code, .int .i64 q.obj] 39) := g4
    have hk34 := hSd.k.trans hk4 (fun _ _ e => e)
    refine hK.out _ _ ⟨g4', hk34⟩ (fun hS4 => ?_)
    clear hK K
    dsimp only [Act.put]
    refine tkD 6 5 (v := ?_) rfl (by kernel_rfl) (fun _ _ _ h => h) rfl (by rfl) (by assumption) ?_ ?_; rotate_left; (intro w hSw; (try dsimp only at hSw); go_simp; try (with_reducible rfl))
    refine wpAnyH_done (by kernel_rfl) ?_ _
    have q0 := hpCell g4' 0
    have q1 := hpCell g4' 1
    have q2 := hpCell g4' 2
    have q3 := hpCell g4' 3
    have q4 := hpCell g4' 4
    clear g4 hk4 hz4 g4'
    go_wp2
    refine bodyPost_ret (v := .tuple #[.int .i64 ps, .int .i64 pu, .agg #[.int .i64 q.fn, .int .i64 q.addr, .int .i64 q.qty, .int .i64 q.code, .int .i64 q.obj], .bool true]) (by simp [results, Tryz.results12, go_sem, q0, q1, q2, q3, q4]) rfl ?_
    exact HP.out _ (HB3.out.trans (hk34.below HB3.out.size (fun j hj e => by omega)))
  · obtain rfl := hs.no (by omega)
    have HP : Hid (∀ X, Below w.heap.size w X → NxPost w c x (.returned (.tuple #[.int .i64 0, .int .i64 0, .agg (#[.int .i64 0, .int .i64 0, .int .i64 0, .int .i64 0, .int .i64 0]), .bool false])) X) := fun X hX => ⟨by rw [if_neg hlt], hX⟩
    clear hs hok hlt hc c16
    go_enter Tryz.func12, Tryz.ntmps12
    go_upto_region 1 with (fail)
    rw [HW0.out]
    go_wp2_with (refine wpList_storeW rfl 39 (.tmp 4) (.tmp 15) rfl w.heap.size 0 _ 39 #[.int .i64 0, .int .i64 0, .int .i64 0, .int .i64 0, .int .i64 0] rfl rfl p0 (by simp) info5 rfl ?_; intro w3 g3 hk3 hz3)
    have g3' : w3.heap[w.heap.size]? = some (.cells #[.int .i64 0, .int .i64 0, .int .i64 0, .int .i64 0, .int .i64 0] 39) := g3
    have q0 := hpCell g3' 0
    have q1 := hpCell g3' 1
    have q2 := hpCell g3' 2
    have q3 := hpCell g3' 3
    have q4 := hpCell g3' 4
    refine bodyPost_ret (v := .tuple #[.int .i64 0, .int .i64 0, .agg #[.int .i64 0, .int .i64 0, .int .i64 0, .int .i64 0, .int .i64 0], .bool false]) (by simp [results, Tryz.results12, go_sem, q0, q1, q2, q3, q4]) rfl ?_
    exact HP.out _ (HB0.out.trans (hk3.below HB0.out.size (fun j hj e => by omega)))
end Go.Proofs.YtipnamoocemeeaaGreat
