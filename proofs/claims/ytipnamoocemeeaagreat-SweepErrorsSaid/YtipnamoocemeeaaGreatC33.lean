/-
  Texts 33 of the claim.
-/
import Derived.Test.YtipnamoocemeeaaGreatC04
import Derived.Test.YtipnamoocemeeaaGreatC18
import Derived.BigQuiet
import Derived.Test.YtipnamoocemeeaaGreatC24
import Derived.Deep.RegionLaw
import Derived.Deep.CutRange
import Derived.Deep.CutBlock
import Derived.Test.YtipnamoocemeeaaGreatC26
import Derived.Test.YtipnamoocemeeaaGreatC32
import Derived.Test.YtipnamoocemeeaaGreatC23
import Derived.Deep.MidRow
/-
  The reference's search: NewSearch, Refused, Next.
-/
namespace Go.Proofs.YtipnamoocemeeaaGreat
open Go.RowKit
end Go.Proofs.YtipnamoocemeeaaGreat

/-
  Several texts of this claim in one file.
-/
/-
The reference's identification: good and Next.
-/
namespace Go.Proofs.YtipnamoocemeeaaGreat
open Go.RowKit
end Go.Proofs.YtipnamoocemeeaaGreat

/-
The contract of the reference identification's Feed.
-/
namespace Go.Proofs.YtipnamoocemeeaaGreat
open Go.RowKit
theorem CsL.app {α : Type} {sz : Nat} {Q : List Value → α → Prop} : ∀ (l : List α) (cs : List Value), CsL sz Q cs l → ∀ (l' : List α) (cs' : List Value), CsL sz Q cs' l' → CsL sz Q (cs ++ cs') (l ++ l')
  | [], cs, h, l', cs', h' => by obtain rfl : cs = [] := h; exact h'
  | x :: l, cs, h, l', cs', h' => by
    obtain ⟨r, k, rfl, h1, h2, h3⟩ := h
    exact ⟨r, k ++ cs', by simp, h1, h2, CsL.app l k h3 l' cs' h'⟩
end Go.Proofs.YtipnamoocemeeaaGreat

/-
The contract of the reference identification's Feed where the reply can continue it.
-/
namespace Go.Proofs.YtipnamoocemeeaaGreat
open Go.RowKit
end Go.Proofs.YtipnamoocemeeaaGreat

/-
The reference's identification (Feed whole, Result), Server, and its search: Next, Result.
-/
namespace Go.Proofs.YtipnamoocemeeaaGreat
open Go.RowKit
end Go.Proofs.YtipnamoocemeeaaGreat

/-
The reference's search: Feed.
-/
namespace Go.Proofs.YtipnamoocemeeaaGreat
open Go.RowKit
end Go.Proofs.YtipnamoocemeeaaGreat

/-
  The program's sweep: a copy of the settings; what a sweep holds in a state.
-/
namespace Go.Proofs.YtipnamoocemeeaaGreat
open Go.RowKit

theorem setV_one : ∀ (l : List (Int × Int)), ∀ u ∈ setV l, u.oneCell' = true
  | [], u, hu => by cases hu
  | x :: l, u, hu => by
    simp only [setV, List.mem_cons] at hu
    rcases hu with rfl | rfl | hu
    · rfl
    · rfl
    · exact setV_one l u hu
theorem setV_csl {w : World} : ∀ (l : List (Int × Int)), (∀ x ∈ l, wfI x.1 ∧ wfI x.2) → CsL 2 (RgR w) (setV l) l
  | [], _ => rfl
  | x :: l, h => ⟨[.int .i64 x.1, .int .i64 x.2], setV l, rfl, rfl, ⟨rfl, (h x (List.mem_cons_self ..)).1, (h x (List.mem_cons_self ..)).2⟩, setV_csl l (fun y hy => h y (List.mem_cons_of_mem _ hy))⟩
theorem Rgs.wf {w : World} {v : Value} {l : List (Int × Int)} (h : Rgs w v l) : ∀ x ∈ l, wfI x.1 ∧ wfI x.2 := fun x hx => by
  obtain ⟨i, hi⟩ := List.getElem?_of_mem hx
  obtain ⟨b, o, c, _, w1, w2, _⟩ := h.at hi
  exact ⟨w1, w2⟩
theorem Rgs.rowV {w : World} {b o n c : Nat} {l : List (Int × Int)} (h : Rgs w (.slice (some ⟨b, o, none⟩) n c) l) : ∀ j u, (setV l)[j]? = some u → w.cell? ⟨b, o + j, none⟩ = some u := by
  intro j u hj
  have hjl := (List.getElem?_eq_some_iff.1 hj).1
  rw [setV_length] at hjl
  obtain ⟨x, hx⟩ := gs (l := l) rfl (show j / 2 < l.length by omega)
  obtain ⟨b', o', c', hv, -, -, hcl⟩ := h.at hx
  simp only [Value.slice.injEq, Option.some.injEq, Addr.mk.injEq, and_true] at hv
  obtain ⟨⟨rfl, rfl⟩, -, -⟩ := hv
  obtain ⟨e0, e1⟩ := hcl w (Below.refl _ _)
  obtain ⟨s0, s1⟩ := setV_get l (j / 2) x hx
  rcases Nat.mod_two_eq_zero_or_one j with e | e
  · have ej : j = j / 2 * 2 := by omega
    rw [ej] at hj ⊢
    rw [s0] at hj
    cases hj
    exact e0
  · have ej : j = j / 2 * 2 + 1 := by omega
    rw [ej] at hj ⊢
    rw [s1] at hj
    cases hj
    exact e1
def CloneSPost (w : World) (l : List (Int × Int)) (r : Ending) (w' : World) : Prop := ∃ a c, r = .returned (.slice a l.length c) ∧ (∀ W', Agree w.heap.size w' W' → Rgs W' (.slice a l.length c) l) ∧ Below w.heap.size w w'
theorem CloneSPost.own {w w' : World} {l : List (Int × Int)} {v : Value} {n : Nat} {cs : List Value} (hcs : cs = setV l) (hn : n = l.length) (hwf : ∀ x ∈ l, wfI x.1 ∧ wfI x.2) (h : w'.ownsRow w.heap.size 82 2 v n cs) (hb : Below w.heap.size w w') : CloneSPost w l (.returned v) w' := by
  subst hcs hn
  obtain ⟨a, c, rfl⟩ := own_slice h
  exact ⟨a, c, rfl, fun W' hW => Sls.of_own (own_agree h (Nat.le_refl _) hW) (setV_csl l hwf) rfl, hb⟩
set_option maxHeartbeats 1600000 in
theorem cloneS_any (v : Value) (l : List (Int × Int)) (w : World) (hv : Rgs w v l) (hl : l.length ≤ 1000000) : Calls Tryz.prog 42 #[v] w (CloneSPost w l) := by
  obtain ⟨i5, hi, hz0, hz1, hz2⟩ := info_parts infoS
  have hwf := hid hv.wf
  obtain ⟨a, c, rfl, hc, hcm, hac, h4⟩ := id hv
  unfold maxLen at hcm
  have hq := Lib.run_eql_slice_nil (P := Tryz.prog)
  cases a with
  | none =>
    obtain rfl := hac rfl
    have hl0 : l.length = 0 := by omega
    have : l = [] := List.eq_nil_of_length_eq_zero hl0
    subst this
    clear hv h4
    go_enter Tryz.func42, Tryz.ntmps42
    go_wp2
    go_ret
    exact CloneSPost.own (cs := []) (n := 0) rfl rfl hwf.out (World.ownsRow_nil _ _ _ _) (Below.refl _ _)
  | some a =>
    by_cases hne : l = []
    · subst hne
      clear hv h4
      go_enter Tryz.func42, Tryz.ntmps42
      go_wp2_with (at_builtin; refine wpList_appN rfl _ _ 22 rfl w.heap.size 82 i5 _ 2 16 Tryz.underlying22 hi hz0 hz1 hz2 rfl (by decide) _ 0 [] rfl (World.ownsRow_made _ _ _ (Nat.le_refl _) (by decide) rfl) a 0 c [] rfl rfl (by simp) (by simp) (by unfold maxLen; omega) (by omega) (by simp) ?c3)
      case c3 =>
        intro v' w1 hown hgr _
        have hbel := (bal' w (.cells #[] 82)).grown hgr (bal' w (.cells #[] 82)).size (by intro k hk; simp [Value.ownBlock] at hk; omega)
        have HOWN := hid hown
        clear hgr hown
        go_wp2
        go_ret
        exact CloneSPost.own (cs := []) (n := 0) rfl rfl hwf.out (by simpa using HOWN.out) hbel
    · obtain ⟨b, o, hab, -⟩ := h4 hne
      cases hab
      have hcell : Hid (∀ j u, (setV l)[j]? = some u → (w.alloc (.cells #[] 82)).cell? ((⟨b, o, none⟩ : Addr).add j) = some u) := fun j u hj => by
        have e1 : (⟨b, o, none⟩ : Addr).add j = ⟨b, o + j, none⟩ := by unfold Addr.add; split <;> simp_all
        rw [e1]
        exact cell_keep (bal' w _) (hv.rowV j u hj)
      have HL : Hid ((setV l).length = l.length * 2) := setV_length l
      have H1 : Hid (∀ u ∈ setV l, u.oneCell' = true) := setV_one l
      clear hv h4 hne
      go_enter Tryz.func42, Tryz.ntmps42
      go_wp2_with (at_builtin; refine wpList_appN rfl _ _ 22 rfl w.heap.size 82 i5 _ 2 16 Tryz.underlying22 hi hz0 hz1 hz2 rfl (by decide) _ 0 [] rfl (World.ownsRow_made _ _ _ (Nat.le_refl _) (by decide) rfl) ⟨b, o, none⟩ l.length c (setV l) rfl HL.out hcell.out H1.out (by unfold maxLen; omega) (by omega) (by simp) ?c3)
      case c3 =>
        intro v' w1 hown hgr _
        have hbel := (bal' w (.cells #[] 82)).grown hgr (bal' w (.cells #[] 82)).size (by intro k hk; simp [Value.ownBlock] at hk; omega)
        have HOWN := hid (show w1.ownsRow w.heap.size 82 2 v' l.length (setV l) by simpa using hown)
        clear hgr hown
        go_wp2
        go_ret
        exact CloneSPost.own rfl rfl hwf.out HOWN.out hbel

/-- Blocks that may change, out of a set of blocks that are one's own; and all that are not. -/
def SwF (M P : Nat → Prop) (j : Nat) : Prop := M j ∨ ¬ P j
/-- The cells of a found device; its slices read whatever happens to the blocks of F. -/
def DvQ (F : Nat → Prop) (W : World) (r : List Value) (f : Fd) : Prop := ∃ ov sv mv, r = (DvF f ov sv mv).toList ∧ RdSt F W f.d ov sv mv
theorem DvQ.keeps {F G H : Nat → Prop} {W W' : World} (hk : Keeps H W W') (h1 : ∀ j, j < W.heap.size → H j → F j) (h2 : ∀ j, j < W.heap.size → G j → F j) (r : List Value) (f : Fd) (h : DvQ F W r f) : DvQ G W' r f := by
  obtain ⟨ov, sv, mv, e, hr⟩ := h
  exact ⟨ov, sv, mv, e, hr.keeps hk h1 h2⟩
/-- The cells of the program's sweep. -/
def SwC (c : Cf) (sv pv fv : Value) (at_ cnt : Int) : Array Value := #[sv, .int .i64 c.fi, .int .i64 c.la, .int .i64 c.re, .int .i64 c.ti, .int .i64 c.de, .int .i64 (c.win 0).1, .int .i64 (c.win 0).2, .int .i64 (c.win 1).1, .int .i64 (c.win 1).2, .int .i64 (c.win 2).1, .int .i64 (c.win 2).2, .int .i64 (c.win 3).1, .int .i64 (c.win 3).2, .int .i64 c.ev, .int .i64 c.st, .int .i64 at_, pv, fv, .int .i64 cnt]
def SwI (W : World) (g : Nat) (c : Cf) (sv pv fv : Value) (at_ cnt : Int) : Prop := W.heap[g]? = some (.cells (SwC c sv pv fv at_ cnt) 96)
/-- The program's sweep in a state; all that it holds lies in blocks of P, and what may change in blocks of M. -/
structure SwS (P M Q : Nat → Prop) (W : World) (g : Nat) (c : Cf) (x : Sp) (sv pv : Value) (fa : Option Addr) (fc : Nat) (cs : List Value) : Prop where
  mg : M g
  mp : ∀ j, M j → P j
  pl : ∀ j, P j → j < W.heap.size
  qm : ∀ j, Q j → M j ∧ j ≠ g
  rw_ : ∀ j, (Value.slice fa x.fd.length fc).ownBlock = some j → M j ∧ j ≠ g ∧ ¬ Q j
  at_ : SwI W g c sv pv (.slice fa x.fd.length fc) x.at_ x.cnt
  st : ∀ W', Keeps (SwF M P) W W' → Rgs W' sv c.sets
  own : W.ownsRow 0 91 21 (.slice fa x.fd.length fc) x.fd.length cs
  dv : CsL 21 (DvQ (SwF M P) W) cs x.fd
  pr : x.at_ < c.units → ∃ gp, pv = .pointer (some ⟨gp, 0, none⟩) ∧ Q gp ∧ PbAt Q W gp c.win x.pb
  no : c.units ≤ x.at_ → pv = .pointer none
def SwAt (P : Nat → Prop) (W : World) (g : Nat) (c : Cf) (x : Sp) : Prop := ∃ M Q sv pv fa fc cs, SwS P M Q W g c x sv pv fa fc cs
theorem SwS.keep {P M Q F : Nat → Prop} {W W' : World} {g : Nat} {c : Cf} {x : Sp} {sv pv : Value} {fa : Option Addr} {fc : Nat} {cs : List Value} (h : SwS P M Q W g c x sv pv fa fc cs) (hk : Keeps F W W') (hF : ∀ j, j < W.heap.size → F j → ¬ P j) : SwS P M Q W' g c x sv pv fa fc cs := by
  have hk' : Keeps (SwF M P) W W' := hk.mono (fun j hj e => .inr (hF j hj e))
  have hkP : Keeps (fun j => ¬ P j) W W' := hk.mono hF
  refine ⟨h.mg, h.mp, fun j hj => Nat.lt_of_lt_of_le (h.pl j hj) hk.size, h.qm, h.rw_, hpKeeps h.at_ hkP (fun e => e (h.mp _ h.mg)), fun W2 h2 => h.st W2 (hk'.trans h2 (fun _ _ e => e)), own_keeps h.own hkP (fun j hj e => e (h.mp _ (h.rw_ j hj).1)), CsL.mono (fun r f hr => DvQ.keeps hk' (fun _ _ e => e) (fun _ _ e => e) r f hr) _ _ h.dv, fun hl => ?_, h.no⟩
  obtain ⟨gp, e1, e2, e3⟩ := h.pr hl
  exact ⟨gp, e1, e2, e3.keep hkP (fun j _ e hq => e (h.mp _ (h.qm j hq).1))⟩
theorem SwAt.keep {P F : Nat → Prop} {W W' : World} {g : Nat} {c : Cf} {x : Sp} (h : SwAt P W g c x) (hk : Keeps F W W') (hF : ∀ j, j < W.heap.size → F j → ¬ P j) : SwAt P W' g c x := by
  obtain ⟨M, Q, sv, pv, fa, fc, cs, hs⟩ := h
  exact ⟨M, Q, sv, pv, fa, fc, cs, hs.keep hk hF⟩

set_option maxRecDepth 100000 in
set_option maxHeartbeats 1600000 in
theorem splace_any {P : Nat → Prop} {w : World} {g : Nat} {c : Cf} {x : Sp} (h : SwAt P w g c x) : Calls Tryz.prog 14 #[.pointer (some ⟨g, 0, none⟩)] w (IntPost w (x.at_ : Int)) := by
  obtain ⟨M, Q, sv, pv, fa, fc, cs, hs⟩ := h
  have c16 : w.cell? ⟨g, 16, none⟩ = some (.int .i64 x.at_) := hpCell hs.at_ 16
  clear hs
  go_enter Tryz.func14, Tryz.ntmps14
  go_wp2
  go_ret
  exact ⟨rfl, Below.refl _ _⟩
set_option maxRecDepth 100000 in
set_option maxHeartbeats 1600000 in
theorem squeries_any {P : Nat → Prop} {w : World} {g : Nat} {c : Cf} {x : Sp} (h : SwAt P w g c x) : Calls Tryz.prog 15 #[.pointer (some ⟨g, 0, none⟩)] w (IntPost w x.cnt) := by
  obtain ⟨M, Q, sv, pv, fa, fc, cs, hs⟩ := h
  have c19 : w.cell? ⟨g, 19, none⟩ = some (.int .i64 x.cnt) := hpCell hs.at_ 19
  clear hs
  go_enter Tryz.func15, Tryz.ntmps15
  go_wp2
  go_ret
  exact ⟨rfl, Below.refl _ _⟩

end Go.Proofs.YtipnamoocemeeaaGreat

/-
  The program's sweep: Next.
-/
namespace Go.Proofs.YtipnamoocemeeaaGreat
open Go.RowKit
theorem info5 : (Tryz.prog.info? 39).map (·.size) = some 5 := by kernel_rfl
theorem run_load_rowS {P : Program} {ev : Operand → Value} {o : Oper} {w : World} (ty : TypeId) (x : Operand) (ho : o.op = .load ty x)
    (ad : Addr) (hx : ev x = .pointer (some ad)) (cs : Array Value) (d : TypeDesc) (hc : ∀ j v, cs.toList[j]? = some v → w.cell? (ad.add j) = some v)
    (hu : P.underlying ty = some d) (hd : (match d with | .struct _ | .array _ _ => true | _ => false) = true) (hi : (P.info? ty).map (·.size) = some cs.size) :
    (execOp ev o).run P w = .ok (.value (.agg cs)) w := by
  unfold execOp
  simp only [ho, hx, Instr.loadAt, Instr.sureAddr, Sem.run_bind, Sem.run_pure, Result.andThen_ok, run_loadVar_at w ad ty cs d hc hu hd hi]
theorem hpRowAt2 {w : World} {b : Nat} {C : Array Value} {t : TypeId} {fz : Nat × Nat} (h : w.heap[b]? = some (.cells C t fz)) (j : Nat) (v : Value) (hj : C.toList[j]? = some v) : w.cell? ((⟨b, 0, none⟩ : Addr).add j) = some v := by
  have e : (⟨b, 0, none⟩ : Addr).add j = ⟨b, j, none⟩ := by unfold Addr.add; split <;> simp_all
  rw [e, hpCell h]
  simpa using hj
/-- A whole structure stored into a block that is known whole, as a step of a statement whose order is open. -/
theorem step_storeS {P : Program} {w : World} {ops : Array Oper} {op : Oper} {a : Act} {K : Act → World → Prop} {Q : Exit → Act → World → Prop} {E : Prop} (hgd : op.guard = none) (ty : TypeId) (x y : Operand) (ho : op.op = .store ty x y)
    (p o : Nat) (old : Array Value) (t : TypeId) (cells : Array Value) (hx : a.eval x = .pointer (some ⟨p, o, none⟩)) (hy : a.eval y = .agg cells)
    (hb : w.heap[p]? = some (.cells old t (0, 0))) (hsz : o + cells.size ≤ old.size) (hi : (P.info? ty).map (·.size) = some cells.size) (h1 : cells.toList.all (·.oneCell') = true)
    (h : ∀ w', w'.heap[p]? = some (.cells (old.toList.take o ++ cells.toList ++ old.toList.drop (o + cells.toList.length)).toArray t (0, 0)) → Keeps (· = p) w w' → w'.heap.size = w.heap.size → K (a.put op.dst undef) w') :
    if Region.wanted op (yielded ops a.tmps) = true then Oper.wp P op a w K Q else E := by
  rw [if_pos (by simp [Region.wanted, hgd])]
  refine wp_store_mid ty x y ho p o cells hx hy (fun j hj => ?_) hi (by rw [← Array.all_toList]; exact h1) ?_
  · refine ⟨?_, hpFree hb _⟩
    rw [hpCell hb]
    simp
    omega
  · obtain ⟨k1, k2⟩ := keepsCells p cells.toList o w
    exact h _ (hpSetCells p t (0, 0) cells.toList o w old hb (by simpa using hsz)) k1 k2
theorem SwC_cf {c : Cf} {sv pv fv : Value} {a n : Int} (j : Nat) (v : Value) (h : (CfC c sv).toList[j]? = some v) : (SwC c sv pv fv a n)[j]? = some v := by
  have e : (SwC c sv pv fv a n).toList = (CfC c sv).toList ++ [.int .i64 a, pv, fv, .int .i64 n] := rfl
  have h2 : (SwC c sv pv fv a n).toList[j]? = some v := by
    rw [e, List.getElem?_append_left (List.getElem?_eq_some_iff.1 h).1]
    exact h
  simpa using h2
end Go.Proofs.YtipnamoocemeeaaGreat
