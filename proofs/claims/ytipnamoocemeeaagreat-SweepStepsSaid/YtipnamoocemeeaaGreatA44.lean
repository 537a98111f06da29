/-
  Texts 44 of the claim.
-/
import Derived.Test.YtipnamoocemeeaaGreatA43
import Derived.Test.YtipnamoocemeeaaGreatA21
import Derived.Test.YtipnamoocemeeaaGreatA22
import Derived.Test.YtipnamoocemeeaaGreatA39
/-
  The reference's probe: NewProbe, and Feed whole.
-/
namespace Go.Proofs.YtipnamoocemeeaaGreat
open Go.RowKit

set_option maxRecDepth 100000 in
set_option maxHeartbeats 6400000 in
theorem rpnew_ok (win : Nat → Int × Int) (hw : WinOk win) (W0 w : World) (hBW : Below W0.heap.size W0 w) :
    Calls Tryz.prog 47 #[.agg #[.int .i64 (win 0).1, .int .i64 (win 0).2, .int .i64 (win 1).1, .int .i64 (win 1).2, .int .i64 (win 2).1, .int .i64 (win 2).2, .int .i64 (win 3).1, .int .i64 (win 3).2]] w fun r w' => ∃ g : Nat, r = .returned (.pointer (some ⟨g, 0, none⟩)) ∧ w.heap.size ≤ g ∧ RqAt (fun j => j < W0.heap.size ∨ (w.heap.size ≤ j ∧ j < w'.heap.size)) W0 w' g win ⟨.test, Dv.zero, 0⟩ ∧ Below w.heap.size w w' := by
  obtain ⟨W1, hW1⟩ : ∃ W, w.alloc (.cells #[.int .i64 (win 0).1, .int .i64 (win 0).2, .int .i64 (win 1).1, .int .i64 (win 1).2, .int .i64 (win 2).1, .int .i64 (win 2).2, .int .i64 (win 3).1, .int .i64 (win 3).2] 25) = W := ⟨_, rfl⟩; have hb0 : Below w.heap.size w W1 := (by rw [← hW1]; exact bal' w _); have p0 : WgI W1 w.heap.size win := (by rw [← hW1]; exact hpNew w _); have HW1 := hid hW1; have HB0 := hid hb0; have P0 := hid p0; clear hW1 hb0 p0
  have HBW := hid hBW
  have HWO := hid hw
  clear hBW hw
  go_enter Tryz.func47, Tryz.ntmps47
  go_upto_region 1 with (fail)
  rw [HW1.out]
  go_wp2_with fail
  go_loopw [3] (fun iv wr => ∃ k : Nat, k ≤ 4 ∧ iv = .int .i64 k ∧ Below W1.heap.size W1 wr) (fun iv _ => 4 - (intOf iv).toNat)
  case atStart => exact ⟨0, by omega, rfl, Below.refl _ _⟩
  case round =>
    obtain ⟨k, hk, rfl, hbw⟩ := hrel
    by_cases hlt : k < 4
    · have hkl : (k : Int) < 4 := (by omega); have hki : (0 : Int) ≤ (k : Int) := Int.natCast_nonneg _; have y1 : wr.cell? ⟨w.heap.size, k * 2 + 1, none⟩ = some (.int .i64 (win k).2) := WgI.count (hpKeep P0.out hbw) hlt; have y0 : wr.cell? ⟨w.heap.size, k * 2, none⟩ = some (.int .i64 (win k).1) := WgI.first (hpKeep P0.out hbw) hlt
      obtain ⟨h1, h2, h3, h4⟩ := HWO.out k hlt
      have a1 : decide ((win k).2 < 0) = false := decide_eq_false (by omega)
      have a2 : decide (512 < (win k).2) = false := decide_eq_false (by omega)
      have a3 : decide ((win k).1 < 0) = false := decide_eq_false (by omega)
      obtain ⟨e, he⟩ : ∃ e, 65536 - (win k).2 = e := ⟨_, rfl⟩
      have a4 : decide (e < (win k).1) = false := decide_eq_false (by omega)
      have sw : IntKind.i64.wrap (65536 - (win k).2) = e := (IntWalk.i64_in _ (by omega)).trans he
      clear h1 h2 h3 h4 he
      go_upto_region 4 with (fail)
      go_quiet (fail)
      go_wp2
      go_roundw
      case rel => exact ⟨k + 1, by omega, by go_num, below_drewN hbw _⟩
      case measure => simp [intOf]; omega
    · obtain rfl : k = 4 := by omega
      have hp := hpKeep P0.out hbw
      have e0 : wr.cell? ⟨w.heap.size, 0, none⟩ = some (.int .i64 (win 0).1) := hpCell hp 0
      have e1 : wr.cell? ⟨w.heap.size, 1, none⟩ = some (.int .i64 (win 0).2) := hpCell hp 1
      have e2 : wr.cell? ⟨w.heap.size, 2, none⟩ = some (.int .i64 (win 1).1) := hpCell hp 2
      have e3 : wr.cell? ⟨w.heap.size, 3, none⟩ = some (.int .i64 (win 1).2) := hpCell hp 3
      have e4 : wr.cell? ⟨w.heap.size, 4, none⟩ = some (.int .i64 (win 2).1) := hpCell hp 4
      have e5 : wr.cell? ⟨w.heap.size, 5, none⟩ = some (.int .i64 (win 2).2) := hpCell hp 5
      have e6 : wr.cell? ⟨w.heap.size, 6, none⟩ = some (.int .i64 (win 3).1) := hpCell hp 6
      have e7 : wr.cell? ⟨w.heap.size, 7, none⟩ = some (.int .i64 (win 3).2) := hpCell hp 7
      have hbx := bt HB0.out hbw (Nat.le_refl _)
      have HBX := hid hbx
      clear hp hbx
      go_wp2
      go_ret
      have hz := HBX.out.size
      have hz0 := HBW.out.size
      have hi : RqI (wr.alloc (.cells (RqC win 0 (.pointer none) (.pointer none) (.pointer none) Dv.zero (.slice none 0 0) (.slice none 0 0) (fun _ => .slice none 0 0) 0) 114)) wr.heap.size win 0 (.pointer none) (.pointer none) (.pointer none) Dv.zero (.slice none 0 0) (.slice none 0 0) (fun _ => .slice none 0 0) 0 := hpNew _ _
      exact ⟨wr.heap.size, rfl, hz, ⟨⟨.inr ⟨hz, by simp⟩, by omega, fun j hj => .inl hj⟩, bt HBW.out (bta HBX.out (Nat.le_refl _) _) (Nat.le_refl _), fun _ => False, 0, _, _, _, _, _, _, fun j e => e.elim, hi, fun W' _ => ⟨Obs.nil _, Bs.nil _, fun _ _ => Spn.nil _ _⟩, rfl⟩, bta HBX.out (Nat.le_refl _) _⟩

def RqFed (P : Nat → Prop) (W0 w : World) (g : Nat) (win : Nat → Int × Int) (p' : Pb) (E : Int) (r : Ending) (w' : World) : Prop :=
  r = .returned (.int .i64 E) ∧ RqAt (Grw P w w') W0 w' g win p' ∧ Keeps (fun j => P j ∧ W0.heap.size ≤ j) w w'
set_option maxRecDepth 100000 in
set_option maxHeartbeats 3200000 in
theorem rpf_done {P Q : Nat → Prop} {W0 w : World} {g : Nat} {win : Nat → Int × Int} {d : Dv} {q st : Int} {iV sV mV ov sv : Value} {mv : Nat → Value} (hb : P g ∧ W0.heap.size ≤ g ∧ ∀ j, j < W0.heap.size → P j) (hBW : Below W0.heap.size W0 w) (hs : RqSt P Q W0 w g win ⟨.done, d, q⟩ st iV sV mV ov sv mv)
    (O : Oc) (da : Option Addr) (dc : Nat) (oa : Option Addr) (oc : Nat) (p' : Pb) (hp' : Hid (p' = ⟨.done, d, q⟩)) :
    Calls Tryz.prog 57 #[.pointer (some ⟨g, 0, none⟩), .agg #[.int .i64 O.verdict, .int .i64 O.reply.fn, .int .i64 O.reply.exc, .slice da O.reply.data.length dc, .int .i64 O.reply.code, .int .i64 O.reply.level, .bool O.reply.more, .int .i64 O.reply.next, .slice oa O.reply.objs.length oc]] w (RqFed P W0 w g win p' 12) := by
  have HEN : Hid (∀ w', Below w.heap.size w w' → RqFed P W0 w g win p' 12 (.returned (.int .i64 12)) w') := fun w' hb' => by
    have hk : Keeps (fun j => Q j ∨ j = g) w w' := Keeps.of_below hb'
    have hz := hk.size
    rw [hp'.out]
    exact ⟨rfl, (RqSt.fed hb hBW hs hk (p' := ⟨.done, d, q⟩) Q (fun j e => ⟨.inl e, by have := (hs.1 j e).2.2.2; omega⟩) (hs.2.1.keep hb') (hs.2.2.1.go hk (fun j e => .inl e)) hs.2.2.2).2⟩
  have hst : st = 11 := hs.2.2.2
  obtain ⟨WB, hWB⟩ : ∃ W, w.alloc (.cells #[.int .i64 O.verdict, .int .i64 O.reply.fn, .int .i64 O.reply.exc, .slice da O.reply.data.length dc, .int .i64 O.reply.code, .int .i64 O.reply.level, .bool O.reply.more, .int .i64 O.reply.next, .slice oa O.reply.objs.length oc] 55) = W := ⟨_, rfl⟩
  have hbB : Below w.heap.size w WB := by rw [← hWB]; exact bal' w _
  have c8 := (hs.2.1.keep hbB).step
  have HWB := hid hWB
  have HBB := hid hbB
  subst hst
  clear hb hBW hs hp' hWB hbB
  go_enter Tryz.func57, Tryz.ntmps57
  go_upto_region 1 with (fail)
  rw [HWB.out]
  go_wp2
  go_ret
  exact HEN.out _ HBB.out

theorem rpfed_any {P : Nat → Prop} {W0 w : World} {g : Nat} {win : Nat → Int × Int} {p : Pb} (hwo : WinOk win) (h : RqAt P W0 w g win p) (hok : p.ph.ok win) (hti : p.tidy) (q0 : 0 ≤ p.q) (q1 : p.q ≤ 1000000)
    (O : Oc) (da : Option Addr) (dc : Nat) (oa : Option Addr) (oc : Nat) (HI : RpIs W0 O.reply da dc oa oc) (hO : O.fit) (p' : Pb) (E : Int) (hp' : Hid (p' = if p.ph.isDone then p else p.feed win O)) (hE : Hid (E = if p.ph.isDone then 12 else 0)) :
    Calls Tryz.prog 57 #[.pointer (some ⟨g, 0, none⟩), .agg #[.int .i64 O.verdict, .int .i64 O.reply.fn, .int .i64 O.reply.exc, .slice da O.reply.data.length dc, .int .i64 O.reply.code, .int .i64 O.reply.level, .bool O.reply.more, .int .i64 O.reply.next, .slice oa O.reply.objs.length oc]] w (RqFed P W0 w g win p' E) := by
  obtain ⟨hb, hBW, Q, st, iV, sV, mV, ov, sv, mv, hs⟩ := h
  obtain ⟨ph, d, q⟩ := p
  have hpp := hp'.out
  have hee := hE.out
  cases ph with
  | done =>
    obtain rfl : E = 12 := hee
    exact rpf_done hb hBW hs O da dc oa oc p' hpp
  | test =>
    obtain rfl : E = 0 := hee
    exact rpf_test hb hBW hs q0 q1 O da dc oa oc p' hpp
  | ident x =>
    obtain rfl : E = 0 := hee
    exact rpf_ident hb hBW hs q0 q1 hok O da dc oa oc hO HI p' hpp
  | server =>
    obtain rfl : E = 0 := hee
    exact rpf_server hb hBW hs q0 q1 hwo O da dc oa oc hO.data HI.d p' hpp
  | seek k s =>
    obtain rfl : E = 0 := hee
    exact rpf_seek hb hBW hs q0 q1 hwo hok hti O da dc oa oc p' hpp
  | map k m =>
    obtain rfl : E = 0 := hee
    exact rpf_map hb hBW hs q0 q1 hwo hok O da dc oa oc p' hpp

end Go.Proofs.YtipnamoocemeeaaGreat

/-
  The reference's sweep: what it holds in a state; plain steps of the state.
-/
namespace Go.Proofs.YtipnamoocemeeaaGreat
open Go.RowKit

def RsI (W : World) (g : Nat) (c : Cf) (sv pv fv : Value) (at_ cnt : Int) : Prop := W.heap[g]? = some (.cells (SwC c sv pv fv at_ cnt) 46)
/-- The blocks of a probe: its own and the memory of W0. -/
def RsQ (W0 : World) (Q : Nat → Prop) (j : Nat) : Prop := j < W0.heap.size ∨ Q j
theorem RsQ_grw {W0 W W' : World} {Q : Nat → Prop} : Grw (RsQ W0 Q) W W' = RsQ W0 (Grw Q W W') := by
  funext j
  simp [Grw, RsQ, or_assoc]
/-- The reference's sweep in a state, but for its probe; all that it holds lies in blocks of P, and what may change in blocks of M; Q has the probe's. -/
structure RsS (P M Q : Nat → Prop) (W0 W : World) (g : Nat) (c : Cf) (x : Sp) (sv pv : Value) (fa : Option Addr) (fc : Nat) (cs : List Value) : Prop where
  mg : M g
  mp : ∀ j, M j → P j ∧ W0.heap.size ≤ j
  lo : ∀ j, j < W0.heap.size → P j
  pl : ∀ j, P j → j < W.heap.size
  qm : ∀ j, Q j → M j ∧ j ≠ g
  rw_ : ∀ j, (Value.slice fa x.fd.length fc).ownBlock = some j → M j ∧ j ≠ g ∧ ¬ Q j
  at_ : RsI W g c sv pv (.slice fa x.fd.length fc) x.at_ x.cnt
  st : ∀ W', Keeps (SwF M P) W W' → Rgs W' sv c.sets
  own : W.ownsRow 0 91 21 (.slice fa x.fd.length fc) x.fd.length cs
  dv : CsL 21 (DvQ (SwF M P) W) cs x.fd
/-- The reference's sweep in a state. -/
def RsAt (P : Nat → Prop) (W0 W : World) (g : Nat) (c : Cf) (x : Sp) : Prop := ∃ M Q sv gp fa fc cs, RsS P M Q W0 W g c x sv (.pointer (some ⟨gp, 0, none⟩)) fa fc cs ∧ Q gp ∧ RqAt (RsQ W0 Q) W0 W gp c.win x.pb
theorem RsS.size {P M Q : Nat → Prop} {W0 W : World} {g : Nat} {c : Cf} {x : Sp} {sv pv : Value} {fa : Option Addr} {fc : Nat} {cs : List Value} (h : RsS P M Q W0 W g c x sv pv fa fc cs) : W0.heap.size ≤ W.heap.size := by
  by_cases e : W.heap.size < W0.heap.size
  · have := h.pl _ (h.lo _ e)
    omega
  · omega
theorem RsS.keep {P M Q F : Nat → Prop} {W0 W W' : World} {g : Nat} {c : Cf} {x : Sp} {sv pv : Value} {fa : Option Addr} {fc : Nat} {cs : List Value} (h : RsS P M Q W0 W g c x sv pv fa fc cs) (hk : Keeps F W W') (hF : ∀ j, j < W.heap.size → F j → ¬ P j) : RsS P M Q W0 W' g c x sv pv fa fc cs := by
  have hk' : Keeps (SwF M P) W W' := hk.mono (fun j hj e => .inr (hF j hj e))
  have hkP : Keeps (fun j => ¬ P j) W W' := hk.mono hF
  exact ⟨h.mg, h.mp, h.lo, fun j hj => Nat.lt_of_lt_of_le (h.pl j hj) hk.size, h.qm, h.rw_, hpKeeps h.at_ hkP (fun e => e (h.mp _ h.mg).1), fun W2 h2 => h.st W2 (hk'.trans h2 (fun _ _ e => e)), own_keeps h.own hkP (fun j hj e => e (h.mp _ (h.rw_ j hj).1).1), CsL.mono (fun r f hr => DvQ.keeps hk' (fun _ _ e => e) (fun _ _ e => e) r f hr) _ _ h.dv⟩
theorem RsAt.keep {P F : Nat → Prop} {W0 W W' : World} {g : Nat} {c : Cf} {x : Sp} (h : RsAt P W0 W g c x) (hk : Keeps F W W') (hF : ∀ j, j < W.heap.size → F j → ¬ P j) : RsAt P W0 W' g c x := by
  obtain ⟨M, Q, sv, gp, fa, fc, cs, hs, hq, hp⟩ := h
  exact ⟨M, Q, sv, gp, fa, fc, cs, hs.keep hk hF, hq, hp.keep hk (fun j hj e hq => by
    rcases hq with e2 | e2
    · exact hF j hj e (hs.lo j e2)
    · exact hF j hj e (hs.mp _ (hs.qm j e2).1).1)⟩

/-- A device more in the row: the state behind an append and the store of the row's new slice. -/
theorem RsS.app {P M Q : Nat → Prop} {W0 W w5 w6 : World} {g : Nat} {c : Cf} {x : Sp} {sv pv : Value} {fa a6 : Option Addr} {fc c6 : Nat} {cs : List Value} (h : RsS P M Q W0 W g c x sv pv fa fc cs)
    {f : Fd} {ov dv : Value} {mv : Nat → Value} (hd : RdSt (SwF M P) W f.d ov dv mv) (hb5 : Below W.heap.size W w5)
    (hgr : w5.grownBy w6 (Value.slice fa x.fd.length fc).ownBlock) (hnew : NewOr w5 (.slice fa x.fd.length fc) (.slice a6 (x.fd.length + 1) c6))
    (hown : w6.ownsRow 0 91 21 (.slice a6 (x.fd.length + 1) c6) (x.fd.length + 1) (cs ++ (DvF f ov dv mv).toList)) :
    ∃ M', RsS (Grw P W w6) M' Q W0 (w6.setCell ⟨g, 18, none⟩ (.slice a6 (x.fd.length + 1) c6)) g c { x with fd := x.fd ++ [f] } sv pv a6 c6 (cs ++ (DvF f ov dv mv).toList) ∧ Keeps M W (w6.setCell ⟨g, 18, none⟩ (.slice a6 (x.fd.length + 1) c6)) ∧ (∀ j, j < W.heap.size → M' j → M j) := by
  have h0 := h.size
  have hgl : g < W.heap.size := hpLt h.at_
  have hrow := h.rw_
  have h56 : Keeps (fun j => (Value.slice fa x.fd.length fc).ownBlock = some j) w5 w6 := Keeps.of_grown hgr (fun k hk => hk)
  have hk6 : Keeps (fun j => (Value.slice fa x.fd.length fc).ownBlock = some j) W w6 := (Keeps.of_below hb5).trans h56 (fun _ _ e => e)
  have hks : Keeps (fun j => j = g) w6 (w6.setCell ⟨g, 18, none⟩ (.slice a6 (x.fd.length + 1) c6)) := (Keeps.refl _ _).set _ _ rfl
  have hkM : Keeps M W (w6.setCell ⟨g, 18, none⟩ (.slice a6 (x.fd.length + 1) c6)) := (hk6.mono (fun j _ e => (hrow j e).1)).trans (hks.mono (fun j _ e => by subst e; exact h.mg)) (fun _ _ e => e)
  have hz5 := hb5.size
  have hz6 := h56.size
  have hzS : (w6.setCell ⟨g, 18, none⟩ (.slice a6 (x.fd.length + 1) c6)).heap.size = w6.heap.size := by simp
  have hkF : Keeps (SwF M P) W (w6.setCell ⟨g, 18, none⟩ (.slice a6 (x.fd.length + 1) c6)) := hkM.mono (fun j _ e => .inl e)
  have hnewb : ∀ j, (Value.slice a6 (x.fd.length + 1) c6).ownBlock = some j → ((Value.slice fa x.fd.length fc).ownBlock = some j ∨ (W.heap.size ≤ j ∧ j < w6.heap.size)) := fun j hj => by
    rcases hnew with e | ⟨i, e, e2⟩
    · exact .inl (by rw [← e]; exact hj)
    · rw [hj] at e
      cases e
      have := (hown.lt j hj).2
      exact .inr ⟨by omega, this⟩
  have hg6 : RsI w6 g c sv pv (.slice fa x.fd.length fc) x.at_ x.cnt := hpKeeps h.at_ hk6 (fun e => (hrow g e).2.1 rfl)
  have hSF : ∀ j, j < W.heap.size → SwF (fun j => M j ∨ (Value.slice a6 (x.fd.length + 1) c6).ownBlock = some j) (Grw P W w6) j → SwF M P j := fun j hj e => by
    rcases e with (e | e) | e
    · exact .inl e
    · rcases hnewb j e with e2 | e2
      · exact .inl (hrow j e2).1
      · omega
    · exact .inr (fun hp => e (.inl hp))
  refine ⟨fun j => M j ∨ (Value.slice a6 (x.fd.length + 1) c6).ownBlock = some j, ⟨.inl h.mg, fun j hj => ?_, fun j hj => .inl (h.lo j hj), fun j hj => ?_, fun j hj => ⟨.inl (h.qm j hj).1, (h.qm j hj).2⟩, fun j hj => ?_, ?_, fun W' hW => h.st W' (hkF.trans hW (fun j hj e => hSF j hj e)), ?_, ?_⟩, hkM, fun j hj e => ?_⟩
  · rcases hj with e | e
    · exact ⟨.inl (h.mp j e).1, (h.mp j e).2⟩
    · rcases hnewb j e with e2 | e2
      · exact ⟨.inl (h.mp j (hrow j e2).1).1, (h.mp j (hrow j e2).1).2⟩
      · exact ⟨.inr e2, by omega⟩
  · rw [hzS]
    rcases hj with e | e
    · have := h.pl j e
      omega
    · exact e.2
  · rw [show ({ x with fd := x.fd ++ [f] } : Sp).fd.length = x.fd.length + 1 by simp] at hj
    rcases hnewb j hj with e | e
    · exact ⟨.inl (hrow j e).1, (hrow j e).2⟩
    · exact ⟨.inr hj, by omega, fun hq => by have := h.pl j (h.mp j (h.qm j hq).1).1; omega⟩
  · show RsI _ g c sv pv (.slice a6 (x.fd ++ [f]).length c6) x.at_ x.cnt
    rw [List.length_append]
    exact hpSetP hg6 rfl
  · show World.ownsRow _ 0 _ 21 (.slice a6 (x.fd ++ [f]).length c6) (x.fd ++ [f]).length _
    rw [List.length_append]
    exact own_keeps hown hks (fun j hj e => by
      subst e
      rcases hnewb j hj with e2 | e2
      · exact (hrow j e2).2.1 rfl
      · omega)
  · exact CsL.app _ _ (CsL.mono (fun r y hy => DvQ.keeps hkF (fun _ _ e => e) hSF r y hy) _ _ h.dv) [f] _ ⟨(DvF f ov dv mv).toList, [], by simp, rfl, ⟨ov, dv, mv, rfl, hd.keeps hkF (fun _ _ e => e) hSF⟩, rfl⟩
  · rcases e with e | e
    · exact e
    · rcases hnewb j e with e2 | e2
      · exact (hrow j e2).1
      · omega

/-- The struct's numbers and the probe have changed, and nothing else. -/
theorem RsS.to {P M Q Q' : Nat → Prop} {W0 W W' : World} {g : Nat} {c : Cf} {x : Sp} {sv pv pv' : Value} {fa : Option Addr} {fc : Nat} {cs : List Value} (h : RsS P M Q W0 W g c x sv pv fa fc cs) (hk : Keeps (fun j => j = g ∨ Q j) W W') {at' : Nat} {pb' : Pb} {cnt' : Int}
    (hI : RsI W' g c sv pv' (.slice fa x.fd.length fc) at' cnt') (hQ : ∀ j, Q' j → Q j ∨ (W.heap.size ≤ j ∧ j < W'.heap.size)) :
    RsS (Grw P W W') (fun j => j = g ∨ (Value.slice fa x.fd.length fc).ownBlock = some j ∨ Q' j) Q' W0 W' g c ⟨at', pb', x.fd, cnt'⟩ sv pv' fa fc cs ∧ Keeps M W W' ∧ (∀ j, j < W.heap.size → (j = g ∨ (Value.slice fa x.fd.length fc).ownBlock = some j ∨ Q' j) → M j) := by
  have h0 := h.size
  have hgl : g < W.heap.size := hpLt h.at_
  have hrow := h.rw_
  have hkM : Keeps M W W' := hk.mono (fun j _ e => by
    rcases e with e | e
    · subst e; exact h.mg
    · exact (h.qm j e).1)
  have hkF : Keeps (SwF M P) W W' := hkM.mono (fun j _ e => .inl e)
  have hMM : ∀ j, j < W.heap.size → (j = g ∨ (Value.slice fa x.fd.length fc).ownBlock = some j ∨ Q' j) → M j := fun j hj e => by
    rcases e with e | e | e
    · subst e; exact h.mg
    · exact (hrow j e).1
    · rcases hQ j e with e2 | e2
      · exact (h.qm j e2).1
      · omega
  have hSF : ∀ j, j < W.heap.size → SwF (fun j => j = g ∨ (Value.slice fa x.fd.length fc).ownBlock = some j ∨ Q' j) (Grw P W W') j → SwF M P j := fun j hj e => by
    rcases e with e | e
    · exact .inl (hMM j hj e)
    · exact .inr (fun hp => e (.inl hp))
  have hz := hk.size
  refine ⟨⟨.inl rfl, fun j hj => ?_, fun j hj => .inl (h.lo j hj), fun j hj => ?_, fun j hj => ⟨.inr (.inr hj), ?_⟩, fun j hj => ⟨.inr (.inl hj), (hrow j hj).2.1, fun e => ?_⟩, hI, fun W2 hW => h.st W2 (hkF.trans hW (fun j hj e => hSF j hj e)), own_keeps h.own hk (fun j hj e => ?_), CsL.mono (fun r y hy => DvQ.keeps hkF (fun _ _ e => e) hSF r y hy) _ _ h.dv⟩, hkM, hMM⟩
  · rcases hj with e | e | e
    · subst e; exact ⟨.inl (h.mp _ h.mg).1, (h.mp _ h.mg).2⟩
    · exact ⟨.inl (h.mp _ (hrow j e).1).1, (h.mp _ (hrow j e).1).2⟩
    · rcases hQ j e with e2 | e2
      · exact ⟨.inl (h.mp _ (h.qm j e2).1).1, (h.mp _ (h.qm j e2).1).2⟩
      · exact ⟨.inr e2, by omega⟩
  · rcases hj with e | e
    · have := h.pl j e
      omega
    · exact e.2
  · intro e2
    subst e2
    rcases hQ j hj with e | e
    · exact (h.qm j e).2 rfl
    · omega
  · rcases hQ j e with e2 | e2
    · exact (hrow j hj).2.2 e2
    · have := h.pl j (h.mp j (hrow j hj).1).1
      omega
  · rcases e with e | e
    · exact (hrow j hj).2.1 e
    · exact (hrow j hj).2.2 e

end Go.Proofs.YtipnamoocemeeaaGreat
