/-
  Texts 35 of the claim.
-/
import Derived.Test.YtipnamoocemeeaaGreatC34
import Derived.Test.YtipnamoocemeeaaGreatC31
/-
  The program's sweep: a device is put into the row of those that were found (collect, first part); plain steps of the state.
-/
namespace Go.Proofs.YtipnamoocemeeaaGreat
open Go.RowKit
theorem DvF_one {w : World} {f : Fd} {ov sv : Value} {mv : Nat → Value} (h : DvRd w f.d ov sv mv) : (DvF f ov sv mv).toList.all (·.oneCell') = true := by
  have h1 := DvC_one h
  have e : (DvC f.d ov sv mv).toList = [.int .i64 0, .int .i64 0] ++ (DvF f ov sv mv).toList.drop 2 := rfl
  have e2 : (DvF f ov sv mv).toList = [.int .i64 f.set, .int .i64 f.unit] ++ (DvF f ov sv mv).toList.drop 2 := rfl
  rw [e, List.all_append] at h1
  rw [e2, List.all_append]
  simp only [Bool.and_eq_true] at h1 ⊢
  exact ⟨rfl, h1.2⟩
theorem infoDv : (Tryz.prog.info? 91).map (fun i => (i.zero, i.size, i.bytes)) = some (some (.agg #[.int .i64 0, .int .i64 0, .int .i64 0, .int .i64 0, .int .i64 0, .slice none 0 0, .int .i64 0, .slice none 0 0, .int .i64 0, .int .i64 0, .slice none 0 0, .int .i64 0, .int .i64 0, .slice none 0 0, .int .i64 0, .int .i64 0, .slice none 0 0, .int .i64 0, .int .i64 0, .slice none 0 0, .string ⟨#[]⟩]), 21, 272) := by kernel_rfl

/-- A device more in the row: the state behind an append and the store of the row's new slice. -/
theorem SwS.app {P M Q : Nat → Prop} {W w5 w6 : World} {g : Nat} {c : Cf} {x : Sp} {sv pv : Value} {fa a6 : Option Addr} {fc c6 : Nat} {cs : List Value} (h : SwS P M Q W g c x sv pv fa fc cs)
    {f : Fd} {ov dv : Value} {mv : Nat → Value} (hd : RdSt (SwF M P) W f.d ov dv mv) (hb5 : Below W.heap.size W w5)
    (hgr : w5.grownBy w6 (Value.slice fa x.fd.length fc).ownBlock) (hnew : NewOr w5 (.slice fa x.fd.length fc) (.slice a6 (x.fd.length + 1) c6))
    (hown : w6.ownsRow 0 91 21 (.slice a6 (x.fd.length + 1) c6) (x.fd.length + 1) (cs ++ (DvF f ov dv mv).toList)) :
    ∃ M', SwS (Grw P W w6) M' Q (w6.setCell ⟨g, 18, none⟩ (.slice a6 (x.fd.length + 1) c6)) g c { x with fd := x.fd ++ [f] } sv pv a6 c6 (cs ++ (DvF f ov dv mv).toList) ∧ Keeps M W (w6.setCell ⟨g, 18, none⟩ (.slice a6 (x.fd.length + 1) c6)) ∧ (∀ j, j < W.heap.size → M' j → M j) := by
  have hgl : g < W.heap.size := hpLt h.at_
  have hrow := h.rw_
  have h56 : Keeps (fun j => (Value.slice fa x.fd.length fc).ownBlock = some j) w5 w6 := Keeps.of_grown hgr (fun k hk => hk)
  have hk6 : Keeps (fun j => (Value.slice fa x.fd.length fc).ownBlock = some j) W w6 := (Keeps.of_below hb5).trans h56 (fun _ _ e => e)
  have hks : Keeps (fun j => j = g) w6 (w6.setCell ⟨g, 18, none⟩ (.slice a6 (x.fd.length + 1) c6)) := (Keeps.refl _ _).set _ _ rfl
  have hkM : Keeps M W (w6.setCell ⟨g, 18, none⟩ (.slice a6 (x.fd.length + 1) c6)) := (hk6.mono (fun j _ e => (hrow j e).1)).trans (hks.mono (fun j _ e => by subst e; exact h.mg)) (fun _ _ e => e)
  have hz5 := hb5.size
  have hz6 := h56.size
  have hzS : (w6.setCell ⟨g, 18, none⟩ (.slice a6 (x.fd.length + 1) c6)).heap.size = w6.heap.size := by simp
  have hkF : Keeps (SwF M P) W (w6.setCell ⟨g, 18, none⟩ (.slice a6 (x.fd.length + 1) c6)) := hkM.mono (fun j _ e => .inl e)
  have hnewb : ∀ j, (Value.slice a6 (x.fd.length + 1) c6).ownBlock = some j → ((Value.slice fa x.fd.length fc).ownBlock = some j ∨ (W.heap.size ≤ j ∧ j < w6.heap.size)) := fun j hj => by
    rcases hnew with e | ⟨i, e, e2⟩
    · exact .inl (by rw [← e]; exact hj)
    · rw [hj] at e
      cases e
      have := (hown.lt j hj).2
      exact .inr ⟨by omega, this⟩
  have hg6 : SwI w6 g c sv pv (.slice fa x.fd.length fc) x.at_ x.cnt := hpKeeps h.at_ hk6 (fun e => (hrow g e).2.1 rfl)
  have hSF : ∀ j, j < W.heap.size → SwF (fun j => M j ∨ (Value.slice a6 (x.fd.length + 1) c6).ownBlock = some j) (Grw P W w6) j → SwF M P j := fun j hj e => by
    rcases e with (e | e) | e
    · exact .inl e
    · rcases hnewb j e with e2 | e2
      · exact .inl (hrow j e2).1
      · omega
    · exact .inr (fun hp => e (.inl hp))
  refine ⟨fun j => M j ∨ (Value.slice a6 (x.fd.length + 1) c6).ownBlock = some j, ⟨.inl h.mg, fun j hj => ?_, fun j hj => ?_, fun j hj => ⟨.inl (h.qm j hj).1, (h.qm j hj).2⟩, fun j hj => ?_, ?_, fun W' hW => h.st W' (hkF.trans hW (fun j hj e => hSF j hj e)), ?_, ?_, fun hl => ?_, h.no⟩, hkM, fun j hj e => ?_⟩
  · rcases hj with e | e
    · exact .inl (h.mp j e)
    · rcases hnewb j e with e2 | e2
      · exact .inl (h.mp j (hrow j e2).1)
      · exact .inr e2
  · rw [hzS]
    rcases hj with e | e
    · have := h.pl j e
      omega
    · exact e.2
  · rw [show ({ x with fd := x.fd ++ [f] } : Sp).fd.length = x.fd.length + 1 by simp] at hj
    rcases hnewb j hj with e | e
    · exact ⟨.inl (hrow j e).1, (hrow j e).2⟩
    · exact ⟨.inr hj, by omega, fun hq => by have := h.pl j (h.mp j (h.qm j hq).1); omega⟩
  · show SwI _ g c sv pv (.slice a6 (x.fd ++ [f]).length c6) x.at_ x.cnt
    rw [List.length_append]
    exact hpSetP hg6 rfl
  · show World.ownsRow _ 0 _ 21 (.slice a6 (x.fd ++ [f]).length c6) (x.fd ++ [f]).length _
    rw [List.length_append]
    exact own_keeps hown hks (fun j hj e => by
      subst e
      rcases hnewb j hj with e2 | e2
      · exact (hrow j e2).2.1 rfl
      · omega)
  · exact CsL.app _ _ (CsL.mono (fun r y hy => DvQ.keeps hkF (fun _ _ e => e) hSF r y hy) _ _ h.dv) [f] _ ⟨(DvF f ov dv mv).toList, [], by simp, rfl, ⟨ov, dv, mv, rfl, hd.keeps hkF (fun _ _ e => e) hSF⟩, rfl⟩
  · obtain ⟨gp, e1, e2, e3⟩ := h.pr hl
    exact ⟨gp, e1, e2, e3.keep hk6 (fun j _ e hq => (hrow j e).2.2 hq) |>.keep hks (fun j _ e hq => (h.qm j hq).2 e)⟩
  · rcases e with e | e
    · exact e
    · rcases hnewb j e with e2 | e2
      · exact (hrow j e2).1
      · omega

end Go.Proofs.YtipnamoocemeeaaGreat

/-
  The program's sweep: a step of the struct and of the probe, plain.
-/
namespace Go.Proofs.YtipnamoocemeeaaGreat
open Go.RowKit

/-- The struct's numbers and the probe have changed, and nothing else. -/
theorem SwS.to {P M Q Q' : Nat → Prop} {W W' : World} {g : Nat} {c : Cf} {x : Sp} {sv pv pv' : Value} {fa : Option Addr} {fc : Nat} {cs : List Value} (h : SwS P M Q W g c x sv pv fa fc cs) (hk : Keeps (fun j => j = g ∨ Q j) W W') {at' : Nat} {pb' : Pb} {cnt' : Int}
    (hI : SwI W' g c sv pv' (.slice fa x.fd.length fc) at' cnt') (hQ : ∀ j, Q' j → Q j ∨ (W.heap.size ≤ j ∧ j < W'.heap.size)) (hpr : at' < c.units → ∃ gp, pv' = .pointer (some ⟨gp, 0, none⟩) ∧ Q' gp ∧ PbAt Q' W' gp c.win pb') (hno : c.units ≤ at' → pv' = .pointer none) :
    SwS (Grw P W W') (fun j => j = g ∨ (Value.slice fa x.fd.length fc).ownBlock = some j ∨ Q' j) Q' W' g c ⟨at', pb', x.fd, cnt'⟩ sv pv' fa fc cs ∧ Keeps M W W' ∧ (∀ j, j < W.heap.size → (j = g ∨ (Value.slice fa x.fd.length fc).ownBlock = some j ∨ Q' j) → M j) := by
  have hgl : g < W.heap.size := hpLt h.at_
  have hrow := h.rw_
  have hkM : Keeps M W W' := hk.mono (fun j _ e => by
    rcases e with e | e
    · subst e; exact h.mg
    · exact (h.qm j e).1)
  have hkF : Keeps (SwF M P) W W' := hkM.mono (fun j _ e => .inl e)
  have hMM : ∀ j, j < W.heap.size → (j = g ∨ (Value.slice fa x.fd.length fc).ownBlock = some j ∨ Q' j) → M j := fun j hj e => by
    rcases e with e | e | e
    · subst e; exact h.mg
    · exact (hrow j e).1
    · rcases hQ j e with e2 | e2
      · exact (h.qm j e2).1
      · omega
  have hSF : ∀ j, j < W.heap.size → SwF (fun j => j = g ∨ (Value.slice fa x.fd.length fc).ownBlock = some j ∨ Q' j) (Grw P W W') j → SwF M P j := fun j hj e => by
    rcases e with e | e
    · exact .inl (hMM j hj e)
    · exact .inr (fun hp => e (.inl hp))
  have hz := hk.size
  refine ⟨⟨.inl rfl, fun j hj => ?_, fun j hj => ?_, fun j hj => ⟨.inr (.inr hj), ?_⟩, fun j hj => ⟨.inr (.inl hj), (hrow j hj).2.1, fun e => ?_⟩, hI, fun W2 hW => h.st W2 (hkF.trans hW (fun j hj e => hSF j hj e)), own_keeps h.own hk (fun j hj e => ?_), CsL.mono (fun r y hy => DvQ.keeps hkF (fun _ _ e => e) hSF r y hy) _ _ h.dv, hpr, hno⟩, hkM, hMM⟩
  · rcases hj with e | e | e
    · subst e; exact .inl (h.mp _ h.mg)
    · exact .inl (h.mp _ (hrow j e).1)
    · rcases hQ j e with e2 | e2
      · exact .inl (h.mp _ (h.qm j e2).1)
      · exact .inr e2
  · rcases hj with e | e
    · have := h.pl j e
      omega
    · exact e.2
  · intro e2
    subst e2
    rcases hQ j hj with e | e
    · exact (h.qm j e).2 rfl
    · omega
  · rcases hQ j e with e2 | e2
    · exact (hrow j hj).2.2 e2
    · have := h.pl j (h.mp j (hrow j hj).1)
      omega
  · rcases e with e | e
    · exact (hrow j hj).2.1 e
    · exact (hrow j hj).2.2 e

end Go.Proofs.YtipnamoocemeeaaGreat
