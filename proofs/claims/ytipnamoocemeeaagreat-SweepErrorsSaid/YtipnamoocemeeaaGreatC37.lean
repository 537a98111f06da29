/-
  Texts 37 of the claim.
-/
import Derived.Test.YtipnamoocemeeaaGreatC36
import Derived.Test.YtipnamoocemeeaaGreatC20
import Derived.Test.YtipnamoocemeeaaGreatC08
import Derived.Deep.RegionWith
import Derived.StillTailTactics
import Derived.Test.YtipnamoocemeeaaGreatC19
import Derived.Test.YtipnamoocemeeaaGreatC27
import Derived.Test.YtipnamoocemeeaaGreatC30
import Derived.Test.YtipnamoocemeeaaGreatC33
import Derived.Deep.CutBlock
import Derived.Test.YtipnamoocemeeaaGreatC21
import Derived.Test.YtipnamoocemeeaaGreatC22
import Derived.Test.YtipnamoocemeeaaGreatC26
/-
  The program's sweep: the probe has heard an outcome and the counter is one further, plain.
-/
namespace Go.Proofs.YtipnamoocemeeaaGreat
open Go.RowKit

/-- The probe has been fed, and the count of queries is one more. -/
theorem SwS.fed {P M Q : Nat → Prop} {W W2 : World} {g gp : Nat} {c : Cf} {x : Sp} {sv : Value} {fa : Option Addr} {fc : Nat} {cs : List Value} (h : SwS P M Q W g c x sv (.pointer (some ⟨gp, 0, none⟩)) fa fc cs) (hlt : x.at_ < c.units) {p : Pb}
    (hf : PbFed Q (W.setCell ⟨g, 19, none⟩ (.int .i64 (x.cnt + 1))) gp c.win p W2) :
    ∃ M', SwS (Grw P W W2) M' (Grw Q (W.setCell ⟨g, 19, none⟩ (.int .i64 (x.cnt + 1))) W2) W2 g c { x with pb := p, cnt := x.cnt + 1 } sv (.pointer (some ⟨gp, 0, none⟩)) fa fc cs ∧ Keeps M W W2 ∧ (∀ j, j < W.heap.size → M' j → M j) := by
  obtain ⟨W1, hW1⟩ : ∃ X, W.setCell ⟨g, 19, none⟩ (.int .i64 (x.cnt + 1)) = X := ⟨_, rfl⟩
  have hk1 : Keeps (· = g) W W1 := by rw [← hW1]; exact (Keeps.refl _ _).set _ _ rfl
  have hz1 : W1.heap.size = W.heap.size := by rw [← hW1]; simp
  have h1 : SwI W1 g c sv (.pointer (some ⟨gp, 0, none⟩)) (.slice fa x.fd.length fc) x.at_ (x.cnt + 1) := by
    rw [← hW1]
    exact hpSetP (C := SwC c sv (.pointer (some ⟨gp, 0, none⟩)) (.slice fa x.fd.length fc) x.at_ (x.cnt + 1)) (i := 19) (u := .int .i64 (x.cnt + 1)) h.at_ rfl
  rw [hW1] at hf ⊢
  obtain ⟨hp, hk2⟩ := hf
  have hk : Keeps (fun j => j = g ∨ Q j) W W2 := (hk1.mono (fun j _ e => .inl e)).trans (hk2.mono (fun j _ e => .inr e)) (fun _ _ e => e)
  have hI : SwI W2 g c sv (.pointer (some ⟨gp, 0, none⟩)) (.slice fa x.fd.length fc) x.at_ (x.cnt + 1) := hpKeeps h1 hk2 (fun e => (h.qm g e).2 rfl)
  have hq : Grw Q W1 W2 gp := by obtain ⟨_, _, _, _, _, _, h, _⟩ := hp; exact h
  obtain ⟨a1, a2, a3⟩ := h.to (Q' := Grw Q W1 W2) (at' := x.at_) (pb' := p) (cnt' := x.cnt + 1) (pv' := .pointer (some ⟨gp, 0, none⟩)) hk hI (fun j e => by
    rcases e with e | e
    · exact .inl e
    · exact .inr ⟨by omega, e.2⟩) (fun _ => ⟨gp, rfl, hq, hp⟩) (fun hl => by omega)
  exact ⟨_, a1, a2, a3⟩

end Go.Proofs.YtipnamoocemeeaaGreat

/-
  The contract of record.Strip: the copies are the call's own.
-/
namespace Go.Proofs.YtipnamoocemeeaaGreat
open Go.RowKit
theorem Oc.fit.strip {O : Oc} (h : O.fit) : O.strip.fit := by
  obtain ⟨v, ⟨fn, exc, data, code, level, more, next, objs⟩⟩ := O
  rcases strip_cases v fn with ⟨h0, _⟩ | e | ⟨e, ⟨_, _, t3⟩ | ⟨_, t3⟩ | ⟨_, _, t3⟩⟩
  · rw [Oc.strip_no h0]
    exact ⟨by show 0 ≤ 40; decide, fun y hy => absurd hy (by show ¬ y ∈ ([] : List Ob); simp), by show 0 ≤ 300; decide, by show (0 : Int) ≤ _; decide⟩
  · rw [Oc.strip_short (.inl e)]
    exact ⟨by show 0 ≤ 40; decide, fun y hy => absurd hy (by show ¬ y ∈ ([] : List Ob); simp), by show 0 ≤ 300; decide, by show (0 : Int) ≤ _; decide⟩
  · rw [Oc.strip_short (.inr ⟨e, t3⟩)]
    exact ⟨by show 0 ≤ 40; decide, fun y hy => absurd hy (by show ¬ y ∈ ([] : List Ob); simp), by show 0 ≤ 300; decide, by show (0 : Int) ≤ _; decide⟩
  · rw [Oc.strip_all e t3]; exact h
  · rw [Oc.strip_all e t3]; exact h

end Go.Proofs.YtipnamoocemeeaaGreat

/-
  What the journal leaves out of an outcome makes no difference to a probe: the plain law; and Feed at a probe that has ended.
-/
namespace Go.Proofs.YtipnamoocemeeaaGreat
open Go.RowKit
end Go.Proofs.YtipnamoocemeeaaGreat

/-
  A probe that steps: its device stays small; Feed at any probe.
-/
namespace Go.Proofs.YtipnamoocemeeaaGreat
open Go.RowKit

theorem rle_len (ks : List Int) (h : ks.length ≤ 1024) : (rle ks).length ≤ 1024 := (rle_ok ks h).len
theorem small_meas {win : Nat → Int × Int} {n : Nat} {d : Dv} (h : d.small) : (meas win n d).2.small := by
  obtain ⟨a, b, c⟩ := meas_same win n d _ _ rfl
  refine ⟨by rw [a]; exact h.ob, by rw [a]; exact h.vs, by rw [b]; exact h.sd, fun k hk => by rw [c]; exact h.mp k hk⟩
theorem small_tab {d : Dv} (h : d.small) (k : Nat) (t : Tb) (ht : t.map.length ≤ 1024) : (d.tab k t).small := by
  refine ⟨h.ob, h.vs, h.sd, fun i hi => ?_⟩
  show (if i = k then t else d.ts i).map.length ≤ 1024
  split
  · exact ht
  · exact h.mp i hi
theorem Pb.step_small {win : Nat → Int × Int} {p : Pb} (hok : p.ph.ok win) {O : Oc} (hO : O.fit) (h : p.d.small) : (p.step win O).2.small := by
  unfold Pb.step
  split
  · exact ⟨h.ob, h.vs, h.sd, h.mp⟩
  · rename_i x e
    rw [e] at hok
    have hf := Idn.feed_fin hok.1 hO
    split
    · exact h
    · refine ⟨?_, ?_, h.sd, h.mp⟩
      · show (if (x.feed O).st = 2 then (x.feed O).objs else []).length ≤ 1280
        split
        · exact hf.ob
        · exact Nat.zero_le _
      · intro y hy
        have hy' : y ∈ (if (x.feed O).st = 2 then (x.feed O).objs else []) := hy
        split at hy'
        · exact hf.vs y hy'
        · cases hy'
  · refine small_meas ⟨h.ob, h.vs, ?_, h.mp⟩
    show (srvData O).length ≤ 300
    unfold srvData
    split
    · exact hO.data
    · exact Nat.zero_le _
  · rename_i k s e
    rw [e] at hok
    split
    · exact h
    · unfold aftS
      dsimp only
      split
      · exact small_tab h k _ (h.mp k hok.1)
      · exact small_meas (small_tab h k _ (h.mp k hok.1))
  · rename_i k m e
    rw [e] at hok
    have hm := Mp.feed_ok hok.2.1 hok.2.2 O.verdict O.reply.exc
    split
    · unfold aftM
      exact small_meas (small_tab h k _ (rle_len _ (by have := hm.kl; have := hm.c1; omega)))
    · exact h
  · exact h
theorem Dv.zero_small : Dv.zero.small := ⟨Nat.zero_le _, fun y h => (by cases h), Nat.zero_le _, fun _ _ => Nat.zero_le _⟩

/-- The state behind a Feed is a good one. -/
theorem pfed_good {win : Nat → Int × Int} (hw : WinOk win) {p : Pb} (hok : p.ph.ok win) (hs : p.d.small) (hq0 : 0 ≤ p.q) {O : Oc} (hO : O.fit) {p' : Pb} (hp : p' = if p.ph.isDone then p else p.feed win O) : p'.ph.ok win ∧ p'.d.small ∧ 0 ≤ p'.q ∧ p'.q ≤ p.q + 1 := by
  subst hp
  split
  · exact ⟨hok, hs, hq0, by omega⟩
  · exact ⟨Pb.step_ok hw hok hO, Pb.step_small hok hO hs, by show 0 ≤ p.q + 1; omega, Int.le_refl _⟩

end Go.Proofs.YtipnamoocemeeaaGreat

/-
  Several texts of this claim in one file.
-/
/-
The reference's map: NewMap, Next, add.
-/
namespace Go.Proofs.YtipnamoocemeeaaGreat
open Go.RowKit
end Go.Proofs.YtipnamoocemeeaaGreat

/-
The reference's map: Feed.
-/
namespace Go.Proofs.YtipnamoocemeeaaGreat
open Go.RowKit
end Go.Proofs.YtipnamoocemeeaaGreat

/-
The reference: Spans, NewProbe.
-/
namespace Go.Proofs.YtipnamoocemeeaaGreat
open Go.RowKit
end Go.Proofs.YtipnamoocemeeaaGreat

/-
  Several texts of this claim in one file.
-/
/-
The reference's probe: what it holds in a state; Next; the functions that go to the next procedure.
-/
namespace Go.Proofs.YtipnamoocemeeaaGreat
open Go.RowKit
end Go.Proofs.YtipnamoocemeeaaGreat

/-
The reference's probe: to, in every case.
-/
namespace Go.Proofs.YtipnamoocemeeaaGreat
open Go.RowKit
end Go.Proofs.YtipnamoocemeeaaGreat

/-
The reference's probe: Feed in the test and in the report.
-/
namespace Go.Proofs.YtipnamoocemeeaaGreat
open Go.RowKit
end Go.Proofs.YtipnamoocemeeaaGreat

/-
The reference's probe: Feed in the identification.
-/
namespace Go.Proofs.YtipnamoocemeeaaGreat
open Go.RowKit
end Go.Proofs.YtipnamoocemeeaaGreat

/-
  The reference's probe: Feed in a search.
-/
namespace Go.Proofs.YtipnamoocemeeaaGreat
open Go.RowKit


/-- Of the tables that are still to come nothing is known. -/
def Ph.at : Ph → Nat
  | .seek k _ => k
  | .map k _ => k + 1
  | .done => 4
  | _ => 0
def Pb.tidy (p : Pb) : Prop := ∀ i, p.ph.at ≤ i → (p.d.ts i).most = 0
theorem meas_tidy {win : Nat → Int × Int} : ∀ (n : Nat), n ≤ 4 → ∀ {d : Dv} {ph : Ph} {d' : Dv}, meas win n d = (ph, d') → (∀ i, 4 - n ≤ i → (d.ts i).most = 0) → ∀ i, ph.at ≤ i → (d'.ts i).most = 0
  | 0, _, d, ph, d', h, hd => by
    have h1 := (Prod.mk.inj h).1
    have h2 := (Prod.mk.inj h).2
    subst h1 h2
    exact hd
  | n + 1, hn, d, ph, d', h, hd => by
    unfold meas at h
    split at h
    · refine meas_tidy n (by omega) h (fun i hi => ?_)
      unfold Dv.tab
      dsimp only
      split
      · rename_i e
        exact hd _ (by omega)
      · exact hd i (by omega)
    · have h1 := (Prod.mk.inj h).1
      have h2 := (Prod.mk.inj h).2
      subst h1 h2
      exact fun i hi => hd i (by have : 3 - n ≤ i := hi; omega)
theorem Dv.tab_other (d : Dv) (k : Nat) (t : Tb) {i : Nat} (h : i ≠ k) : (d.tab k t).ts i = d.ts i := if_neg h
theorem Pb.step_tidy {win : Nat → Int × Int} {p : Pb} (hp : p.ph.ok win) (h : p.tidy) (O : Oc) : Pb.tidy (p.feed win O) := by
  obtain ⟨ph, d, q⟩ := p
  show ∀ i, (Pb.step win ⟨ph, d, q⟩ O).1.at ≤ i → ((Pb.step win ⟨ph, d, q⟩ O).2.ts i).most = 0
  cases ph with
  | test =>
    intro i hi
    exact h i (Nat.zero_le _)
  | ident x =>
    unfold Pb.step
    dsimp only
    split
    · exact fun i hi => h i hi
    · exact fun i hi => h i hi
  | server => exact meas_tidy 4 (Nat.le_refl _) rfl (fun i _ => h i (Nat.zero_le _))
  | seek k s =>
    obtain ⟨hk, -⟩ := hp
    unfold Pb.step
    dsimp only
    split
    · exact fun i hi => h i hi
    · unfold aftS
      dsimp only
      have hd : ∀ i, k + 1 ≤ i → ((d.tab k { d.ts k with st := (s.feed O.verdict O.reply.exc).st, most := (s.feed O.verdict O.reply.exc).most }).ts i).most = 0 := fun i hi => by
        rw [Dv.tab_other _ _ _ (by omega)]
        exact h i (by show k ≤ i; omega)
      split
      · exact hd
      · exact meas_tidy (4 - (k + 1)) (by omega) rfl (fun i hi => hd i (by omega))
  | map k m =>
    obtain ⟨hk, -⟩ := hp
    unfold Pb.step
    dsimp only
    split
    · refine meas_tidy (4 - (k + 1)) (by omega) rfl (fun i hi => ?_)
      rw [Dv.tab_other _ _ _ (by omega)]
      exact h i (by show k + 1 ≤ i; omega)
    · exact fun i hi => h i hi
  | done => exact fun i hi => h i hi

end Go.Proofs.YtipnamoocemeeaaGreat

/-
  The reference's probe: Feed in a map.
-/
namespace Go.Proofs.YtipnamoocemeeaaGreat
open Go.RowKit
end Go.Proofs.YtipnamoocemeeaaGreat

/-
  The reference's probe: NewProbe, and Feed whole.
-/
namespace Go.Proofs.YtipnamoocemeeaaGreat
open Go.RowKit
end Go.Proofs.YtipnamoocemeeaaGreat

/-
  The sweep, by value: good states.
-/
namespace Go.Proofs.YtipnamoocemeeaaGreat
open Go.RowKit

/-- A good state of a sweep that has been fed at most k times. -/
structure SpGd (c : Cf) (x : Sp) (k : Nat) : Prop where
  at1 : x.at_ ≤ c.units
  ok : x.pb.ph.ok c.win
  nd : x.pb.ph.isDone = false
  small : x.pb.d.small
  tidy : x.pb.tidy
  q0 : 0 ≤ x.pb.q
  q1 : x.pb.q ≤ k
  fl : x.fd.length ≤ x.at_
  fs : ∀ f ∈ x.fd, f.d.small
  c0 : 0 ≤ x.cnt
  c1 : x.cnt ≤ k
theorem Pb0_tidy : Pb0.tidy := fun _ _ => rfl
theorem SpGd.ini (c : Cf) : SpGd c Sp.ini 0 := ⟨Nat.zero_le _, trivial, rfl, Dv.zero_small, Pb0_tidy, Int.le_refl _, Int.le_refl _, Nat.le_refl _, fun f h => (by cases h), Int.le_refl _, Int.le_refl _⟩
theorem SpGd.up {c : Cf} {x : Sp} {k m : Nat} (h : SpGd c x k) (hm : k ≤ m) : SpGd c x m :=
  ⟨h.at1, h.ok, h.nd, h.small, h.tidy, h.q0, by have := h.q1; omega, h.fl, h.fs, h.c0, by have := h.c1; omega⟩
/-- The probe of a good state, fed. -/
theorem SpGd.fed {c : Cf} {x : Sp} {k : Nat} (hw : WinOk c.win) (h : SpGd c x k) {O : Oc} (hO : O.fit) : (x.pb.feed c.win O).ph.ok c.win ∧ (x.pb.feed c.win O).d.small ∧ 0 ≤ (x.pb.feed c.win O).q ∧ (x.pb.feed c.win O).q ≤ x.pb.q + 1 ∧ (x.pb.feed c.win O).tidy := by
  obtain ⟨a1, a2, a3, a4⟩ := pfed_good (p' := x.pb.feed c.win O) hw h.ok h.small h.q0 hO (by rw [h.nd]; rfl)
  exact ⟨a1, a2, a3, a4, Pb.step_tidy h.ok h.tidy O⟩
theorem SpGd.feed {c : Cf} {x : Sp} {k : Nat} (hw : WinOk c.win) (h : SpGd c x k) {O : Oc} (hO : O.fit) : SpGd c (x.feed c O) (k + 1) := by
  unfold Sp.feed
  split
  · exact h.up (Nat.le_succ _)
  · rename_i hd
    have hlt : x.at_ < c.units := by
      unfold Sp.done at hd
      simp only [decide_eq_true_eq] at hd
      omega
    obtain ⟨a1, a2, a3, a4, a5⟩ := h.fed hw hO
    have q1 := h.q1
    have c0 := h.c0
    have c1 := h.c1
    have fl := h.fl
    unfold Sp.next
    split
    · refine ⟨hlt, trivial, rfl, Dv.zero_small, Pb0_tidy, Int.le_refl _, ?_, ?_, fun f hf => ?_, ?_, ?_⟩
      · show (0 : Int) ≤ _
        omega
      · show (x.fd ++ _).length ≤ x.at_ + 1
        rw [List.length_append]
        split
        · simp; omega
        · simp; omega
      · rcases List.mem_append.1 hf with e | e
        · exact h.fs f e
        · split at e
          · cases e
          · rw [List.mem_singleton] at e
            subst e
            exact a2
      · show 0 ≤ x.cnt + 1
        omega
      · show x.cnt + 1 ≤ _
        omega
    · rename_i hnd
      refine ⟨h.at1, a1, ?_, a2, a5, a3, ?_, h.fl, h.fs, ?_, ?_⟩
      · show (x.pb.feed c.win O).ph.isDone = false
        cases e : (x.pb.feed c.win O).ph.isDone
        · rfl
        · exact absurd e hnd
      · show (x.pb.feed c.win O).q ≤ _
        omega
      · show 0 ≤ x.cnt + 1
        omega
      · show x.cnt + 1 ≤ _
        omega

end Go.Proofs.YtipnamoocemeeaaGreat
