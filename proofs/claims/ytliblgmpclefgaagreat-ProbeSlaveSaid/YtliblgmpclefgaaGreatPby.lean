/-
  A probe that steps: its device stays small; Feed at any probe.
-/
import Derived.Test.YtliblgmpclefgaaGreatPbo
import Derived.Test.YtliblgmpclefgaaGreatPbm
import Derived.Test.YtliblgmpclefgaaGreatRpa
namespace Go.Proofs.YtliblgmpclefgaaGreat
open Go.RowKit

theorem rle_len (ks : List Int) (h : ks.length ≤ 1024) : (rle ks).length ≤ 1024 := (rle_ok ks h).len
theorem small_meas {win : Nat → Int × Int} {n : Nat} {d : Dv} (h : d.small) : (meas win n d).2.small := by
  obtain ⟨a, b, c⟩ := meas_same win n d _ _ rfl
  refine ⟨by rw [a]; exact h.ob, by rw [a]; exact h.vs, by rw [b]; exact h.sd, fun k hk => by rw [c]; exact h.mp k hk⟩
theorem small_tab {d : Dv} (h : d.small) (k : Nat) (t : Tb) (ht : t.map.length ≤ 1024) : (d.tab k t).small := by
  refine ⟨h.ob, h.vs, h.sd, fun i hi => ?_⟩
  show (if i = k then t else d.ts i).map.length ≤ 1024
  split
  · exact ht
  · exact h.mp i hi
theorem Pb.step_small {win : Nat → Int × Int} {p : Pb} (hok : p.ph.ok win) {O : Oc} (hO : O.fit) (h : p.d.small) : (p.step win O).2.small := by
  unfold Pb.step
  split
  · exact ⟨h.ob, h.vs, h.sd, h.mp⟩
  · rename_i x e
    rw [e] at hok
    have hf := Idn.feed_fin hok.1 hO
    split
    · exact h
    · refine ⟨?_, ?_, h.sd, h.mp⟩
      · show (if (x.feed O).st = 2 then (x.feed O).objs else []).length ≤ 1280
        split
        · exact hf.ob
        · exact Nat.zero_le _
      · intro y hy
        have hy' : y ∈ (if (x.feed O).st = 2 then (x.feed O).objs else []) := hy
        split at hy'
        · exact hf.vs y hy'
        · cases hy'
  · refine small_meas ⟨h.ob, h.vs, ?_, h.mp⟩
    show (srvData O).length ≤ 300
    unfold srvData
    split
    · exact hO.data
    · exact Nat.zero_le _
  · rename_i k s e
    rw [e] at hok
    split
    · exact h
    · unfold aftS
      dsimp only
      split
      · exact small_tab h k _ (h.mp k hok.1)
      · exact small_meas (small_tab h k _ (h.mp k hok.1))
  · rename_i k m e
    rw [e] at hok
    have hm := Mp.feed_ok hok.2.1 hok.2.2 O.verdict O.reply.exc
    split
    · unfold aftM
      exact small_meas (small_tab h k _ (rle_len _ (by have := hm.kl; have := hm.c1; omega)))
    · exact h
  · exact h
theorem Dv.zero_small : Dv.zero.small := ⟨Nat.zero_le _, fun y h => (by cases h), Nat.zero_le _, fun _ _ => Nat.zero_le _⟩

/-- What Feed leaves at any probe: its blocks, new ones perhaps. -/
def PbFd (P : Nat → Prop) (w : World) (g : Nat) (win : Nat → Int × Int) (p : Pb) (w' : World) : Prop := ∃ P', (∀ j, P' j → Grw P w w' j) ∧ PbAt P' w' g win p ∧ Keeps P w w'
theorem pfed_any {P : Nat → Prop} {w : World} {g : Nat} {win : Nat → Int × Int} (hw : WinOk win) {p : Pb} (h : PbAt P w g win p) (hok : p.ph.ok win) (hq0 : 0 ≤ p.q) (hq1 : p.q ≤ 1000000) (O : Oc) (da : Option Addr) (dc : Nat) (oa : Option Addr) (oc : Nat) (HI : InAt P w O da dc oa oc) (hO : O.fit) (p' : Pb) (E : Int) (hp : Hid (p' = if p.ph.isDone then p else p.feed win O)) (hE : Hid (E = if p.ph.isDone then 12 else 0)) :
    Calls Tryz.prog 12 #[.pointer (some ⟨g, 0, none⟩), .agg #[.int .i64 O.verdict, .int .i64 O.reply.fn, .int .i64 O.reply.exc, .slice da O.reply.data.length dc, .int .i64 O.reply.code, .int .i64 O.reply.level, .bool O.reply.more, .int .i64 O.reply.next, .slice oa O.reply.objs.length oc]] w fun r w' => r = .returned (.int .i64 E) ∧ PbFd P w g win p' w' := by
  cases hd : p.ph.isDone with
  | true =>
    have e1 : p' = p := by rw [hp.out, hd]; rfl
    have e2 : E = 12 := by rw [hE.out, hd]; rfl
    have hdn : p.ph = .done := by
      cases h : p.ph <;> rw [h] at hd <;> first | rfl | cases hd
    rw [e1, e2]
    exact (pfeed_done h hdn O da dc oa oc).mono (fun r w' hh => ⟨hh.1, P, fun j hj => .inl hj, h.keep (F := fun _ => False) (Keeps.of_below hh.2) (fun _ _ e => e.elim), Keeps.of_below hh.2⟩)
  | false =>
    have e1 : p' = p.feed win O := by rw [hp.out, hd]; rfl
    have e2 : E = 0 := by rw [hE.out, hd]; rfl
    have hdn : p.ph ≠ .done := fun e => by rw [e] at hd; cases hd
    rw [e1, e2]
    exact (pfeed_any hw h hok hdn hq0 hq1 O da dc oa oc HI hO).mono (fun r w' hh => ⟨hh.1, _, fun j hj => hj, hh.2.1, hh.2.2⟩)

/-- The state behind a Feed is a good one. -/
theorem pfed_good {win : Nat → Int × Int} (hw : WinOk win) {p : Pb} (hok : p.ph.ok win) (hs : p.d.small) (hq0 : 0 ≤ p.q) {O : Oc} (hO : O.fit) {p' : Pb} (hp : p' = if p.ph.isDone then p else p.feed win O) : p'.ph.ok win ∧ p'.d.small ∧ 0 ≤ p'.q ∧ p'.q ≤ p.q + 1 := by
  subst hp
  split
  · exact ⟨hok, hs, hq0, by omega⟩
  · exact ⟨Pb.step_ok hw hok hO, Pb.step_small hok hO hs, by show 0 ≤ p.q + 1; omega, Int.le_refl _⟩

end Go.Proofs.YtliblgmpclefgaaGreat
