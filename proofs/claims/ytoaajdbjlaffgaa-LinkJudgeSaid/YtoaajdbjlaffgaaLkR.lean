/-
  The contracts of a link's listens, repeat, and Silence without a reply.
-/
import Derived.Test.YtoaajdbjlaffgaaLkJ
import Derived.Deep.QuietTactic
import Derived.BigQuiet
namespace Go.Proofs.Ytoaajdbjlaffgaa
open Go.RowKit

set_option maxRecDepth 100000 in
set_option maxHeartbeats 1600000 in
theorem listens_yes (g : Nat) (s : Lk) (w : World) (hl : LkAt w g s) (hph : s.ph = 2 ∨ s.ph = 3 ∨ s.ph = 4) :
    Calls Try.prog 52 #[.pointer (some ⟨g, 0, none⟩)] w fun r w' => r = .returned (.bool true) ∧ w = w' := by
  have c5 : w.cell? ⟨g, 5, none⟩ = some (.int .i64 2) ∨ w.cell? ⟨g, 5, none⟩ = some (.int .i64 3) ∨ w.cell? ⟨g, 5, none⟩ = some (.int .i64 4) := by
    rw [hl.cell 5]
    rcases hph with h | h | h
    · left; simp [Lk.cells, h]
    · right; left; simp [Lk.cells, h]
    · right; right; simp [Lk.cells, h]
  clear hl hph
  rcases c5 with c5 | c5 | c5
  all_goals
    go_enter Try.func52, Try.ntmps52
    go_wp2
    go_ret
    exact ⟨rfl, rfl⟩

/-- The link sends again. -/
def LkAgain (w : World) (g : Nat) (s' : Lk) (r : Ending) (w' : World) : Prop := r = .returned (.tuple #[]) ∧ LkAt w' g s' ∧ Keeps (· = g) w w'

set_option maxRecDepth 100000 in
set_option maxHeartbeats 1600000 in
theorem repeat_more (g : Nat) (s : Lk) (w : World) (hl : LkAt w g s) (hc : s.cnt ≤ s.re) :
    Calls Try.prog 57 #[.pointer (some ⟨g, 0, none⟩)] w (LkAgain w g { s with ph := 1 }) := by
  have c18 : w.cell? ⟨g, 18, none⟩ = some (.int .i64 s.cnt) := hl.cell 18
  have c2 : w.cell? ⟨g, 2, none⟩ = some (.int .i64 s.re) := hl.cell 2
  have d : decide (s.cnt ≤ s.re) = true := decide_eq_true hc
  have hn : ∀ n, LkAt (w.drewN n) g s := fun n => hl
  have c5 : w.cell? ⟨g, 5, none⟩ = some (.int .i64 s.ph) := hl.cell 5
  have f5 : w.frozen? ⟨g, 5, none⟩ = false := hl.free 5
  clear hl
  go_enter Try.func57, Try.ntmps57
  go_wp2
  go_quiet (fail)
  go_wp2
  all_goals
    refine bodyPost_ret (results_none rfl _ _ _) rfl ?_
    exact ⟨rfl, hpSetE (hn _) rfl, kset' (Keeps.of_below (below_drewN (Below.refl _ _) _)) _ _⟩

/-- What the verdicts of the attempts come to. -/
def sumV (l : List Int) : Int := if 4 ∈ l then 4 else if 5 ∈ l then 5 else 3
/-- Verdicts of attempts without a reply. -/
def BadL (l : List Int) : Prop := l ≠ [] ∧ ∀ v ∈ l, v = 3 ∨ v = 4 ∨ v = 5

theorem Ns.own {w : World} {base : Nat} {E : TypeId} {v : Value} {l : List Int} {n : Nat} (h : w.ownsRow base E 1 v n (intsV l)) (hw : ∀ n ∈ l, (Lit.int .i64 n).wf = true) : Ns w v l := by
  obtain ⟨hlen, h | ⟨g, cap, cur, hv, hb, hh, hnc, hcm, hcs, ht⟩⟩ := h
  · obtain ⟨rfl, rfl⟩ := h
    have : l = [] := by simpa [intsV] using hlen
    subst this
    exact Ns.nil w
  · have hn : n = l.length := by simpa [intsV] using hlen.symm
    subst hn
    refine ⟨⟨_, _, hv, hnc, hcm, fun h => by simp at h, fun hl => ⟨g, 0, rfl, fun i hi => ?_⟩⟩, hw⟩
    simp only [World.cell?, hh, Nat.zero_add, Option.isSome_none]
    have h1 : cur[i]? = (intsV l)[i]? := take_get (by simpa using ht) i (by simpa [intsV] using hi)
    rw [h1]
    simp [intsV, List.getD, hi]

/-- The link has ended a transaction without a reply. -/
def Lk.silent (s : Lk) (v : Int) : Lk := { s with ph := 5, o := ⟨v, Rp.zero⟩, da := none, dn := 0, dc := 0, oa := none, on := 0, oc := 0 }

theorem silent_chain {W3 : World} {g : Nat} {s : Lk} {v : Int} (h : LkAt W3 g { s with ph := 5 }) : LkAt (((((((((W3.setCell ⟨g, 20, none⟩ (.int .i64 v)).setCell ⟨g, 21, none⟩ (.int .i64 0)).setCell ⟨g, 22, none⟩ (.int .i64 0)).setCell ⟨g, 23, none⟩ (.slice none 0 0)).setCell ⟨g, 24, none⟩ (.int .i64 0)).setCell ⟨g, 25, none⟩ (.int .i64 0)).setCell ⟨g, 26, none⟩ (.bool false)).setCell ⟨g, 27, none⟩ (.int .i64 0)).setCell ⟨g, 28, none⟩ (.slice none 0 0)) g (s.silent v) := by
  unfold LkAt
  show _ = some (Obj.cells #[.int .i64 s.b, .int .i64 s.p, .int .i64 s.re, .int .i64 s.ti, .int .i64 s.dr, .int .i64 5, .int .i64 s.un, .int .i64 s.q.fn, .int .i64 s.q.addr, .int .i64 s.q.qty, .int .i64 s.q.code, .int .i64 s.q.obj, .slice s.fa s.fn s.fc, .int .i64 s.now, .int .i64 s.en, .int .i64 s.til, .int .i64 s.la, s.rx, .int .i64 s.cnt, .slice s.sa s.sn s.sc, .int .i64 v, .int .i64 0, .int .i64 0, .slice none 0 0, .int .i64 0, .int .i64 0, .bool false, .int .i64 0, .slice none 0 0] 86)
  refine hpSetE (c := #[.int .i64 s.b, .int .i64 s.p, .int .i64 s.re, .int .i64 s.ti, .int .i64 s.dr, .int .i64 5, .int .i64 s.un, .int .i64 s.q.fn, .int .i64 s.q.addr, .int .i64 s.q.qty, .int .i64 s.q.code, .int .i64 s.q.obj, .slice s.fa s.fn s.fc, .int .i64 s.now, .int .i64 s.en, .int .i64 s.til, .int .i64 s.la, s.rx, .int .i64 s.cnt, .slice s.sa s.sn s.sc, .int .i64 v, .int .i64 0, .int .i64 0, .slice none 0 0, .int .i64 0, .int .i64 0, .bool false, .int .i64 0, .slice s.oa s.on s.oc]) ?_ rfl
  refine hpSetE (c := #[.int .i64 s.b, .int .i64 s.p, .int .i64 s.re, .int .i64 s.ti, .int .i64 s.dr, .int .i64 5, .int .i64 s.un, .int .i64 s.q.fn, .int .i64 s.q.addr, .int .i64 s.q.qty, .int .i64 s.q.code, .int .i64 s.q.obj, .slice s.fa s.fn s.fc, .int .i64 s.now, .int .i64 s.en, .int .i64 s.til, .int .i64 s.la, s.rx, .int .i64 s.cnt, .slice s.sa s.sn s.sc, .int .i64 v, .int .i64 0, .int .i64 0, .slice none 0 0, .int .i64 0, .int .i64 0, .bool false, .int .i64 s.o.reply.next, .slice s.oa s.on s.oc]) ?_ rfl
  refine hpSetE (c := #[.int .i64 s.b, .int .i64 s.p, .int .i64 s.re, .int .i64 s.ti, .int .i64 s.dr, .int .i64 5, .int .i64 s.un, .int .i64 s.q.fn, .int .i64 s.q.addr, .int .i64 s.q.qty, .int .i64 s.q.code, .int .i64 s.q.obj, .slice s.fa s.fn s.fc, .int .i64 s.now, .int .i64 s.en, .int .i64 s.til, .int .i64 s.la, s.rx, .int .i64 s.cnt, .slice s.sa s.sn s.sc, .int .i64 v, .int .i64 0, .int .i64 0, .slice none 0 0, .int .i64 0, .int .i64 0, .bool s.o.reply.more, .int .i64 s.o.reply.next, .slice s.oa s.on s.oc]) ?_ rfl
  refine hpSetE (c := #[.int .i64 s.b, .int .i64 s.p, .int .i64 s.re, .int .i64 s.ti, .int .i64 s.dr, .int .i64 5, .int .i64 s.un, .int .i64 s.q.fn, .int .i64 s.q.addr, .int .i64 s.q.qty, .int .i64 s.q.code, .int .i64 s.q.obj, .slice s.fa s.fn s.fc, .int .i64 s.now, .int .i64 s.en, .int .i64 s.til, .int .i64 s.la, s.rx, .int .i64 s.cnt, .slice s.sa s.sn s.sc, .int .i64 v, .int .i64 0, .int .i64 0, .slice none 0 0, .int .i64 0, .int .i64 s.o.reply.level, .bool s.o.reply.more, .int .i64 s.o.reply.next, .slice s.oa s.on s.oc]) ?_ rfl
  refine hpSetE (c := #[.int .i64 s.b, .int .i64 s.p, .int .i64 s.re, .int .i64 s.ti, .int .i64 s.dr, .int .i64 5, .int .i64 s.un, .int .i64 s.q.fn, .int .i64 s.q.addr, .int .i64 s.q.qty, .int .i64 s.q.code, .int .i64 s.q.obj, .slice s.fa s.fn s.fc, .int .i64 s.now, .int .i64 s.en, .int .i64 s.til, .int .i64 s.la, s.rx, .int .i64 s.cnt, .slice s.sa s.sn s.sc, .int .i64 v, .int .i64 0, .int .i64 0, .slice none 0 0, .int .i64 s.o.reply.code, .int .i64 s.o.reply.level, .bool s.o.reply.more, .int .i64 s.o.reply.next, .slice s.oa s.on s.oc]) ?_ rfl
  refine hpSetE (c := #[.int .i64 s.b, .int .i64 s.p, .int .i64 s.re, .int .i64 s.ti, .int .i64 s.dr, .int .i64 5, .int .i64 s.un, .int .i64 s.q.fn, .int .i64 s.q.addr, .int .i64 s.q.qty, .int .i64 s.q.code, .int .i64 s.q.obj, .slice s.fa s.fn s.fc, .int .i64 s.now, .int .i64 s.en, .int .i64 s.til, .int .i64 s.la, s.rx, .int .i64 s.cnt, .slice s.sa s.sn s.sc, .int .i64 v, .int .i64 0, .int .i64 0, .slice s.da s.dn s.dc, .int .i64 s.o.reply.code, .int .i64 s.o.reply.level, .bool s.o.reply.more, .int .i64 s.o.reply.next, .slice s.oa s.on s.oc]) ?_ rfl
  refine hpSetE (c := #[.int .i64 s.b, .int .i64 s.p, .int .i64 s.re, .int .i64 s.ti, .int .i64 s.dr, .int .i64 5, .int .i64 s.un, .int .i64 s.q.fn, .int .i64 s.q.addr, .int .i64 s.q.qty, .int .i64 s.q.code, .int .i64 s.q.obj, .slice s.fa s.fn s.fc, .int .i64 s.now, .int .i64 s.en, .int .i64 s.til, .int .i64 s.la, s.rx, .int .i64 s.cnt, .slice s.sa s.sn s.sc, .int .i64 v, .int .i64 0, .int .i64 s.o.reply.exc, .slice s.da s.dn s.dc, .int .i64 s.o.reply.code, .int .i64 s.o.reply.level, .bool s.o.reply.more, .int .i64 s.o.reply.next, .slice s.oa s.on s.oc]) ?_ rfl
  refine hpSetE (c := #[.int .i64 s.b, .int .i64 s.p, .int .i64 s.re, .int .i64 s.ti, .int .i64 s.dr, .int .i64 5, .int .i64 s.un, .int .i64 s.q.fn, .int .i64 s.q.addr, .int .i64 s.q.qty, .int .i64 s.q.code, .int .i64 s.q.obj, .slice s.fa s.fn s.fc, .int .i64 s.now, .int .i64 s.en, .int .i64 s.til, .int .i64 s.la, s.rx, .int .i64 s.cnt, .slice s.sa s.sn s.sc, .int .i64 v, .int .i64 s.o.reply.fn, .int .i64 s.o.reply.exc, .slice s.da s.dn s.dc, .int .i64 s.o.reply.code, .int .i64 s.o.reply.level, .bool s.o.reply.more, .int .i64 s.o.reply.next, .slice s.oa s.on s.oc]) ?_ rfl
  refine hpSetE (c := #[.int .i64 s.b, .int .i64 s.p, .int .i64 s.re, .int .i64 s.ti, .int .i64 s.dr, .int .i64 5, .int .i64 s.un, .int .i64 s.q.fn, .int .i64 s.q.addr, .int .i64 s.q.qty, .int .i64 s.q.code, .int .i64 s.q.obj, .slice s.fa s.fn s.fc, .int .i64 s.now, .int .i64 s.en, .int .i64 s.til, .int .i64 s.la, s.rx, .int .i64 s.cnt, .slice s.sa s.sn s.sc, .int .i64 s.o.verdict, .int .i64 s.o.reply.fn, .int .i64 s.o.reply.exc, .slice s.da s.dn s.dc, .int .i64 s.o.reply.code, .int .i64 s.o.reply.level, .bool s.o.reply.more, .int .i64 s.o.reply.next, .slice s.oa s.on s.oc]) ?_ rfl
  exact h
theorem silent_keeps {w W3 : World} {g : Nat} {v : Int} (h : Keeps (· = g) w W3) : Keeps (· = g) w (((((((((W3.setCell ⟨g, 20, none⟩ (.int .i64 v)).setCell ⟨g, 21, none⟩ (.int .i64 0)).setCell ⟨g, 22, none⟩ (.int .i64 0)).setCell ⟨g, 23, none⟩ (.slice none 0 0)).setCell ⟨g, 24, none⟩ (.int .i64 0)).setCell ⟨g, 25, none⟩ (.int .i64 0)).setCell ⟨g, 26, none⟩ (.bool false)).setCell ⟨g, 27, none⟩ (.int .i64 0)).setCell ⟨g, 28, none⟩ (.slice none 0 0)) := by
  have k0 := kset' h 20 (.int .i64 v)
  have k1 := kset' k0 21 (.int .i64 0)
  have k2 := kset' k1 22 (.int .i64 0)
  have k3 := kset' k2 23 (.slice none 0 0)
  have k4 := kset' k3 24 (.int .i64 0)
  have k5 := kset' k4 25 (.int .i64 0)
  have k6 := kset' k5 26 (.bool false)
  have k7 := kset' k6 27 (.int .i64 0)
  have k8 := kset' k7 28 (.slice none 0 0)
  exact k8

set_option maxRecDepth 100000 in
set_option maxHeartbeats 6400000 in
theorem repeat_done (g : Nat) (s : Lk) (l : List Int) (w : World) (hl : LkAt w g s) (hs : SeenAt w g s l) (hb : BadL l) (hc : ¬ s.cnt ≤ s.re) :
    Calls Try.prog 57 #[.pointer (some ⟨g, 0, none⟩)] w (LkAgain w g (s.silent (sumV l))) := by
  have c18 : w.cell? ⟨g, 18, none⟩ = some (.int .i64 s.cnt) := hl.cell 18
  have c2 : w.cell? ⟨g, 2, none⟩ = some (.int .i64 s.re) := hl.cell 2
  have d : decide (s.cnt ≤ s.re) = false := decide_eq_false hc
  have hn : ∀ n, LkAt (w.drewN n) g s := fun n => hl
  have c5 : w.cell? ⟨g, 5, none⟩ = some (.int .i64 s.ph) := hl.cell 5
  have f5 : w.frozen? ⟨g, 5, none⟩ = false := hl.free 5
  have HNS : Hid (Ns w (.slice s.sa s.sn s.sc) l) := Ns.own hs.own (fun v hv => by rcases hb.2 v hv with rfl | rfl | rfl <;> rfl)
  have hg := hl.lt
  have HS := hid hs
  have HB := hid hb
  clear hl hs hc hb
  go_enter Try.func57, Try.ntmps57
  go_wp2
  go_quiet (fail)
  go_wp2
  obtain ⟨W3, hW3⟩ : ∃ W, W = ((w.drewN nq).setCell ⟨g, 5, none⟩ (.int .i64 5)).alloc (.cells #[.int .i64 4, .int .i64 5, .int .i64 3] 3) := ⟨_, rfl⟩
  rw [← hW3]
  have l3 : LkAt W3 g { s with ph := 5 } := by
    rw [hW3]
    exact LkAt.keep (hpSetE (hn nq) rfl) (bal' _ _)
  have k3 : Keeps (· = g) w W3 := by
    rw [hW3]
    exact (kset' (Keeps.of_below (below_drewN (Below.refl _ _) _)) 5 _).trans (Keeps.of_below (bal' _ _)) (fun _ _ h => h)
  have p3 : W3.heap[w.heap.size]? = some (.cells #[.int .i64 4, .int .i64 5, .int .i64 3] 3) := by
    rw [hW3]
    have h := hpNew ((w.drewN nq).setCell ⟨g, 5, none⟩ (.int .i64 5)) (.cells #[.int .i64 4, .int .i64 5, .int .i64 3] 3)
    have e : ((w.drewN nq).setCell ⟨g, 5, none⟩ (.int .i64 5)).heap.size = w.heap.size := by simp
    rw [e] at h
    exact h
  have x0 : W3.cell? ⟨w.heap.size, 0, none⟩ = some (.int .i64 4) := hpCell p3 0
  have x1 : W3.cell? ⟨w.heap.size, 1, none⟩ = some (.int .i64 5) := hpCell p3 1
  have x2 : W3.cell? ⟨w.heap.size, 2, none⟩ = some (.int .i64 3) := hpCell p3 2
  have own3 := own_keeps HS.out.own k3 (fun k hk e => by
    have h1 := (HS.out.own.lt k hk).1
    have h2 : k = g := e
    omega)
  have HN3 : Hid (Ns W3 (.slice s.sa s.sn s.sc) l) := Ns.own own3 (fun v hv => by rcases HB.out.2 v hv with rfl | rfl | rfl <;> rfl)
  have c19 : W3.cell? ⟨g, 19, none⟩ = some (.slice s.sa s.sn s.sc) := l3.cell 19
  have c20 : W3.cell? ⟨g, 20, none⟩ = some (.int .i64 s.o.verdict) := hpCell l3 20
  have f20 : W3.frozen? ⟨g, 20, none⟩ = false := hpFree l3 20
  have c21 : W3.cell? ⟨g, 21, none⟩ = some (.int .i64 s.o.reply.fn) := hpCell l3 21
  have f21 : W3.frozen? ⟨g, 21, none⟩ = false := hpFree l3 21
  have c22 : W3.cell? ⟨g, 22, none⟩ = some (.int .i64 s.o.reply.exc) := hpCell l3 22
  have f22 : W3.frozen? ⟨g, 22, none⟩ = false := hpFree l3 22
  have c23 : W3.cell? ⟨g, 23, none⟩ = some (.slice s.da s.dn s.dc) := hpCell l3 23
  have f23 : W3.frozen? ⟨g, 23, none⟩ = false := hpFree l3 23
  have c24 : W3.cell? ⟨g, 24, none⟩ = some (.int .i64 s.o.reply.code) := hpCell l3 24
  have f24 : W3.frozen? ⟨g, 24, none⟩ = false := hpFree l3 24
  have c25 : W3.cell? ⟨g, 25, none⟩ = some (.int .i64 s.o.reply.level) := hpCell l3 25
  have f25 : W3.frozen? ⟨g, 25, none⟩ = false := hpFree l3 25
  have c26 : W3.cell? ⟨g, 26, none⟩ = some (.bool s.o.reply.more) := hpCell l3 26
  have f26 : W3.frozen? ⟨g, 26, none⟩ = false := hpFree l3 26
  have c27 : W3.cell? ⟨g, 27, none⟩ = some (.int .i64 s.o.reply.next) := hpCell l3 27
  have f27 : W3.frozen? ⟨g, 27, none⟩ = false := hpFree l3 27
  have c28 : W3.cell? ⟨g, 28, none⟩ = some (.slice s.oa s.on s.oc) := hpCell l3 28
  have f28 : W3.frozen? ⟨g, 28, none⟩ = false := hpFree l3 28
  have HL3 := hid l3
  have HK3 := hid k3
  have hany : ∀ x : Int, (l.any (fun y => decide (x = y)) = true) ↔ x ∈ l := by
    intro x
    rw [List.any_eq_true]
    exact ⟨fun ⟨y, hy, h⟩ => by rw [of_decide_eq_true h]; exact hy, fun h => ⟨x, h, decide_eq_true rfl⟩⟩
  have HANY := hid hany
  clear hW3 l3 k3 p3 own3 hany c18 c2 c5 f5 hn HNS
  go_loop [21] (fun i => ∃ k : Nat, k ≤ 2 ∧ i = .int .i64 k ∧ Hid ((1 ≤ k → ¬ 4 ∈ l) ∧ (2 ≤ k → ¬ 5 ∈ l))) (fun i => 3 - (intOf i).toNat)
  case atStart => exact ⟨0, by omega, rfl, (fun h => absurd h (by decide)), (fun h => absurd h (by decide))⟩
  case round =>
    obtain ⟨k, hk, rfl, hno⟩ := hrel
    rcases (show k = 0 ∨ k = 1 ∨ k = 2 by omega) with rfl | rfl | rfl
    · obtain ⟨V, hV⟩ : ∃ V, l.any (fun y => decide ((4 : Int) = y)) = V := ⟨_, rfl⟩
      have HV := hid hV
      have HC := hid (contI_any _ l 4 W3 HN3.out V HV)
      clear hV
      go_wp2_with fail
      refine HC.out.mono ?_
      rintro r w4 ⟨rfl, rfl⟩
      cases V with
      | true =>
        have HE : Hid (sumV l = 4) := if_pos ((HANY.out 4).1 HV.out)
        go_wp2
        refine bodyPost_ret (results_none rfl _ _ _) rfl ?_
        rw [HE.out]
        exact ⟨rfl, silent_chain HL3.out, silent_keeps HK3.out⟩
      | false =>
        have HX : Hid (¬ 4 ∈ l) := fun h => by have := (HANY.out 4).2 h; rw [HV.out] at this; cases this
        go_wp2
        go_round
        case rel => exact ⟨1, by omega, rfl, (fun _ => HX.out), (fun h => absurd h (by decide))⟩
        case measure => simp [intOf]
    · obtain ⟨V, hV⟩ : ∃ V, l.any (fun y => decide ((5 : Int) = y)) = V := ⟨_, rfl⟩
      have HV := hid hV
      have HC := hid (contI_any _ l 5 W3 HN3.out V HV)
      clear hV
      go_wp2_with fail
      refine HC.out.mono ?_
      rintro r w4 ⟨rfl, rfl⟩
      cases V with
      | true =>
        have HE : Hid (sumV l = 5) := by
          have h1 := (HANY.out 5).1 HV.out
          have h2 := hno.out
          show sumV l = _
          unfold sumV
          rw [if_neg (h2.1 (by decide)), if_pos h1]
        go_wp2
        refine bodyPost_ret (results_none rfl _ _ _) rfl ?_
        rw [HE.out]
        exact ⟨rfl, silent_chain HL3.out, silent_keeps HK3.out⟩
      | false =>
        have HX : Hid (¬ 5 ∈ l) := fun h => by have := (HANY.out 5).2 h; rw [HV.out] at this; cases this
        have H4 := hid (hno.out.1 (by decide))
        go_wp2
        go_round
        case rel => exact ⟨2, by omega, rfl, (fun _ => H4.out), (fun _ => HX.out)⟩
        case measure => simp [intOf]
    · obtain ⟨V, hV⟩ : ∃ V, l.any (fun y => decide ((3 : Int) = y)) = V := ⟨_, rfl⟩
      have HV := hid hV
      have HC := hid (contI_any _ l 3 W3 HN3.out V HV)
      clear hV
      go_wp2_with fail
      refine HC.out.mono ?_
      rintro r w4 ⟨rfl, rfl⟩
      cases V with
      | true =>
        have HE : Hid (sumV l = 3) := by
          have h1 := (HANY.out 3).1 HV.out
          have h2 := hno.out
          show sumV l = _
          unfold sumV
          rw [if_neg (h2.1 (by decide)), if_neg (h2.2 (by decide))]
        go_wp2
        refine bodyPost_ret (results_none rfl _ _ _) rfl ?_
        rw [HE.out]
        exact ⟨rfl, silent_chain HL3.out, silent_keeps HK3.out⟩
      | false =>
        exfalso
        obtain ⟨y, hy⟩ := List.exists_mem_of_ne_nil l HB.out.1
        have h2 := hno.out
        rcases HB.out.2 y hy with rfl | rfl | rfl
        · have := (HANY.out 3).2 hy; rw [HV.out] at this; cases this
        · exact h2.1 (by decide) hy
        · exact h2.2 (by decide) hy

end Go.Proofs.Ytoaajdbjlaffgaa
