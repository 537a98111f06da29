/-
  A link in memory, and the contract of link.New at what is allowed.
-/
import Derived.Test.YtoaajdbjlaffgaaRecv
import Derived.Test.YtoaajdbjlaffgaaRq
import Derived.Test.YtoaajdbjlaffgaaMrech
namespace Go.Proofs.Ytoaajdbjlaffgaa
open Go.RowKit

/-- What the cells of a link say. -/
structure Lk where
  b : Int
  p : Int
  re : Int
  ti : Int
  dr : Int
  ph : Int
  un : Int
  q : Rq
  fa : Option Addr
  fn : Nat
  fc : Nat
  now : Int
  en : Int
  til : Int
  la : Int
  rx : Value
  cnt : Int
  sa : Option Addr
  sn : Nat
  sc : Nat
  o : Oc
  da : Option Addr
  dn : Nat
  dc : Nat
  oa : Option Addr
  on : Nat
  oc : Nat

def Lk.cells (s : Lk) : Array Value :=
  #[.int .i64 s.b, .int .i64 s.p, .int .i64 s.re, .int .i64 s.ti, .int .i64 s.dr, .int .i64 s.ph, .int .i64 s.un, .int .i64 s.q.fn, .int .i64 s.q.addr, .int .i64 s.q.qty, .int .i64 s.q.code, .int .i64 s.q.obj,
    .slice s.fa s.fn s.fc, .int .i64 s.now, .int .i64 s.en, .int .i64 s.til, .int .i64 s.la, s.rx, .int .i64 s.cnt, .slice s.sa s.sn s.sc,
    .int .i64 s.o.verdict, .int .i64 s.o.reply.fn, .int .i64 s.o.reply.exc, .slice s.da s.dn s.dc, .int .i64 s.o.reply.code, .int .i64 s.o.reply.level, .bool s.o.reply.more, .int .i64 s.o.reply.next, .slice s.oa s.on s.oc]

/-- A link lies in block g. -/
def LkAt (w : World) (g : Nat) (s : Lk) : Prop := w.heap[g]? = some (.cells s.cells 86)

theorem LkAt.keep {w w' : World} {g : Nat} {s : Lk} (h : LkAt w g s) (hb : Below w.heap.size w w') : LkAt w' g s := hpKeep h hb
theorem LkAt.keeps {w w' : World} {F : Nat → Prop} {g : Nat} {s : Lk} (h : LkAt w g s) (hk : Keeps F w w') (hn : ¬ F g) : LkAt w' g s := hpKeeps h hk hn
theorem LkAt.cell {w : World} {g : Nat} {s : Lk} (h : LkAt w g s) (i : Nat) : w.cell? ⟨g, i, none⟩ = s.cells[i]? := hpCell h i
theorem LkAt.free {w : World} {g : Nat} {s : Lk} (h : LkAt w g s) (i : Nat) : w.frozen? ⟨g, i, none⟩ = false := hpFree h i
theorem LkAt.lt {w : World} {g : Nat} {s : Lk} (h : LkAt w g s) : g < w.heap.size := hpLt h

def Oc.zero : Oc := ⟨0, Rp.zero⟩
def Rq.zero : Rq := ⟨0, 0, 0, 0, 0⟩
def Lk.new (b p re ti de : Int) : Lk := ⟨b, p, re, ti, drainT b ti de, 0, 0, Rq.zero, none, 0, 0, 0, 0, 0, 0, .pointer none, 0, none, 0, 0, Oc.zero, none, 0, 0, none, 0, 0⟩

def LkNew (w : World) (s : Lk) (r : Ending) (w' : World) : Prop :=
  ∃ g : Nat, r = .returned (.tuple #[.pointer (some ⟨g, 0, none⟩), .int .i64 0]) ∧ w.heap.size ≤ g ∧ LkAt w' g s ∧ Below w.heap.size w w'

set_option maxRecDepth 100000 in
set_option maxHeartbeats 3200000 in
theorem lknew_ok (b p re ti de : Int) (h : Hid (Okset b p)) (h1 : 0 ≤ re) (h2 : re ≤ 5) (h3 : 1 ≤ ti) (h4 : ti ≤ 5000000) (h5 : 0 ≤ de) (h6 : de ≤ 5000000) (w : World) :
    Calls Try.prog 18 #[.agg #[.int .i64 b, .int .i64 p], .int .i64 re, .int .i64 ti, .int .i64 de] w (LkNew w (Lk.new b p re ti de)) := by
  obtain ⟨D, hD⟩ : ∃ D, drainT b ti de = D := ⟨_, rfl⟩
  have HDR : Hid (∀ W, Calls Try.prog 42 #[.agg #[.int .i64 b, .int .i64 p], .int .i64 ti, .int .i64 de] W fun r w' => r = .returned (.int .i64 D) ∧ Below W.heap.size W w') := fun W => by rw [← hD]; exact drain_ok b p ti de h (by omega) h4 h5 h6 W
  have V1 : Hid ((decide (0 ≤ re) && decide (re ≤ 5)) = true) := by show _ = _; rw [decide_eq_true h1, decide_eq_true h2]; rfl
  have V2 : Hid ((decide (1 ≤ ti) && decide (ti ≤ 5000000)) = true) := by show _ = _; rw [decide_eq_true h3, decide_eq_true h4]; rfl
  have V3 : Hid ((decide (0 ≤ de) && decide (de ≤ 5000000)) = true) := by show _ = _; rw [decide_eq_true h5, decide_eq_true h6]; rfl
  have HP : Hid (∀ r w', (∃ g : Nat, r = .returned (.tuple #[.pointer (some ⟨g, 0, none⟩), .int .i64 0]) ∧ w.heap.size ≤ g ∧ w'.heap[g]? = some (.cells #[.int .i64 b, .int .i64 p, .int .i64 re, .int .i64 ti, .int .i64 D, .int .i64 0, .int .i64 0, .int .i64 0, .int .i64 0, .int .i64 0, .int .i64 0, .int .i64 0, .slice none 0 0, .int .i64 0, .int .i64 0, .int .i64 0, .int .i64 0, .pointer none, .int .i64 0, .slice none 0 0, .int .i64 0, .int .i64 0, .int .i64 0, .slice none 0 0, .int .i64 0, .int .i64 0, .bool false, .int .i64 0, .slice none 0 0] 86) ∧ Below w.heap.size w w') → LkNew w (Lk.new b p re ti de) r w') := by
    intro r w' hh
    subst hD
    exact hh
  clear hD h1 h2 h3 h4 h5 h6
  go_enter Try.func18, Try.ntmps18
  go_wp2_with (first | (go_at_call 40; (with_reducible refine (svalid_ok b p h.out _).mono ?_); rintro r w1 ⟨rfl, hb1⟩; have g0 := hpKeep (hpNew w _) hb1) | (go_at_call 41; (with_reducible refine (within_any re 0 5 _ true V1).mono ?_); rintro r wi ⟨rfl, rfl⟩) | (go_at_call 41; (with_reducible refine (within_any ti 1 5000000 _ true V2).mono ?_); rintro r wi ⟨rfl, rfl⟩) | (go_at_call 41; (with_reducible refine (within_any de 0 5000000 _ true V3).mono ?_); rintro r wi ⟨rfl, rfl⟩))
  have c0 : ∀ W, Below w1.heap.size w1 W → W.cell? ⟨w.heap.size, 0, none⟩ = some (.int .i64 b) := fun W hW => hpCell (hpKeep g0 hW) 0
  have c1 : ∀ W, Below w1.heap.size w1 W → W.cell? ⟨w.heap.size, 1, none⟩ = some (.int .i64 p) := fun W hW => hpCell (hpKeep g0 hW) 1
  have kD : Below w1.heap.size w1 w1.drew := (Below.refl _ _).drew
  have hbw1 := bt (bal' w _) hb1 (Nat.le_refl _)
  clear g0 hb1
  go_region_held3 (fun W => Below w1.heap.size w1 W) ((first | exact kD | exact bt kD hb4 (Nat.le_refl _) | exact bta (by assumption) (Nat.le_refl _) _)) ((go_at_call 42; (with_reducible refine (HDR.out _).mono ?_); rintro r w4 ⟨rfl, hb4⟩))
  all_goals
    go_wp2
    go_ret2
    refine HP.out _ _ ⟨_, rfl, ?_, hpNew _ _, ?_⟩
    · have e1 := hbw1.size
      have e4 := hb4.size
      simp at e4
      omega
    · exact bt hbw1 (bta (bt kD hb4 (Nat.le_refl _)) (Nat.le_refl _) _) (Nat.le_refl _)

end Go.Proofs.Ytoaajdbjlaffgaa
