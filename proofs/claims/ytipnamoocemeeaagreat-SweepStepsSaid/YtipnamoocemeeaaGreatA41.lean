/-
  Texts 41 of the claim.
-/
import Derived.Test.YtipnamoocemeeaaGreatA40
import Derived.Test.YtipnamoocemeeaaGreatA19
/-
  Several texts of this claim in one file.
-/
/-
The reference's probe: what it holds in a state; Next; the functions that go to the next procedure.
-/
namespace Go.Proofs.YtipnamoocemeeaaGreat
open Go.RowKit

def RqC (win : Nat → Int × Int) (st : Int) (iV sV mV : Value) (d : Dv) (ov sv : Value) (mv : Nat → Value) (q : Int) : Array Value :=
  #[.int .i64 (win 0).1, .int .i64 (win 0).2, .int .i64 (win 1).1, .int .i64 (win 1).2, .int .i64 (win 2).1, .int .i64 (win 2).2, .int .i64 (win 3).1, .int .i64 (win 3).2, .int .i64 st, iV, sV, mV, .int .i64 0, .int .i64 0, .int .i64 d.st, .int .i64 d.idn, .int .i64 d.lv, ov, .int .i64 d.srv, sv, .int .i64 (d.ts 0).st, .int .i64 (d.ts 0).most, mv 0, .int .i64 (d.ts 1).st, .int .i64 (d.ts 1).most, mv 1, .int .i64 (d.ts 2).st, .int .i64 (d.ts 2).most, mv 2, .int .i64 (d.ts 3).st, .int .i64 (d.ts 3).most, mv 3, .string ByteArray.empty, .int .i64 q]
def RqI (W : World) (g : Nat) (win : Nat → Int × Int) (st : Int) (iV sV mV : Value) (d : Dv) (ov sv : Value) (mv : Nat → Value) (q : Int) : Prop := W.heap[g]? = some (.cells (RqC win st iV sV mV d ov sv mv q) 114)
theorem RqI.keep {W W' : World} {g : Nat} {win : Nat → Int × Int} {st : Int} {iV sV mV : Value} {d : Dv} {ov sv : Value} {mv : Nat → Value} {q : Int} (h : RqI W g win st iV sV mV d ov sv mv q) (hb : Below W.heap.size W W') : RqI W' g win st iV sV mV d ov sv mv q := hpKeep h hb
theorem RqI.count {W : World} {g : Nat} {win : Nat → Int × Int} {st : Int} {iV sV mV : Value} {d : Dv} {ov sv : Value} {mv : Nat → Value} {q : Int} (h : RqI W g win st iV sV mV d ov sv mv q) {k : Nat} (hk : k < 4) :
    W.cell? ⟨g, k * 2 + 1, none⟩ = some (.int .i64 (win k).2) := by
  rw [hpCell h]
  match k, hk with
  | 0, _ => rfl
  | 1, _ => rfl
  | 2, _ => rfl
  | 3, _ => rfl
theorem RqI.first {W : World} {g : Nat} {win : Nat → Int × Int} {st : Int} {iV sV mV : Value} {d : Dv} {ov sv : Value} {mv : Nat → Value} {q : Int} (h : RqI W g win st iV sV mV d ov sv mv q) {k : Nat} (hk : k < 4) :
    W.cell? ⟨g, k * 2, none⟩ = some (.int .i64 (win k).1) := by
  rw [hpCell h]
  match k, hk with
  | 0, _ => rfl
  | 1, _ => rfl
  | 2, _ => rfl
  | 3, _ => rfl
theorem RqI.tst {W : World} {g : Nat} {win : Nat → Int × Int} {st : Int} {iV sV mV : Value} {d : Dv} {ov sv : Value} {mv : Nat → Value} {q : Int} (h : RqI W g win st iV sV mV d ov sv mv q) {k : Nat} (hk : k < 4) :
    W.cell? ⟨g, 20 + k * 3, none⟩ = some (.int .i64 (d.ts k).st) := by
  rw [hpCell h]
  match k, hk with
  | 0, _ => rfl
  | 1, _ => rfl
  | 2, _ => rfl
  | 3, _ => rfl
theorem RqI.tmost {W : World} {g : Nat} {win : Nat → Int × Int} {st : Int} {iV sV mV : Value} {d : Dv} {ov sv : Value} {mv : Nat → Value} {q : Int} (h : RqI W g win st iV sV mV d ov sv mv q) {k : Nat} (hk : k < 4) :
    W.cell? ⟨g, 20 + k * 3 + 1, none⟩ = some (.int .i64 (d.ts k).most) := by
  rw [hpCell h]
  match k, hk with
  | 0, _ => rfl
  | 1, _ => rfl
  | 2, _ => rfl
  | 3, _ => rfl
theorem RqI.tmap {W : World} {g : Nat} {win : Nat → Int × Int} {st : Int} {iV sV mV : Value} {d : Dv} {ov sv : Value} {mv : Nat → Value} {q : Int} (h : RqI W g win st iV sV mV d ov sv mv q) {k : Nat} (hk : k < 4) :
    W.cell? ⟨g, 20 + k * 3 + 2, none⟩ = some (mv k) := by
  rw [hpCell h]
  match k, hk with
  | 0, _ => rfl
  | 1, _ => rfl
  | 2, _ => rfl
  | 3, _ => rfl
theorem RqI.setTst {W : World} {g : Nat} {win : Nat → Int × Int} {st : Int} {iV sV mV : Value} {d : Dv} {ov sv : Value} {mv : Nat → Value} {q : Int} (h : RqI W g win st iV sV mV d ov sv mv q) {k : Nat} (hk : k < 4) (s : Int) :
    RqI (W.setCell ⟨g, 20 + k * 3, none⟩ (.int .i64 s)) g win st iV sV mV (d.tab k { d.ts k with st := s }) ov sv mv q := by
  refine hpSetP h ?_
  match k, hk with
  | 0, _ => rfl
  | 1, _ => rfl
  | 2, _ => rfl
  | 3, _ => rfl
theorem RqI.setTmap {W : World} {g : Nat} {win : Nat → Int × Int} {st : Int} {iV sV mV : Value} {d : Dv} {ov sv : Value} {mv : Nat → Value} {q : Int} (h : RqI W g win st iV sV mV d ov sv mv q) {k : Nat} (hk : k < 4) (l : List (Int × Int)) (u : Value) :
    RqI (W.setCell ⟨g, 20 + k * 3 + 2, none⟩ u) g win st iV sV mV (d.tab k { d.ts k with map := l }) ov sv (fun i => if i = k then u else mv i) q := by
  refine hpSetP h ?_
  match k, hk with
  | 0, _ => rfl
  | 1, _ => rfl
  | 2, _ => rfl
  | 3, _ => rfl
theorem RqI.setStep {W : World} {g : Nat} {win : Nat → Int × Int} {st : Int} {iV sV mV : Value} {d : Dv} {ov sv : Value} {mv : Nat → Value} {q : Int} (h : RqI W g win st iV sV mV d ov sv mv q) (s : Int) : RqI (W.setCell ⟨g, 8, none⟩ (.int .i64 s)) g win s iV sV mV d ov sv mv q := hpSetP h rfl
theorem RqI.setI {W : World} {g : Nat} {win : Nat → Int × Int} {st : Int} {iV sV mV : Value} {d : Dv} {ov sv : Value} {mv : Nat → Value} {q : Int} (h : RqI W g win st iV sV mV d ov sv mv q) (u : Value) : RqI (W.setCell ⟨g, 9, none⟩ u) g win st u sV mV d ov sv mv q := hpSetP h rfl
theorem RqI.setS {W : World} {g : Nat} {win : Nat → Int × Int} {st : Int} {iV sV mV : Value} {d : Dv} {ov sv : Value} {mv : Nat → Value} {q : Int} (h : RqI W g win st iV sV mV d ov sv mv q) (u : Value) : RqI (W.setCell ⟨g, 10, none⟩ u) g win st iV u mV d ov sv mv q := hpSetP h rfl
theorem RqI.setM {W : World} {g : Nat} {win : Nat → Int × Int} {st : Int} {iV sV mV : Value} {d : Dv} {ov sv : Value} {mv : Nat → Value} {q : Int} (h : RqI W g win st iV sV mV d ov sv mv q) (u : Value) : RqI (W.setCell ⟨g, 11, none⟩ u) g win st iV sV u d ov sv mv q := hpSetP h rfl
theorem RqI.setQ {W : World} {g : Nat} {win : Nat → Int × Int} {st : Int} {iV sV mV : Value} {d : Dv} {ov sv : Value} {mv : Nat → Value} {q : Int} (h : RqI W g win st iV sV mV d ov sv mv q) (u : Int) : RqI (W.setCell ⟨g, 33, none⟩ (.int .i64 u)) g win st iV sV mV d ov sv mv u := hpSetP h rfl
theorem RqI.step {W : World} {g : Nat} {win : Nat → Int × Int} {st : Int} {iV sV mV : Value} {d : Dv} {ov sv : Value} {mv : Nat → Value} {q : Int} (h : RqI W g win st iV sV mV d ov sv mv q) : W.cell? ⟨g, 8, none⟩ = some (.int .i64 st) := hpCell h 8

/-- The procedure that runs; what it holds lies in blocks of Q. -/
def RqPh (Q : Nat → Prop) (W0 W : World) (st : Int) (iV sV mV : Value) (pq : Int) : Ph → Prop
  | .test => st = 0
  | .ident x => st = 1 ∧ ∃ b v cs, iV = .pointer (some ⟨b, 0, none⟩) ∧ Q b ∧ (∀ j, v.ownBlock = some j → Q j ∧ j ≠ b) ∧ RiAt W0 W b x v cs
  | .server => st = 2
  | .seek k s => st = 3 + 2 * (k : Int) ∧ k < 4 ∧ ∃ b, sV = .pointer (some ⟨b, 0, none⟩) ∧ Q b ∧ SqAt W b s
  | .map k m => st = 4 + 2 * (k : Int) ∧ k < 4 ∧ ∃ b v q, mV = .pointer (some ⟨b, 0, none⟩) ∧ Q b ∧ (∀ j, v.ownBlock = some j → Q j) ∧ RmAt W0.heap.size W b m v q ∧ 0 ≤ q ∧ q ≤ pq
  | .done => st = 11

def RqSt (P Q : Nat → Prop) (W0 W : World) (g : Nat) (win : Nat → Int × Int) (p : Pb) (st : Int) (iV sV mV ov sv : Value) (mv : Nat → Value) : Prop :=
  (∀ j, Q j → P j ∧ W0.heap.size ≤ j ∧ j ≠ g ∧ j < W.heap.size) ∧ RqI W g win st iV sV mV p.d ov sv mv p.q ∧ RdSt (FQ P Q g) W p.d ov sv mv ∧ RqPh Q W0 W st iV sV mV p.q p.ph
/-- The reference's probe in a state; all that it holds lies in blocks of P, or in the memory of W0. -/
def RqAt (P : Nat → Prop) (W0 W : World) (g : Nat) (win : Nat → Int × Int) (p : Pb) : Prop :=
  (P g ∧ W0.heap.size ≤ g ∧ ∀ j, j < W0.heap.size → P j) ∧ Below W0.heap.size W0 W ∧ ∃ (Q : Nat → Prop) (st : Int) (iV sV mV ov sv : Value) (mv : Nat → Value), RqSt P Q W0 W g win p st iV sV mV ov sv mv

theorem RiAt.keeps {W0 W W' : World} {b : Nat} {x : Idn} {v : Value} {cs : List Value} {F : Nat → Prop} (h : RiAt W0 W b x v cs) (hk : Keeps F W W') (h1 : ¬ F b) (h2 : ∀ j, v.ownBlock = some j → ¬ F j) : RiAt W0 W' b x v cs :=
  ⟨hpKeeps h.at_ hk h1, own_keeps h.own hk h2, h.obs⟩
theorem RmAt.keeps {B : Nat} {W W' : World} {b : Nat} {m : Mp} {v : Value} {q : Int} {F : Nat → Prop} (h : RmAt B W b m v q) (hk : Keeps F W W') (h1 : ¬ F b) (h2 : ∀ j, v.ownBlock = some j → ¬ F j) : RmAt B W' b m v q :=
  ⟨hpKeeps h.at_ hk h1, own_keeps h.own hk h2, h.ne⟩
theorem RqPh.keeps {Q F : Nat → Prop} {W0 W W' : World} {st : Int} {iV sV mV : Value} {pq : Int} {ph : Ph} (h : RqPh Q W0 W st iV sV mV pq ph) (hk : Keeps F W W') (hQ : ∀ j, Q j → ¬ F j) : RqPh Q W0 W' st iV sV mV pq ph := by
  cases ph with
  | test => exact h
  | ident x => obtain ⟨h0, b, v, cs, h1, h2, h3, h4⟩ := h; exact ⟨h0, b, v, cs, h1, h2, h3, h4.keeps hk (hQ b h2) (fun j hj => hQ j (h3 j hj).1)⟩
  | server => exact h
  | seek k s => obtain ⟨h0, hk4, b, h1, h2, h3⟩ := h; exact ⟨h0, hk4, b, h1, h2, hpKeeps h3 hk (hQ b h2)⟩
  | map k m => obtain ⟨h0, hk4, b, v, q, h1, h2, h3, h4, h5⟩ := h; exact ⟨h0, hk4, b, v, q, h1, h2, h3, h4.keeps hk (hQ b h2) (fun j hj => hQ j (h3 j hj)), h5⟩
  | done => exact h
theorem RqAt.keep {P F : Nat → Prop} {W0 W W' : World} {g : Nat} {win : Nat → Int × Int} {p : Pb} (h : RqAt P W0 W g win p) (hk : Keeps F W W') (hF : ∀ j, j < W.heap.size → F j → ¬ P j) : RqAt P W0 W' g win p := by
  obtain ⟨⟨hP, hg, hl⟩, hb, Q, st, iV, sV, mV, ov, sv, mv, hQ, hi, hd, hp⟩ := h
  have hs := hk.size
  have hgl : g < W.heap.size := hpLt hi
  refine ⟨⟨hP, hg, hl⟩, hb.trans (hk.below hb.size (fun j hj e => hF j (by have := hb.size; omega) e (hl j hj))), Q, st, iV, sV, mV, ov, sv, mv, fun j hj => ⟨(hQ j hj).1, (hQ j hj).2.1, (hQ j hj).2.2.1, by have := (hQ j hj).2.2.2; omega⟩, hpKeeps hi hk (fun e => hF g hgl e hP), ?_, ?_⟩
  · exact hd.keeps hk (fun j hj e => .inl (hF j hj e)) (fun j _ e => e)
  · exact hp.keeps hk (fun j hj e => hF j (hQ j hj).2.2.2 e (hQ j hj).1)

set_option maxRecDepth 100000 in
set_option maxHeartbeats 3200000 in
theorem rpnext_own (w : World) (g : Nat) {win : Nat → Int × Int} {st : Int} {iV sV mV : Value} {d : Dv} {ov sv : Value} {mv : Nat → Value} {q : Int} (h : RqI w g win st iV sV mV d ov sv mv q) (Q : Rq) (V : Bool) (he : (st = 0 ∧ Q = rqT ∧ V = true) ∨ (st = 2 ∧ Q = rqS ∧ V = true) ∨ (st = 11 ∧ Q = ⟨0, 0, 0, 0, 0⟩ ∧ V = false)) :
    Calls Tryz.prog 51 #[.pointer (some ⟨g, 0, none⟩)] w (AskPost w Q V) := by
  obtain ⟨W0, hW0⟩ : ∃ W, w.alloc (.cells #[.int .i64 0, .int .i64 0, .int .i64 0, .int .i64 0, .int .i64 0] 39) = W := ⟨_, rfl⟩; have hb0 : Below w.heap.size w W0 := (by rw [← hW0]; exact bal' w _); have p0 : W0.heap[w.heap.size]? = some (.cells #[.int .i64 0, .int .i64 0, .int .i64 0, .int .i64 0, .int .i64 0] 39) := (by rw [← hW0]; exact hpNew w _); have h0 := h.keep hb0; have c8 := h0.step; have z : ∀ X, Below W0.heap.size W0 X → ∀ i, X.cell? ⟨w.heap.size, i, none⟩ = (#[.int .i64 0, .int .i64 0, .int .i64 0, .int .i64 0, .int .i64 0] : Array Value)[i]? := (fun X k i => hpCell (hpKeep p0 k) i); have y : ∀ X, Below W0.heap.size W0 X → ∀ i, X.frozen? ⟨w.heap.size, i, none⟩ = false := (fun X k i => hpFree (hpKeep p0 k) i)
  have HW0 := hid hW0; have HB0 := hid hb0; have Z := hid z; have Y := hid y; clear hW0 hb0 p0 h h0 z y
  have z0 : (W0).cell? ⟨w.heap.size, 0, none⟩ = some (.int .i64 0) := Z.out _ (Below.refl _ _) 0; have z1 : (W0).cell? ⟨w.heap.size, 1, none⟩ = some (.int .i64 0) := Z.out _ (Below.refl _ _) 1; have z2 : (W0).cell? ⟨w.heap.size, 2, none⟩ = some (.int .i64 0) := Z.out _ (Below.refl _ _) 2; have z3 : (W0).cell? ⟨w.heap.size, 3, none⟩ = some (.int .i64 0) := Z.out _ (Below.refl _ _) 3; have z4 : (W0).cell? ⟨w.heap.size, 4, none⟩ = some (.int .i64 0) := Z.out _ (Below.refl _ _) 4; have y0 := Y.out _ (Below.refl _ _) 0; have y1 := Y.out _ (Below.refl _ _) 1; have y2 := Y.out _ (Below.refl _ _) 2; have y3 := Y.out _ (Below.refl _ _) 3; have y4 := Y.out _ (Below.refl _ _) 4
  rcases he with ⟨rfl, rfl, rfl⟩ | ⟨rfl, rfl, rfl⟩ | ⟨rfl, rfl, rfl⟩
  · go_enter Tryz.func51, Tryz.ntmps51
    go_upto_region 1 with (fail)
    rw [HW0.out]
    go_wp2
    refine bodyPost_ret (v := .tuple #[.agg #[.int .i64 3, .int .i64 0, .int .i64 1, .int .i64 0, .int .i64 0], .bool true]) (by simp [results, Tryz.results51, go_sem, z0, z1, z2, z3, z4]) rfl ⟨rfl, ?_⟩
    exact (((((bt HB0.out (Below.refl _ _) (Nat.le_refl _)).setCell (p := ⟨w.heap.size, 0, none⟩) (Nat.le_refl _) _).setCell (p := ⟨w.heap.size, 1, none⟩) (Nat.le_refl _) _).setCell (p := ⟨w.heap.size, 2, none⟩) (Nat.le_refl _) _).setCell (p := ⟨w.heap.size, 3, none⟩) (Nat.le_refl _) _).setCell (p := ⟨w.heap.size, 4, none⟩) (Nat.le_refl _) _
  · go_enter Tryz.func51, Tryz.ntmps51
    go_upto_region 1 with (fail)
    rw [HW0.out]
    go_wp2
    refine bodyPost_ret (v := .tuple #[.agg #[.int .i64 17, .int .i64 0, .int .i64 0, .int .i64 0, .int .i64 0], .bool true]) (by simp [results, Tryz.results51, go_sem, z0, z1, z2, z3, z4]) rfl ⟨rfl, ?_⟩
    exact (((((bt HB0.out (Below.refl _ _) (Nat.le_refl _)).setCell (p := ⟨w.heap.size, 0, none⟩) (Nat.le_refl _) _).setCell (p := ⟨w.heap.size, 1, none⟩) (Nat.le_refl _) _).setCell (p := ⟨w.heap.size, 2, none⟩) (Nat.le_refl _) _).setCell (p := ⟨w.heap.size, 3, none⟩) (Nat.le_refl _) _).setCell (p := ⟨w.heap.size, 4, none⟩) (Nat.le_refl _) _
  · go_enter Tryz.func51, Tryz.ntmps51
    go_upto_region 1 with (fail)
    rw [HW0.out]
    go_wp2
    refine bodyPost_ret (v := .tuple #[.agg #[.int .i64 0, .int .i64 0, .int .i64 0, .int .i64 0, .int .i64 0], .bool false]) (by simp [results, Tryz.results51, go_sem, z0, z1, z2, z3, z4]) rfl ⟨rfl, ?_⟩
    exact (((((bt HB0.out (Below.refl _ _) (Nat.le_refl _)).setCell (p := ⟨w.heap.size, 0, none⟩) (Nat.le_refl _) _).setCell (p := ⟨w.heap.size, 1, none⟩) (Nat.le_refl _) _).setCell (p := ⟨w.heap.size, 2, none⟩) (Nat.le_refl _) _).setCell (p := ⟨w.heap.size, 3, none⟩) (Nat.le_refl _) _).setCell (p := ⟨w.heap.size, 4, none⟩) (Nat.le_refl _) _

set_option maxRecDepth 100000 in
set_option maxHeartbeats 3200000 in
theorem rpnext_i (w : World) (g b : Nat) {win : Nat → Int × Int} {st : Int} {iV sV mV : Value} {d : Dv} {ov sv : Value} {mv : Nat → Value} {q : Int} (h : RqI w g win st iV sV mV d ov sv mv q) (Q : Rq) (V : Bool) (hst : st = 1) (hi : iV = .pointer (some ⟨b, 0, none⟩)) (HN : Hid (∀ X, Below w.heap.size w X → Calls Tryz.prog 87 #[.pointer (some ⟨b, 0, none⟩)] X (AskPost X Q V))) :
    Calls Tryz.prog 51 #[.pointer (some ⟨g, 0, none⟩)] w (AskPost w Q V) := by
  subst hst hi
  obtain ⟨W0, hW0⟩ : ∃ W, w.alloc (.cells #[.int .i64 0, .int .i64 0, .int .i64 0, .int .i64 0, .int .i64 0] 39) = W := ⟨_, rfl⟩; have hb0 : Below w.heap.size w W0 := (by rw [← hW0]; exact bal' w _); have p0 : W0.heap[w.heap.size]? = some (.cells #[.int .i64 0, .int .i64 0, .int .i64 0, .int .i64 0, .int .i64 0] 39) := (by rw [← hW0]; exact hpNew w _); have h0 := h.keep hb0; have c8 := h0.step; have z : ∀ X, Below W0.heap.size W0 X → ∀ i, X.cell? ⟨w.heap.size, i, none⟩ = (#[.int .i64 0, .int .i64 0, .int .i64 0, .int .i64 0, .int .i64 0] : Array Value)[i]? := (fun X k i => hpCell (hpKeep p0 k) i); have y : ∀ X, Below W0.heap.size W0 X → ∀ i, X.frozen? ⟨w.heap.size, i, none⟩ = false := (fun X k i => hpFree (hpKeep p0 k) i)
  have c9 : W0.cell? ⟨g, 9, none⟩ = some (.pointer (some ⟨b, 0, none⟩)) := hpCell h0 9
  have HN1 := hid (HN.out W0 hb0)
  clear HN
  have HW0 := hid hW0; have HB0 := hid hb0; have Z := hid z; have Y := hid y; clear hW0 hb0 p0 h h0 z y
  go_enter Tryz.func51, Tryz.ntmps51
  go_upto_region 1 with (fail)
  rw [HW0.out]
  go_wp2_with (go_at_call 87; (with_reducible refine HN1.out.mono ?_); rintro r w2 ⟨rfl, hb2⟩; have z0 : (w2).cell? ⟨w.heap.size, 0, none⟩ = some (.int .i64 0) := Z.out _ hb2 0; have z1 : (w2).cell? ⟨w.heap.size, 1, none⟩ = some (.int .i64 0) := Z.out _ hb2 1; have z2 : (w2).cell? ⟨w.heap.size, 2, none⟩ = some (.int .i64 0) := Z.out _ hb2 2; have z3 : (w2).cell? ⟨w.heap.size, 3, none⟩ = some (.int .i64 0) := Z.out _ hb2 3; have z4 : (w2).cell? ⟨w.heap.size, 4, none⟩ = some (.int .i64 0) := Z.out _ hb2 4; have y0 := Y.out _ hb2 0; have y1 := Y.out _ hb2 1; have y2 := Y.out _ hb2 2; have y3 := Y.out _ hb2 3; have y4 := Y.out _ hb2 4)
  refine bodyPost_ret (v := .tuple #[.agg #[.int .i64 Q.fn, .int .i64 Q.addr, .int .i64 Q.qty, .int .i64 Q.code, .int .i64 Q.obj], .bool V]) (by simp [results, Tryz.results51, go_sem, z0, z1, z2, z3, z4]) rfl ⟨rfl, ?_⟩
  exact (((((bt HB0.out hb2 (Nat.le_refl _)).setCell (p := ⟨w.heap.size, 0, none⟩) (Nat.le_refl _) _).setCell (p := ⟨w.heap.size, 1, none⟩) (Nat.le_refl _) _).setCell (p := ⟨w.heap.size, 2, none⟩) (Nat.le_refl _) _).setCell (p := ⟨w.heap.size, 3, none⟩) (Nat.le_refl _) _).setCell (p := ⟨w.heap.size, 4, none⟩) (Nat.le_refl _) _
set_option maxRecDepth 100000 in
set_option maxHeartbeats 3200000 in
theorem rpnext_s (w : World) (g b k : Nat) (hk : k < 4) {win : Nat → Int × Int} {st : Int} {iV sV mV : Value} {d : Dv} {ov sv : Value} {mv : Nat → Value} {q : Int} (h : RqI w g win st iV sV mV d ov sv mv q) (Q : Rq) (V : Bool) (hst : st = 3 + 2 * (k : Int)) (hi : sV = .pointer (some ⟨b, 0, none⟩)) (HN : Hid (∀ X, Below w.heap.size w X → Calls Tryz.prog 88 #[.pointer (some ⟨b, 0, none⟩)] X (AskPost X Q V))) :
    Calls Tryz.prog 51 #[.pointer (some ⟨g, 0, none⟩)] w (AskPost w Q V) := by
  subst hi
  obtain ⟨W0, hW0⟩ : ∃ W, w.alloc (.cells #[.int .i64 0, .int .i64 0, .int .i64 0, .int .i64 0, .int .i64 0] 39) = W := ⟨_, rfl⟩; have hb0 : Below w.heap.size w W0 := (by rw [← hW0]; exact bal' w _); have p0 : W0.heap[w.heap.size]? = some (.cells #[.int .i64 0, .int .i64 0, .int .i64 0, .int .i64 0, .int .i64 0] 39) := (by rw [← hW0]; exact hpNew w _); have h0 := h.keep hb0; have c8 := h0.step; have z : ∀ X, Below W0.heap.size W0 X → ∀ i, X.cell? ⟨w.heap.size, i, none⟩ = (#[.int .i64 0, .int .i64 0, .int .i64 0, .int .i64 0, .int .i64 0] : Array Value)[i]? := (fun X k i => hpCell (hpKeep p0 k) i); have y : ∀ X, Below W0.heap.size W0 X → ∀ i, X.frozen? ⟨w.heap.size, i, none⟩ = false := (fun X k i => hpFree (hpKeep p0 k) i)
  have c10 : W0.cell? ⟨g, 10, none⟩ = some (.pointer (some ⟨b, 0, none⟩)) := hpCell h0 10
  have HN1 := hid (HN.out W0 hb0)
  have d0 : (st == 0) = false := b0 (by omega)
  have d1 : (st == 1) = false := b0 (by omega)
  have d2 : (st == 2) = false := b0 (by omega)
  have d11 : (st == 11) = false := b0 (by omega)
  obtain ⟨T, hT⟩ : ∃ T, st - 3 = T := ⟨_, rfl⟩
  have sw : IntKind.i64.wrap (st - 3) = T := by rw [IntWalk.i64_in _ (by omega)]; exact hT
  have sm : (T.tmod 2 == 0) = true := b1 (by rw [Int.tmod_eq_emod_of_nonneg (by omega)]; omega)
  clear HN hT hst
  have HW0 := hid hW0; have HB0 := hid hb0; have Z := hid z; have Y := hid y; clear hW0 hb0 p0 h h0 z y
  go_enter Tryz.func51, Tryz.ntmps51
  go_upto_region 1 with (fail)
  rw [HW0.out]
  go_wp2_with (go_at_call 88; (with_reducible refine HN1.out.mono ?_); rintro r w2 ⟨rfl, hb2⟩; have z0 : (w2).cell? ⟨w.heap.size, 0, none⟩ = some (.int .i64 0) := Z.out _ hb2 0; have z1 : (w2).cell? ⟨w.heap.size, 1, none⟩ = some (.int .i64 0) := Z.out _ hb2 1; have z2 : (w2).cell? ⟨w.heap.size, 2, none⟩ = some (.int .i64 0) := Z.out _ hb2 2; have z3 : (w2).cell? ⟨w.heap.size, 3, none⟩ = some (.int .i64 0) := Z.out _ hb2 3; have z4 : (w2).cell? ⟨w.heap.size, 4, none⟩ = some (.int .i64 0) := Z.out _ hb2 4; have y0 := Y.out _ hb2 0; have y1 := Y.out _ hb2 1; have y2 := Y.out _ hb2 2; have y3 := Y.out _ hb2 3; have y4 := Y.out _ hb2 4)
  refine bodyPost_ret (v := .tuple #[.agg #[.int .i64 Q.fn, .int .i64 Q.addr, .int .i64 Q.qty, .int .i64 Q.code, .int .i64 Q.obj], .bool V]) (by simp [results, Tryz.results51, go_sem, z0, z1, z2, z3, z4]) rfl ⟨rfl, ?_⟩
  exact (((((bt HB0.out hb2 (Nat.le_refl _)).setCell (p := ⟨w.heap.size, 0, none⟩) (Nat.le_refl _) _).setCell (p := ⟨w.heap.size, 1, none⟩) (Nat.le_refl _) _).setCell (p := ⟨w.heap.size, 2, none⟩) (Nat.le_refl _) _).setCell (p := ⟨w.heap.size, 3, none⟩) (Nat.le_refl _) _).setCell (p := ⟨w.heap.size, 4, none⟩) (Nat.le_refl _) _
set_option maxRecDepth 100000 in
set_option maxHeartbeats 3200000 in
theorem rpnext_m (w : World) (g b k : Nat) (hk : k < 4) {win : Nat → Int × Int} {st : Int} {iV sV mV : Value} {d : Dv} {ov sv : Value} {mv : Nat → Value} {q : Int} (h : RqI w g win st iV sV mV d ov sv mv q) (Q : Rq) (V : Bool) (hst : st = 4 + 2 * (k : Int)) (hi : mV = .pointer (some ⟨b, 0, none⟩)) (HN : Hid (∀ X, Below w.heap.size w X → Calls Tryz.prog 89 #[.pointer (some ⟨b, 0, none⟩)] X (AskPost X Q V))) :
    Calls Tryz.prog 51 #[.pointer (some ⟨g, 0, none⟩)] w (AskPost w Q V) := by
  subst hi
  obtain ⟨W0, hW0⟩ : ∃ W, w.alloc (.cells #[.int .i64 0, .int .i64 0, .int .i64 0, .int .i64 0, .int .i64 0] 39) = W := ⟨_, rfl⟩; have hb0 : Below w.heap.size w W0 := (by rw [← hW0]; exact bal' w _); have p0 : W0.heap[w.heap.size]? = some (.cells #[.int .i64 0, .int .i64 0, .int .i64 0, .int .i64 0, .int .i64 0] 39) := (by rw [← hW0]; exact hpNew w _); have h0 := h.keep hb0; have c8 := h0.step; have z : ∀ X, Below W0.heap.size W0 X → ∀ i, X.cell? ⟨w.heap.size, i, none⟩ = (#[.int .i64 0, .int .i64 0, .int .i64 0, .int .i64 0, .int .i64 0] : Array Value)[i]? := (fun X k i => hpCell (hpKeep p0 k) i); have y : ∀ X, Below W0.heap.size W0 X → ∀ i, X.frozen? ⟨w.heap.size, i, none⟩ = false := (fun X k i => hpFree (hpKeep p0 k) i)
  have c11 : W0.cell? ⟨g, 11, none⟩ = some (.pointer (some ⟨b, 0, none⟩)) := hpCell h0 11
  have HN1 := hid (HN.out W0 hb0)
  have d0 : (st == 0) = false := b0 (by omega)
  have d1 : (st == 1) = false := b0 (by omega)
  have d2 : (st == 2) = false := b0 (by omega)
  have d11 : (st == 11) = false := b0 (by omega)
  obtain ⟨T, hT⟩ : ∃ T, st - 3 = T := ⟨_, rfl⟩
  have sw : IntKind.i64.wrap (st - 3) = T := by rw [IntWalk.i64_in _ (by omega)]; exact hT
  have sm : (T.tmod 2 == 0) = false := b0 (by rw [Int.tmod_eq_emod_of_nonneg (by omega)]; omega)
  clear HN hT hst
  have HW0 := hid hW0; have HB0 := hid hb0; have Z := hid z; have Y := hid y; clear hW0 hb0 p0 h h0 z y
  go_enter Tryz.func51, Tryz.ntmps51
  go_upto_region 1 with (fail)
  rw [HW0.out]
  go_wp2_with (go_at_call 89; (with_reducible refine HN1.out.mono ?_); rintro r w2 ⟨rfl, hb2⟩; have z0 : (w2).cell? ⟨w.heap.size, 0, none⟩ = some (.int .i64 0) := Z.out _ hb2 0; have z1 : (w2).cell? ⟨w.heap.size, 1, none⟩ = some (.int .i64 0) := Z.out _ hb2 1; have z2 : (w2).cell? ⟨w.heap.size, 2, none⟩ = some (.int .i64 0) := Z.out _ hb2 2; have z3 : (w2).cell? ⟨w.heap.size, 3, none⟩ = some (.int .i64 0) := Z.out _ hb2 3; have z4 : (w2).cell? ⟨w.heap.size, 4, none⟩ = some (.int .i64 0) := Z.out _ hb2 4; have y0 := Y.out _ hb2 0; have y1 := Y.out _ hb2 1; have y2 := Y.out _ hb2 2; have y3 := Y.out _ hb2 3; have y4 := Y.out _ hb2 4)
  refine bodyPost_ret (v := .tuple #[.agg #[.int .i64 Q.fn, .int .i64 Q.addr, .int .i64 Q.qty, .int .i64 Q.code, .int .i64 Q.obj], .bool V]) (by simp [results, Tryz.results51, go_sem, z0, z1, z2, z3, z4]) rfl ⟨rfl, ?_⟩
  exact (((((bt HB0.out hb2 (Nat.le_refl _)).setCell (p := ⟨w.heap.size, 0, none⟩) (Nat.le_refl _) _).setCell (p := ⟨w.heap.size, 1, none⟩) (Nat.le_refl _) _).setCell (p := ⟨w.heap.size, 2, none⟩) (Nat.le_refl _) _).setCell (p := ⟨w.heap.size, 3, none⟩) (Nat.le_refl _) _).setCell (p := ⟨w.heap.size, 4, none⟩) (Nat.le_refl _) _

theorem rpnext_any {P : Nat → Prop} {W0 w : World} {g : Nat} {win : Nat → Int × Int} {p : Pb} (h : RqAt P W0 w g win p) (hok : p.ph.ok win) (Q : Rq) (V : Bool) (hQ : Hid (p.ph.ask = Q)) (hV : Hid ((!p.ph.isDone) = V)) :
    Calls Tryz.prog 51 #[.pointer (some ⟨g, 0, none⟩)] w (AskPost w Q V) := by
  obtain ⟨-, -, Qs, st, iV, sV, mV, ov, sv, mv, -, hi, -, hp⟩ := h
  obtain ⟨ph, d, q⟩ := p
  have hq := hQ.out
  have hv := hV.out
  cases ph with
  | test => exact rpnext_own w g hi Q V (.inl ⟨hp, hq.symm, hv.symm⟩)
  | server => exact rpnext_own w g hi Q V (.inr (.inl ⟨hp, hq.symm, hv.symm⟩))
  | done => exact rpnext_own w g hi Q V (.inr (.inr ⟨hp, hq.symm, hv.symm⟩))
  | ident x =>
    obtain ⟨h0, b, v, cs, h1, h2, h3, h4⟩ := hp
    refine rpnext_i w g b hi Q V h0 h1 (fun X hX => rinext_any b _ _ _ _ _ X (hpKeep h4.at_ hX) Q V ?_ ?_)
    · show _ = _
      rw [← hv, decide_eq_true hok.2]
      rfl
    · show _ = _
      rw [← hq, if_pos hok.2]
      rfl
  | seek k s =>
    obtain ⟨h0, hk4, b, h1, h2, h3⟩ := hp
    obtain ⟨_, _, hg, hs0, _⟩ := hok
    refine rpnext_s w g b k hk4 hi Q V h0 h1 (fun X hX => ?_)
    have := rsnext_any b s hg.ok X (h3.keep hX)
    rw [decide_eq_true hs0] at this
    rw [← hq, ← hv]
    exact this
  | map k m =>
    obtain ⟨h0, hk4, b, v, q', h1, h2, h3, h4, h5⟩ := hp
    obtain ⟨_, hm, hr⟩ := hok
    refine rpnext_m w g b k hk4 hi Q V h0 h1 (fun X hX => rmnext_any (h4.keep hX) hm Q V hq.symm ?_)
    show _ = _
    rw [← hv, decide_eq_false hr]
    rfl

end Go.Proofs.YtipnamoocemeeaaGreat

/-
The reference's probe: to, in every case.
-/
namespace Go.Proofs.YtipnamoocemeeaaGreat
open Go.RowKit

set_option maxRecDepth 100000 in
set_option maxHeartbeats 3200000 in
theorem rto_one (w : World) (g : Nat) {win : Nat → Int × Int} {st : Int} {iV sV mV : Value} {d : Dv} {ov sv : Value} {mv : Nat → Value} {q : Int} (h : RqI w g win st iV sV mV d ov sv mv q) :
    Calls Tryz.prog 93 #[.pointer (some ⟨g, 0, none⟩), .int .i64 1] w fun r w' => r = .returned (.tuple #[]) ∧ ∃ b : Nat, w.heap.size ≤ b ∧ b < w'.heap.size ∧ RqI w' g win 1 (.pointer (some ⟨b, 0, none⟩)) sV mV d ov sv mv q ∧ RiC w' b 0 0 (.slice none 0 0) 0 0 ∧ Keeps (· = g) w w' := by
  have c8 := h.step
  have f8 : w.frozen? ⟨g, 8, none⟩ = false := hpFree h 8
  have c9 : w.cell? ⟨g, 9, none⟩ = some iV := hpCell h 9
  have f9 : w.frozen? ⟨g, 9, none⟩ = false := hpFree h 9
  have H := hid h
  have hgl : g < w.heap.size := hpLt h
  clear h
  go_enter Tryz.func93, Tryz.ntmps93
  go_upto_region 3 with (fail)
  obtain ⟨W2, hW2⟩ : ∃ W, ((w.setCell ⟨g, 8, none⟩ (.int .i64 1)).setCell ⟨g, 9, none⟩ (.pointer (some ⟨w.heap.size, 0, none⟩))).alloc (.cells #[.int .i64 0, .int .i64 0, .slice none 0 0, .int .i64 0, .int .i64 0] 159) = W := ⟨_, rfl⟩
  have hHH : RqI W2 g win 1 (.pointer (some ⟨w.heap.size, 0, none⟩)) sV mV d ov sv mv q ∧ RiC W2 w.heap.size 0 0 (.slice none 0 0) 0 0 ∧ Keeps (· = g) w W2 ∧ w.heap.size < W2.heap.size := by
    rw [← hW2]
    have hz : ((w.setCell ⟨g, 8, none⟩ (.int .i64 1)).setCell ⟨g, 9, none⟩ (.pointer (some ⟨w.heap.size, 0, none⟩))).heap.size = w.heap.size := by simp
    refine ⟨((H.out.setStep 1).setI _).keep (bal' _ _), ?_, (ks1 (ks1 (Keeps.refl _ _) _ _) _ _).trans (Keeps.of_below (F := fun _ => False) (bal' _ _)) (fun _ _ e => e.elim), by simp⟩
    have := hpNew ((w.setCell ⟨g, 8, none⟩ (.int .i64 1)).setCell ⟨g, 9, none⟩ (.pointer (some ⟨w.heap.size, 0, none⟩))) (.cells #[.int .i64 0, .int .i64 0, .slice none 0 0, .int .i64 0, .int .i64 0] 159)
    rw [hz] at this
    exact this
  have HH := hid hHH
  have HW2 := hid hW2
  clear hW2 hHH c8 f8 c9 f9 H
  rw [HW2.out]
  go_loopw [4] (fun s4 wr => W2 = wr) (fun _ _ => 0)
  case atStart => rfl
  case round =>
    subst hrel
    have c8 := HH.out.1.step
    go_wp2
    go_end0
    exact ⟨rfl, w.heap.size, Nat.le_refl _, HH.out.2.2.2, HH.out.1, HH.out.2.1, HH.out.2.2.1⟩

set_option maxRecDepth 100000 in
set_option maxHeartbeats 3200000 in
theorem rto_two (w : World) (g : Nat) {win : Nat → Int × Int} {st : Int} {iV sV mV : Value} {d : Dv} {ov sv : Value} {mv : Nat → Value} {q : Int} (h : RqI w g win st iV sV mV d ov sv mv q) :
    Calls Tryz.prog 93 #[.pointer (some ⟨g, 0, none⟩), .int .i64 2] w fun r w' => r = .returned (.tuple #[]) ∧ RqI w' g win 2 iV sV mV d ov sv mv q ∧ Keeps (· = g) w w' := by
  have c8 := h.step
  have f8 : w.frozen? ⟨g, 8, none⟩ = false := hpFree h 8
  obtain ⟨W2, hW2⟩ : ∃ W, w.setCell ⟨g, 8, none⟩ (.int .i64 2) = W := ⟨_, rfl⟩
  have HH : Hid (RqI W2 g win 2 iV sV mV d ov sv mv q ∧ Keeps (· = g) w W2) := by
    show _ ∧ _
    rw [← hW2]
    exact ⟨h.setStep 2, ks1 (Keeps.refl _ _) _ _⟩
  have HW2 := hid hW2
  clear h hW2
  go_enter Tryz.func93, Tryz.ntmps93
  go_upto_region 3 with (fail)
  rw [HW2.out]
  clear c8 f8
  go_loopw [4] (fun s4 wr => W2 = wr) (fun _ _ => 0)
  case atStart => rfl
  case round =>
    subst hrel
    have c8 := HH.out.1.step
    go_wp2
    go_end0
    exact ⟨rfl, HH.out.1, HH.out.2⟩

/-- Where a probe of the reference goes on. -/
def RqNx (w w' : World) (ph : Ph) (st : Int) (sV : Value) : Prop :=
  match ph with
  | .seek k s => st = 3 + 2 * (k : Int) ∧ k < 4 ∧ ∃ b : Nat, sV = .pointer (some ⟨b, 0, none⟩) ∧ w.heap.size ≤ b ∧ b < w'.heap.size ∧ SqAt w' b s
  | .done => st = 11
  | _ => False

set_option maxRecDepth 100000 in
set_option maxHeartbeats 6400000 in
theorem rto_tab (w : World) (g : Nat) {win : Nat → Int × Int} {st : Int} {iV sV mV : Value} {d : Dv} {ov sv : Value} {mv : Nat → Value} {q : Int} (h : RqI w g win st iV sV mV d ov sv mv q) (hw : WinOk win) (k0 : Nat) (hk0 : k0 ≤ 4) (S0 : Int) (hS0 : S0 = 3 + 2 * (k0 : Int)) (ph : Ph) (d' : Dv) (hm : Hid (meas win (4 - k0) d = (ph, d'))) :
    Calls Tryz.prog 93 #[.pointer (some ⟨g, 0, none⟩), .int .i64 S0] w fun r w' => r = .returned (.tuple #[]) ∧ (∃ st' sV', RqI w' g win st' iV sV' mV d' ov sv mv q ∧ RqNx w w' ph st' sV') ∧ Keeps (· = g) w w' := by
  have c8 := h.step
  have f8 : w.frozen? ⟨g, 8, none⟩ = false := hpFree h 8
  have hgl : g < w.heap.size := hpLt h
  obtain ⟨W1, hW1⟩ : ∃ W, w.setCell ⟨g, 8, none⟩ (.int .i64 S0) = W := ⟨_, rfl⟩
  have H1 : Hid (RqI W1 g win S0 iV sV mV d ov sv mv q) := by show RqI _ _ _ _ _ _ _ _ _ _ _ _; rw [← hW1]; exact h.setStep S0
  have K1 : Hid (Keeps (· = g) w W1) := by show Keeps _ _ _; rw [← hW1]; exact ks1 (Keeps.refl _ _) _ _
  have d1 : (S0 == 1) = false := b0 (by omega)
  have HS0 := hid hS0
  have HW1 := hid hW1
  have HWO := hid hw
  clear h hS0 hW1 hw
  go_enter Tryz.func93, Tryz.ntmps93
  go_upto_region 3 with (fail)
  rw [HW1.out]
  clear c8 f8
  go_loopw [4] (fun s4 wr => ∃ (k : Nat) (S : Int) (d1 : Dv), k ≤ 4 ∧ Hid (S = 3 + 2 * (k : Int)) ∧ Hid (meas win (4 - k) d1 = (ph, d')) ∧ wr.cell? ⟨g, 8, none⟩ = some (.int .i64 S) ∧ Hid (RqI wr g win S iV sV mV d1 ov sv mv q) ∧ Hid (Keeps (· = g) w wr)) (fun _ wr => 20 - (intOf ((wr.cell? ⟨g, 8, none⟩).getD (.int .i64 0))).toNat)
  case atStart => exact ⟨k0, S0, d, hk0, HS0.out, hm, H1.out.step, H1.out, K1.out⟩
  case round =>
    obtain ⟨k, S, d1, hk, hSk, hme, c8, hri, hkp⟩ := hrel
    have f8 : wr.frozen? ⟨g, 8, none⟩ = false := hpFree hri.out 8
    have hki : (0 : Int) ≤ (k : Int) := Int.natCast_nonneg _
    have e3 : 3 ≤ S := by have := hSk.out; omega
    by_cases hlt : k < 4
    · have e11 : S < 11 := by have := hSk.out; omega
      obtain ⟨T, hT⟩ : ∃ T, S - 3 = T := ⟨_, rfl⟩
      have sw : IntKind.i64.wrap (S - 3) = T := by rw [IntWalk.i64_in _ (by omega)]; exact hT
      have sq : IntKind.i64.wrap (T.tdiv 2) = (k : Int) := by
        have := hSk.out
        rw [Int.tdiv_eq_ediv_of_nonneg (by omega), IntWalk.i64_in _ (by omega)]
        omega
      have hkl : (k : Int) < 4 := by omega
      have hc : wr.cell? ⟨g, k * 2 + 1, none⟩ = some (.int .i64 (win k).2) := hri.out.count hlt
      have hwk := HWO.out k hlt
      by_cases hz : (win k).2 = 0
      · have dz : ¬ 0 < (win k).2 := by omega
        have HME : Hid (meas win (4 - (k + 1)) (d1.tab k { d1.ts k with st := 6 }) = (ph, d')) := by show _ = _; rw [← meas_skip hlt hz]; exact hme.out
        obtain ⟨S2, hS2⟩ : ∃ T, S + 2 = T := ⟨_, rfl⟩
        have sw2 : IntKind.i64.wrap (S + 2) = S2 := by rw [IntWalk.i64_in _ (by omega)]; exact hS2
        have HS2 : Hid (S2 = 3 + 2 * ((k + 1 : Nat) : Int)) := by show _ = _; have := hSk.out; omega
        have c2 : wr.cell? ⟨g, 20 + k * 3, none⟩ = some (.int .i64 (d1.ts k).st) := hri.out.tst hlt
        have f2 : wr.frozen? ⟨g, 20 + k * 3, none⟩ = false := hpFree hri.out _
        have H2 : Hid (RqI ((wr.setCell ⟨g, 20 + k * 3, none⟩ (.int .i64 6)).setCell ⟨g, 8, none⟩ (.int .i64 S2)) g win S2 iV sV mV (d1.tab k { d1.ts k with st := 6 }) ov sv mv q) := (hri.out.setTst hlt 6).setStep S2
        have K2 : Hid (Keeps (· = g) w ((wr.setCell ⟨g, 20 + k * 3, none⟩ (.int .i64 6)).setCell ⟨g, 8, none⟩ (.int .i64 S2))) := ks1 (ks1 hkp.out _ _) _ _
        have hke : (k : Int) + 0 = k := by omega
        clear hz hme hT hS2 hwk
        go_wp2
        go_roundw
        case rel => exact ⟨k + 1, S2, d1.tab k { d1.ts k with st := 6 }, by omega, HS2.out, HME.out, H2.out.step, H2.out, K2.out⟩
        case measure =>
          rw [H2.out.step, c8]
          simp [intOf]
          have := HS2.out
          have := hSk.out
          omega
      · have dz : 0 < (win k).2 := by omega
        have sk : IntKind.i64.wrap ((k : Int) + 1) = (k : Int) + 1 := IntWalk.i64_in _ (by omega)
        have HME : Hid (ph = .seek k (Sr.new ((k : Int) + 1)) ∧ d' = d1) := by
          have h := hme.out
          rw [meas_go hlt hz] at h
          exact ⟨(Prod.mk.inj h).1.symm, (Prod.mk.inj h).2.symm⟩
        have HSN : Hid (∀ X, Calls Tryz.prog 133 #[.int .i64 ((k : Int) + 1)] X fun r w' => ∃ b : Nat, r = .returned (.pointer (some ⟨b, 0, none⟩)) ∧ X.heap.size ≤ b ∧ SqAt w' b (Sr.new ((k : Int) + 1)) ∧ Below X.heap.size X w') := fun X => rsnew_any _ X
        clear hz hme hT hwk
        go_wp2_with (go_at_call 133; (with_reducible refine (HSN.out _).mono ?_); rintro r w4 ⟨b4, rfl, hge4, hsr4, hb4⟩; have c10 : w4.cell? ⟨g, 10, none⟩ = some sV := hpCell (hri.out.keep hb4) 10; have f10 : w4.frozen? ⟨g, 10, none⟩ = false := hpFree (hri.out.keep hb4) 10)
        refine bodyPost_ret (results_none rfl _ _ _) rfl ?_
        have hz1 := hkp.out.size
        have hz4 := hb4.size
        have hl4 : b4 < w4.heap.size := hsr4.lt
        refine ⟨rfl, ⟨S, .pointer (some ⟨b4, 0, none⟩), ?_, ?_⟩, ks1 (hkp.out.trans (Keeps.of_below (F := fun _ => False) hb4) (fun _ _ e => e.elim)) _ _⟩
        · rw [HME.out.2]
          exact (hri.out.keep hb4).setS _
        · rw [HME.out.1]
          exact ⟨hSk.out, hlt, b4, rfl, by omega, by simpa using hl4, (hpOther (by omega)).trans hsr4⟩
    · obtain rfl : k = 4 := by omega
      have HME : Hid (ph = .done ∧ d' = d1) := by
        have h := hme.out
        exact ⟨(Prod.mk.inj h).1.symm, (Prod.mk.inj h).2.symm⟩
      have e11 : ¬ S < 11 := by have := hSk.out; omega
      clear hme
      go_wp2
      go_end0
      refine ⟨rfl, ⟨S, sV, ?_, ?_⟩, hkp.out⟩
      · rw [HME.out.2]
        exact hri.out
      · rw [HME.out.1]
        exact hSk.out

end Go.Proofs.YtipnamoocemeeaaGreat

/-
The reference's probe: Feed in the test and in the report.
-/
namespace Go.Proofs.YtipnamoocemeeaaGreat
open Go.RowKit

def RqFd (P : Nat → Prop) (W0 w : World) (g : Nat) (win : Nat → Int × Int) (p' : Pb) (r : Ending) (w' : World) : Prop :=
  r = .returned (.int .i64 0) ∧ RqAt (Grw P w w') W0 w' g win p' ∧ Keeps (fun j => P j ∧ W0.heap.size ≤ j) w w'
theorem RdSt.go {P Q Q' : Nat → Prop} {w w' : World} {g : Nat} {d : Dv} {ov sv : Value} {mv : Nat → Value} (h : RdSt (FQ P Q g) w d ov sv mv) (hk : Keeps (fun j => Q j ∨ j = g) w w') (hQ : ∀ j, Q' j → Q j ∨ w.heap.size ≤ j) : RdSt (FQ (Grw P w w') Q' g) w' d ov sv mv :=
  h.keeps hk (fun j _ e => by rcases e with e | e; exact .inr (.inl e); exact .inr (.inr e)) (fun j hj e => by
    rcases e with e | e | e
    · exact .inl (fun h => e (.inl h))
    · rcases hQ j e with e | e
      · exact .inr (.inl e)
      · omega
    · exact .inr (.inr e))
theorem RqSt.fed {P Q : Nat → Prop} {W0 w w' : World} {g : Nat} {win : Nat → Int × Int} {p : Pb} {st : Int} {iV sV mV ov sv : Value} {mv : Nat → Value} (hb : P g ∧ W0.heap.size ≤ g ∧ ∀ j, j < W0.heap.size → P j) (hB : Below W0.heap.size W0 w) (hs : RqSt P Q W0 w g win p st iV sV mV ov sv mv)
    (hk : Keeps (fun j => Q j ∨ j = g) w w') {p' : Pb} {st' : Int} {iV' sV' mV' ov' sv' : Value} {mv' : Nat → Value} (Q' : Nat → Prop) (hQ' : ∀ j, Q' j → (Q j ∨ w.heap.size ≤ j) ∧ j < w'.heap.size)
    (hi : RqI w' g win st' iV' sV' mV' p'.d ov' sv' mv' p'.q) (hd : RdSt (FQ (Grw P w w') Q' g) w' p'.d ov' sv' mv') (hp : RqPh Q' W0 w' st' iV' sV' mV' p'.q p'.ph) : RqFd P W0 w g win p' (.returned (.int .i64 0)) w' := by
  have hgl : g < w.heap.size := hpLt hs.2.1
  have hsz := hk.size
  have hsB := hB.size
  refine ⟨rfl, ⟨⟨.inl hb.1, hb.2.1, fun j hj => .inl (hb.2.2 j hj)⟩, hB.trans (hk.below hsB (fun j hj e => ?_)), Q', st', iV', sV', mV', ov', sv', mv', fun j hj => ?_, hi, hd, hp⟩, hk.mono (fun j hj e => ?_)⟩
  · rcases e with e | e
    · have := (hs.1 j e).2.1
      omega
    · have := hb.2.1
      omega
  · obtain ⟨h1, h2⟩ := hQ' j hj
    rcases h1 with h1 | h1
    · have := hs.1 j h1
      exact ⟨.inl this.1, this.2.1, this.2.2.1, h2⟩
    · exact ⟨.inr ⟨h1, h2⟩, by omega, by omega, h2⟩
  · rcases e with e | e
    · exact ⟨(hs.1 j e).1, (hs.1 j e).2.1⟩
    · subst e
      exact ⟨hb.1, hb.2.1⟩

theorem RqI.setSt {W : World} {g : Nat} {win : Nat → Int × Int} {st : Int} {iV sV mV : Value} {d : Dv} {ov sv : Value} {mv : Nat → Value} {q : Int} (h : RqI W g win st iV sV mV d ov sv mv q) (s : Int) : RqI (W.setCell ⟨g, 14, none⟩ (.int .i64 s)) g win st iV sV mV { d with st := s } ov sv mv q := hpSetP h rfl
theorem RqI.setServer {W : World} {g : Nat} {win : Nat → Int × Int} {st : Int} {iV sV mV : Value} {d : Dv} {ov sv : Value} {mv : Nat → Value} {q : Int} (h : RqI W g win st iV sV mV d ov sv mv q) (s : Int) (D : List UInt8) (u : Value) : RqI ((W.setCell ⟨g, 18, none⟩ (.int .i64 s)).setCell ⟨g, 19, none⟩ u) g win st iV sV mV { d with srv := s, sd := D } ov u mv q := hpSetP (hpSetP h rfl) rfl
theorem RqI.setIdent {W : World} {g : Nat} {win : Nat → Int × Int} {st : Int} {iV sV mV : Value} {d : Dv} {ov sv : Value} {mv : Nat → Value} {q : Int} (h : RqI W g win st iV sV mV d ov sv mv q) (s l : Int) (os : List Ob) (u : Value) : RqI (((W.setCell ⟨g, 15, none⟩ (.int .i64 s)).setCell ⟨g, 16, none⟩ (.int .i64 l)).setCell ⟨g, 17, none⟩ u) g win st iV sV mV { d with idn := s, lv := l, objs := os } u sv mv q := hpSetP (hpSetP (hpSetP h rfl) rfl) rfl


set_option maxRecDepth 100000 in
set_option maxHeartbeats 6400000 in
theorem rpf_test {P Q : Nat → Prop} {W0 w : World} {g : Nat} {win : Nat → Int × Int} {d : Dv} {q st : Int} {iV sV mV ov sv : Value} {mv : Nat → Value} (hb : P g ∧ W0.heap.size ≤ g ∧ ∀ j, j < W0.heap.size → P j) (hBW : Below W0.heap.size W0 w) (hs : RqSt P Q W0 w g win ⟨.test, d, q⟩ st iV sV mV ov sv mv) (q0 : 0 ≤ q) (q1 : q ≤ 1000000)
    (O : Oc) (da : Option Addr) (dc : Nat) (oa : Option Addr) (oc : Nat) (p' : Pb) (hp' : Hid (p' = Pb.feed win ⟨.test, d, q⟩ O)) :
    Calls Tryz.prog 57 #[.pointer (some ⟨g, 0, none⟩), .agg #[.int .i64 O.verdict, .int .i64 O.reply.fn, .int .i64 O.reply.exc, .slice da O.reply.data.length dc, .int .i64 O.reply.code, .int .i64 O.reply.level, .bool O.reply.more, .int .i64 O.reply.next, .slice oa O.reply.objs.length oc]] w (RqFd P W0 w g win p') := by
  have h := hs.2.1
  have hst : st = 0 := hs.2.2.2
  have hrd := hs.2.2.1
  obtain ⟨WB, hWB⟩ : ∃ W, w.alloc (.cells #[.int .i64 O.verdict, .int .i64 O.reply.fn, .int .i64 O.reply.exc, .slice da O.reply.data.length dc, .int .i64 O.reply.code, .int .i64 O.reply.level, .bool O.reply.more, .int .i64 O.reply.next, .slice oa O.reply.objs.length oc] 55) = W := ⟨_, rfl⟩; have hbB : Below w.heap.size w WB := (by rw [← hWB]; exact bal' w _); have pB : WB.heap[w.heap.size]? = some (.cells #[.int .i64 O.verdict, .int .i64 O.reply.fn, .int .i64 O.reply.exc, .slice da O.reply.data.length dc, .int .i64 O.reply.code, .int .i64 O.reply.level, .bool O.reply.more, .int .i64 O.reply.next, .slice oa O.reply.objs.length oc] 55) := (by rw [← hWB]; exact hpNew w _); have hgl : g < w.heap.size := hpLt h; have hB := h.keep hbB; have cB : WB.cell? ⟨g, 8, none⟩ = some (.int .i64 st) := hB.step; have cQ : WB.cell? ⟨g, 33, none⟩ = some (.int .i64 q) := hpCell hB 33; have fQ : WB.frozen? ⟨g, 33, none⟩ = false := hpFree hB 33; have sQ : IntKind.i64.wrap (q + 1) = q + 1 := IntWalk.i64_in _ (by omega); obtain ⟨W1, hW1⟩ : ∃ W, WB.setCell ⟨g, 33, none⟩ (.int .i64 (q + 1)) = W := ⟨_, rfl⟩; have hk1 : Keeps (· = g) WB W1 := (by rw [← hW1]; exact ks1 (Keeps.refl _ _) _ _); have h1 : RqI W1 g win st iV sV mV d ov sv mv (q + 1) := (by rw [← hW1]; exact hB.setQ _); have o1 : W1.heap[w.heap.size]? = some (.cells #[.int .i64 O.verdict, .int .i64 O.reply.fn, .int .i64 O.reply.exc, .slice da O.reply.data.length dc, .int .i64 O.reply.code, .int .i64 O.reply.level, .bool O.reply.more, .int .i64 O.reply.next, .slice oa O.reply.objs.length oc] 55) := hpKeeps pB hk1 (fun e => by omega); have c8 := h1.step; have HKW : Hid (Keeps (· = g) w W1) := (Keeps.of_below hbB).trans hk1 (fun _ _ e => e); have HWB := hid hWB; have HW1 := hid hW1; have H1 := hid h1; obtain ⟨T, hT⟩ : ∃ T, st - 3 = T := ⟨_, rfl⟩; have sT : IntKind.i64.wrap (st - 3) = T := (by rw [IntWalk.i64_in _ (by omega)]; exact hT); obtain ⟨kk, hkk⟩ : ∃ kk, IntKind.i64.wrap (T.tdiv 2) = kk := ⟨_, rfl⟩
  have e0 : ∀ X, Below W1.heap.size W1 X → X.cell? ⟨w.heap.size, 0, none⟩ = some (.int .i64 O.verdict) := (fun X h => hpCell (hpKeep o1 h) 0); have e1 : ∀ X, Below W1.heap.size W1 X → X.cell? ⟨w.heap.size, 1, none⟩ = some (.int .i64 O.reply.fn) := (fun X h => hpCell (hpKeep o1 h) 1); have e2 : ∀ X, Below W1.heap.size W1 X → X.cell? ⟨w.heap.size, 2, none⟩ = some (.int .i64 O.reply.exc) := (fun X h => hpCell (hpKeep o1 h) 2); have e3 : ∀ X, Below W1.heap.size W1 X → X.cell? ⟨w.heap.size, 3, none⟩ = some (.slice da O.reply.data.length dc) := (fun X h => hpCell (hpKeep o1 h) 3); have e4 : ∀ X, Below W1.heap.size W1 X → X.cell? ⟨w.heap.size, 4, none⟩ = some (.int .i64 O.reply.code) := (fun X h => hpCell (hpKeep o1 h) 4); have e5 : ∀ X, Below W1.heap.size W1 X → X.cell? ⟨w.heap.size, 5, none⟩ = some (.int .i64 O.reply.level) := (fun X h => hpCell (hpKeep o1 h) 5); have e6 : ∀ X, Below W1.heap.size W1 X → X.cell? ⟨w.heap.size, 6, none⟩ = some (.bool O.reply.more) := (fun X h => hpCell (hpKeep o1 h) 6); have e7 : ∀ X, Below W1.heap.size W1 X → X.cell? ⟨w.heap.size, 7, none⟩ = some (.int .i64 O.reply.next) := (fun X h => hpCell (hpKeep o1 h) 7); have e8 : ∀ X, Below W1.heap.size W1 X → X.cell? ⟨w.heap.size, 8, none⟩ = some (.slice oa O.reply.objs.length oc) := (fun X h => hpCell (hpKeep o1 h) 8); have k0 : Below W1.heap.size W1 W1 := Below.refl _ _
  obtain ⟨S, hS⟩ : ∃ S, stateOf O.verdict = S := ⟨_, rfl⟩
  have HST : Hid (Calls Tryz.prog 92 #[.agg #[.int .i64 O.verdict, .int .i64 O.reply.fn, .int .i64 O.reply.exc, .slice da O.reply.data.length dc, .int .i64 O.reply.code, .int .i64 O.reply.level, .bool O.reply.more, .int .i64 O.reply.next, .slice oa O.reply.objs.length oc]] W1 fun r w' => r = .returned (.int .i64 S) ∧ Below W1.heap.size W1 w') := by rw [← hS]; exact rstate_any _ _ _ _ _ _ _ _ _ _
  have HEN : Hid (∀ (st' : Int) (iV' : Value) (ph : Ph) (b : Nat) (w' : World), w.heap.size ≤ b → b < w'.heap.size → p' = ⟨ph, { d with st := S }, q + 1⟩ → Keeps (· = g) w w' → RqI w' g win st' iV' sV mV { d with st := S } ov sv mv (q + 1) → RqPh (· = b) W0 w' st' iV' sV mV (q + 1) ph → RqFd P W0 w g win p' (.returned (.int .i64 0)) w') := fun st' iV' ph b w' hb1 hb2 e hk hi hp => by
    subst e
    have hk' : Keeps (fun j => Q j ∨ j = g) w w' := hk.mono (fun j _ e => .inr e)
    refine RqSt.fed hb hBW hs hk' (· = b) (fun j e => by subst e; exact ⟨.inr hb1, hb2⟩) hi ?_ hp
    exact (hrd.go hk' (fun j e => by subst e; exact .inr hb1)).num rfl rfl (fun _ => rfl)
  have HPP : Hid (p' = ⟨if S = 2 then .ident Idn.new else .done, { d with st := S }, q + 1⟩) := by show _ = _; rw [hp'.out, ← hS]; rfl
  clear hb hBW hs hrd hp' hS hWB hbB pB hB hW1 hk1 h1 h hT o1
  subst hst
  go_enter Tryz.func57, Tryz.ntmps57; go_upto_region 1 with (fail); rw [HWB.out]; go_upto_region 4 with (fail); rw [HW1.out]; clear cB cQ fQ sQ HWB HW1
  go_upto_region 12 with (go_at_call 92; (with_reducible refine HST.out.mono ?_); rintro r w5 ⟨rfl, hb5⟩; have h5 := H1.out.keep hb5; have c14 : w5.cell? ⟨g, 14, none⟩ = some (.int .i64 d.st) := hpCell h5 14; have f14 : w5.frozen? ⟨g, 14, none⟩ = false := hpFree h5 14)
  obtain ⟨W2, hW2⟩ : ∃ W, w5.setCell ⟨g, 14, none⟩ (.int .i64 S) = W := ⟨_, rfl⟩
  have h2 : RqI W2 g win 0 iV sV mV { d with st := S } ov sv mv (q + 1) := by rw [← hW2]; exact h5.setSt S
  have hk2 : Keeps (· = g) w W2 := by rw [← hW2]; exact ks1 (HKW.out.trans (Keeps.of_below (F := fun _ => False) hb5) (fun _ _ e => e.elim)) _ _
  rw [hW2]
  have HTO := hid (rto_one W2 g h2)
  have HK2 := hid hk2
  clear hW2 h2 hk2 hb5 h5 c14 f14 e0 e1 e2 e3 e4 e5 e6 e7 e8 k0 HST H1 HKW c8
  go_upto_region 13 with (go_at_call 93; (with_reducible refine HTO.out.mono ?_); rintro r w6 ⟨rfl, b, hb1, hb2, hi6, hr6, hk6⟩)
  have c14 : w6.cell? ⟨g, 14, none⟩ = some (.int .i64 S) := hpCell hi6 14
  have c8 := hi6.step
  have f8 : w6.frozen? ⟨g, 8, none⟩ = false := hpFree hi6 8
  have hk := HK2.out.trans hk6 (fun _ _ e => e)
  have hb1' : w.heap.size ≤ b := by have := HK2.out.size; omega
  by_cases h2 : S = 2
  · have d2 : (S != 2) = false := by rw [bne_eq_false_iff_eq]; exact h2
    have HE : Hid (p' = ⟨.ident Idn.new, { d with st := S }, q + 1⟩) := by show _ = _; rw [HPP.out, if_pos h2]
    clear HPP h2
    go_wp2
    go_ret
    exact HEN.out 1 _ _ b w6 hb1' hb2 HE.out hk hi6 ⟨rfl, b, .slice none 0 0, [], rfl, rfl, (fun j hj => nomatch hj), ⟨hr6, World.ownsRow_nil _ _ _ _, rfl⟩⟩
  · have d2 : (S != 2) = true := by rw [bne_iff_ne]; exact h2
    have HE : Hid (p' = ⟨.done, { d with st := S }, q + 1⟩) := by show _ = _; rw [HPP.out, if_neg h2]
    clear HPP h2
    go_wp2
    go_ret
    exact HEN.out 11 _ _ b _ hb1' (by simpa using hb2) HE.out (ks1 hk _ _) (hi6.setStep 11) rfl

theorem meas_keep {win : Nat → Int × Int} : ∀ (n : Nat), n ≤ 4 → ∀ {d : Dv} {ph : Ph} {d' : Dv}, meas win n d = (ph, d') → d'.objs = d.objs ∧ d'.sd = d.sd ∧ ∀ i, (d'.ts i).map = (d.ts i).map
  | 0, _, d, ph, d', h => by
    have := (Prod.mk.inj h).2
    subst this
    exact ⟨rfl, rfl, fun _ => rfl⟩
  | n + 1, hn, d, ph, d', h => by
    unfold meas at h
    split at h
    · obtain ⟨h1, h2, h3⟩ := meas_keep n (by omega) h
      refine ⟨h1, h2, fun i => (h3 i).trans ?_⟩
      unfold Dv.tab
      dsimp only
      split
      · rename_i e
        rw [e]
      · rfl
    · have := (Prod.mk.inj h).2
      subst this
      exact ⟨rfl, rfl, fun _ => rfl⟩
set_option maxRecDepth 100000 in
set_option maxHeartbeats 6400000 in
theorem rpf_server {P Q : Nat → Prop} {W0 w : World} {g : Nat} {win : Nat → Int × Int} {d : Dv} {q st : Int} {iV sV mV ov sv : Value} {mv : Nat → Value} (hb : P g ∧ W0.heap.size ≤ g ∧ ∀ j, j < W0.heap.size → P j) (hBW : Below W0.heap.size W0 w) (hs : RqSt P Q W0 w g win ⟨.server, d, q⟩ st iV sV mV ov sv mv) (q0 : 0 ≤ q) (q1 : q ≤ 1000000) (hwo : WinOk win)
    (O : Oc) (da : Option Addr) (dc : Nat) (oa : Option Addr) (oc : Nat) (hO : O.reply.data.length ≤ 300) (HI : Bs W0 (.slice da O.reply.data.length dc) O.reply.data) (p' : Pb) (hp' : Hid (p' = Pb.feed win ⟨.server, d, q⟩ O)) :
    Calls Tryz.prog 57 #[.pointer (some ⟨g, 0, none⟩), .agg #[.int .i64 O.verdict, .int .i64 O.reply.fn, .int .i64 O.reply.exc, .slice da O.reply.data.length dc, .int .i64 O.reply.code, .int .i64 O.reply.level, .bool O.reply.more, .int .i64 O.reply.next, .slice oa O.reply.objs.length oc]] w (RqFd P W0 w g win p') := by
  have h := hs.2.1
  have hst : st = 2 := hs.2.2.2
  have hrd := hs.2.2.1
  obtain ⟨WB, hWB⟩ : ∃ W, w.alloc (.cells #[.int .i64 O.verdict, .int .i64 O.reply.fn, .int .i64 O.reply.exc, .slice da O.reply.data.length dc, .int .i64 O.reply.code, .int .i64 O.reply.level, .bool O.reply.more, .int .i64 O.reply.next, .slice oa O.reply.objs.length oc] 55) = W := ⟨_, rfl⟩; have hbB : Below w.heap.size w WB := (by rw [← hWB]; exact bal' w _); have pB : WB.heap[w.heap.size]? = some (.cells #[.int .i64 O.verdict, .int .i64 O.reply.fn, .int .i64 O.reply.exc, .slice da O.reply.data.length dc, .int .i64 O.reply.code, .int .i64 O.reply.level, .bool O.reply.more, .int .i64 O.reply.next, .slice oa O.reply.objs.length oc] 55) := (by rw [← hWB]; exact hpNew w _); have hgl : g < w.heap.size := hpLt h; have hB := h.keep hbB; have cB : WB.cell? ⟨g, 8, none⟩ = some (.int .i64 st) := hB.step; have cQ : WB.cell? ⟨g, 33, none⟩ = some (.int .i64 q) := hpCell hB 33; have fQ : WB.frozen? ⟨g, 33, none⟩ = false := hpFree hB 33; have sQ : IntKind.i64.wrap (q + 1) = q + 1 := IntWalk.i64_in _ (by omega); obtain ⟨W1, hW1⟩ : ∃ W, WB.setCell ⟨g, 33, none⟩ (.int .i64 (q + 1)) = W := ⟨_, rfl⟩; have hk1 : Keeps (· = g) WB W1 := (by rw [← hW1]; exact ks1 (Keeps.refl _ _) _ _); have h1 : RqI W1 g win st iV sV mV d ov sv mv (q + 1) := (by rw [← hW1]; exact hB.setQ _); have o1 : W1.heap[w.heap.size]? = some (.cells #[.int .i64 O.verdict, .int .i64 O.reply.fn, .int .i64 O.reply.exc, .slice da O.reply.data.length dc, .int .i64 O.reply.code, .int .i64 O.reply.level, .bool O.reply.more, .int .i64 O.reply.next, .slice oa O.reply.objs.length oc] 55) := hpKeeps pB hk1 (fun e => by omega); have c8 := h1.step; have HKW : Hid (Keeps (· = g) w W1) := (Keeps.of_below hbB).trans hk1 (fun _ _ e => e); have HWB := hid hWB; have HW1 := hid hW1; have H1 := hid h1; obtain ⟨T, hT⟩ : ∃ T, st - 3 = T := ⟨_, rfl⟩; have sT : IntKind.i64.wrap (st - 3) = T := (by rw [IntWalk.i64_in _ (by omega)]; exact hT); obtain ⟨kk, hkk⟩ : ∃ kk, IntKind.i64.wrap (T.tdiv 2) = kk := ⟨_, rfl⟩
  have e0 : ∀ X, Below W1.heap.size W1 X → X.cell? ⟨w.heap.size, 0, none⟩ = some (.int .i64 O.verdict) := (fun X h => hpCell (hpKeep o1 h) 0); have e1 : ∀ X, Below W1.heap.size W1 X → X.cell? ⟨w.heap.size, 1, none⟩ = some (.int .i64 O.reply.fn) := (fun X h => hpCell (hpKeep o1 h) 1); have e2 : ∀ X, Below W1.heap.size W1 X → X.cell? ⟨w.heap.size, 2, none⟩ = some (.int .i64 O.reply.exc) := (fun X h => hpCell (hpKeep o1 h) 2); have e3 : ∀ X, Below W1.heap.size W1 X → X.cell? ⟨w.heap.size, 3, none⟩ = some (.slice da O.reply.data.length dc) := (fun X h => hpCell (hpKeep o1 h) 3); have e4 : ∀ X, Below W1.heap.size W1 X → X.cell? ⟨w.heap.size, 4, none⟩ = some (.int .i64 O.reply.code) := (fun X h => hpCell (hpKeep o1 h) 4); have e5 : ∀ X, Below W1.heap.size W1 X → X.cell? ⟨w.heap.size, 5, none⟩ = some (.int .i64 O.reply.level) := (fun X h => hpCell (hpKeep o1 h) 5); have e6 : ∀ X, Below W1.heap.size W1 X → X.cell? ⟨w.heap.size, 6, none⟩ = some (.bool O.reply.more) := (fun X h => hpCell (hpKeep o1 h) 6); have e7 : ∀ X, Below W1.heap.size W1 X → X.cell? ⟨w.heap.size, 7, none⟩ = some (.int .i64 O.reply.next) := (fun X h => hpCell (hpKeep o1 h) 7); have e8 : ∀ X, Below W1.heap.size W1 X → X.cell? ⟨w.heap.size, 8, none⟩ = some (.slice oa O.reply.objs.length oc) := (fun X h => hpCell (hpKeep o1 h) 8); have k0 : Below W1.heap.size W1 W1 := Below.refl _ _
  obtain ⟨S, hS⟩ : ∃ S, srvSt O = S := ⟨_, rfl⟩
  obtain ⟨D, hD⟩ : ∃ D, srvData O = D := ⟨_, rfl⟩
  have hbw1 : Below W0.heap.size W0 W1 := hBW.trans (HKW.out.below hBW.size (fun j hj e => by have := hb.2.1; omega))
  have HST : Hid (Calls Tryz.prog 96 #[.agg #[.int .i64 O.verdict, .int .i64 O.reply.fn, .int .i64 O.reply.exc, .slice da O.reply.data.length dc, .int .i64 O.reply.code, .int .i64 O.reply.level, .bool O.reply.more, .int .i64 O.reply.next, .slice oa O.reply.objs.length oc]] W1 (SrvPost W1 S D)) := rserver_any O da dc oa oc hO W1 (HI.keep hbw1) S D hS hD
  obtain ⟨⟨ph, d'⟩, hph⟩ : ∃ x : Ph × Dv, meas win 4 { d with srv := S, sd := D } = x := ⟨_, rfl⟩
  have HPP : Hid (p' = ⟨ph, d', q + 1⟩) := by show _ = _; rw [hp'.out]; unfold Pb.feed Pb.step; rw [hS, hD, hph]
  have HPH := hid hph
  have HEN : Hid (∀ (st' : Int) (sV' : Value) (a : Option Addr) (k : Nat) (W5 w' : World), W1.heap.size ≤ W5.heap.size → W5.ownsRow W1.heap.size 5 1 (.slice a D.length k) D.length (u8s D) → Keeps (· = g) W1 W5 → Keeps (· = g) W5 w' → RqI w' g win st' iV sV' mV d' ov (.slice a D.length k) mv (q + 1) → RqNx W5 w' ph st' sV' → RqFd P W0 w g win p' (.returned (.int .i64 0)) w') := fun st' sV' a k W5 w' hz ho hk1 hk2 hi hn => by
    rw [HPP.out]
    have hk := (HKW.out.trans hk1 (fun _ _ e => e)).trans hk2 (fun _ _ e => e)
    have hk' : Keeps (fun j => Q j ∨ j = g) w w' := hk.mono (fun j _ e => .inr e)
    have z1 := HKW.out.size
    have z2 := hk1.size
    have z3 := hk2.size
    have main : ∀ (Q' : Nat → Prop), (∀ j, Q' j → W5.heap.size ≤ j ∧ j < w'.heap.size) → RqPh Q' W0 w' st' iV sV' mV (q + 1) ph → RqFd P W0 w g win ⟨ph, d', q + 1⟩ (.returned (.int .i64 0)) w' := fun Q' hQ' hp => by
      refine RqSt.fed hb hBW hs hk' Q' (fun j e => ⟨.inr (by have := (hQ' j e).1; omega), (hQ' j e).2⟩) hi ?_ hp
      have hr := hrd.go (Q' := Q') hk' (fun j e => .inr (by have := (hQ' j e).1; omega))
      have hmk := meas_keep 4 (Nat.le_refl _) hph
      intro W hW
      obtain ⟨r1, r2, r3⟩ := hr W hW
      refine ⟨(by rw [hmk.1]; exact r1), ?_, fun i hi4 => by rw [hmk.2.2 i]; exact r3 i hi4⟩
      rw [hmk.2.1]
      refine Bs.own (own_keeps (own_keeps ho hk2 (fun j hj e => ?_)) hW (fun j hj e => ?_))
      · have := (ho.lt j hj).1
        omega
      · have h1 := (ho.lt j hj).1
        have h2 := (ho.lt j hj).2
        rcases e with e | e | e
        · exact e (.inr ⟨by omega, by omega⟩)
        · have := (hQ' j e).1
          omega
        · omega
    cases ph with
    | seek k' s' =>
      obtain ⟨n1, n2, b, n3, n4, n5, n6⟩ := hn
      exact main (· = b) (fun j e => by subst e; exact ⟨n4, n5⟩) ⟨n1, n2, b, n3, rfl, n6⟩
    | done => exact main (fun _ => False) (fun j e => e.elim) hn
    | test => exact hn.elim
    | ident x => exact hn.elim
    | server => exact hn.elim
    | map k' m' => exact hn.elim
  have HWO := hid hwo
  clear hb hBW hs hrd hp' hS hD hph hWB hbB pB hB hW1 hk1 h1 h hT o1 hbw1 HI hO HPP hwo
  subst hst
  go_enter Tryz.func57, Tryz.ntmps57; go_upto_region 1 with (fail); rw [HWB.out]; go_upto_region 4 with (fail); rw [HW1.out]; clear cB cQ fQ sQ HWB HW1
  go_upto_region 22 with (go_at_call 96; (with_reducible refine HST.out.mono ?_); rintro r w5 ⟨a5, k5, rfl, ho5, hb5⟩; have h5 := H1.out.keep hb5; have c18 : w5.cell? ⟨g, 18, none⟩ = some (.int .i64 d.srv) := hpCell h5 18; have f18 : w5.frozen? ⟨g, 18, none⟩ = false := hpFree h5 18; have c19 : w5.cell? ⟨g, 19, none⟩ = some sv := hpCell h5 19; have f19 : w5.frozen? ⟨g, 19, none⟩ = false := hpFree h5 19)
  obtain ⟨W2, hW2⟩ : ∃ W, (w5.setCell ⟨g, 18, none⟩ (.int .i64 S)).setCell ⟨g, 19, none⟩ (.slice a5 D.length k5) = W := ⟨_, rfl⟩
  have h2 : RqI W2 g win 2 iV sV mV { d with srv := S, sd := D } ov (.slice a5 D.length k5) mv (q + 1) := by rw [← hW2]; exact h5.setServer S D _
  have hk2 : Keeps (· = g) w5 W2 := by rw [← hW2]; exact ks1 (ks1 (Keeps.refl _ _) _ _) _ _
  rw [hW2]
  have hno : ∀ j, (Value.slice a5 D.length k5).ownBlock = some j → j ≠ g := fun j hj e => by
    have := (ho5.lt j hj).1
    have := hpLt H1.out
    omega
  have ho2 := own_keeps ho5 hk2 (fun j hj e => hno j hj e)
  have HTO := hid (rto_tab W2 g h2 HWO.out 0 (by omega) 3 (by omega) ph d' HPH.out)
  have HO2 := hid ho2
  have hk3 : Keeps (· = g) W1 W2 := (Keeps.of_below hb5).trans hk2 (fun _ _ e => e)
  have HK3 := hid hk3
  clear hW2 h2 hk2 hb5 h5 c18 f18 c19 f19 e0 e1 e2 e3 e4 e5 e6 e7 e8 k0 HST H1 HKW c8 hno ho5 hk3
  go_wp2_with (go_at_call 93; (with_reducible refine HTO.out.mono ?_); rintro r w6 ⟨rfl, ⟨st6, sv6, hi6, hn6⟩, hk6⟩)
  go_ret
  exact HEN.out st6 sv6 a5 k5 W2 w6 HK3.out.size HO2.out HK3.out hk6 hi6 hn6

end Go.Proofs.YtipnamoocemeeaaGreat

/-
The reference's probe: Feed in the identification.
-/
namespace Go.Proofs.YtipnamoocemeeaaGreat
open Go.RowKit


set_option maxRecDepth 100000 in
set_option maxHeartbeats 6400000 in
theorem rpf_ident {P Q : Nat → Prop} {W0 w : World} {g : Nat} {win : Nat → Int × Int} {x : Idn} {d : Dv} {q st : Int} {iV sV mV ov sv : Value} {mv : Nat → Value} (hb : P g ∧ W0.heap.size ≤ g ∧ ∀ j, j < W0.heap.size → P j) (hBW : Below W0.heap.size W0 w) (hs : RqSt P Q W0 w g win ⟨.ident x, d, q⟩ st iV sV mV ov sv mv) (q0 : 0 ≤ q) (q1 : q ≤ 1000000) (hx : x.ok ∧ x.st = 0)
    (O : Oc) (da : Option Addr) (dc : Nat) (oa : Option Addr) (oc : Nat) (hO : O.fit) (HI : RpIs W0 O.reply da dc oa oc) (p' : Pb) (hp' : Hid (p' = Pb.feed win ⟨.ident x, d, q⟩ O)) :
    Calls Tryz.prog 57 #[.pointer (some ⟨g, 0, none⟩), .agg #[.int .i64 O.verdict, .int .i64 O.reply.fn, .int .i64 O.reply.exc, .slice da O.reply.data.length dc, .int .i64 O.reply.code, .int .i64 O.reply.level, .bool O.reply.more, .int .i64 O.reply.next, .slice oa O.reply.objs.length oc]] w (RqFd P W0 w g win p') := by
  have h := hs.2.1
  obtain ⟨hst, b, v, cs, hiv, hqb, hvb, hri⟩ := hs.2.2.2
  have hrd := hs.2.2.1
  obtain ⟨WB, hWB⟩ : ∃ W, w.alloc (.cells #[.int .i64 O.verdict, .int .i64 O.reply.fn, .int .i64 O.reply.exc, .slice da O.reply.data.length dc, .int .i64 O.reply.code, .int .i64 O.reply.level, .bool O.reply.more, .int .i64 O.reply.next, .slice oa O.reply.objs.length oc] 55) = W := ⟨_, rfl⟩; have hbB : Below w.heap.size w WB := (by rw [← hWB]; exact bal' w _); have pB : WB.heap[w.heap.size]? = some (.cells #[.int .i64 O.verdict, .int .i64 O.reply.fn, .int .i64 O.reply.exc, .slice da O.reply.data.length dc, .int .i64 O.reply.code, .int .i64 O.reply.level, .bool O.reply.more, .int .i64 O.reply.next, .slice oa O.reply.objs.length oc] 55) := (by rw [← hWB]; exact hpNew w _); have hgl : g < w.heap.size := hpLt h; have hB := h.keep hbB; have cB : WB.cell? ⟨g, 8, none⟩ = some (.int .i64 st) := hB.step; have cQ : WB.cell? ⟨g, 33, none⟩ = some (.int .i64 q) := hpCell hB 33; have fQ : WB.frozen? ⟨g, 33, none⟩ = false := hpFree hB 33; have sQ : IntKind.i64.wrap (q + 1) = q + 1 := IntWalk.i64_in _ (by omega); obtain ⟨W1, hW1⟩ : ∃ W, WB.setCell ⟨g, 33, none⟩ (.int .i64 (q + 1)) = W := ⟨_, rfl⟩; have hk1 : Keeps (· = g) WB W1 := (by rw [← hW1]; exact ks1 (Keeps.refl _ _) _ _); have h1 : RqI W1 g win st iV sV mV d ov sv mv (q + 1) := (by rw [← hW1]; exact hB.setQ _); have o1 : W1.heap[w.heap.size]? = some (.cells #[.int .i64 O.verdict, .int .i64 O.reply.fn, .int .i64 O.reply.exc, .slice da O.reply.data.length dc, .int .i64 O.reply.code, .int .i64 O.reply.level, .bool O.reply.more, .int .i64 O.reply.next, .slice oa O.reply.objs.length oc] 55) := hpKeeps pB hk1 (fun e => by omega); have c8 := h1.step; have HKW : Hid (Keeps (· = g) w W1) := (Keeps.of_below hbB).trans hk1 (fun _ _ e => e); have HWB := hid hWB; have HW1 := hid hW1; have H1 := hid h1; obtain ⟨T, hT⟩ : ∃ T, st - 3 = T := ⟨_, rfl⟩; have sT : IntKind.i64.wrap (st - 3) = T := (by rw [IntWalk.i64_in _ (by omega)]; exact hT); obtain ⟨kk, hkk⟩ : ∃ kk, IntKind.i64.wrap (T.tdiv 2) = kk := ⟨_, rfl⟩
  subst hiv
  have hbg := (hs.1 b hqb).2.2.1
  have hbB' := (hs.1 b hqb).2.1
  have hbl := (hs.1 b hqb).2.2.2
  have hwb : w.heap.size ≠ b := by omega
  have o0 : ∀ X, Keeps (· = b) W1 X → X.cell? ⟨w.heap.size, 0, none⟩ = some (.int .i64 O.verdict) := (fun X h => hpCell (hpKeeps o1 h hwb) 0); have o1' : ∀ X, Keeps (· = b) W1 X → X.cell? ⟨w.heap.size, 1, none⟩ = some (.int .i64 O.reply.fn) := (fun X h => hpCell (hpKeeps o1 h hwb) 1); have o2 : ∀ X, Keeps (· = b) W1 X → X.cell? ⟨w.heap.size, 2, none⟩ = some (.int .i64 O.reply.exc) := (fun X h => hpCell (hpKeeps o1 h hwb) 2); have o3 : ∀ X, Keeps (· = b) W1 X → X.cell? ⟨w.heap.size, 3, none⟩ = some (.slice da O.reply.data.length dc) := (fun X h => hpCell (hpKeeps o1 h hwb) 3); have o4 : ∀ X, Keeps (· = b) W1 X → X.cell? ⟨w.heap.size, 4, none⟩ = some (.int .i64 O.reply.code) := (fun X h => hpCell (hpKeeps o1 h hwb) 4); have o5 : ∀ X, Keeps (· = b) W1 X → X.cell? ⟨w.heap.size, 5, none⟩ = some (.int .i64 O.reply.level) := (fun X h => hpCell (hpKeeps o1 h hwb) 5); have o6 : ∀ X, Keeps (· = b) W1 X → X.cell? ⟨w.heap.size, 6, none⟩ = some (.bool O.reply.more) := (fun X h => hpCell (hpKeeps o1 h hwb) 6); have o7 : ∀ X, Keeps (· = b) W1 X → X.cell? ⟨w.heap.size, 7, none⟩ = some (.int .i64 O.reply.next) := (fun X h => hpCell (hpKeeps o1 h hwb) 7); have o8 : ∀ X, Keeps (· = b) W1 X → X.cell? ⟨w.heap.size, 8, none⟩ = some (.slice oa O.reply.objs.length oc) := (fun X h => hpCell (hpKeeps o1 h hwb) 8); have k0 : Keeps (· = b) W1 W1 := Keeps.refl _ _; have kD : Keeps (· = b) W1 W1.drew := Keeps.of_below (Below.refl _ _).drew
  have x9 : ∀ X, Keeps (· = b) W1 X → X.cell? ⟨g, 9, none⟩ = some (.pointer (some ⟨b, 0, none⟩)) := fun X h => hpCell (hpKeeps h1 h (fun e => hbg e.symm)) 9
  have hri1 : RiAt W0 W1.drew b x v cs := hri.keeps (HKW.out.trans (Keeps.of_below (F := fun _ => False) (Below.refl _ _).drew) (fun _ _ e => e.elim)) hbg (fun j hj e => by subst e; exact (hs.1 j (hvb j hj).1).2.2.1 rfl)
  have hbw1 : Below W0.heap.size W0 W1.drew := (hBW.trans (HKW.out.below hBW.size (fun j hj e => by have := hb.2.1; omega))).drew
  obtain ⟨y, hy⟩ : ∃ y, x.feed O = y := ⟨_, rfl⟩
  have HFD : Hid (Calls Tryz.prog 94 #[.pointer (some ⟨b, 0, none⟩), .agg #[.int .i64 O.verdict, .int .i64 O.reply.fn, .int .i64 O.reply.exc, .slice da O.reply.data.length dc, .int .i64 O.reply.code, .int .i64 O.reply.level, .bool O.reply.more, .int .i64 O.reply.next, .slice oa O.reply.objs.length oc]] W1.drew (RiFed W0 W1.drew b y)) := by
    rw [← hy]
    exact rifeed_any hri1 hx.2 hx.1 O da dc oa oc HI hO hbw1 hbB' (fun e => (hvb b e).2 rfl)
  have HPP : Hid (p' = if y.st = 0 then ⟨.ident y, d, q + 1⟩ else ⟨.server, d.ident y, q + 1⟩) := by
    show _ = _
    rw [hp'.out, ← hy]
    unfold Pb.feed Pb.step
    dsimp only
    split <;> rfl
  have HEN0 : Hid (∀ (w5 : World) (v5 : Value) (cs5 : List Value), y.st = 0 → Keeps (· = b) W1 w5 → RiC w5 b y.st y.level v5 y.next y.cnt → w5.ownsRow W1.heap.size 156 2 v5 y.objs.length cs5 → CsL 2 (ObQ W0) cs5 y.objs → RqFd P W0 w g win p' (.returned (.int .i64 0)) w5) := fun w5 v5 cs5 hy0 hk5 hc5 ho5 hob5 => by
    have hk : Keeps (fun j => Q j ∨ j = g) w w5 := (HKW.out.mono (fun j _ e => .inr e)).trans hk5 (fun j _ e => by subst e; exact .inl hqb)
    have hz1 := HKW.out.size
    have hz5 := hk5.size
    have hvn : ∀ j, v5.ownBlock = some j → (w.heap.size ≤ j ∧ j < w5.heap.size) := fun j hj => by
      have := ho5.lt j hj
      omega
    have e : p' = ⟨.ident y, d, q + 1⟩ := by rw [HPP.out, if_pos hy0]
    rw [e]
    refine RqSt.fed hb hBW hs hk (fun j => Q j ∨ (w.heap.size ≤ j ∧ j < w5.heap.size)) (fun j e => ?_) (hpKeeps h1 hk5 (fun e => hbg e.symm)) (hrd.go hk (fun j e => e.imp_right (·.1))) ?_
    · rcases e with e | e
      · exact ⟨.inl e, by have := (hs.1 j e).2.2.2; omega⟩
      · exact ⟨.inr e.1, e.2⟩
    · exact ⟨hst, b, v5, cs5, rfl, .inl hqb, fun j hj => ⟨.inr (hvn j hj), by have := hvn j hj; omega⟩, ⟨hc5, own_lower ho5 (by have := hBW.size; omega), hob5⟩⟩
  have HEN1 : Hid (∀ (w5 w6 w7 : World) (v5 R : Value) (cs5 : List Value) (L : Int), y.st ≠ 0 → Keeps (· = b) W1 w5 → (y.st = 2 → L = y.level ∧ R = v5 ∧ w5.ownsRow W1.heap.size 156 2 v5 y.objs.length cs5 ∧ CsL 2 (ObQ W0) cs5 y.objs) → (y.st ≠ 2 → L = 0 ∧ R = .slice none 0 0) → Below w5.heap.size w5 w6 → Keeps (· = g) w6 w7 → RqI w7 g win 2 (.pointer (some ⟨b, 0, none⟩)) sV mV { d with idn := y.st, lv := L, objs := if y.st = 2 then y.objs else [] } R sv mv (q + 1) → RqFd P W0 w g win p' (.returned (.int .i64 0)) w7) := fun w5 w6 w7 v5 R cs5 L hy0 hk5 h2 hn2 hb6 hk7 hi7 => by
    have hk : Keeps (fun j => Q j ∨ j = g) w w7 := (((HKW.out.mono (fun j _ e => .inr e)).trans hk5 (fun j _ e => by subst e; exact .inl hqb)).trans (Keeps.of_below (F := fun _ => False) hb6) (fun _ _ e => e.elim)).trans hk7 (fun j _ e => .inr e)
    have hz1 := HKW.out.size
    have hz5 := hk5.size
    have hz6 := hb6.size
    have hz7 := hk7.size
    have hD : d.ident y = { d with idn := y.st, lv := L, objs := if y.st = 2 then y.objs else [] } := by
      unfold Dv.ident
      by_cases e2 : y.st = 2
      · rw [if_pos e2, (h2 e2).1]
      · rw [if_neg e2, (hn2 e2).1]
    have e : p' = ⟨.server, { d with idn := y.st, lv := L, objs := if y.st = 2 then y.objs else [] }, q + 1⟩ := by rw [HPP.out, if_neg hy0, hD]
    rw [e]
    refine RqSt.fed hb hBW hs hk (fun _ => False) (fun j e => e.elim) hi7 (fun W hW => ?_) rfl
    obtain ⟨r1, r2, r3⟩ := hrd.go (Q' := fun _ => False) hk (fun j e => e.elim) W hW
    refine ⟨?_, r2, r3⟩
    show Obs W R (if y.st = 2 then y.objs else [])
    by_cases e2 : y.st = 2
    · obtain ⟨-, rfl, ho5, hc5⟩ := h2 e2
      rw [if_pos e2]
      have hbW : Below W0.heap.size W0 W := by
        refine (hBW.trans (hk.below hBW.size (fun j hj e => ?_))).trans (hW.below (by have := hBW.size; omega) (fun j hj e => ?_))
        · rcases e with e | e
          · have := (hs.1 j e).2.1; omega
          · have := hb.2.1; omega
        · rcases e with e | e | e
          · exact e (.inl (hb.2.2 j hj))
          · exact e
          · have := hb.2.1; omega
      refine Obs.of_csl (own_keeps (own_keeps (own_keeps (F := fun _ => False) ho5 (Keeps.of_below hb6) (fun _ _ f => f)) hk7 (fun j hj e => ?_)) hW (fun j hj e => ?_)) (CsL.mono (fun r z => ObQ.keep hbW r z) _ _ hc5) rfl
      · have := (ho5.lt j hj).1
        omega
      · have h1 := (ho5.lt j hj).1
        have h2 := (ho5.lt j hj).2
        rcases e with e | e | e
        · exact e (.inr ⟨by omega, by omega⟩)
        · exact e
        · omega
    · obtain ⟨-, rfl⟩ := hn2 e2
      rw [if_neg e2]
      exact Obs.nil W
  have HBG := hid hbg
  clear hb hBW hs hrd hp' hWB hbB pB hB hW1 hk1 h1 h hT o1 HI hO HPP hri hri1 hx hbw1 hy
  subst hst
  go_enter Tryz.func57, Tryz.ntmps57; go_upto_region 1 with (fail); rw [HWB.out]; go_upto_region 4 with (fail); rw [HW1.out]; clear cB cQ fQ sQ HWB HW1
  go_upto_region 16 with (fail)
  go_region_held3 (fun X => Keeps (· = b) W1 X) ((with_reducible (first | exact kD | assumption | exact k0)))
    ((go_at_call 94; (with_reducible refine HFD.out.mono ?_); rintro r w5 ⟨rfl, ⟨lv5, v5, nx5, cn5, cs5, hc5, hA5, hB5⟩, hk5⟩; have hK5 : Keeps (· = b) W1 w5 := kD.trans hk5 (fun _ _ e => e)))
  have h5 : RqI w5 g win 1 (.pointer (some ⟨b, 0, none⟩)) sV mV d ov sv mv (q + 1) := hpKeeps H1.out hK5 (fun e => HBG.out e.symm)
  have c9 : w5.cell? ⟨g, 9, none⟩ = some (.pointer (some ⟨b, 0, none⟩)) := hpCell h5 9
  have y0 : w5.cell? ⟨b, 0, none⟩ = some (.int .i64 y.st) := hpCell hc5 0
  have HA := hid hA5
  have HB := hid hB5
  have HC := hid hc5
  have HK := hid hK5
  have H5 := hid h5
  clear x9 o0 o1' o2 o3 o4 o5 o6 o7 o8 k0 kD hA5 hB5 hc5 hK5 hk5 h5 c8
  by_cases hy0 : y.st = 0
  · have d0 : (y.st != 0) = false := by rw [bne_eq_false_iff_eq]; exact hy0
    have HY := hid hy0
    clear hy0
    go_wp2
    go_ret
    obtain ⟨rfl, rfl⟩ := HA.out HY.out
    obtain ⟨rfl, h2, h3⟩ := HB.out (.inl HY.out)
    exact HEN0.out w5 v5 cs5 HY.out HK.out HC.out h2 h3
  · have d0 : (y.st != 0) = true := by rw [bne_iff_ne]; exact hy0
    obtain ⟨L, hL⟩ : ∃ L : Int, L = if y.st = 2 then lv5 else 0 := ⟨_, rfl⟩
    obtain ⟨ra, rn, rc, hR⟩ : ∃ ra rn rc, Value.slice ra rn rc = if y.st = 2 then v5 else .slice none 0 0 := by
      by_cases e2 : y.st = 2
      · obtain ⟨_, h3, _⟩ := HB.out (.inr e2)
        obtain ⟨a, c, e⟩ := own_slice h3
        exact ⟨a, _, c, by rw [if_pos e2, e]⟩
      · exact ⟨none, 0, 0, by rw [if_neg e2]⟩
    have HRS : Hid (Calls Tryz.prog 95 #[.pointer (some ⟨b, 0, none⟩)] w5 fun r w' => r = .returned (.tuple #[.int .i64 y.st, .int .i64 L, .slice ra rn rc]) ∧ Below w5.heap.size w5 w') := riresult_any b _ _ _ _ _ w5 HC.out L _ hL hR
    have HY := hid hy0
    have HL := hid hL
    have HR := hid hR
    clear hy0 hL hR
    go_upto_region 19 with (go_at_call 95; (with_reducible refine HRS.out.mono ?_); rintro r w6 ⟨rfl, hb6⟩; have h6 := H5.out.keep hb6; have c15 : w6.cell? ⟨g, 15, none⟩ = some (.int .i64 d.idn) := hpCell h6 15; have f15 : w6.frozen? ⟨g, 15, none⟩ = false := hpFree h6 15; have c16 : w6.cell? ⟨g, 16, none⟩ = some (.int .i64 d.lv) := hpCell h6 16; have f16 : w6.frozen? ⟨g, 16, none⟩ = false := hpFree h6 16; have c17 : w6.cell? ⟨g, 17, none⟩ = some ov := hpCell h6 17; have f17 : w6.frozen? ⟨g, 17, none⟩ = false := hpFree h6 17)
    obtain ⟨W2, hW2⟩ : ∃ W, ((w6.setCell ⟨g, 15, none⟩ (.int .i64 y.st)).setCell ⟨g, 16, none⟩ (.int .i64 L)).setCell ⟨g, 17,  none⟩ (.slice ra rn rc) = W := ⟨_, rfl⟩
    have h2 : RqI W2 g win 1 (.pointer (some ⟨b, 0, none⟩)) sV mV { d with idn := y.st, lv := L, objs := if y.st = 2 then y.objs else [] } (.slice ra rn rc) sv mv (q + 1) := by rw [← hW2]; exact h6.setIdent y.st L _ _
    have hk2 : Keeps (· = g) w6 W2 := by rw [← hW2]; exact ks1 (ks1 (ks1 (Keeps.refl _ _) _ _) _ _) _ _
    rw [hW2]
    have HTO := hid (rto_two W2 g h2)
    have HK2 := hid hk2
    have HB6 := hid hb6
    clear hW2 h2 hk2 hb6 h6 c15 f15 c16 f16 c17 f17 c9 y0 HRS
    go_wp2_with (go_at_call 93; (with_reducible refine HTO.out.mono ?_); rintro r w7 ⟨rfl, hi7, hk7⟩)
    go_ret
    refine HEN1.out w5 w6 w7 v5 (.slice ra rn rc) cs5 L HY.out HK.out (fun e2 => ?_) (fun e2 => ?_) HB6.out (HK2.out.trans hk7 (fun _ _ e => e)) hi7
    · obtain ⟨e3, h3, h4⟩ := HB.out (.inr e2)
      exact ⟨by rw [HL.out, if_pos e2, e3], by rw [HR.out, if_pos e2], h3, h4⟩
    · exact ⟨by rw [HL.out, if_neg e2], by rw [HR.out, if_neg e2]⟩

end Go.Proofs.YtipnamoocemeeaaGreat
