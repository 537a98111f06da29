/-
  The contract of the identification's Feed where the reply can continue it.
-/
import Derived.Test.YtliblgmpclefgaaIdb
namespace Go.Proofs.Ytliblgmpclefgaa
open Go.RowKit

structure IdLp (P F0 : Nat → Prop) (W1 : World) (g : Nat) (acc : List Ob) (m : Nat) (C0 C1 C3 C4 : Value) (oa : Option Addr) (oc : Nat) (cs : List Value) (wr : World) : Prop where
  at_ : wr.heap[g]? = some (.cells #[C0, C1, .slice oa m oc, C3, C4] 123)
  own : wr.ownsRow 0 69 2 (.slice oa m oc) m cs
  obs : CsL 2 (ObQF (ObF P g (.slice oa m oc)) wr) cs acc
  k : Keeps F0 W1 wr
  pv : ∀ j, (Value.slice oa m oc).ownBlock = some j → P j ∧ j ≠ g ∧ (F0 j ∨ W1.heap.size ≤ j)

theorem IdLp.mid {P F0 : Nat → Prop} {W1 wr w5 w6 : World} {g m : Nat} {acc : List Ob} {C0 C1 C3 C4 : Value} {oa : Option Addr} {oc : Nat} {cs : List Value} {X : Obj} (h : IdLp P F0 W1 g acc m C0 C1 C3 C4 oa oc cs wr)
    (hb5 : Below wr.heap.size wr w5) (hgr : (w5.alloc X).grownBy w6 (Value.slice oa m oc).ownBlock) : w6.heap[g]? = some (.cells #[C0, C1, .slice oa m oc, C3, C4] 123) := by
  have h1 := hpKeep h.at_ (bta hb5 (Nat.le_refl _) X)
  exact hpKeeps (F := fun j => (Value.slice oa m oc).ownBlock = some j) h1 (Keeps.of_grown hgr (fun k hk => hk)) (fun e => (h.pv g e).2.1 rfl)

theorem IdLp.step {P F0 : Nat → Prop} {W1 wr w5 w6 : World} {g m q : Nat} {acc : List Ob} {C0 C1 C3 C4 : Value} {oa a5 a6 : Option Addr} {oc c5 c6 : Nat} {cs : List Value} {X : Obj} {U : TypeId} {y0 : Int} {Y : List UInt8} (h : IdLp P F0 W1 g acc m C0 C1 C3 C4 oa oc cs wr)
    (hup : ∀ j, W1.heap.size ≤ j → P j) (hg : g < W1.heap.size) (hF : F0 g) (hb5 : Below wr.heap.size wr w5) (hY : Y.length = q) (hown5 : w5.ownsRow wr.heap.size U 1 (.slice a5 q c5) q (u8s Y))
    (hown6 : w6.ownsRow 0 69 2 (.slice a6 (m + 1) c6) (m + 1) (cs ++ [.int .i64 y0, .slice a5 q c5])) (hgr : (w5.alloc X).grownBy w6 (Value.slice oa m oc).ownBlock) (hnew : NewOr (w5.alloc X) (.slice oa m oc) (.slice a6 (m + 1) c6)) :
    IdLp P F0 W1 g (acc ++ [⟨y0, Y⟩]) (m + 1) C0 C1 C3 C4 a6 c6 (cs ++ [.int .i64 y0, .slice a5 q c5]) (w6.setCell ⟨g, 2, none⟩ (.slice a6 (m + 1) c6)) := by
  have hszW := h.k.size
  have hsz5 := hb5.size
  have hK1 : Keeps F0 W1 (w5.alloc X) := h.k.trans (Keeps.of_below (F := fun _ => False) (bta hb5 (Nat.le_refl _) X)) (fun _ _ f => f.elim)
  have hK2 : Keeps (fun j => (Value.slice oa m oc).ownBlock = some j) (w5.alloc X) w6 := Keeps.of_grown hgr (fun k hk => hk)
  have hK3 : Keeps F0 W1 w6 := hK1.trans hK2 (fun i hi e => by
    rcases (h.pv i e).2.2 with h1 | h1
    · exact h1
    · omega)
  have hkr : Keeps (fun j => (Value.slice oa m oc).ownBlock = some j) wr w6 := (Keeps.of_below (bta hb5 (Nat.le_refl _) X)).trans hK2 (fun _ _ e => e)
  have hkg : Keeps (· = g) w6 (w6.setCell ⟨g, 2, none⟩ (.slice a6 (m + 1) c6)) := (Keeps.refl _ _).set _ _ rfl
  have hpv6 : ∀ j, (Value.slice a6 (m + 1) c6).ownBlock = some j → P j ∧ j ≠ g ∧ (F0 j ∨ W1.heap.size ≤ j) := by
    intro j hj
    rcases hnew with h1 | ⟨i, h1, h2⟩
    · exact h.pv j (by rw [← h1]; exact hj)
    · rw [hj] at h1
      cases h1
      simp at h2
      exact ⟨hup j (by omega), by omega, .inr (by omega)⟩
  have hF2 : ∀ j, j < wr.heap.size → ObF P g (.slice a6 (m + 1) c6) j → ObF P g (.slice oa m oc) j := by
    intro j hj hF
    rcases hF with hF | hF | hF
    · exact .inl hF
    · exact .inr (.inl hF)
    · rcases hnew with h1 | ⟨i, h1, h2⟩
      · exact .inr (.inr (by rw [← h1]; exact hF))
      · rw [hF] at h1
        cases h1
        simp at h2
        omega
  refine ⟨by rw [hpSet (h.mid hb5 hgr) 2 _]; rfl, own_keeps hown6 hkg (fun j hj e => (hpv6 j hj).2.1 e), ?_, hK3.trans hkg (fun i _ e => by subst e; exact hF), hpv6⟩
  refine CsL.mono (fun r x hx => ObQF.keeps (F := ObF P g (.slice a6 (m + 1) c6)) (hkg.mono (fun j _ e => .inr (.inl e))) (fun _ _ e => e) r x hx) _ _ ?_
  refine CsL.snoc (sz := 2) rfl ?_ acc cs (CsL.mono (fun r x hx => ObQF.keeps (hkr.mono (G := ObF P g (.slice oa m oc)) (fun j _ e => .inr (.inr e))) hF2 r x hx) acc cs h.obs)
  refine ⟨a5, c5, by show _ = [Value.int .i64 y0, .slice a5 Y.length c5]; rw [hY], ?_, fun ad had => ?_⟩
  · show Bs w6 (.slice a5 Y.length c5) Y
    rw [hY]
    have hb : Bs (w5.alloc X) (.slice a5 q c5) Y := by
      subst hY
      exact (Bs.own hown5).keep (bal'' w5 X)
    exact hb.keepF hK2 (fun ad had e => by
      have h1 := (hown5.lt ad.block (by rw [had]; rfl)).1
      have h2 := (h.own.lt _ e).2
      omega)
  · have h1 := hown5.lt ad.block (by rw [had]; rfl)
    refine ⟨fun e => ?_, Nat.lt_of_lt_of_le h1.2 (Nat.le_trans (by simp) hK2.size)⟩
    rcases e with e | e | e
    · exact e (hup _ (by omega))
    · omega
    · rcases hnew with h2 | ⟨i, h2, h3⟩
      · rw [e] at h2
        have := (h.own.lt _ h2.symm).2
        omega
      · rw [e] at h2
        cases h2
        simp at h3
        omega

def IdF (g : Nat) (v : Value) (j : Nat) : Prop := j = g ∨ v.ownBlock = some j
theorem IdLp.start {P : Nat → Prop} {w wc W1 : World} {g : Nat} {x : Idn} {va : Option Addr} {vc : Nat} {cs : List Value} {C0 C1 C3 C4 : Value} (h : IdAt P w g x (.slice va x.objs.length vc) cs) (hb : Below w.heap.size w wc) (hk : Keeps (· = g) wc W1)
    (pg : W1.heap[g]? = some (.cells #[C0, C1, .slice va x.objs.length vc, C3, C4] 123)) : IdLp (Up P w) (IdF g (.slice va x.objs.length vc)) W1 g x.objs x.objs.length C0 C1 C3 C4 va vc cs W1 := by
  have hk2 : Keeps (· = g) w W1 := (Keeps.of_below hb).trans hk (fun _ _ e => e)
  refine ⟨pg, own_keeps h.own hk2 (fun j hj e => (h.pv j hj).2 e), ?_, Keeps.refl _ _, fun j hj => ⟨.inl (h.pv j hj).1, (h.pv j hj).2, .inl (.inr hj)⟩⟩
  exact CsL.mono (fun r z hz => ObQF.keeps (F := ObF P g (.slice va x.objs.length vc)) (hk2.mono (fun k _ e => .inr (.inl e))) (fun j _ hj => by
      rcases hj with hj | hj | hj
      · exact .inl (fun h => hj (.inl h))
      · exact .inr (.inl hj)
      · exact .inr (.inr hj)) r z hz) _ _ h.obs

theorem IdLp.ends {P F0 : Nat → Prop} {w W1 wr w' : World} {g m : Nat} {acc : List Ob} {C0 C1 C3 C4 : Value} {oa : Option Addr} {oc : Nat} {cs : List Value} (h : IdLp (Up P w) F0 W1 g acc m C0 C1 C3 C4 oa oc cs wr) (hk1 : Keeps P w W1) (hF0 : ∀ j, F0 j → P j) (hg : P g)
    (hk : Keeps (· = g) wr w') (y : Idn) (hy : acc = y.objs) (hm : m = y.objs.length) (hat : w'.heap[g]? = some (.cells #[.int .i64 y.st, .int .i64 y.level, .slice oa m oc, .int .i64 y.next, .int .i64 y.cnt] 123)) :
    IdFed P w g y (.returned (.int .i64 0)) w' := by
  have hkw : Keeps P w w' := (hk1.trans h.k (fun i _ e => hF0 i e)).trans hk (fun i _ e => by subst e; exact hg)
  subst hm hy
  refine ⟨rfl, ⟨_, cs, hat, own_keeps h.own hk (fun j hj e => (h.pv j hj).2.1 e), ?_, .inl hg, fun j hj => ⟨?_, (h.pv j hj).2.1⟩⟩, hkw⟩
  · refine CsL.mono (fun r x hx => ?_) _ _ h.obs
    have hx2 := ObQF.keeps (F2 := ObF (Up P w) g (.slice oa y.objs.length oc)) (hk.mono (G := ObF (Up P w) g (.slice oa y.objs.length oc)) (fun j _ e => .inr (.inl e))) (fun _ _ e => e) r x hx
    obtain ⟨a, c, h1, h2, h3⟩ := hx2
    refine ⟨a, c, h1, h2, fun ad had => ⟨fun e => ?_, (h3 ad had).2⟩⟩
    rcases e with e | e | e
    · exact (h3 ad had).1 (.inl (fun u => e (by
        rcases u with u | u
        · exact .inl u
        · exact .inr ⟨u, (h3 ad had).2⟩)))
    · exact (h3 ad had).1 (.inr (.inl e))
    · exact (h3 ad had).1 (.inr (.inr e))
  · rcases (h.pv j hj).1 with u | u
    · exact .inl u
    · exact .inr ⟨u, Nat.lt_of_lt_of_le (h.own.lt j hj).2 hk.size⟩

set_option maxRecDepth 100000 in
set_option maxHeartbeats 12800000 in
theorem ifeed_g {P : Nat → Prop} {w : World} {g : Nat} {x : Idn} {v : Value} {cs : List Value} (h : IdAt P w g x v cs) (hst : x.st = 0) (hk : x.ok) (O : Oc) (da : Option Addr) (dc : Nat) (oa : Option Addr) (oc : Nat) (HI : InAt P w O da dc oa oc) (hO : O.fit) (hv : O.verdict = 1) (hf : O.reply.fn = 43) (hb : O.reply.ordB x.next = true) (hl : x.cnt = 0 ∨ (0 < x.cnt ∧ O.reply.level = x.level))
    (y : Idn) (hy : y = ⟨if O.reply.more then (if x.cnt + 1 = 32 then 4 else 0) else 2, O.reply.level, x.objs ++ O.reply.objs, O.reply.next, x.cnt + 1⟩) :
    Calls Try.prog 119 #[.pointer (some ⟨g, 0, none⟩), .agg #[.int .i64 O.verdict, .int .i64 O.reply.fn, .int .i64 O.reply.exc, .slice da O.reply.data.length dc, .int .i64 O.reply.code, .int .i64 O.reply.level, .bool O.reply.more, .int .i64 O.reply.next, .slice oa O.reply.objs.length oc]] w (IdFed P w g y) := by
  obtain ⟨V, hV⟩ : ∃ V, Hid (O.reply.ordB x.next = V) := ⟨_, rfl⟩
  have HST := hid hst
  obtain ⟨W0, hW0⟩ : ∃ W, (w.alloc (.cells #[.int .i64 O.verdict, .int .i64 O.reply.fn, .int .i64 O.reply.exc, .slice da O.reply.data.length dc, .int .i64 O.reply.code, .int .i64 O.reply.level, .bool O.reply.more, .int .i64 O.reply.next, .slice oa O.reply.objs.length oc] 59)).alloc (.cells #[.int .i64 O.reply.fn, .int .i64 O.reply.exc, .slice da O.reply.data.length dc, .int .i64 O.reply.code, .int .i64 O.reply.level, .bool O.reply.more, .int .i64 O.reply.next, .slice oa O.reply.objs.length oc] 57) = W := ⟨_, rfl⟩; have hb0 : Below w.heap.size w W0 := (by rw [← hW0]; exact bta (bal' w _) (Nat.le_refl _) _); have hz0 : W0.heap.size = w.heap.size + 2 := (by rw [← hW0]; simp); have pA : W0.heap[w.heap.size]? = some (.cells #[.int .i64 O.verdict, .int .i64 O.reply.fn, .int .i64 O.reply.exc, .slice da O.reply.data.length dc, .int .i64 O.reply.code, .int .i64 O.reply.level, .bool O.reply.more, .int .i64 O.reply.next, .slice oa O.reply.objs.length oc] 59) := (by rw [← hW0]; exact hpKeep (hpNew w _) (bal' _ _)); have pB : W0.heap[w.heap.size + 1]? = some (.cells #[.int .i64 O.reply.fn, .int .i64 O.reply.exc, .slice da O.reply.data.length dc, .int .i64 O.reply.code, .int .i64 O.reply.level, .bool O.reply.more, .int .i64 O.reply.next, .slice oa O.reply.objs.length oc] 57) := (by rw [← hW0]; have := hpNew (w.alloc (.cells #[.int .i64 O.verdict, .int .i64 O.reply.fn, .int .i64 O.reply.exc, .slice da O.reply.data.length dc, .int .i64 O.reply.code, .int .i64 O.reply.level, .bool O.reply.more, .int .i64 O.reply.next, .slice oa O.reply.objs.length oc] 59)) (.cells #[.int .i64 O.reply.fn, .int .i64 O.reply.exc, .slice da O.reply.data.length dc, .int .i64 O.reply.code, .int .i64 O.reply.level, .bool O.reply.more, .int .i64 O.reply.next, .slice oa O.reply.objs.length oc] 57); simpa using this); have l0 := hpKeep h.at_ hb0; have hgl : g < w.heap.size := h.lt; have HW0 := hid hW0; have HB0 := hid hb0; have HZ0 := hid hz0; have PA := hid pA; have PB := hid pB; have L0 := hid l0; clear hW0 hb0 hz0 pA pB l0
  obtain ⟨c, hcn⟩ : ∃ c : Int, (x.cnt : Int) = c := ⟨_, rfl⟩; have HCN := hid hcn; have a0 : (w.alloc (.cells #[.int .i64 O.verdict, .int .i64 O.reply.fn, .int .i64 O.reply.exc, .slice da O.reply.data.length dc, .int .i64 O.reply.code, .int .i64 O.reply.level, .bool O.reply.more, .int .i64 O.reply.next, .slice oa O.reply.objs.length oc] 59)).cell? ⟨g, 0, none⟩ = some (.int .i64 0) := (by have := hpCell (hpKeep h.at_ (bal' w (.cells #[.int .i64 O.verdict, .int .i64 O.reply.fn, .int .i64 O.reply.exc, .slice da O.reply.data.length dc, .int .i64 O.reply.code, .int .i64 O.reply.level, .bool O.reply.more, .int .i64 O.reply.next, .slice oa O.reply.objs.length oc] 59))) 0; rw [HST.out] at this; exact this); have k0 : Below W0.heap.size W0 W0 := Below.refl _ _; have kD : Below W0.heap.size W0 W0.drew := (Below.refl _ _).drew; have g1 : ∀ X, Below W0.heap.size W0 X → X.cell? ⟨g, 1, none⟩ = some (.int .i64 x.level) := fun X h => hpCell (hpKeep L0.out h) 1; have g3 : ∀ X, Below W0.heap.size W0 X → X.cell? ⟨g, 3, none⟩ = some (.int .i64 x.next) := fun X h => hpCell (hpKeep L0.out h) 3; have g4 : ∀ X, Below W0.heap.size W0 X → X.cell? ⟨g, 4, none⟩ = some (.int .i64 c) := (fun X h => (by rw [← hcn]; exact hpCell (hpKeep L0.out h) 4)); have g0 : ∀ X, Below W0.heap.size W0 X → X.frozen? ⟨g, 0, none⟩ = false := fun X h => hpFree (hpKeep L0.out h) 0; have gc0 : ∀ X, Below W0.heap.size W0 X → X.cell? ⟨g, 0, none⟩ = some (.int .i64 x.st) := fun X h => hpCell (hpKeep L0.out h) 0; have o0 : ∀ X, Below W0.heap.size W0 X → X.cell? ⟨w.heap.size, 0, none⟩ = some (.int .i64 O.verdict) := fun X h => hpCell (hpKeep PA.out h) 0; have r0 : ∀ X, Below W0.heap.size W0 X → X.cell? ⟨w.heap.size + 1, 0, none⟩ = some (.int .i64 O.reply.fn) := fun X h => hpCell (hpKeep PB.out h) 0; have r1 : ∀ X, Below W0.heap.size W0 X → X.cell? ⟨w.heap.size + 1, 1, none⟩ = some (.int .i64 O.reply.exc) := fun X h => hpCell (hpKeep PB.out h) 1; have r2 : ∀ X, Below W0.heap.size W0 X → X.cell? ⟨w.heap.size + 1, 2, none⟩ = some (.slice da O.reply.data.length dc) := fun X h => hpCell (hpKeep PB.out h) 2; have r3 : ∀ X, Below W0.heap.size W0 X → X.cell? ⟨w.heap.size + 1, 3, none⟩ = some (.int .i64 O.reply.code) := fun X h => hpCell (hpKeep PB.out h) 3; have r4 : ∀ X, Below W0.heap.size W0 X → X.cell? ⟨w.heap.size + 1, 4, none⟩ = some (.int .i64 O.reply.level) := fun X h => hpCell (hpKeep PB.out h) 4; have r5 : ∀ X, Below W0.heap.size W0 X → X.cell? ⟨w.heap.size + 1, 5, none⟩ = some (.bool O.reply.more) := fun X h => hpCell (hpKeep PB.out h) 5; have r6 : ∀ X, Below W0.heap.size W0 X → X.cell? ⟨w.heap.size + 1, 6, none⟩ = some (.int .i64 O.reply.next) := fun X h => hpCell (hpKeep PB.out h) 6; have r7 : ∀ X, Below W0.heap.size W0 X → X.cell? ⟨w.heap.size + 1, 7, none⟩ = some (.slice oa O.reply.objs.length oc) := (fun X h => hpCell (hpKeep PB.out h) 7); clear hcn
  have H := hid h
  have HY := hid hy
  have HF := hid hO
  have HK := hid hk
  have d1 : (O.verdict == 2) = false := b0 (by omega)
  have d9 : (O.verdict != 1) = false := by rw [bne_eq_false_iff_eq]; exact hv
  have d8 : (O.reply.fn != 43) = false := by rw [bne_eq_false_iff_eq]; exact hf
  have HCO : Hid (∀ X, Below W0.heap.size W0 X → Calls Try.prog 121 #[.agg #[.int .i64 O.reply.fn, .int .i64 O.reply.exc, .slice da O.reply.data.length dc, .int .i64 O.reply.code, .int .i64 O.reply.level, .bool O.reply.more, .int .i64 O.reply.next, .slice oa O.reply.objs.length oc], .int .i64 x.next] X fun r w' => r = .returned (.bool V) ∧ Below X.heap.size X w') := fun X hX => ordered_any O.reply da dc oa oc x.next hk.n0 hk.n1 X (HI X (Keeps.of_below (bt HB0.out hX (Nat.le_refl _)))).o V hV
  rw [hV.out] at hb
  subst hb
  have hl' : c = 0 ∨ (0 < c ∧ (O.reply.level != x.level) = false) := by
    have hc := HCN.out
    rcases hl with h1 | ⟨h1, h2⟩
    · exact .inl (by omega)
    · exact .inr ⟨by omega, by rw [bne_eq_false_iff_eq]; exact h2⟩
  have sc : IntKind.i64.wrap (c + 1) = c + 1 := IntWalk.i64_in _ (by have := HCN.out; have := HK.out.cn; omega)
  obtain ⟨va, vc, rfl⟩ := own_slice h.own
  have HIN := hid HI
  clear h hy hst hv hf hk hO hV hl HI
  go_enter Try.func119, Try.ntmps119; go_upto_region 6 with (fail); rw [HW0.out]
  go_upto_region 9 with (fail)
  go_region_held3 (fun X => Below W0.heap.size W0 X) ((first | exact k0 | exact kD | exact bt ‹_› ‹_› (Nat.le_refl _) | assumption)) ((go_at_call 121; (with_reducible refine (HCO.out _ kD).mono ?_); rintro r w5 ⟨rfl, hb5⟩; have hB5 := bt kD hb5 (Nat.le_refl _)))
  all_goals
    go_upto_region 10 with (fail)
    go_cut [38] from 56 to 69 (fun s wc => s = .bool false ∧ Below W0.heap.size W0 wc)
    case first =>
      rcases hl' with rfl | ⟨d5, d6⟩
      all_goals
        go_quiet (fail)
        go_wp2
        go_meet
        case rel => exact ⟨rfl, below_drewN (by assumption) _⟩
    case rest =>
      obtain ⟨rfl, hbc⟩ := hcut
      have gc := hpKeep L0.out hbc
      have HBC := hid hbc
      have f1 : wc.frozen? ⟨g, 1, none⟩ = false := hpFree gc 1
      have f4 : wc.frozen? ⟨g, 4, none⟩ = false := hpFree gc 4
      obtain ⟨W1, hW1⟩ : ∃ W, (wc.setCell ⟨g, 1, none⟩ (.int .i64 O.reply.level)).setCell ⟨g, 4, none⟩ (.int .i64 (c + 1)) = W := ⟨_, rfl⟩
      have hk1 : Keeps (· = g) wc W1 := by rw [← hW1]; exact ks1 (ks1 (Keeps.refl _ _) _ _) _ _
      have pg : W1.heap[g]? = some (.cells #[.int .i64 x.st, .int .i64 O.reply.level, .slice va x.objs.length vc, .int .i64 x.next, .int .i64 (c + 1)] 123) := by
        rw [← hW1]
        exact hpSetP (hpSetP gc rfl) rfl
      go_upto_region 15 with (fail)
      have HK1 : Hid (Keeps P w W1) := (Keeps.of_below (bt HB0.out hbc (Nat.le_refl _))).trans hk1 (fun j _ e => by subst e; exact H.out.pg)
      have hgl1 : g < W1.heap.size := hpLt pg
      have hB1 : w.heap.size + 2 ≤ W1.heap.size := by have := HZ0.out; have := hbc.size; have := hk1.size; omega
      have pr : W1.heap[w.heap.size + 1]? = some (.cells #[.int .i64 O.reply.fn, .int .i64 O.reply.exc, .slice da O.reply.data.length dc, .int .i64 O.reply.code, .int .i64 O.reply.level, .bool O.reply.more, .int .i64 O.reply.next, .slice oa O.reply.objs.length oc] 57) := hpKeeps (hpKeep PB.out hbc) hk1 (fun e => by omega)
      have q7 : W1.cell? ⟨w.heap.size + 1, 7, none⟩ = some (.slice oa O.reply.objs.length oc) := hpCell pr 7
      have HSTART : Hid (IdLp (Up P w) (IdF g (.slice va x.objs.length vc)) W1 g x.objs x.objs.length (.int .i64 x.st) (.int .i64 O.reply.level) (.int .i64 x.next) (.int .i64 (c + 1)) va vc cs W1) := IdLp.start H.out (bt HB0.out hbc (Nat.le_refl _)) hk1 pg
      have HPR := hid pr
      clear hW1 gc f1 f4 pg hk1 hbc pr HBC a0 k0 kD g1 g3 g4 g0 gc0 o0 r0 r1 r2 r3 r4 r5 r6 r7 hl' sc
      obtain ⟨n, hN⟩ : ∃ n, O.reply.objs.length = n := ⟨_, rfl⟩
      have HN := hid hN
      have hn40 : n ≤ 40 := by have := HF.out.objs; omega
      have hx40 : x.objs.length ≤ 1240 := by have := HK.out.ob; have := HK.out.cn; omega
      rw [hN] at q7 ⊢
      clear hN
      go_wp2
      clear q7
      go_loopw [88] (fun iv wr => ∃ (k : Nat) (va' : Option Addr) (vc' : Nat) (cs' : List Value), k ≤ n ∧ iv = .int .i64 k ∧ Hid (IdLp (Up P w) (IdF g (.slice va x.objs.length vc)) W1 g (x.objs ++ O.reply.objs.take k) (x.objs.length + k) (.int .i64 x.st) (.int .i64 O.reply.level) (.int .i64 x.next) (.int .i64 (c + 1)) va' vc' cs' wr)) (fun iv _ => n - (intOf iv).toNat)
      case atStart => exact ⟨0, va, vc, cs, Nat.zero_le _, rfl, by rw [List.take_zero, List.append_nil]; exact HSTART.out⟩
      case round =>
        obtain ⟨k, va', vc', cs', hk, rfl, HL⟩ := hrel
        clear HSTART
        by_cases hlt : k < n
        · obtain ⟨z, hgx⟩ := get_some (l := O.reply.objs) rfl (by rw [HN.out]; exact hlt)
          have hkwr : Keeps P w wr := HK1.out.trans HL.out.k (fun j _ e => by
            rcases e with e | e
            · subst e; exact H.out.pg
            · exact (H.out.pv j e).1)
          have hobs := (HIN.out wr hkwr).o
          rw [HN.out] at hobs
          obtain ⟨b, o, cc, hv, _, _, hcell⟩ := hobs.at (by rintro e; rw [e] at hgx; simp at hgx)
          simp only [Value.slice.injEq, HN.out, true_and] at hv
          obtain ⟨rfl, rfl⟩ := hv
          obtain ⟨z1, vv, z2, hvv⟩ := hcell k z hgx
          obtain ⟨xa, xc, rfl, _⟩ := id hvv
          have hzl : z.val.length ≤ 300 := HF.out.vals z (List.mem_of_getElem? hgx)
          have HX := hid hgx
          have HVV := hid hvv
          clear hobs hcell hvv hgx hkwr
          obtain ⟨m, hm⟩ : ∃ m, x.objs.length + k = m := ⟨_, rfl⟩
          have HM := hid hm
          have hm1 : m ≤ 1280 := by omega
          rw [hm] at HL
          obtain ⟨q, hq⟩ : ∃ q, z.val.length = q := ⟨_, rfl⟩
          have HQ := hid hq
          rw [hq] at z2 HVV hzl
          obtain ⟨zi, hzi⟩ : ∃ q, z.id = q := ⟨_, rfl⟩
          have HZI := hid hzi
          rw [hzi] at z1
          obtain ⟨WX, hWX⟩ : ∃ W, wr.alloc (.cells #[.int .i64 zi, .slice xa q xc] 69) = W := ⟨_, rfl⟩
          have hbx : Below wr.heap.size wr WX := by rw [← hWX]; exact bal' _ _
          have px : WX.heap[wr.heap.size]? = some (.cells #[.int .i64 zi, .slice xa q xc] 69) := by rw [← hWX]; exact hpNew _ _
          have e2 : ∀ X, Below WX.heap.size WX X → X.cell? ⟨g, 2, none⟩ = some (.slice va' m vc') := fun X h => hpCell (hpKeep (hpKeep HL.out.at_ hbx) h) 2
          have x0 : ∀ X, Below WX.heap.size WX X → X.cell? ⟨wr.heap.size, 0, none⟩ = some (.int .i64 zi) := fun X h => hpCell (hpKeep px h) 0
          have x1 : ∀ X, Below WX.heap.size WX X → X.cell? ⟨wr.heap.size, 1, none⟩ = some (.slice xa q xc) := fun X h => hpCell (hpKeep px h) 1
          have k0 : Below WX.heap.size WX WX := Below.refl _ _
          have kd : Below WX.heap.size WX WX.drew := (Below.refl _ _).drew
          have kA : ∀ W X, Below WX.heap.size WX W → Below WX.heap.size WX (W.alloc X) := fun W X h => bta h (Nat.le_refl _) X
          have HCL : Hid (∀ X, Below WX.heap.size WX X → Calls Try.prog 46 #[.slice xa q xc] X fun r w' => ∃ v', r = .returned v' ∧ w'.ownsRow X.heap.size 5 1 v' q (u8s z.val) ∧ Below X.heap.size X w') := fun X hX => by
            have h := clone_any (.slice xa q xc) z.val X (HVV.out.keep (bt hbx hX (Nat.le_refl _))) (by omega)
            rw [HQ.out] at h
            exact h
          obtain ⟨iO, hiO, hzO0, hzO1, hzO2⟩ := info_parts infoOb
          have hki : (0 : Int) ≤ (k : Int) := Int.natCast_nonneg _
          have hkl : (k : Int) < (n : Int) := by omega
          have HBX := hid hbx
          clear hm hq hzi px hbx
          go_upto_region 18 with (fail)
          go_region_law (first
            | (refine step_appN rfl (.tmp 96) (.tmp 103) 37 rfl 0 69 iO _ 2 32 Try.underlying37 hiO hzO0 hzO1 hzO2 rfl (by decide) (.slice va' m vc') m cs' rfl HO5.out ⟨w5.heap.size, 0, none⟩ 1 1 [.int .i64 zi, .slice a5 q c5] rfl rfl (newsNew w5 [.int .i64 zi, .slice a5 q c5] _) (by intro u hu; simp at hu; rcases hu with rfl | rfl <;> rfl) (by unfold maxLen; omega) (by omega) (by omega) ?_; intro v6 w6 hown6 hgr6 hnew6; obtain ⟨a6, c6, rfl⟩ := own_slice hown6; have hmid := HL.out.mid hb5 hgr6; have e2' : w6.cell? ⟨g, 2, none⟩ = some (.slice va' m vc') := hpCell hmid 2; have f2' : w6.frozen? ⟨g, 2, none⟩ = false := hpFree hmid 2)
            | (go_wp2_with (go_at_call 46; refine (HCL.out _ kd).mono ?_; rintro r w5 ⟨v5, rfl, hown5, hbel5⟩; obtain ⟨a5, c5, rfl⟩ := own_slice hown5; have hb5x : Below WX.heap.size WX w5 := bt kd hbel5 (Nat.le_refl _); have hb5 : Below wr.heap.size wr w5 := bt HBX.out hb5x (Nat.le_refl _); have HO5 := hid ((own_keeps HL.out.own (Keeps.of_below (F := fun _ => False) hb5) (fun _ _ f => f)).alloc (.cells #[.int .i64 zi, .slice a5 q c5] 69)))))
          all_goals
            have HN2 := hid (HL.out.step (y0 := zi) (Y := z.val) (fun j hj => .inr (by omega)) hgl1 (.inl rfl) hb5 HQ.out (own_lower hown5 HBX.out.size) hown6 hgr6 hnew6)
            have HN3 : Hid (IdLp (Up P w) (IdF g (.slice va x.objs.length vc)) W1 g (x.objs ++ O.reply.objs.take (k + 1)) (x.objs.length + (k + 1)) (.int .i64 x.st) (.int .i64 O.reply.level) (.int .i64 x.next) (.int .i64 (c + 1)) a6 c6 (cs' ++ [.int .i64 zi, .slice a5 q c5]) (w6.setCell ⟨g, 2, none⟩ (.slice a6 (m + 1) c6))) := by
              have e : x.objs ++ O.reply.objs.take (k + 1) = x.objs ++ O.reply.objs.take k ++ [⟨zi, z.val⟩] := by rw [take_succ_snoc HX.out, ← List.append_assoc, ← HZI.out]
              rw [e, show x.objs.length + (k + 1) = m + 1 by have := HM.out; omega]
              exact HN2.out
            clear HN2 hown6 hgr6 hnew6 hmid
            go_wp2
            go_roundw
            case rel => exact ⟨k + 1, a6, c6, _, by omega, by go_num, HN3.out⟩
            case measure => simp [intOf]; omega
        · obtain rfl : k = n := by omega
          have prw : wr.heap[w.heap.size + 1]? = some (.cells #[.int .i64 O.reply.fn, .int .i64 O.reply.exc, .slice da O.reply.data.length dc, .int .i64 O.reply.code, .int .i64 O.reply.level, .bool O.reply.more, .int .i64 O.reply.next, .slice oa O.reply.objs.length oc] 57) := hpKeeps HPR.out HL.out.k (fun e => by
            rcases e with e | e
            · omega
            · have := (H.out.own.lt _ e).2; omega)
          have e5 : wr.cell? ⟨w.heap.size + 1, 5, none⟩ = some (.bool O.reply.more) := hpCell prw 5
          have e6 : wr.cell? ⟨w.heap.size + 1, 6, none⟩ = some (.int .i64 O.reply.next) := hpCell prw 6
          have gat := HL.out.at_
          have e4 : wr.cell? ⟨g, 4, none⟩ = some (.int .i64 (c + 1)) := hpCell gat 4
          have e0 : wr.cell? ⟨g, 0, none⟩ = some (.int .i64 x.st) := hpCell gat 0
          have e3 : wr.cell? ⟨g, 3, none⟩ = some (.int .i64 x.next) := hpCell gat 3
          have f0 : wr.frozen? ⟨g, 0, none⟩ = false := hpFree gat 0
          have f3 : wr.frozen? ⟨g, 3, none⟩ = false := hpFree gat 3
          have GAT := hid gat
          have HT : Hid (O.reply.objs.take k = O.reply.objs) := List.take_of_length_le (by rw [HN.out]; exact Nat.le_refl _)
          have hce : Hid (c + 1 = ((x.cnt + 1 : Nat) : Int)) := by show _ = _; have := HCN.out; omega
          have HEND : Hid (∀ (w' : World) (y : Idn), Keeps (· = g) wr w' → y.objs = x.objs ++ O.reply.objs → y.cnt = x.cnt + 1 → w'.heap[g]? = some (.cells #[.int .i64 y.st, .int .i64 y.level, .slice va' (x.objs.length + k) vc', .int .i64 y.next, .int .i64 (c + 1)] 123) → IdFed P w g y (.returned (.int .i64 0)) w') := fun w' y h1 h2 h3 h4 => by
            refine HL.out.ends HK1.out (fun j e => ?_) H.out.pg h1 y (by rw [HT.out, h2]) (by rw [h2, List.length_append, HN.out]) (by rw [h4, hce.out, h3])
            rcases e with e | e
            · subst e; exact H.out.pg
            · exact (H.out.pv j e).1
          clear prw gat HL
          cases hmo : O.reply.more with
          | false =>
            have HY2 : Hid (y = ⟨2, O.reply.level, x.objs ++ O.reply.objs, O.reply.next, x.cnt + 1⟩) := by show _ = _; rw [HY.out, hmo]; rfl
            rw [hmo] at e5
            go_wp2
            go_ret
            rw [HY2.out]
            exact HEND.out _ _ (ks1 (ks1 (Keeps.refl _ _) _ _) _ _) rfl rfl (hpSetP (hpSetP GAT.out rfl) rfl)
          | true =>
            rw [hmo] at e5
            by_cases h32 : c + 1 = 32
            · have HY2 : Hid (y = ⟨4, O.reply.level, x.objs ++ O.reply.objs, O.reply.next, x.cnt + 1⟩) := by show _ = _; rw [HY.out, hmo, if_pos rfl, if_pos (by have := hce.out; omega)]
              have d32 := b1 h32
              clear h32
              go_wp2
              go_ret
              rw [HY2.out]
              exact HEND.out _ _ (ks1 (ks1 (Keeps.refl _ _) _ _) _ _) rfl rfl (hpSetP (hpSetP GAT.out rfl) rfl)
            · have HY2 : Hid (y = ⟨0, O.reply.level, x.objs ++ O.reply.objs, O.reply.next, x.cnt + 1⟩) := by show _ = _; rw [HY.out, hmo, if_pos rfl, if_neg (by have := hce.out; omega)]
              have d32 := b0 h32
              clear h32
              go_wp2
              go_ret
              rw [HY2.out]
              refine HEND.out _ _ (ks1 (Keeps.refl _ _) _ _) rfl rfl (hpSetP GAT.out ?_)
              rw [HST.out]
              rfl

end Go.Proofs.Ytliblgmpclefgaa
