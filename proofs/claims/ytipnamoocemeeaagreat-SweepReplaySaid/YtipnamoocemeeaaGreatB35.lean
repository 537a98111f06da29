/-
  Texts 35 of the claim.
-/
import Derived.Test.YtipnamoocemeeaaGreatB34
import Derived.Deep.CutBlock
import Derived.Deep.MidRow
/-
  The program's sweep: Next.
-/
namespace Go.Proofs.YtipnamoocemeeaaGreat
open Go.RowKit
theorem info5 : (Tryz.prog.info? 39).map (·.size) = some 5 := by kernel_rfl
theorem run_load_rowS {P : Program} {ev : Operand → Value} {o : Oper} {w : World} (ty : TypeId) (x : Operand) (ho : o.op = .load ty x)
    (ad : Addr) (hx : ev x = .pointer (some ad)) (cs : Array Value) (d : TypeDesc) (hc : ∀ j v, cs.toList[j]? = some v → w.cell? (ad.add j) = some v)
    (hu : P.underlying ty = some d) (hd : (match d with | .struct _ | .array _ _ => true | _ => false) = true) (hi : (P.info? ty).map (·.size) = some cs.size) :
    (execOp ev o).run P w = .ok (.value (.agg cs)) w := by
  unfold execOp
  simp only [ho, hx, Instr.loadAt, Instr.sureAddr, Sem.run_bind, Sem.run_pure, Result.andThen_ok, run_loadVar_at w ad ty cs d hc hu hd hi]
theorem hpRowAt2 {w : World} {b : Nat} {C : Array Value} {t : TypeId} {fz : Nat × Nat} (h : w.heap[b]? = some (.cells C t fz)) (j : Nat) (v : Value) (hj : C.toList[j]? = some v) : w.cell? ((⟨b, 0, none⟩ : Addr).add j) = some v := by
  have e : (⟨b, 0, none⟩ : Addr).add j = ⟨b, j, none⟩ := by unfold Addr.add; split <;> simp_all
  rw [e, hpCell h]
  simpa using hj
/-- A whole structure stored into a block that is known whole, as a step of a statement whose order is open. -/
theorem step_storeS {P : Program} {w : World} {ops : Array Oper} {op : Oper} {a : Act} {K : Act → World → Prop} {Q : Exit → Act → World → Prop} {E : Prop} (hgd : op.guard = none) (ty : TypeId) (x y : Operand) (ho : op.op = .store ty x y)
    (p o : Nat) (old : Array Value) (t : TypeId) (cells : Array Value) (hx : a.eval x = .pointer (some ⟨p, o, none⟩)) (hy : a.eval y = .agg cells)
    (hb : w.heap[p]? = some (.cells old t (0, 0))) (hsz : o + cells.size ≤ old.size) (hi : (P.info? ty).map (·.size) = some cells.size) (h1 : cells.toList.all (·.oneCell') = true)
    (h : ∀ w', w'.heap[p]? = some (.cells (old.toList.take o ++ cells.toList ++ old.toList.drop (o + cells.toList.length)).toArray t (0, 0)) → Keeps (· = p) w w' → w'.heap.size = w.heap.size → K (a.put op.dst undef) w') :
    if Region.wanted op (yielded ops a.tmps) = true then Oper.wp P op a w K Q else E := by
  rw [if_pos (by simp [Region.wanted, hgd])]
  refine wp_store_mid ty x y ho p o cells hx hy (fun j hj => ?_) hi (by rw [← Array.all_toList]; exact h1) ?_
  · refine ⟨?_, hpFree hb _⟩
    rw [hpCell hb]
    simp
    omega
  · obtain ⟨k1, k2⟩ := keepsCells p cells.toList o w
    exact h _ (hpSetCells p t (0, 0) cells.toList o w old hb (by simpa using hsz)) k1 k2
theorem SwC_cf {c : Cf} {sv pv fv : Value} {a n : Int} (j : Nat) (v : Value) (h : (CfC c sv).toList[j]? = some v) : (SwC c sv pv fv a n)[j]? = some v := by
  have e : (SwC c sv pv fv a n).toList = (CfC c sv).toList ++ [.int .i64 a, pv, fv, .int .i64 n] := rfl
  have h2 : (SwC c sv pv fv a n).toList[j]? = some v := by
    rw [e, List.getElem?_append_left (List.getElem?_eq_some_iff.1 h).1]
    exact h
  simpa using h2
structure NxS (b : Nat) (q : Rq) (W V : World) : Prop where
  h : V.heap[b]? = some (.cells #[.int .i64 q.fn, .int .i64 q.addr, .int .i64 q.qty, .int .i64 q.code, .int .i64 q.obj] 39)
  k : Keeps (· = b) W V
/-- What Next answers. -/
def NxPost (w : World) (c : Cf) (x : Sp) (r : Ending) (w' : World) : Prop :=
  r = .returned (.tuple (if x.at_ < c.units then #[.int .i64 (c.pSet x.at_), .int .i64 (c.pUnit x.at_), .agg (#[.int .i64 x.pb.ph.ask.fn, .int .i64 x.pb.ph.ask.addr, .int .i64 x.pb.ph.ask.qty, .int .i64 x.pb.ph.ask.code, .int .i64 x.pb.ph.ask.obj]), .bool true] else #[.int .i64 0, .int .i64 0, .agg (#[.int .i64 0, .int .i64 0, .int .i64 0, .int .i64 0, .int .i64 0]), .bool false])) ∧ Below w.heap.size w w'

set_option maxRecDepth 100000 in
set_option maxHeartbeats 6400000 in
theorem snext_sw {P : Nat → Prop} {w : World} {g : Nat} {c : Cf} {x : Sp} (hc : chkE c = 0) (h : SwAt P w g c x) (hok : x.at_ < c.units → x.pb.ph.ok c.win ∧ x.pb.ph.isDone = false) (ha : x.at_ ≤ 1000000) :
    Calls Tryz.prog 12 #[.pointer (some ⟨g, 0, none⟩)] w (NxPost w c x) := by
  obtain ⟨M, Q, sv, pv, fa, fc, cs, hs⟩ := h
  have hgl : g < w.heap.size := hpLt hs.at_
  obtain ⟨W0, hW0⟩ : ∃ W, w.alloc (.cells #[.int .i64 0, .int .i64 0, .int .i64 0, .int .i64 0, .int .i64 0] 39) = W := ⟨_, rfl⟩
  have hb0 : Below w.heap.size w W0 := by rw [← hW0]; exact bal' w _
  have p0 : W0.heap[w.heap.size]? = some (.cells #[.int .i64 0, .int .i64 0, .int .i64 0, .int .i64 0, .int .i64 0] 39) := by rw [← hW0]; exact hpNew w _
  have hz0 : W0.heap.size = w.heap.size + 1 := by rw [← hW0]; simp
  have hg0 := hpKeep hs.at_ hb0
  have c17 : ∀ X, Below W0.heap.size W0 X → X.cell? ⟨g, 17, none⟩ = some pv := fun X k => hpCell (hpKeep hg0 k) 17
  have c16 : ∀ X, Below W0.heap.size W0 X → X.cell? ⟨g, 16, none⟩ = some (.int .i64 x.at_) := fun X k => hpCell (hpKeep hg0 k) 16
  have k0 : Below W0.heap.size W0 W0 := Below.refl _ _
  have HW0 := hid hW0
  have HB0 := hid hb0
  have HZ0 := hid hz0
  clear hW0 hb0 hz0
  by_cases hlt : x.at_ < c.units
  · obtain ⟨gp, rfl, hqg, hpb⟩ := hs.pr hlt
    have hpb0 := hpb.keep (F := fun _ => False) (Keeps.of_below HB0.out) (fun _ _ e => e.elim)
    obtain ⟨hok1, hok2⟩ := hok hlt
    have HNX : Hid (∀ X, Below W0.heap.size W0 X → Calls Tryz.prog 49 #[.pointer (some ⟨gp, 0, none⟩)] X (AskPost X x.pb.ph.ask true)) := fun X hX => pnext_any (hpb0.keep (F := fun _ => False) (Keeps.of_below hX) (fun _ _ e => e.elim)) hok1 _ true rfl (by rw [hok2]; rfl)
    have HPL : Hid (∀ X, Below W0.heap.size W0 X → Calls Tryz.prog 48 #[.agg (CfC c sv), .int .i64 (x.at_ : Int)] X fun r w' => r = .returned (.tuple #[.int .i64 (c.pSet x.at_), .int .i64 (c.pUnit x.at_), .bool true]) ∧ Below X.heap.size X w') := fun X hX => (pplace_ok c hc sv x.at_ ha X (hs.st X (Keeps.of_below (bt HB0.out hX (Nat.le_refl _))))).mono fun _ _ h => by
      obtain ⟨h1, h2⟩ := h
      rw [if_pos hlt] at h1
      exact ⟨h1, h2⟩
    have HRW : Hid (∀ X, Below W0.heap.size W0 X → ∀ j v, (CfC c sv).toList[j]? = some v → X.cell? ((⟨g, 0, none⟩ : Addr).add j) = some v) := fun X hX j v hj => by
      have e : (⟨g, 0, none⟩ : Addr).add j = ⟨g, j, none⟩ := by unfold Addr.add; split <;> simp_all
      rw [e, hpCell (hpKeep hg0 hX)]
      exact SwC_cf j v hj
    have HP : Hid (∀ X, Below w.heap.size w X → NxPost w c x (.returned (.tuple #[.int .i64 (c.pSet x.at_), .int .i64 (c.pUnit x.at_), .agg (#[.int .i64 x.pb.ph.ask.fn, .int .i64 x.pb.ph.ask.addr, .int .i64 x.pb.ph.ask.qty, .int .i64 x.pb.ph.ask.code, .int .i64 x.pb.ph.ask.obj]), .bool true])) X) := fun X hX => ⟨by rw [if_pos hlt], hX⟩
    obtain ⟨C, hC⟩ : ∃ C, CfC c sv = C := ⟨_, rfl⟩
    have hi : (Tryz.prog.info? 27).map (·.size) = some C.size := by rw [← hC]; exact infoCf
    rw [hC] at HPL HRW
    obtain ⟨ps, hps⟩ : ∃ p, c.pSet x.at_ = p := ⟨_, rfl⟩
    obtain ⟨pu, hpu⟩ : ∃ p, c.pUnit x.at_ = p := ⟨_, rfl⟩
    obtain ⟨q, hq⟩ : ∃ p, x.pb.ph.ask = p := ⟨_, rfl⟩
    rw [hps, hpu] at HPL
    rw [hps, hpu, hq] at HP
    rw [hq] at HNX
    have kD : Below W0.heap.size W0 W0.drew := (Below.refl _ _).drew
    have hgw : ¬ g = w.heap.size := by omega
    clear hs hpb hpb0 hok hok1 hok2 hlt hC hps hpu hq hc hqg
    go_enter Tryz.func12, Tryz.ntmps12
    go_upto_region 1 with (fail)
    rw [HW0.out]
    go_upto_region 3 with (fail)
    refine wp_region_held_drew (S := fun V => Below W0.heap.size W0 V) (by kernel_rfl) kD (fun hH => ?_)
    clear hH
    refine tkD 0 17 (v := ?_) rfl (by kernel_rfl) (fun _ _ _ h => h) rfl (by rfl) (by assumption) ?_ ?_; rotate_left; (intro w hSw; (try dsimp only at hSw); go_simp; try (with_reducible rfl)); simp only [List.setIfInBounds_toArray, List.set_cons_zero, List.set_cons_succ]
    refine tkD 1 18 (v := ?_) rfl (by kernel_rfl) (fun _ _ _ h => h) rfl (by rfl) (by assumption) ?_ ?_; rotate_left; (intro w hSw; (try dsimp only at hSw); go_simp; try (with_reducible rfl)); simp only [List.setIfInBounds_toArray, List.set_cons_zero, List.set_cons_succ]
    refine tkD 2 19 (v := ?_) rfl (by kernel_rfl) (fun _ _ _ h => h) rfl (by rfl) (by assumption) ?_ ?_; rotate_left; (intro w hSw; (try dsimp only at hSw); go_simp; try (with_reducible rfl)); simp only [List.setIfInBounds_toArray, List.set_cons_zero, List.set_cons_succ]
    refine tkD 3 20 (v := .agg C) rfl (by kernel_rfl) (fun _ _ _ h => h) rfl (by rfl) (by assumption) (fun X hX => run_load_rowS 27 (.tmp 19) rfl ⟨g, 0, none⟩ rfl C _ (HRW.out X hX) Tryz.underlying27 rfl hi) ?_; simp only [List.setIfInBounds_toArray, List.set_cons_zero, List.set_cons_succ]
    refine tkD 4 21 (v := ?_) rfl (by kernel_rfl) (fun _ _ _ h => h) rfl (by rfl) (by assumption) ?_ ?_; rotate_left; (intro w hSw; (try dsimp only at hSw); go_simp; try (with_reducible rfl)); simp only [List.setIfInBounds_toArray, List.set_cons_zero, List.set_cons_succ]
    refine tkD 5 22 (v := ?_) rfl (by kernel_rfl) (fun _ _ _ h => h) rfl (by rfl) (by assumption) ?_ ?_; rotate_left; (intro w hSw; (try dsimp only at hSw); go_simp; try (with_reducible rfl)); simp only [List.setIfInBounds_toArray, List.set_cons_zero, List.set_cons_succ]
    refine tkD 6 23 (v := ?_) rfl (by kernel_rfl) (fun _ _ _ h => h) rfl (by rfl) (by assumption) ?_ ?_; rotate_left; (intro w hSw; (try dsimp only at hSw); go_simp; try (with_reducible rfl)); simp only [List.setIfInBounds_toArray, List.set_cons_zero, List.set_cons_succ]
    refine tkD 7 24 (v := ?_) rfl (by kernel_rfl) (fun _ _ _ h => h) rfl (by rfl) (by assumption) ?_ ?_; rotate_left; (intro w hSw; (try dsimp only at hSw); go_simp; try (with_reducible rfl)); simp only [List.setIfInBounds_toArray, List.set_cons_zero, List.set_cons_succ]
    refine wpAnyH_ready (rs := [8]) (by kernel_rfl) (by simp) ?_; refine AllReadyH.cons rfl (fun K hK => ?_) AllReadyH.nil
    go_simp
    refine (HPL.out _ kD).mono ?_
    rintro r w1 ⟨rfl, hb1⟩
    have hB1 := bt kD hb1 (Nat.le_refl _)
    refine hK.out _ _ hB1 (fun hS1 => ?_)
    clear hK K
    refine tkD 9 16 (v := ?_) rfl (by kernel_rfl) (fun _ _ _ h => h) rfl (by rfl) (by assumption) ?_ ?_; rotate_left; (intro w hSw; (try dsimp only at hSw); go_simp; try (with_reducible rfl)); simp only [List.setIfInBounds_toArray, List.set_cons_zero, List.set_cons_succ]
    refine tkD 10 26 (v := ?_) rfl (by kernel_rfl) (fun _ _ _ h => h) rfl (by rfl) (by assumption) ?_ ?_; rotate_left; (intro w hSw; (try dsimp only at hSw); go_simp; try (with_reducible rfl)); simp only [List.setIfInBounds_toArray, List.set_cons_zero, List.set_cons_succ]
    refine tkD 11 27 (v := ?_) rfl (by kernel_rfl) (fun _ _ _ h => h) rfl (by rfl) (by assumption) ?_ ?_; rotate_left; (intro w hSw; (try dsimp only at hSw); go_simp; try (with_reducible rfl)); simp only [List.setIfInBounds_toArray, List.set_cons_zero, List.set_cons_succ]
    refine tkD 12 28 (v := ?_) rfl (by kernel_rfl) (fun _ _ _ h => h) rfl (by rfl) (by assumption) ?_ ?_; rotate_left; (intro w hSw; (try dsimp only at hSw); go_simp; try (with_reducible rfl)); simp only [List.setIfInBounds_toArray, List.set_cons_zero, List.set_cons_succ]
    refine tkD 13 2 (v := ?_) rfl (by kernel_rfl) (fun _ _ _ h => h) rfl (by rfl) (by assumption) ?_ ?_; rotate_left; (intro w hSw; (try dsimp only at hSw); go_simp; try (with_reducible rfl)); simp only [List.setIfInBounds_toArray, List.set_cons_zero, List.set_cons_succ]
    refine tkD 14 3 (v := ?_) rfl (by kernel_rfl) (fun _ _ _ h => h) rfl (by rfl) (by assumption) ?_ ?_; rotate_left; (intro w hSw; (try dsimp only at hSw); go_simp; try (with_reducible rfl)); simp only [List.setIfInBounds_toArray, List.set_cons_zero, List.set_cons_succ]
    refine wpAnyH_done (by kernel_rfl) ?_ _
    have p1 := hpKeep p0 hB1
    have c17' := c17 w1 hB1
    clear hS1 c16 c17
    go_upto_region 5 with (first
      | (go_at_call 49; (with_reducible refine (HNX.out _ hB1).mono ?_); rintro r w2 ⟨rfl, hb2⟩; have p2 := hpKeep p1 hb2)
      | (refine wpList_storeW rfl 39 (.tmp 4) (.tmp 35) rfl w.heap.size 0 _ 39 #[.int .i64 q.fn, .int .i64 q.addr, .int .i64 q.qty, .int .i64 q.code, .int .i64 q.obj] rfl rfl p2 (by simp) info5 rfl ?_; intro w3 g3 hk3 hz3))
    dsimp only [Act.put]
    have g3' : w3.heap[w.heap.size]? = some (.cells #[.int .i64 q.fn, .int .i64 q.addr, .int .i64 q.qty, .int .i64 q.code, .int .i64 q.obj] 39) := g3
    have hB2 := bt hB1 hb2 (Nat.le_refl _)
    have HB3 : Hid (Below w.heap.size w w3) := (bt HB0.out hB2 (Nat.le_refl _)).trans (hk3.below (by have := hB2.size; have := HZ0.out; omega) (fun j hj e => by omega))
    have hSd : NxS w.heap.size q w3 w3.drew := ⟨g3', Keeps.of_below (Below.refl _ _).drew⟩
    clear g3 hk3 hz3 p1 p2 hb2 c17' g3'
    refine wp_region_held_drew (S := fun V => NxS w.heap.size q w3 V) (by kernel_rfl) hSd (fun hH => ?_)
    clear hH
    refine tkD 0 37 (v := ?_) rfl (by kernel_rfl) (fun _ _ _ h => h) rfl (by rfl) (by assumption) ?_ ?_; rotate_left; (intro w hSw; (try dsimp only at hSw); go_simp; try (with_reducible rfl)); simp only [List.setIfInBounds_toArray, List.set_cons_zero, List.set_cons_succ]
    refine tkD 1 38 (v := ?_) rfl (by kernel_rfl) (fun _ _ _ h => h) rfl (by rfl) (by assumption) ?_ ?_; rotate_left; (intro w hSw; (try dsimp only at hSw); go_simp; try (with_reducible rfl)); simp only [List.setIfInBounds_toArray, List.set_cons_zero, List.set_cons_succ]
    refine tkD 2 39 (v := .agg #[.int .i64 q.fn, .int .i64 q.addr, .int .i64 q.qty, .int .i64 q.code, .int .i64 q.obj]) rfl (by kernel_rfl) (fun _ _ _ h => h) rfl (by rfl) (by assumption) (fun X hX => run_load_rowS 39 (.tmp 4) rfl ⟨w.heap.size, 0, none⟩ rfl #[.int .i64 q.fn, .int .i64 q.addr, .int .i64 q.qty, .int .i64 q.code, .int .i64 q.obj] _ (hpRowAt2 (NxS.h hX)) Tryz.underlying39 rfl info5) ?_; simp only [List.setIfInBounds_toArray, List.set_cons_zero, List.set_cons_succ]
    refine tkD 3 2 (v := ?_) rfl (by kernel_rfl) (fun _ _ _ h => h) rfl (by rfl) (by assumption) ?_ ?_; rotate_left; (intro w hSw; (try dsimp only at hSw); go_simp; try (with_reducible rfl)); simp only [List.setIfInBounds_toArray, List.set_cons_zero, List.set_cons_succ]
    refine tkD 4 3 (v := ?_) rfl (by kernel_rfl) (fun _ _ _ h => h) rfl (by rfl) (by assumption) ?_ ?_; rotate_left; (intro w hSw; (try dsimp only at hSw); go_simp; try (with_reducible rfl)); simp only [List.setIfInBounds_toArray, List.set_cons_zero, List.set_cons_succ]
    refine wpAnyH_ready (rs := [5]) (by kernel_rfl) (by simp) ?_; refine AllReadyH.cons rfl (fun K hK => ?_) AllReadyH.nil
    refine step_storeS rfl 39 (.tmp 4) (.tmp 39) rfl w.heap.size 0 _ 39 #[.int .i64 q.fn, .int .i64 q.addr, .int .i64 q.qty, .int .i64 q.code, .int .i64 q.obj] rfl rfl hSd.h (by simp) info5 rfl ?_
    intro w4 g4 hk4 hz4
    have g4' : w4.heap[w.heap.size]? = some (.cells #[.int .i64 q.fn, .int .i64 q.addr, .int .i64 q.qty, .int .i64 q.code, .int .i64 q.obj] 39) := g4
    have hk34 := hSd.k.trans hk4 (fun _ _ e => e)
    refine hK.out _ _ ⟨g4', hk34⟩ (fun hS4 => ?_)
    clear hK K
    dsimp only [Act.put]
    refine tkD 6 5 (v := ?_) rfl (by kernel_rfl) (fun _ _ _ h => h) rfl (by rfl) (by assumption) ?_ ?_; rotate_left; (intro w hSw; (try dsimp only at hSw); go_simp; try (with_reducible rfl))
    refine wpAnyH_done (by kernel_rfl) ?_ _
    have q0 := hpCell g4' 0
    have q1 := hpCell g4' 1
    have q2 := hpCell g4' 2
    have q3 := hpCell g4' 3
    have q4 := hpCell g4' 4
    clear g4 hk4 hz4 g4'
    go_wp2
    refine bodyPost_ret (v := .tuple #[.int .i64 ps, .int .i64 pu, .agg #[.int .i64 q.fn, .int .i64 q.addr, .int .i64 q.qty, .int .i64 q.code, .int .i64 q.obj], .bool true]) (by simp [results, Tryz.results12, go_sem, q0, q1, q2, q3, q4]) rfl ?_
    exact HP.out _ (HB3.out.trans (hk34.below HB3.out.size (fun j hj e => by omega)))
  · obtain rfl := hs.no (by omega)
    have HP : Hid (∀ X, Below w.heap.size w X → NxPost w c x (.returned (.tuple #[.int .i64 0, .int .i64 0, .agg (#[.int .i64 0, .int .i64 0, .int .i64 0, .int .i64 0, .int .i64 0]), .bool false])) X) := fun X hX => ⟨by rw [if_neg hlt], hX⟩
    clear hs hok hlt hc c16
    go_enter Tryz.func12, Tryz.ntmps12
    go_upto_region 1 with (fail)
    rw [HW0.out]
    go_wp2_with (refine wpList_storeW rfl 39 (.tmp 4) (.tmp 15) rfl w.heap.size 0 _ 39 #[.int .i64 0, .int .i64 0, .int .i64 0, .int .i64 0, .int .i64 0] rfl rfl p0 (by simp) info5 rfl ?_; intro w3 g3 hk3 hz3)
    have g3' : w3.heap[w.heap.size]? = some (.cells #[.int .i64 0, .int .i64 0, .int .i64 0, .int .i64 0, .int .i64 0] 39) := g3
    have q0 := hpCell g3' 0
    have q1 := hpCell g3' 1
    have q2 := hpCell g3' 2
    have q3 := hpCell g3' 3
    have q4 := hpCell g3' 4
    refine bodyPost_ret (v := .tuple #[.int .i64 0, .int .i64 0, .agg #[.int .i64 0, .int .i64 0, .int .i64 0, .int .i64 0, .int .i64 0], .bool false]) (by simp [results, Tryz.results12, go_sem, q0, q1, q2, q3, q4]) rfl ?_
    exact HP.out _ (HB0.out.trans (hk3.below HB0.out.size (fun j hj e => by omega)))

end Go.Proofs.YtipnamoocemeeaaGreat
