/-
  Texts 26 of the claim.
-/
import Derived.Test.YtipnamoocemeeaaGreatC25
import Derived.Test.YtipnamoocemeeaaGreatC19
import Derived.Laws.Rows
import Derived.BigQuiet
/-
  The sweep, by value: the plain state, and what a step does (no program).
-/
namespace Go.Proofs.YtipnamoocemeeaaGreat
open Go.RowKit

/-- A device that was found, with its place. -/
structure Fd where
  set : Int
  unit : Int
  d : Dv
structure Sp where
  at_ : Nat
  pb : Pb
  fd : List Fd
  cnt : Int
def Pb0 : Pb := ⟨.test, Dv.zero, 0⟩
def Cf.n (c : Cf) : Int := c.la - c.fi + 1
def Cf.units (c : Cf) : Nat := c.sets.length * (c.la - c.fi + 1).toNat
def Cf.pSet (c : Cf) (k : Nat) : Int := (k : Int) / c.n
def Cf.pUnit (c : Cf) (k : Nat) : Int := c.fi + (k : Int) % c.n
def Sp.done (c : Cf) (x : Sp) : Bool := decide (c.units ≤ x.at_)
def Sp.next (c : Cf) (x : Sp) (p : Pb) : Sp :=
  if p.ph.isDone = true then ⟨x.at_ + 1, Pb0, x.fd ++ (if p.d.st = 1 then [] else [⟨c.pSet x.at_, c.pUnit x.at_, p.d⟩]), x.cnt + 1⟩ else ⟨x.at_, p, x.fd, x.cnt + 1⟩
def Sp.feed (c : Cf) (x : Sp) (O : Oc) : Sp := if x.done c = true then x else x.next c (x.pb.feed c.win O)
def Sp.ini : Sp := ⟨0, Pb0, [], 0⟩

/-- A configuration that the check lets pass. -/
structure Cf.ok (c : Cf) : Prop where
  s1 : 1 ≤ c.sets.length
  s6 : c.sets.length ≤ 6
  f1 : 1 ≤ c.fi
  fl : c.fi ≤ c.la
  l2 : c.la ≤ 247
  win : WinOk c.win
  sets : ∀ x ∈ c.sets, okS x = true
theorem setsB_mem : ∀ (l : List (Int × Int)) (p : Option (Int × Int)), setsB p l = true → ∀ x ∈ l, okS x = true
  | [], _, _, x, hx => by cases hx
  | a :: l, p, h, x, hx => by
    simp only [setsB, Bool.and_eq_true] at h
    rcases List.mem_cons.1 hx with e | e
    · subst e; exact h.1.1
    · exact setsB_mem l _ h.2 x e
theorem ordB4_at {win : Nat → Int × Int} : ∀ n, ordB4 win n = true → ∀ k, k < n → inB (win k).1 0 (if 0 < (win k).2 then 65536 - (win k).2 else 0) = true
  | 0, _, k, h2 => absurd h2 (Nat.not_lt_zero _)
  | n + 1, h, k, h2 => by
    have h : (ordB4 win n && inB (win n).1 0 (if 0 < (win n).2 then 65536 - (win n).2 else 0)) = true := h
    rw [Bool.and_eq_true] at h
    by_cases e : k = n
    · subst e; exact h.2
    · exact ordB4_at n h.1 k (by omega)
theorem Cf.ok_of {c : Cf} (h : chkE c = 0) : c.ok := by
  unfold chkE at h
  split at h
  · rename_i hs
    unfold setB at hs
    simp only [Bool.and_eq_true, decide_eq_true_eq] at hs
    split at h
    · rename_i hr
      unfold rangeB at hr
      simp only [Bool.and_eq_true, decide_eq_true_eq] at hr
      have h1 := inB_iff.1 hr.1
      unfold winE at h
      split at h
      · rename_i hc
        split at h
        · rename_i ho
          refine ⟨hs.2.1, hs.2.2, h1.1, h1.2, hr.2.1, fun k hk => ?_, setsB_mem _ _ hs.1⟩
          have a1 := inB_iff.1 (cntB_at 4 hc k hk)
          have a2 := inB_iff.1 (ordB4_at 4 ho k hk)
          refine ⟨a1.1, a1.2, a2.1, ?_⟩
          have a3 := a2.2
          split at a3 <;> omega
        · omega
      · omega
    · omega
  · omega
theorem Cf.ok.n1 {c : Cf} (h : c.ok) : 1 ≤ c.n ∧ c.n ≤ 247 := by unfold Cf.n; have := h.f1; have := h.fl; have := h.l2; omega
theorem Cf.ok.units_bd {c : Cf} (h : c.ok) : 1 ≤ c.units ∧ c.units ≤ 1482 ∧ (c.units : Int) = (c.sets.length : Int) * c.n := by
  have h1 := h.n1
  have h2 := h.s1
  have h3 := h.s6
  have e : (c.la - c.fi + 1).toNat = c.n.toNat := rfl
  unfold Cf.units
  rw [e]
  obtain ⟨m, hm⟩ : ∃ m : Nat, c.n = (m : Int) := ⟨c.n.toNat, by omega⟩
  rw [hm] at h1 ⊢
  rw [Int.toNat_natCast]
  refine ⟨?_, ?_, by rw [Int.natCast_mul]⟩
  · exact Nat.mul_pos (by omega) (by omega)
  · calc c.sets.length * m ≤ 6 * 247 := Nat.mul_le_mul h3 (by omega)
      _ = 1482 := rfl
theorem Cf.ok.pSet_bd {c : Cf} (h : c.ok) {k : Nat} (hk : k < c.units) : 0 ≤ c.pSet k ∧ c.pSet k < c.sets.length := by
  have h1 := h.n1
  have h2 := h.units_bd
  unfold Cf.pSet
  refine ⟨Int.ediv_nonneg (Int.natCast_nonneg _) (by omega), Int.ediv_lt_of_lt_mul (by omega) ?_⟩
  rw [← h2.2.2]
  omega
theorem Cf.ok.pUnit_bd {c : Cf} (h : c.ok) (k : Nat) : 1 ≤ c.pUnit k ∧ c.pUnit k ≤ 247 := by
  have h1 := h.n1
  have a1 := Int.emod_nonneg (k : Int) (show c.n ≠ 0 by omega)
  have a2 := Int.emod_lt_of_pos (k : Int) (show 0 < c.n by omega)
  have h3 := h.f1
  have h4 := h.l2
  have hnn : c.n = c.la - c.fi + 1 := rfl
  unfold Cf.pUnit
  have : c.fi + (k : Int) % c.n ≤ c.la := by omega
  omega

end Go.Proofs.YtipnamoocemeeaaGreat

/-
  The places of a sweep: their number, and the setting and the unit of each, in the program and in the reference.
-/
namespace Go.Proofs.YtipnamoocemeeaaGreat
open Go.RowKit
theorem infoCf : (Tryz.prog.info? 27).map (·.size) = some 16 := by kernel_rfl
theorem Rgs.slc {w : World} {v : Value} {l : List (Int × Int)} (h : Rgs w v l) : ∃ a c, v = .slice a l.length c := by
  obtain ⟨a, c, e, -⟩ := h
  exact ⟨a, c, e⟩
/-- What Place answers. -/
def PlcPost (w : World) (c : Cf) (k : Nat) (r : Ending) (w' : World) : Prop :=
  r = .returned (.tuple (if k < c.units then #[.int .i64 (c.pSet k), .int .i64 (c.pUnit k), .bool true] else #[.int .i64 0, .int .i64 0, .bool false])) ∧ Below w.heap.size w w'

theorem wpList_load_rowK {P : Program} {ops : Array Oper} {rest : List Oper} {o : Oper} {a : Act} {w : World} {Q : Exit → Act → World → Prop} (hw : Region.wanted o (yielded ops a.tmps) = true) (ty : TypeId) (x : Operand) (ho : o.op = .load ty x)
    (g : Nat) (hx : a.eval x = .pointer (some ⟨g, 0, none⟩)) (t : TypeId) (cs : Array Value) (fr : Nat × Nat) (d : TypeDesc) (hg : w.heap[g]? = some (.cells cs t fr))
    (hu : P.underlying ty = some d) (hd : (match d with | .struct _ | .array _ _ => true | _ => false) = true) (hi : (P.info? ty).map (·.size) = some cs.size)
    (h : wpList P ops Q rest (a.put o.dst (.agg cs)) w) : wpList P ops Q (o :: rest) a w :=
  wpList_step fun K hK => by
    rw [if_pos hw]
    exact wp_load_row ty x ho g hx t cs fr d hg hu hd hi (hK _ _ h)


set_option maxRecDepth 100000 in
set_option maxHeartbeats 3200000 in
theorem punits_ok (c : Cf) (hc : chkE c = 0) (sv : Value) (w : World) (hs : Rgs w sv c.sets) : Calls Tryz.prog 35 #[.agg (CfC c sv)] w (IntPost w (c.units : Int)) := by
  have hok := Cf.ok_of hc
  have hub := hok.units_bd
  have hn1 := hok.n1
  obtain ⟨a, cc, rfl⟩ := hs.slc
  obtain ⟨n, hn⟩ : ∃ n, c.sets.length = n := ⟨_, rfl⟩
  obtain ⟨C, hC⟩ : ∃ C, CfC c (.slice a c.sets.length cc) = C := ⟨_, rfl⟩
  have hi : (Tryz.prog.info? 27).map (·.size) = some C.size := by rw [← hC]; exact infoCf
  obtain ⟨W0, hW0⟩ : ∃ W, w.alloc (.cells C 27) = W := ⟨_, rfl⟩
  have hb0 : Below w.heap.size w W0 := by rw [← hW0]; exact bal' w _
  have p0 : W0.heap[w.heap.size]? = some (.cells C 27) := by rw [← hW0]; exact hpNew w _
  have HCK : Hid (Calls Tryz.prog 41 #[.agg C] W0 (IntPost W0 0)) := by rw [← hC]; exact ccheck_any c _ W0 (hs.keep hb0) 0 hc
  have x0 : ∀ X, Below W0.heap.size W0 X → X.cell? ⟨w.heap.size, 0, none⟩ = some (.slice a n cc) := fun X k => by rw [hpCell (hpKeep p0 k), ← hC, ← hn]; rfl
  have x1 : ∀ X, Below W0.heap.size W0 X → X.cell? ⟨w.heap.size, 1, none⟩ = some (.int .i64 c.fi) := fun X k => by rw [hpCell (hpKeep p0 k), ← hC]; rfl
  have x2 : ∀ X, Below W0.heap.size W0 X → X.cell? ⟨w.heap.size, 2, none⟩ = some (.int .i64 c.la) := fun X k => by rw [hpCell (hpKeep p0 k), ← hC]; rfl
  obtain ⟨d, hd⟩ : ∃ d, c.la - c.fi = d := ⟨_, rfl⟩
  obtain ⟨e, he⟩ : ∃ e, d + 1 = e := ⟨_, rfl⟩
  have hen : e = c.n := by rw [← he, ← hd]; rfl
  have hl := hok.l2
  have hf := hok.f1
  have hfl := hok.fl
  have hs6 := hok.s6
  rw [hn] at hs6 hub
  rw [← hen] at hub hn1
  have s1 : IntKind.i64.wrap (c.la - c.fi) = d := (IntWalk.i64_in _ (by omega)).trans hd
  have s2 : IntKind.i64.wrap (d + 1) = e := (IntWalk.i64_in _ (by omega)).trans he
  obtain ⟨U, hU⟩ : ∃ U, (n : Int) * e = U := ⟨_, rfl⟩
  rw [hU] at hub
  have s3 : IntKind.i64.wrap ((n : Int) * e) = U := (IntWalk.i64_in _ (by omega)).trans hU
  have HU : Hid (U = (c.units : Int)) := hub.2.2.symm
  have HB0 := hid hb0
  have HW0 := hid hW0
  have HC := hid hC
  rw [hC]
  clear hub hn1 hl hf hfl hs6 hU hen hd he hb0 hW0 hs hok hn hC
  go_enter Tryz.func35, Tryz.ntmps35
  go_upto_region 1 with (fail)
  rw [HW0.out]
  go_wp2_with (first
    | (refine wpList_load_row rfl 27 (.tmp 1) rfl w.heap.size rfl 27 C (0, 0) _ p0 Tryz.underlying27 rfl hi ?_)
    | (go_at_call 41; (with_reducible refine HCK.out.mono ?_); rintro r w1 ⟨rfl, hb1⟩))
  go_ret
  exact ⟨by rw [← HU.out]; rfl, bt HB0.out hb1 (Nat.le_refl _)⟩

set_option maxRecDepth 100000 in
set_option maxHeartbeats 3200000 in
theorem runits_ok (c : Cf) (hc : chkE c = 0) (sv : Value) (w : World) (hs : Rgs w sv c.sets) : Calls Tryz.prog 31 #[.agg (CfC c sv)] w (IntPost w (c.units : Int)) := by
  have hok := Cf.ok_of hc
  have hub := hok.units_bd
  have hn1 := hok.n1
  obtain ⟨a, cc, rfl⟩ := hs.slc
  obtain ⟨n, hn⟩ : ∃ n, c.sets.length = n := ⟨_, rfl⟩
  obtain ⟨C, hC⟩ : ∃ C, CfC c (.slice a c.sets.length cc) = C := ⟨_, rfl⟩
  have hi : (Tryz.prog.info? 27).map (·.size) = some C.size := by rw [← hC]; exact infoCf
  obtain ⟨W0, hW0⟩ : ∃ W, w.alloc (.cells C 27) = W := ⟨_, rfl⟩
  have hb0 : Below w.heap.size w W0 := by rw [← hW0]; exact bal' w _
  have p0 : W0.heap[w.heap.size]? = some (.cells C 27) := by rw [← hW0]; exact hpNew w _
  have HCK : Hid (Calls Tryz.prog 10 #[.agg C] W0 (IntPost W0 0)) := by rw [← hC]; exact rcheck_any c _ W0 (hs.keep hb0) 0 hc
  have x0 : ∀ X, Below W0.heap.size W0 X → X.cell? ⟨w.heap.size, 0, none⟩ = some (.slice a n cc) := fun X k => by rw [hpCell (hpKeep p0 k), ← hC, ← hn]; rfl
  have x1 : ∀ X, Below W0.heap.size W0 X → X.cell? ⟨w.heap.size, 1, none⟩ = some (.int .i64 c.fi) := fun X k => by rw [hpCell (hpKeep p0 k), ← hC]; rfl
  have x2 : ∀ X, Below W0.heap.size W0 X → X.cell? ⟨w.heap.size, 2, none⟩ = some (.int .i64 c.la) := fun X k => by rw [hpCell (hpKeep p0 k), ← hC]; rfl
  obtain ⟨d, hd⟩ : ∃ d, c.la - c.fi = d := ⟨_, rfl⟩
  obtain ⟨e, he⟩ : ∃ e, d + 1 = e := ⟨_, rfl⟩
  have hen : e = c.n := by rw [← he, ← hd]; rfl
  have hl := hok.l2
  have hf := hok.f1
  have hfl := hok.fl
  have hs6 := hok.s6
  rw [hn] at hs6 hub
  rw [← hen] at hub hn1
  have s1 : IntKind.i64.wrap (c.la - c.fi) = d := (IntWalk.i64_in _ (by omega)).trans hd
  have s2 : IntKind.i64.wrap (d + 1) = e := (IntWalk.i64_in _ (by omega)).trans he
  obtain ⟨U, hU⟩ : ∃ U, (n : Int) * e = U := ⟨_, rfl⟩
  rw [hU] at hub
  have s3 : IntKind.i64.wrap ((n : Int) * e) = U := (IntWalk.i64_in _ (by omega)).trans hU
  have HU : Hid (U = (c.units : Int)) := hub.2.2.symm
  have HB0 := hid hb0
  have HW0 := hid hW0
  have HC := hid hC
  rw [hC]
  clear hub hn1 hl hf hfl hs6 hU hen hd he hb0 hW0 hs hok hn hC
  go_enter Tryz.func31, Tryz.ntmps31
  go_upto_region 1 with (fail)
  rw [HW0.out]
  go_wp2_with (first
    | (refine wpList_load_row rfl 27 (.tmp 1) rfl w.heap.size rfl 27 C (0, 0) _ p0 Tryz.underlying27 rfl hi ?_)
    | (go_at_call 10; (with_reducible refine HCK.out.mono ?_); rintro r w1 ⟨rfl, hb1⟩))
  go_ret
  exact ⟨by rw [← HU.out]; rfl, bt HB0.out hb1 (Nat.le_refl _)⟩

set_option maxRecDepth 100000 in
set_option maxHeartbeats 3200000 in
theorem pplace_ok (c : Cf) (hc : chkE c = 0) (sv : Value) (k : Nat) (hk : k ≤ 1000000) (w : World) (hs : Rgs w sv c.sets) : Calls Tryz.prog 48 #[.agg (CfC c sv), .int .i64 (k : Int)] w (PlcPost w c k) := by
  have hok := Cf.ok_of hc
  obtain ⟨C, hC⟩ : ∃ C, CfC c sv = C := ⟨_, rfl⟩
  have hi : (Tryz.prog.info? 27).map (·.size) = some C.size := by rw [← hC]; exact infoCf
  obtain ⟨W0, hW0⟩ : ∃ W, w.alloc (.cells C 27) = W := ⟨_, rfl⟩
  have hb0 : Below w.heap.size w W0 := by rw [← hW0]; exact bal' w _
  have p0 : W0.heap[w.heap.size]? = some (.cells C 27) := by rw [← hW0]; exact hpNew w _
  obtain ⟨U, hU⟩ : ∃ U : Nat, c.units = U := ⟨_, rfl⟩
  have Hpunits_ok : Hid (Calls Tryz.prog 35 #[.agg C] W0 (IntPost W0 (U : Int))) := by rw [← hC, ← hU]; exact punits_ok c hc sv W0 (hs.keep hb0)
  have x1 : ∀ X, Below W0.heap.size W0 X → X.cell? ⟨w.heap.size, 1, none⟩ = some (.int .i64 c.fi) := fun X k => by rw [hpCell (hpKeep p0 k), ← hC]; rfl
  have x2 : ∀ X, Below W0.heap.size W0 X → X.cell? ⟨w.heap.size, 2, none⟩ = some (.int .i64 c.la) := fun X k => by rw [hpCell (hpKeep p0 k), ← hC]; rfl
  have hki : (0 : Int) ≤ (k : Int) := Int.natCast_nonneg _
  have hk0 : ¬ (k : Int) < 0 := by omega
  have HB0 := hid hb0
  have HW0 := hid hW0
  rw [hC]
  by_cases hlt : k < U
  · have hku : k < c.units := by omega
    have HP : Hid (∀ X, Below w.heap.size w X → PlcPost w c k (.returned (.tuple #[.int .i64 (c.pSet k), .int .i64 (c.pUnit k), .bool true])) X) := fun X hX => ⟨by rw [if_pos hku], hX⟩
    have hb1 := hok.n1
    have hb2 := hok.pSet_bd hku
    have hb3 := hok.pUnit_bd k
    have hs6 := hok.s6
    have hl := hok.l2
    have hf := hok.f1
    have hfl := hok.fl
    obtain ⟨d, hd⟩ : ∃ d, c.la - c.fi = d := ⟨_, rfl⟩
    obtain ⟨e, he⟩ : ∃ e, d + 1 = e := ⟨_, rfl⟩
    have hen : e = c.n := by rw [← he, ← hd]; rfl
    have s1 : IntKind.i64.wrap (c.la - c.fi) = d := (IntWalk.i64_in _ (by omega)).trans hd
    have s2 : IntKind.i64.wrap (d + 1) = e := (IntWalk.i64_in _ (by omega)).trans he
    obtain ⟨ps, hps⟩ : ∃ p, c.pSet k = p := ⟨_, rfl⟩
    obtain ⟨pu, hpu⟩ : ∃ p, c.pUnit k = p := ⟨_, rfl⟩
    have hq : (k : Int) / e = ps := by rw [hen, ← hps]; rfl
    obtain ⟨rr, hr⟩ : ∃ p, (k : Int) % e = p := ⟨_, rfl⟩
    have hr2 : c.fi + rr = pu := by rw [← hr, ← hpu, hen]; rfl
    rw [hps] at hb2
    rw [hpu] at hb3
    have s3 : IntKind.i64.wrap ((k : Int) / e) = ps := by rw [hq]; exact IntWalk.i64_in _ (by omega)
    have s4 : IntKind.i64.wrap (c.fi + rr) = pu := by rw [hr2]; exact IntWalk.i64_in _ (by omega)
    have he0 : ¬ e = 0 := by omega
    have hge : decide ((U : Int) ≤ (k : Int)) = false := decide_eq_false (by omega)
    rw [hps, hpu] at HP
    clear hb1 hb2 hb3 hs6 hl hf hfl hd he hen hps hpu hq hr2 hU hC hb0 hW0 hs hok hku
    go_enter Tryz.func48, Tryz.ntmps48
    go_upto_region 1 with (fail)
    rw [HW0.out]
    go_upto_region 4 with (first
      | (refine wpList_load_rowK (by rfl) 27 (.tmp 2) rfl w.heap.size rfl 27 C (0, 0) _ p0 Tryz.underlying27 rfl hi ?_)
      | (go_at_call 35; (with_reducible refine Hpunits_ok.out.mono ?_); rintro r w1 ⟨rfl, hb1⟩))
    go_region
    go_wp2
    refine bodyPost_ret (v := .tuple #[.int .i64 ps, .int .i64 pu, .bool true]) (by simp [results, Tryz.results48, go_sem]) rfl ?_
    exact HP.out _ (bt HB0.out hb1.drew (Nat.le_refl _))
  · have HP : Hid (∀ X, Below w.heap.size w X → PlcPost w c k (.returned (.tuple #[.int .i64 0, .int .i64 0, .bool false])) X) := fun X hX => ⟨by rw [if_neg (by omega)], hX⟩
    have hge : decide ((U : Int) ≤ (k : Int)) = true := decide_eq_true (by omega)
    clear hU hC hb0 hW0 hs hok x1 x2
    go_enter Tryz.func48, Tryz.ntmps48
    go_upto_region 1 with (fail)
    rw [HW0.out]
    go_wp2_with (first
      | (refine wpList_load_rowK (by rfl) 27 (.tmp 2) rfl w.heap.size rfl 27 C (0, 0) _ p0 Tryz.underlying27 rfl hi ?_)
      | (go_at_call 35; (with_reducible refine Hpunits_ok.out.mono ?_); rintro r w1 ⟨rfl, hb1⟩))
    refine bodyPost_ret (v := .tuple #[.int .i64 0, .int .i64 0, .bool false]) (by simp [results, Tryz.results48, go_sem]) rfl ?_
    exact HP.out _ (bt HB0.out hb1 (Nat.le_refl _))

end Go.Proofs.YtipnamoocemeeaaGreat
