/-
  Texts 28 of the claim.
-/
import Derived.Test.YtipnamoocemeeaaGreatD22
import Derived.Laws.Rows
import Derived.BigQuiet
import Derived.Test.YtipnamoocemeeaaGreatD23
import Derived.Test.YtipnamoocemeeaaGreatD03
import Derived.Test.YtipnamoocemeeaaGreatD16
import Derived.Test.YtipnamoocemeeaaGreatD25
import Derived.Test.YtipnamoocemeeaaGreatD17
namespace Go.Proofs.YtipnamoocemeeaaGreat
open Go.RowKit
theorem infoCf : (Tryz.prog.info? 27).map (·.size) = some 16 := by kernel_rfl
theorem Rgs.slc {w : World} {v : Value} {l : List (Int × Int)} (h : Rgs w v l) : ∃ a c, v = .slice a l.length c := by
  obtain ⟨a, c, e, -⟩ := h
  exact ⟨a, c, e⟩
def PlcPost (w : World) (c : Cf) (k : Nat) (r : Ending) (w' : World) : Prop :=
  r = .returned (.tuple (if k < c.units then #[.int .i64 (c.pSet k), .int .i64 (c.pUnit k), .bool true] else #[.int .i64 0, .int .i64 0, .bool false])) ∧ Below w.heap.size w w'
theorem wpList_load_rowK {P : Program} {ops : Array Oper} {rest : List Oper} {o : Oper} {a : Act} {w : World} {Q : Exit → Act → World → Prop} (hw : Region.wanted o (yielded ops a.tmps) = true) (ty : TypeId) (x : Operand) (ho : o.op = .load ty x)
    (g : Nat) (hx : a.eval x = .pointer (some ⟨g, 0, none⟩)) (t : TypeId) (cs : Array Value) (fr : Nat × Nat) (d : TypeDesc) (hg : w.heap[g]? = some (.cells cs t fr))
    (hu : P.underlying ty = some d) (hd : (match d with | .struct _ | .array _ _ => true | _ => false) = true) (hi : (P.info? ty).map (·.size) = some cs.size)
    (h : wpList P ops Q rest (a.put o.dst (.agg cs)) w) : wpList P ops Q (o :: rest) a w :=
  wpList_step fun K hK => by
    rw [if_pos hw]
    exact wp_load_row ty x ho g hx t cs fr d hg hu hd hi (hK _ _ h)
set_option maxRecDepth 100000 in
set_option maxHeartbeats 3200000 in
theorem punits_ok (c : Cf) (hc : chkE c = 0) (sv : Value) (w : World) (hs : Rgs w sv c.sets) : Calls Tryz.prog 35 #[.agg (CfC c sv)] w (IntPost w (c.units : Int)) := by
  have hok := Cf.ok_of hc
  have hub := hok.units_bd
  have hn1 := hok.n1
  obtain ⟨a, cc, rfl⟩ := hs.slc
  obtain ⟨n, hn⟩ : ∃ n, c.sets.length = n := ⟨_, rfl⟩
  obtain ⟨C, hC⟩ : ∃ C, CfC c (.slice a c.sets.length cc) = C := ⟨_, rfl⟩
  have hi : (Tryz.prog.info? 27).map (·.size) = some C.size := by rw [← hC]; exact infoCf
  obtain ⟨W0, hW0⟩ : ∃ W, w.alloc (.cells C 27) = W := ⟨_, rfl⟩
  have hb0 : Below w.heap.size w W0 := by rw [← hW0]; exact bal' w _
  have p0 : W0.heap[w.heap.size]? = some (.cells C 27) := by rw [← hW0]; exact hpNew w _
  have HCK : Hid (Calls Tryz.prog 41 #[.agg C] W0 (IntPost W0 0)) := by rw [← hC]; exact ccheck_any c _ W0 (hs.keep hb0) 0 hc
  have x0 : ∀ X, Below W0.heap.size W0 X → X.cell? ⟨w.heap.size, 0, none⟩ = some (.slice a n cc) := fun X k => by rw [hpCell (hpKeep p0 k), ← hC, ← hn]; rfl
  have x1 : ∀ X, Below W0.heap.size W0 X → X.cell? ⟨w.heap.size, 1, none⟩ = some (.int .i64 c.fi) := fun X k => by rw [hpCell (hpKeep p0 k), ← hC]; rfl
  have x2 : ∀ X, Below W0.heap.size W0 X → X.cell? ⟨w.heap.size, 2, none⟩ = some (.int .i64 c.la) := fun X k => by rw [hpCell (hpKeep p0 k), ← hC]; rfl
  obtain ⟨d, hd⟩ : ∃ d, c.la - c.fi = d := ⟨_, rfl⟩
  obtain ⟨e, he⟩ : ∃ e, d + 1 = e := ⟨_, rfl⟩
  have hen : e = c.n := by rw [← he, ← hd]; rfl
  have hl := hok.l2
  have hf := hok.f1
  have hfl := hok.fl
  have hs6 := hok.s6
  rw [hn] at hs6 hub
  rw [← hen] at hub hn1
  have s1 : IntKind.i64.wrap (c.la - c.fi) = d := (IntWalk.i64_in _ (by omega)).trans hd
  have s2 : IntKind.i64.wrap (d + 1) = e := (IntWalk.i64_in _ (by omega)).trans he
  obtain ⟨U, hU⟩ : ∃ U, (n : Int) * e = U := ⟨_, rfl⟩
  rw [hU] at hub
  have s3 : IntKind.i64.wrap ((n : Int) * e) = U := (IntWalk.i64_in _ (by omega)).trans hU
  have HU : Hid (U = (c.units : Int)) := hub.2.2.symm
  have HB0 := hid hb0
  have HW0 := hid hW0
  have HC := hid hC
  rw [hC]
  clear hub hn1 hl hf hfl hs6 hU hen hd he hb0 hW0 hs hok hn hC
  go_enter Tryz.func35, Tryz.ntmps35
  go_upto_region 1 with (fail)
  rw [HW0.out]
  go_wp2_with (first
    | (refine wpList_load_row rfl 27 (.tmp 1) rfl w.heap.size rfl 27 C (0, 0) _ p0 Tryz.underlying27 rfl hi ?_)
    | (go_at_call 41; (with_reducible refine HCK.out.mono ?_); rintro r w1 ⟨rfl, hb1⟩))
  go_ret
  exact ⟨by rw [← HU.out]; rfl, bt HB0.out hb1 (Nat.le_refl _)⟩
set_option maxRecDepth 100000 in
set_option maxHeartbeats 3200000 in
theorem pplace_ok (c : Cf) (hc : chkE c = 0) (sv : Value) (k : Nat) (hk : k ≤ 1000000) (w : World) (hs : Rgs w sv c.sets) : Calls Tryz.prog 48 #[.agg (CfC c sv), .int .i64 (k : Int)] w (PlcPost w c k) := by
  have hok := Cf.ok_of hc
  obtain ⟨C, hC⟩ : ∃ C, CfC c sv = C := ⟨_, rfl⟩
  have hi : (Tryz.prog.info? 27).map (·.size) = some C.size := by rw [← hC]; exact infoCf
  obtain ⟨W0, hW0⟩ : ∃ W, w.alloc (.cells C 27) = W := ⟨_, rfl⟩
  have hb0 : Below w.heap.size w W0 := by rw [← hW0]; exact bal' w _
  have p0 : W0.heap[w.heap.size]? = some (.cells C 27) := by rw [← hW0]; exact hpNew w _
  obtain ⟨U, hU⟩ : ∃ U : Nat, c.units = U := ⟨_, rfl⟩
  have Hpunits_ok : Hid (Calls Tryz.prog 35 #[.agg C] W0 (IntPost W0 (U : Int))) := by rw [← hC, ← hU]; exact punits_ok c hc sv W0 (hs.keep hb0)
  have x1 : ∀ X, Below W0.heap.size W0 X → X.cell? ⟨w.heap.size, 1, none⟩ = some (.int .i64 c.fi) := fun X k => by rw [hpCell (hpKeep p0 k), ← hC]; rfl
  have x2 : ∀ X, Below W0.heap.size W0 X → X.cell? ⟨w.heap.size, 2, none⟩ = some (.int .i64 c.la) := fun X k => by rw [hpCell (hpKeep p0 k), ← hC]; rfl
  have hki : (0 : Int) ≤ (k : Int) := Int.natCast_nonneg _
  have hk0 : ¬ (k : Int) < 0 := by omega
  have HB0 := hid hb0
  have HW0 := hid hW0
  rw [hC]
  by_cases hlt : k < U
  · have hku : k < c.units := by omega
    have HP : Hid (∀ X, Below w.heap.size w X → PlcPost w c k (.returned (.tuple #[.int .i64 (c.pSet k), .int .i64 (c.pUnit k), .bool true])) X) := fun X hX => ⟨by rw [if_pos hku], hX⟩
    have hb1 := hok.n1
    have hb2 := hok.pSet_bd hku
    have hb3 := hok.pUnit_bd k
    have hs6 := hok.s6
    have hl := hok.l2
    have hf := hok.f1
    have hfl := hok.fl
    obtain ⟨d, hd⟩ : ∃ d, c.la - c.fi = d := ⟨_, rfl⟩
    obtain ⟨e, he⟩ : ∃ e, d + 1 = e := ⟨_, rfl⟩
    have hen : e = c.n := by rw [← he, ← hd]; rfl
    have s1 : IntKind.i64.wrap (c.la - c.fi) = d := (IntWalk.i64_in _ (by omega)).trans hd
    have s2 : IntKind.i64.wrap (d + 1) = e := (IntWalk.i64_in _ (by omega)).trans he
    obtain ⟨ps, hps⟩ : ∃ p, c.pSet k = p := ⟨_, rfl⟩
    obtain ⟨pu, hpu⟩ : ∃ p, c.pUnit k = p := ⟨_, rfl⟩
    have hq : (k : Int) / e = ps := by rw [hen, ← hps]; rfl
    obtain ⟨rr, hr⟩ : ∃ p, (k : Int) % e = p := ⟨_, rfl⟩
    have hr2 : c.fi + rr = pu := by rw [← hr, ← hpu, hen]; rfl
    rw [hps] at hb2
    rw [hpu] at hb3
    have s3 : IntKind.i64.wrap ((k : Int) / e) = ps := by rw [hq]; exact IntWalk.i64_in _ (by omega)
    have s4 : IntKind.i64.wrap (c.fi + rr) = pu := by rw [hr2]; exact IntWalk.i64_in _ (by omega)
    have he0 : ¬ e = 0 := by omega
    have hge : decide ((U : Int) ≤ (k : Int)) = false := decide_eq_false (by omega)
    rw [hps, hpu] at HP
    clear hb1 hb2 hb3 hs6 hl hf hfl hd he hen hps hpu hq hr2 hU hC hb0 hW0 hs hok hku
    go_enter Tryz.func48, Tryz.ntmps48
    go_upto_region 1 with (fail)
    rw [HW0.out]
    go_upto_region 4 with (first
      | (refine wpList_load_rowK (by rfl) 27 (.tmp 2) rfl w.heap.size rfl 27 C (0, 0) _ p0 Tryz.underlying27 rfl hi ?_)
      | (go_at_call 35; (with_reducible refine Hpunits_ok.out.mono ?_); rintro r w1 ⟨rfl, hb1⟩))
    go_region
    go_wp2
    refine bodyPost_ret (v := .tuple #[.int .i64 ps, .int .i64 pu, .bool true]) (by simp [results, Tryz.results48, go_sem]) rfl ?_
    exact HP.out _ (bt HB0.out hb1.drew (Nat.le_refl _))
  · have HP : Hid (∀ X, Below w.heap.size w X → PlcPost w c k (.returned (.tuple #[.int .i64 0, .int .i64 0, .bool false])) X) := fun X hX => ⟨by rw [if_neg (by omega)], hX⟩
    have hge : decide ((U : Int) ≤ (k : Int)) = true := decide_eq_true (by omega)
    clear hU hC hb0 hW0 hs hok x1 x2
    go_enter Tryz.func48, Tryz.ntmps48
    go_upto_region 1 with (fail)
    rw [HW0.out]
    go_wp2_with (first
      | (refine wpList_load_rowK (by rfl) 27 (.tmp 2) rfl w.heap.size rfl 27 C (0, 0) _ p0 Tryz.underlying27 rfl hi ?_)
      | (go_at_call 35; (with_reducible refine Hpunits_ok.out.mono ?_); rintro r w1 ⟨rfl, hb1⟩))
    refine bodyPost_ret (v := .tuple #[.int .i64 0, .int .i64 0, .bool false]) (by simp [results, Tryz.results48, go_sem]) rfl ?_
    exact HP.out _ (bt HB0.out hb1 (Nat.le_refl _))
end Go.Proofs.YtipnamoocemeeaaGreat

namespace Go.Proofs.YtipnamoocemeeaaGreat
open Go.RowKit
theorem Spn.at {base : Nat} {w : World} {v : Value} {l : List (Int × Int)} (h : Spn base w v l) {k : Nat} {p : Int × Int} (hp : l[k]? = some p) :
    ∃ g cap, v = .slice (some ⟨g, 0, none⟩) l.length cap ∧ w.cell? ⟨g, k * 2, none⟩ = some (.int .i64 p.1) ∧ w.cell? ⟨g, k * 2 + 1, none⟩ = some (.int .i64 p.2) := by
  have hk := (List.getElem?_eq_some_iff.1 hp).1
  have h' : w.ownsRow base 192 2 v l.length (rcs l) := h
  rcases h.2 with ⟨_, h0⟩ | ⟨g, cap, cur, hv, hg, _, hnc, hcm, _⟩
  · omega
  · subst hv
    obtain ⟨h2, h3⟩ := rcs_get l k p hp
    exact ⟨g, cap, rfl, by rw [h'.cellAt _ (by omega)]; exact h2, by rw [h'.cellAt _ (by omega)]; exact h3⟩
set_option maxRecDepth 100000 in
set_option maxHeartbeats 3200000 in
theorem samespans_eq (v1 v2 : Value) (l : List (Int × Int)) (hl : l.length ≤ 1024) (w : World) (h1 : Spn 0 w v1 l) (h2 : Spn 0 w v2 l) :
    Calls Tryz.prog 91 #[v1, v2] w (BoolPost w true) := by
  obtain ⟨a1, c1, rfl⟩ := h1.slice
  obtain ⟨a2, c2, rfl⟩ := h2.slice
  obtain ⟨n, hN⟩ : ∃ n, l.length = n := ⟨_, rfl⟩
  rw [hN] at h1 h2 hl ⊢
  have HN := hid hN
  have H1 := hid h1
  have H2 := hid h2
  clear hN h1 h2
  go_enter Tryz.func91, Tryz.ntmps91
  go_wp2
  go_loopw [5] (fun iv wr => ∃ k : Nat, k ≤ n ∧ iv = .int .i64 k ∧ Below w.heap.size w wr) (fun iv _ => n - (intOf iv).toNat)
  case atStart => exact ⟨0, Nat.zero_le _, rfl, Below.refl _ _⟩
  case round =>
    obtain ⟨k, hk, rfl, hbw⟩ := hrel
    by_cases hlt : k < n
    · obtain ⟨p, hp⟩ := gs (l := l) HN.out hlt
      obtain ⟨g, cap, hv, d0, d1⟩ := (H1.out.keep hbw).at hp
      rw [HN.out] at hv
      simp only [Value.slice.injEq, true_and] at hv
      obtain ⟨rfl, rfl⟩ := hv
      obtain ⟨g2, cap2, hv2, e0, e1⟩ := (H2.out.keep hbw).at hp
      rw [HN.out] at hv2
      simp only [Value.slice.injEq, true_and] at hv2
      obtain ⟨rfl, rfl⟩ := hv2
      have hki : (0 : Int) ≤ (k : Int) := Int.natCast_nonneg _
      have hkl : (k : Int) < (n : Int) := by omega
      have hbq : ∀ m, Below w.heap.size w (wr.drewN m) := fun m => below_drewN hbw m
      clear hp
      go_wp2
      go_quiet (fail)
      go_wp2
      go_roundw
      case rel => exact ⟨k + 1, by omega, by go_num, hbq _⟩
      case measure => simp [intOf]; omega
    · obtain rfl : k = n := by omega
      go_wp2
      go_ret
      exact ⟨rfl, hbw⟩
theorem DvI.tab0 {W : World} {b : Nat} {d : Dv} {ov sv : Value} {mv : Nat → Value} (h : DvI W b d ov sv mv) {k : Nat} (hk : k < 4) : W.cell? ⟨b, 8 + k * 3, none⟩ = some (.int .i64 (d.ts k).st) ∧ W.cell? ⟨b, 8 + k * 3 + 1, none⟩ = some (.int .i64 (d.ts k).most) := by
  rw [hpCell h, hpCell h]
  match k, hk with
  | 0, _ => exact ⟨rfl, rfl⟩
  | 1, _ => exact ⟨rfl, rfl⟩
  | 2, _ => exact ⟨rfl, rfl⟩
  | 3, _ => exact ⟨rfl, rfl⟩
end Go.Proofs.YtipnamoocemeeaaGreat

namespace Go.Proofs.YtipnamoocemeeaaGreat
open Go.RowKit
theorem run_loadVar_at {P : Program} (w : World) (a : Addr) (ty : TypeId) (cs : Array Value) (d : TypeDesc) (hc : ∀ j v, cs.toList[j]? = some v → w.cell? (a.add j) = some v)
    (hu : P.underlying ty = some d) (hd : (match d with | .struct _ | .array _ _ => true | _ => false) = true) (hi : (P.info? ty).map (·.size) = some cs.size) :
    (loadVar ty a).run P w = .ok (.agg cs) w := by
  have hl : (loadCells a cs.toList.length).run P w = .ok cs.toList.toArray w := run_loadCells_list (P := P) w a cs.toList hc
  cases hq : P.info? ty with
  | none => simp [hq] at hi
  | some i =>
    have hs : i.size = cs.size := by simpa [hq] using hi
    have hagg : (isAgg ty).run P w = .ok true w := by
      unfold isAgg
      rw [Sem.run_bind, run_underlying hu w]
      cases d <;> simp_all
    simp only [Array.length_toList, Array.toArray_toList] at hl
    simp [loadVar, Sem.run_bind, hagg, sizeOf, typeInfo, hq, hs, hl]
theorem wpList_load_at {P : Program} {ops : Array Oper} {rest : List Oper} {o : Oper} {a : Act} {w : World} {Q : Exit → Act → World → Prop} (hgd : o.guard = none) (ty : TypeId) (x : Operand) (ho : o.op = .load ty x)
    (ad : Addr) (hx : a.eval x = .pointer (some ad)) (cs : Array Value) (d : TypeDesc) (hc : ∀ j v, cs.toList[j]? = some v → w.cell? (ad.add j) = some v)
    (hu : P.underlying ty = some d) (hd : (match d with | .struct _ | .array _ _ => true | _ => false) = true) (hi : (P.info? ty).map (·.size) = some cs.size)
    (h : wpList P ops Q rest (a.put o.dst (.agg cs)) w) : wpList P ops Q (o :: rest) a w :=
  wpList_plain hgd fun K hK => by
    unfold Oper.wp execOp
    simp only [ho, hx, Instr.loadAt, Instr.sureAddr, Sem.run_bind, Sem.run_pure, Result.andThen_ok, run_loadVar_at w ad ty cs d hc hu hd hi]
    exact hK _ _ h
theorem results_ct_row {P : Program} {fn : Func} {p u : Tmp} {ty : TypeId} (h : fn.results = #[.cell p ty, .tmp u]) (tmps : Array Value) (w : World) (g : Nat) (t : TypeId) (cs : Array Value) (fr : Nat × Nat) (d : TypeDesc)
    (hp : tmps.getD p undef = .pointer (some ⟨g, 0, none⟩)) (hg : w.heap[g]? = some (.cells cs t fr))
    (hu : P.underlying ty = some d) (hd : (match d with | .struct _ | .array _ _ => true | _ => false) = true) (hi : (P.info? ty).map (·.size) = some cs.size) :
    (results fn tmps).run P w = .ok (.tuple #[.agg cs, tmps.getD u undef]) w := by
  rw [results_cell_tmp h, hp]
  simp [asAddr, run_loadVar_row w g t ty cs fr d hg hu hd hi]
theorem PbC_dev (win : Nat → Int × Int) (pr af : Value) (d : Dv) (ov sv : Value) (mv : Nat → Value) (q : Int) (j : Nat) (v : Value) (h : (DvC d ov sv mv).toList[j]? = some v) : (PbC win pr af d ov sv mv q)[10 + j]? = some v := by
  have e : (PbC win pr af d ov sv mv q).toList.drop 10 = (DvC d ov sv mv).toList ++ [.int .i64 q] := rfl
  have h2 : ((PbC win pr af d ov sv mv q).toList.drop 10)[j]? = some v := by
    rw [e, List.getElem?_append_left (List.getElem?_eq_some_iff.1 h).1]
    exact h
  rw [List.getElem?_drop] at h2
  simpa using h2
def ResPost (w : World) (d : Dv) (V : Bool) (r : Ending) (w' : World) : Prop :=
  ∃ ov sv mv, r = .returned (.tuple #[.agg (DvC d ov sv mv), .bool V]) ∧ (∀ W', Agree w.heap.size w' W' → DvRd W' d ov sv mv) ∧ Below w.heap.size w w'
theorem info21 : (Tryz.prog.info? 91).map (·.size) = some 21 := by kernel_rfl
set_option maxRecDepth 100000 in
set_option maxHeartbeats 3200000 in
theorem presult_no (g b : Nat) (t : TypeId) (win : Nat → Int × Int) (af : Value) (d : Dv) (ov sv : Value) (mv : Nat → Value) (q : Int) (w : World) (h : PbI w g win (.iface t (.pointer (some ⟨b, 0, none⟩))) af d ov sv mv q) :
    Calls Tryz.prog 55 #[.pointer (some ⟨g, 0, none⟩)] w (ResPost w Dv.zero false) := by
  obtain ⟨W0, hW0⟩ : ∃ W, w.alloc (.cells #[.int .i64 0, .int .i64 0, .int .i64 0, .int .i64 0, .int .i64 0, .slice none 0 0, .int .i64 0, .slice none 0 0, .int .i64 0, .int .i64 0, .slice none 0 0, .int .i64 0, .int .i64 0, .slice none 0 0, .int .i64 0, .int .i64 0, .slice none 0 0, .int .i64 0, .int .i64 0, .slice none 0 0, .string ⟨#[]⟩] 91) = W := ⟨_, rfl⟩; have hgl : g < w.heap.size := hpLt h; have hgn : g ≠ w.heap.size := (by omega); have hb0 : Below w.heap.size w W0 := (by rw [← hW0]; exact bal' w _); have p0 : W0.heap[w.heap.size]? = some (.cells #[.int .i64 0, .int .i64 0, .int .i64 0, .int .i64 0, .int .i64 0, .slice none 0 0, .int .i64 0, .slice none 0 0, .int .i64 0, .int .i64 0, .slice none 0 0, .int .i64 0, .int .i64 0, .slice none 0 0, .int .i64 0, .int .i64 0, .slice none 0 0, .int .i64 0, .int .i64 0, .slice none 0 0, .string ⟨#[]⟩] 91) := (by rw [← hW0]; exact hpNew w _); have h0 := PbI.keep h hb0
  have c8 : W0.cell? ⟨g, 8, none⟩ = some (.iface t (.pointer (some ⟨b, 0, none⟩))) := hpCell h0 8
  have HW0 := hid hW0
  have HB0 := hid hb0
  have HP0 := hid p0
  clear hW0 hb0 p0 h h0
  go_enter Tryz.func55, Tryz.ntmps55
  go_upto_region 1 with (fail)
  rw [HW0.out]
  go_wp2_with (refine wpList_storeW rfl 91 (.tmp 2) (.tmp 13) rfl w.heap.size 0 _ 91 #[.int .i64 0, .int .i64 0, .int .i64 0, .int .i64 0, .int .i64 0, .slice none 0 0, .int .i64 0, .slice none 0 0, .int .i64 0, .int .i64 0, .slice none 0 0, .int .i64 0, .int .i64 0, .slice none 0 0, .int .i64 0, .int .i64 0, .slice none 0 0, .int .i64 0, .int .i64 0, .slice none 0 0, .string ⟨#[]⟩] rfl rfl HP0.out (by simp) info21 rfl ?_; intro w8 g8 hk8 hz8)
  have g9 : w8.heap[w.heap.size]? = some (.cells (DvC Dv.zero (.slice none 0 0) (.slice none 0 0) (fun _ => .slice none 0 0)) 91) := g8
  refine bodyPost_ret (results_ct_row rfl _ _ w.heap.size 91 _ (0, 0) _ rfl g9 Tryz.underlying91 rfl info21) rfl ?_
  exact ⟨_, _, _, rfl, fun W' _ => ⟨Obs.nil _, Bs.nil _, fun _ _ => Spn.nil _ _⟩, HB0.out.trans (hk8.below (B := w.heap.size) HB0.out.size (fun j hj e => by omega))⟩
set_option maxRecDepth 100000 in
set_option maxHeartbeats 3200000 in
theorem presult_yes (g : Nat) (win : Nat → Int × Int) (af : Value) (d : Dv) (hd : d.small) (ov sv : Value) (mv : Nat → Value) (q : Int) (w : World) (h : PbI w g win .nilIface af d ov sv mv q) (hr : DvRd w d ov sv mv) :
    Calls Tryz.prog 55 #[.pointer (some ⟨g, 0, none⟩)] w (ResPost w d true) := by
  obtain ⟨W0, hW0⟩ : ∃ W, w.alloc (.cells #[.int .i64 0, .int .i64 0, .int .i64 0, .int .i64 0, .int .i64 0, .slice none 0 0, .int .i64 0, .slice none 0 0, .int .i64 0, .int .i64 0, .slice none 0 0, .int .i64 0, .int .i64 0, .slice none 0 0, .int .i64 0, .int .i64 0, .slice none 0 0, .int .i64 0, .int .i64 0, .slice none 0 0, .string ⟨#[]⟩] 91) = W := ⟨_, rfl⟩; have hgl : g < w.heap.size := hpLt h; have hgn : g ≠ w.heap.size := (by omega); have hb0 : Below w.heap.size w W0 := (by rw [← hW0]; exact bal' w _); have p0 : W0.heap[w.heap.size]? = some (.cells #[.int .i64 0, .int .i64 0, .int .i64 0, .int .i64 0, .int .i64 0, .slice none 0 0, .int .i64 0, .slice none 0 0, .int .i64 0, .int .i64 0, .slice none 0 0, .int .i64 0, .int .i64 0, .slice none 0 0, .int .i64 0, .int .i64 0, .slice none 0 0, .int .i64 0, .int .i64 0, .slice none 0 0, .string ⟨#[]⟩] 91) := (by rw [← hW0]; exact hpNew w _); have h0 := PbI.keep h hb0
  have c8 : W0.cell? ⟨g, 8, none⟩ = some .nilIface := hpCell h0 8
  have hc : ∀ j v, (DvC d ov sv mv).toList[j]? = some v → W0.cell? ((⟨g, 10, none⟩ : Addr).add j) = some v := fun j v hj => by
    have e1 : (⟨g, 10, none⟩ : Addr).add j = ⟨g, 10 + j, none⟩ := by unfold Addr.add; split <;> simp_all
    rw [e1, hpCell h0]
    exact PbC_dev win _ _ d ov sv mv q j v hj
  have hr0 : DvRd W0 d ov sv mv := ⟨hr.1.keep hb0, hr.2.1.keep hb0, fun k hk => (hr.2.2 k hk).keep hb0⟩
  have HCL : Hid (Calls Tryz.prog 53 #[.agg (DvC d ov sv mv)] W0 (ClPost W0 d)) := clone_dev d hd ov sv mv W0 hr0
  obtain ⟨CC, hCC⟩ : ∃ C, DvC d ov sv mv = C := ⟨_, rfl⟩
  have hcs : CC.size = 21 := by rw [← hCC]; rfl
  have hi21 : (Tryz.prog.info? 91).map (·.size) = some CC.size := by rw [hcs]; exact info21
  rw [hCC] at hc HCL
  have HW0 := hid hW0
  have HB0 := hid hb0
  have HP0 := hid p0
  clear hW0 hb0 p0 h h0 hCC hcs hr hr0
  go_enter Tryz.func55, Tryz.ntmps55
  go_upto_region 1 with (fail)
  rw [HW0.out]
  go_wp2_with (first
    | (refine wpList_load_at rfl 91 (.tmp 16) rfl ⟨g, 10, none⟩ rfl CC _ hc Tryz.underlying91 rfl hi21 ?_)
    | (go_at_call 53; (with_reducible refine HCL.out.mono ?_); rintro r w2 ⟨ov2, sv2, mv2, rfl, hr2, hb2⟩; have HR2 := hid hr2; clear hr2; obtain ⟨va, vc, rfl, -⟩ := id (HR2.out w2 (Agree.refl _ _)).1; obtain ⟨sa, sc, rfl, -⟩ := id (HR2.out w2 (Agree.refl _ _)).2.1; have h1 : (DvC d (.slice va d.objs.length vc) (.slice sa d.sd.length sc) mv2).toList.all (·.oneCell') = true := (by obtain ⟨_, _, e0⟩ := ((HR2.out w2 (Agree.refl _ _)).2.2 0 (by decide)).slice; obtain ⟨_, _, e1⟩ := ((HR2.out w2 (Agree.refl _ _)).2.2 1 (by decide)).slice; obtain ⟨_, _, e2⟩ := ((HR2.out w2 (Agree.refl _ _)).2.2 2 (by decide)).slice; obtain ⟨_, _, e3⟩ := ((HR2.out w2 (Agree.refl _ _)).2.2 3 (by decide)).slice; unfold DvC; rw [e0, e1, e2, e3]; rfl); obtain ⟨C2, hC2⟩ : ∃ C, DvC d (.slice va d.objs.length vc) (.slice sa d.sd.length sc) mv2 = C := ⟨_, rfl⟩; have hcs2 : C2.size = 21 := (by rw [← hC2]; rfl); have hi22 : (Tryz.prog.info? 91).map (·.size) = some C2.size := (by rw [hcs2]; exact info21); rw [hC2] at h1; rw [hC2]; have HC2 := hid hC2; clear hC2; have hz2 := hpKeep HP0.out hb2)
    | (refine wpList_storeW rfl 91 (.tmp 2) (.tmp 18) rfl w.heap.size 0 _ 91 C2 rfl rfl hz2 (by simp [hcs2]) hi22 h1 ?_; intro w8 g8 hk8 hz8))
  have g9 : w8.heap[w.heap.size]? = some (.cells C2 91) := by
    rw [g8, List.drop_eq_nil_of_le (by simp [hcs2])]
    simp
  refine bodyPost_ret (results_ct_row rfl _ _ w.heap.size 91 C2 (0, 0) _ rfl g9 Tryz.underlying91 rfl hi22) rfl ?_
  have hz0 := HB0.out.size
  refine ⟨_, _, mv2, by rw [← HC2.out]; rfl, fun W' hW => HR2.out W' ?_, (bt HB0.out hb2 (Nat.le_refl _)).trans (hk8.below (B := w.heap.size) (by have := hb2.size; omega) (fun j hj e => by omega))⟩
  have hlt : w.heap.size < W0.heap.size := hpLt HP0.out
  exact (Agree.of_keeps (B := W0.heap.size) hk8 (fun j e => by omega)).trans ⟨hW.size, fun j hj hl => hW.block j (by omega) hl⟩
theorem presult_any {P : Nat → Prop} {w : World} {g : Nat} {win : Nat → Int × Int} {p : Pb} (h : PbAt P w g win p) (hd : p.d.small) (d : Dv) (V : Bool) (hV : p.ph.isDone = V) (hD : d = if p.ph.isDone then p.d else Dv.zero) :
    Calls Tryz.prog 55 #[.pointer (some ⟨g, 0, none⟩)] w (ResPost w d V) := by
  obtain ⟨Q, pr, af, ov, sv, mv, hP, hQ, hpb, hrd, hpr⟩ := h
  subst hV hD
  match p.ph, hpr with
  | .done, hpr =>
    obtain ⟨rfl, rfl⟩ := hpr
    exact presult_yes g win _ p.d hd ov sv mv p.q w hpb (hrd w (Keeps.refl _ _))
  | .test, hpr =>
    obtain ⟨b, bp, rfl, rfl, _⟩ := hpr
    exact presult_no g b _ win _ p.d ov sv mv p.q w hpb
  | .server, hpr =>
    obtain ⟨b, bp, bq, rfl, rfl, _⟩ := hpr
    exact presult_no g b _ win _ p.d ov sv mv p.q w hpb
  | .ident x, hpr =>
    obtain ⟨b, v, cs, bi, bp, rfl, rfl, _⟩ := hpr
    exact presult_no g b _ win _ p.d ov sv mv p.q w hpb
  | .seek k s, hpr =>
    obtain ⟨b, bp, bk, bs, rfl, rfl, _⟩ := hpr
    exact presult_no g b _ win _ p.d ov sv mv p.q w hpb
  | .map k m, hpr =>
    obtain ⟨b, v, qq, bm, bp, bk, rfl, rfl, _⟩ := hpr
    exact presult_no g b _ win _ p.d ov sv mv p.q w hpb
end Go.Proofs.YtipnamoocemeeaaGreat

namespace Go.Proofs.YtipnamoocemeeaaGreat
open Go.RowKit
theorem DvC_one {w : World} {d : Dv} {ov sv : Value} {mv : Nat → Value} (h : DvRd w d ov sv mv) : (DvC d ov sv mv).toList.all (·.oneCell') = true := by
  obtain ⟨va, vc, rfl, -⟩ := id h.1
  obtain ⟨sa, sc, rfl, -⟩ := id h.2.1
  obtain ⟨_, _, e0⟩ := (h.2.2 0 (by decide)).slice
  obtain ⟨_, _, e1⟩ := (h.2.2 1 (by decide)).slice
  obtain ⟨_, _, e2⟩ := (h.2.2 2 (by decide)).slice
  obtain ⟨_, _, e3⟩ := (h.2.2 3 (by decide)).slice
  unfold DvC
  rw [e0, e1, e2, e3]
  rfl
def dA : Dv := { Dv.zero with st := 1 }
end Go.Proofs.YtipnamoocemeeaaGreat
