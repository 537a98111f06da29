/-
  Several texts of this claim in one file.
-/
import Derived.Test.YtliblgmpclefgaaGreatMsl
import Derived.Test.YtliblgmpclefgaaGreatMwr
import Derived.BigQuiet
import Derived.Deep.CutBlock
import Derived.Test.YtliblgmpclefgaaGreatMrb
import Derived.Test.YtliblgmpclefgaaGreatPbt
/-
What the form's reading of an argument gives for a slave.
-/
namespace Go.Proofs.YtliblgmpclefgaaGreat
open Go.RowKit

theorem cellsRgs : Tryz.prog.cellsOf 24 = 1 := by kernel_rfl
theorem cellsRg : Tryz.prog.cellsOf 33 = 2 := by kernel_rfl
theorem cellsTb : Tryz.prog.cellsOf 26 = 3 := by kernel_rfl
theorem cellsTb4 : Tryz.prog.cellsOf 27 = 12 := by kernel_rfl
theorem cellsSt : Tryz.prog.cellsOf 23 = 2 := by kernel_rfl
theorem cellsSl : Tryz.prog.cellsOf 31 = 19 := by kernel_rfl

def RgR (_ : World) (cs : List Value) (x : Int × Int) : Prop := cs = [.int .i64 x.1, .int .i64 x.2] ∧ wfI x.1 ∧ wfI x.2
def Rgs (w : World) (v : Value) (l : List (Int × Int)) : Prop := Sls 2 RgR w v l
theorem Rgs.keep {w w' : World} {v : Value} {l : List (Int × Int)} (h : Rgs w v l) (hb : Below w.heap.size w w') : Rgs w' v l := Sls.keep (fun _ _ _ _ h _ => h) h hb
theorem int_rd {w : World} {v : Value} (h : Rd Tryz.prog w 3 [v]) : ∃ n : Int, v = .int .i64 n ∧ wfI n := by
  obtain ⟨n, e, hw⟩ := Rd.int Tryz.underlying3 h
  simp only [List.cons.injEq, and_true] at e
  have hb := bounds_i64 hw
  exact ⟨n, e, by unfold wfI; omega⟩
theorem bool_rd {w : World} {v : Value} (h : Rd Tryz.prog w 4 [v]) : ∃ b : Bool, v = .bool b := by
  obtain ⟨b, e⟩ := Rd.bool Tryz.underlying4 h
  simp only [List.cons.injEq, and_true] at e
  exact ⟨b, e⟩
theorem rg_rd {w : World} {cs : List Value} (h : Rd Tryz.prog w 33 cs) : ∃ x, RgR w cs x := by
  obtain ⟨hl, hf⟩ := h.struct Tryz.underlying33
  rw [cellsRg] at hl
  obtain ⟨c0, c1, rfl⟩ := lst2 hl
  have f0 := hf _ (List.mem_cons_self ..)
  have f1 := hf _ (List.mem_cons_of_mem _ (List.mem_cons_self ..))
  simp only [cellsInt, List.drop_zero, List.drop_succ_cons, List.take_succ_cons, List.take_zero] at f0 f1
  obtain ⟨a, rfl, w0⟩ := int_rd f0
  obtain ⟨b, rfl, w1⟩ := int_rd f1
  exact ⟨(a, b), rfl, w0, w1⟩
theorem rgs_rd {w : World} {v : Value} (h : Rd Tryz.prog w 24 [v]) : ∃ l, Rgs w v l :=
  Sls.of_rd (R := RgR) Tryz.underlying24 cellsRg (by decide) (fun _ h => rg_rd h) h
theorem lst3 {α : Type} {l : List α} (h : l.length = 3) : ∃ a b c, l = [a, b, c] := by
  match l, h with
  | [a, b, c], _ => exact ⟨a, b, c, rfl⟩
theorem lst19 {α : Type} {l : List α} (h : l.length = 19) : ∃ a b c d e f g i j k m n o p q r s t u, l = [a, b, c, d, e, f, g, i, j, k, m, n, o, p, q, r, s, t, u] := by
  match l, h with
  | [a, b, c, d, e, f, g, i, j, k, m, n, o, p, q, r, s, t, u], _ => exact ⟨a, b, c, d, e, f, g, i, j, k, m, n, o, p, q, r, s, t, u, rfl⟩
theorem tb_rd {w : World} {cs : List Value} (h : Rd Tryz.prog w 26 cs) : ∃ (t : Tbl) (v : Value), cs = [.bool t.sup, v, .int .i64 t.most] ∧ Rgs w v t.rd ∧ wfI t.most := by
  obtain ⟨hl, hf⟩ := h.struct Tryz.underlying26
  rw [cellsTb] at hl
  obtain ⟨c0, c1, c2, rfl⟩ := lst3 hl
  have f0 := hf _ (List.mem_cons_self ..)
  have f1 := hf _ (List.mem_cons_of_mem _ (List.mem_cons_self ..))
  have f2 := hf _ (List.mem_cons_of_mem _ (List.mem_cons_of_mem _ (List.mem_cons_self ..)))
  simp only [cellsInt, cellsBool, cellsRgs, List.drop_zero, List.drop_succ_cons, List.take_succ_cons, List.take_zero] at f0 f1 f2
  obtain ⟨a, rfl⟩ := bool_rd f0
  obtain ⟨l, hr⟩ := rgs_rd f1
  obtain ⟨b, rfl, w1⟩ := int_rd f2
  exact ⟨⟨a, l, b⟩, c1, rfl, hr, w1⟩

def SlC (s : Sl) (rv : Nat → Value) (ov sv : Value) : Array Value :=
  #[.int .i64 s.bd, .int .i64 s.pa, .int .i64 s.un, .bool (s.ts 0).sup, rv 0, .int .i64 (s.ts 0).most, .bool (s.ts 1).sup, rv 1, .int .i64 (s.ts 1).most, .bool (s.ts 2).sup, rv 2, .int .i64 (s.ts 2).most, .bool (s.ts 3).sup, rv 3, .int .i64 (s.ts 3).most, .int .i64 s.lv, ov, .bool s.hs, sv]
structure SlR (w : World) (s : Sl) (rv : Nat → Value) (ov sv : Value) : Prop where
  rg : ∀ k, k < 4 → Rgs w (rv k) (s.ts k).rd
  ob : Obs w ov s.objs
  sd : Bs w sv s.sd
  mo : ∀ k, k < 4 → wfI (s.ts k).most
  un : wfI s.un
  lv : wfI s.lv
  bd : wfI s.bd
  pa : wfI s.pa
theorem SlR.keep {w w' : World} {s : Sl} {rv : Nat → Value} {ov sv : Value} (h : SlR w s rv ov sv) (hb : Below w.heap.size w w') : SlR w' s rv ov sv :=
  ⟨fun k hk => (h.rg k hk).keep hb, h.ob.keep hb, h.sd.keep hb, h.mo, h.un, h.lv, h.bd, h.pa⟩
def mk4 {α : Type} (a b c d : α) : Nat → α
  | 0 => a
  | 1 => b
  | 2 => c
  | _ => d
theorem sl_rd {w : World} {cs : Array Value} (h : Rd Tryz.prog w 31 cs.toList) : ∃ s rv ov sv, cs = SlC s rv ov sv ∧ SlR w s rv ov sv := by
  obtain ⟨hl, hf⟩ := h.struct Tryz.underlying31
  rw [cellsSl] at hl
  obtain ⟨cl⟩ := cs
  obtain ⟨c0, c1, c2, c3, c4, c5, c6, c7, c8, c9, c10, c11, c12, c13, c14, c15, c16, c17, c18, rfl⟩ := lst19 hl
  have f0 := hf _ (List.mem_cons_self ..)
  have f1 := hf _ (List.mem_cons_of_mem _ (List.mem_cons_self ..))
  have f2 := hf _ (List.mem_cons_of_mem _ (List.mem_cons_of_mem _ (List.mem_cons_self ..)))
  have f3 := hf _ (List.mem_cons_of_mem _ (List.mem_cons_of_mem _ (List.mem_cons_of_mem _ (List.mem_cons_self ..))))
  have f4 := hf _ (List.mem_cons_of_mem _ (List.mem_cons_of_mem _ (List.mem_cons_of_mem _ (List.mem_cons_of_mem _ (List.mem_cons_self ..)))))
  have f5 := hf _ (List.mem_cons_of_mem _ (List.mem_cons_of_mem _ (List.mem_cons_of_mem _ (List.mem_cons_of_mem _ (List.mem_cons_of_mem _ (List.mem_cons_self ..))))))
  have f6 := hf _ (List.mem_cons_of_mem _ (List.mem_cons_of_mem _ (List.mem_cons_of_mem _ (List.mem_cons_of_mem _ (List.mem_cons_of_mem _ (List.mem_cons_of_mem _ (List.mem_cons_self ..)))))))
  simp only [cellsInt, cellsBool, cellsBytes, cellsObs, cellsSt, cellsTb4, List.drop_zero, List.drop_succ_cons, List.take_succ_cons, List.take_zero] at f0 f1 f2 f3 f4 f5 f6
  obtain ⟨hl0, g0⟩ := f0.struct Tryz.underlying23
  have s0 := g0 _ (List.mem_cons_self ..)
  have s1 := g0 _ (List.mem_cons_of_mem _ (List.mem_cons_self ..))
  simp only [cellsInt, List.drop_zero, List.drop_succ_cons, List.take_succ_cons, List.take_zero] at s0 s1
  obtain ⟨b0, rfl, w0⟩ := int_rd s0
  obtain ⟨b1, rfl, w1⟩ := int_rd s1
  obtain ⟨b2, rfl, w2⟩ := int_rd f1
  obtain ⟨hl2, g2⟩ := f2.array Tryz.underlying27
  have t0 := g2 0 (by decide)
  have t1 := g2 1 (by decide)
  have t2 := g2 2 (by decide)
  have t3 := g2 3 (by decide)
  simp only [cellsTb, Nat.zero_mul, Nat.reduceMul, List.drop_zero, List.drop_succ_cons, List.take_succ_cons, List.take_zero] at t0 t1 t2 t3
  obtain ⟨x0, v0, e0, r0, m0⟩ := tb_rd t0
  obtain ⟨x1, v1, e1, r1, m1⟩ := tb_rd t1
  obtain ⟨x2, v2, e2, r2, m2⟩ := tb_rd t2
  obtain ⟨x3, v3, e3, r3, m3⟩ := tb_rd t3
  obtain ⟨b3, rfl, w3⟩ := int_rd f3
  obtain ⟨os, ho⟩ := Obs.of_rd f4
  obtain ⟨b5, rfl⟩ := bool_rd f5
  obtain ⟨ds, hd⟩ := Bs.of_rd Tryz.underlying29 Tryz.underlying5 cellsU8 f6
  simp only [List.cons.injEq, and_true] at e0 e1 e2 e3
  obtain ⟨rfl, rfl, rfl⟩ := e0
  obtain ⟨rfl, rfl, rfl⟩ := e1
  obtain ⟨rfl, rfl, rfl⟩ := e2
  obtain ⟨rfl, rfl, rfl⟩ := e3
  refine ⟨⟨b0, b1, b2, mk4 x0 x1 x2 x3, b3, os, b5, ds⟩, mk4 _ _ _ _, _, _, rfl, fun k hk => ?_, ho, hd, fun k hk => ?_, w2, w3, w0, w1⟩
  · match k, hk with
    | 0, _ => exact r0
    | 1, _ => exact r1
    | 2, _ => exact r2
    | 3, _ => exact r3
  · match k, hk with
    | 0, _ => exact m0
    | 1, _ => exact m1
    | 2, _ => exact m2
    | 3, _ => exact m3

end Go.Proofs.YtliblgmpclefgaaGreat

/-
The reference's ranges: Valid, In, Range, Covers.
-/
namespace Go.Proofs.YtliblgmpclefgaaGreat
open Go.RowKit

def rgsFrom (e : Int) : List (Int × Int) → Bool
  | [] => true
  | r :: l => !(decide (r.1 ≤ e) || decide (r.1 < 0) || decide (65536 ≤ r.1) || decide (r.2 < 1) || decide (65536 - r.1 < r.2)) && rgsFrom (r.1 + r.2) l
def rgOk (e : Int) (x : Int × Int) : Prop := ¬ x.1 ≤ e ∧ ¬ x.1 < 0 ∧ ¬ 65536 ≤ x.1 ∧ ¬ x.2 < 1 ∧ ¬ 65536 - x.1 < x.2
theorem rgsFrom_ok {e : Int} {x : Int × Int} {l : List (Int × Int)} (h : rgOk e x) : rgsFrom e (x :: l) = rgsFrom (x.1 + x.2) l := by
  obtain ⟨h1, h2, h3, h4, h5⟩ := h
  simp only [rgsFrom, decide_eq_false h1, decide_eq_false h2, decide_eq_false h3, decide_eq_false h4, decide_eq_false h5]
  rfl
theorem rgsFrom_bad {e : Int} {x : Int × Int} {l : List (Int × Int)} (h : ¬ rgOk e x) : rgsFrom e (x :: l) = false := by
  cases hh : rgsFrom e (x :: l) with
  | false => rfl
  | true =>
    exfalso
    simp only [rgsFrom, Bool.and_eq_true, Bool.not_eq_true', Bool.or_eq_false_iff, decide_eq_false_iff_not] at hh
    obtain ⟨⟨⟨⟨⟨h1, h2⟩, h3⟩, h4⟩, h5⟩, _⟩ := hh
    exact h ⟨h1, h2, h3, h4, h5⟩
theorem badR {e : Int} {x : Int × Int} (h : ¬ rgOk e x) : x.1 ≤ e ∨ (¬ x.1 ≤ e ∧ x.1 < 0) ∨ (¬ x.1 ≤ e ∧ ¬ x.1 < 0 ∧ 65536 ≤ x.1) ∨ (¬ x.1 ≤ e ∧ ¬ x.1 < 0 ∧ ¬ 65536 ≤ x.1 ∧ x.2 < 1) ∨ (¬ x.1 ≤ e ∧ ¬ x.1 < 0 ∧ ¬ 65536 ≤ x.1 ∧ ¬ x.2 < 1 ∧ 65536 - x.1 < x.2) := by
  unfold rgOk at h
  omega
/-- A range in the row, by its cells. -/
theorem Rgs.at {w : World} {v : Value} {l : List (Int × Int)} (h : Rgs w v l) {k : Nat} {x : Int × Int} (hx : l[k]? = some x) :
    ∃ b o c, v = .slice (some ⟨b, o, none⟩) l.length c ∧ wfI x.1 ∧ wfI x.2 ∧ ∀ W, Below w.heap.size w W → W.cell? ⟨b, o + k * 2, none⟩ = some (.int .i64 x.1) ∧ W.cell? ⟨b, o + k * 2 + 1, none⟩ = some (.int .i64 x.2) := by
  obtain ⟨a, c, rfl, h1, h2, h3, h4⟩ := h
  obtain ⟨b, o, rfl, hel⟩ := h4 (by rintro rfl; simp at hx)
  obtain ⟨r, hr, ⟨rfl, w1, w2⟩, hc⟩ := hel k x hx
  exact ⟨b, o, c, rfl, w1, w2, fun W hW => ⟨cell_keep hW (hc 0 _ rfl), cell_keep hW (hc 1 _ rfl)⟩⟩

set_option maxRecDepth 100000 in
set_option maxHeartbeats 6400000 in
theorem rgs_valid (v : Value) (l : List (Int × Int)) (w : World) (hl : Rgs w v l) (V : Bool) (hV : Hid (rgsFrom (-1) l = V)) :
    Calls Tryz.prog 22 #[v] w (BoolPost w V) := by
  have HL := hid hl
  obtain ⟨a, c, rfl, hnc, hcm, -⟩ := id hl
  obtain ⟨n, hn⟩ : ∃ n, l.length = n := ⟨_, rfl⟩
  have HN := hid hn
  rw [hn] at hnc ⊢
  clear hl hn
  go_enter Tryz.func22, Tryz.ntmps22
  go_wp2_with fail
  go_loopw [3, 4] (fun ev iv wr => ∃ (k : Nat) (e : Int), k ≤ n ∧ ev = .int .i64 e ∧ iv = .int .i64 (k : Int) ∧ -1 ≤ e ∧ e ≤ 65536 ∧ Hid (rgsFrom e (l.drop k) = V) ∧ Below w.heap.size w wr) (fun _ iv _ => n - (intOf iv).toNat)
  case atStart => exact ⟨0, -1, Nat.zero_le _, rfl, rfl, by decide, by decide, hV.out, Below.refl _ _⟩
  case round =>
    obtain ⟨k, e, hk, rfl, rfl, he0, he1, hv, hbw⟩ := hrel
    have hki : (0 : Int) ≤ (k : Int) := Int.natCast_nonneg _
    have hnn : n ≤ 9223372036854775807 := by unfold maxLen at hcm; omega
    by_cases hlt : k < n
    · obtain ⟨x, hx⟩ := gs (l := l) HN.out hlt
      obtain ⟨b, o, c', hv', w1, w2, hcl⟩ := HL.out.at hx
      rw [HN.out] at hv'
      simp only [Value.slice.injEq, true_and] at hv'
      obtain ⟨rfl, rfl⟩ := hv'
      have hkl : (k : Int) < (n : Int) := by omega
      obtain ⟨y0, y1⟩ := hcl wr hbw
      have hdr : l.drop k = x :: l.drop (k + 1) := by
        rw [List.drop_eq_getElem_cons (by have := HN.out; omega)]
        congr 1
        rw [List.getElem?_eq_getElem (by have := HN.out; omega)] at hx
        exact Option.some.inj hx
      have hve := hv.out
      rw [hdr] at hve
      obtain ⟨xf, xc⟩ := x
      dsimp only at y0 y1 w1 w2
      by_cases hg : rgOk e (xf, xc)
      · rw [rgsFrom_ok hg] at hve
        obtain ⟨h1, h2, h3, h4, h5⟩ := hg
        dsimp only at h1 h2 h3 h4 h5 hve
        have a1 : decide (xf ≤ e) = false := decide_eq_false h1
        have a2 : decide (xf < 0) = false := decide_eq_false h2
        have a3 : decide (65536 ≤ xf) = false := decide_eq_false h3
        have a4 : decide (xc < 1) = false := decide_eq_false h4
        obtain ⟨f, hf⟩ : ∃ f, 65536 - xf = f := ⟨_, rfl⟩
        have a5 : decide (f < xc) = false := decide_eq_false (by omega)
        have s1 : IntKind.i64.wrap (65536 - xf) = f := (IntWalk.i64_in _ (by omega)).trans hf
        obtain ⟨e2, he2⟩ : ∃ e, xf + xc = e := ⟨_, rfl⟩
        have s2 : IntKind.i64.wrap (xf + xc) = e2 := (IntWalk.i64_in _ (by omega)).trans he2
        have hb2 : -1 ≤ e2 ∧ e2 ≤ 65536 := by omega
        rw [he2] at hve
        have HVE := hid hve
        clear h1 h2 h3 h4 h5 hf he2 hve hv hx hdr hcl w1 w2
        go_upto_region 5 with (fail)
        go_quiet (fail)
        have hbq : Below w.heap.size w (wr.drewN nq) := below_drewN hbw _
        have y0' : (wr.drewN nq).cell? ⟨b, o + k * 2, none⟩ = some (.int .i64 xf) := cell_keep (below_drewN (Below.refl _ _) _) y0
        have y1' : (wr.drewN nq).cell? ⟨b, o + k * 2 + 1, none⟩ = some (.int .i64 xc) := cell_keep (below_drewN (Below.refl _ _) _) y1
        generalize wr.drewN nq = wq at *
        go_upto_region 7 with (fail)
        go_quiet (fail)
        go_wp2
        go_roundw
        case rel => exact ⟨k + 1, e2, by omega, rfl, by go_num, hb2.1, hb2.2, HVE.out, below_drewN hbq _⟩
        case measure => simp [intOf]; omega
      · rw [rgsFrom_bad hg] at hve
        have HV : Hid (V = false) := hve.symm
        have hb := badR hg
        dsimp only at hb
        clear hg hve hv hx hdr hcl
        rcases hb with h1 | ⟨h1, h2⟩ | ⟨h1, h2, h3⟩ | ⟨h1, h2, h3, h4⟩ | ⟨h1, h2, h3, h4, h5⟩
        · have a1 : decide (xf ≤ e) = true := decide_eq_true h1
          clear h1
          go_upto_region 5 with (fail); go_quiet (fail); go_wp2; go_ret; exact ⟨ret_bool HV.out.symm, below_drewN hbw _⟩
        · have a1 : decide (xf ≤ e) = false := decide_eq_false h1
          have a2 : decide (xf < 0) = true := decide_eq_true h2
          clear h1 h2
          go_upto_region 5 with (fail); go_quiet (fail); go_wp2; go_ret; exact ⟨ret_bool HV.out.symm, below_drewN hbw _⟩
        · have a1 : decide (xf ≤ e) = false := decide_eq_false h1
          have a2 : decide (xf < 0) = false := decide_eq_false h2
          have a3 : decide (65536 ≤ xf) = true := decide_eq_true h3
          clear h1 h2 h3
          go_upto_region 5 with (fail); go_quiet (fail); go_wp2; go_ret; exact ⟨ret_bool HV.out.symm, below_drewN hbw _⟩
        · have a1 : decide (xf ≤ e) = false := decide_eq_false h1
          have a2 : decide (xf < 0) = false := decide_eq_false h2
          have a3 : decide (65536 ≤ xf) = false := decide_eq_false h3
          have a4 : decide (xc < 1) = true := decide_eq_true h4
          clear h1 h2 h3 h4
          go_upto_region 5 with (fail); go_quiet (fail); go_wp2; go_ret; exact ⟨ret_bool HV.out.symm, below_drewN hbw _⟩
        · have a1 : decide (xf ≤ e) = false := decide_eq_false h1
          have a2 : decide (xf < 0) = false := decide_eq_false h2
          have a3 : decide (65536 ≤ xf) = false := decide_eq_false h3
          have a4 : decide (xc < 1) = false := decide_eq_false h4
          obtain ⟨f, hf⟩ : ∃ f, 65536 - xf = f := ⟨_, rfl⟩
          have a5 : decide (f < xc) = true := decide_eq_true (by omega)
          have s1 : IntKind.i64.wrap (65536 - xf) = f := (IntWalk.i64_in _ (by omega)).trans hf
          clear h1 h2 h3 h4 h5 hf
          go_upto_region 5 with (fail); go_quiet (fail); go_wp2; go_ret; exact ⟨ret_bool HV.out.symm, below_drewN hbw _⟩
    · obtain rfl : k = n := by omega
      have HV : Hid (true = V) := by
        have h1 := hv.out
        rw [List.drop_eq_nil_of_le (by rw [HN.out]; exact Nat.le_refl _)] at h1
        exact h1
      clear hv
      go_wp2
      go_ret
      exact ⟨ret_bool HV.out, hbw⟩

/-- What a valid list gives. -/
theorem rgsFrom_mem {e : Int} : ∀ {l : List (Int × Int)}, rgsFrom e l = true → ∀ x ∈ l, 0 ≤ x.1 ∧ x.1 < 65536 ∧ 1 ≤ x.2 ∧ x.2 ≤ 65536 - x.1
  | [], _, x, hx => by cases hx
  | r :: l, h, x, hx => by
    by_cases hg : rgOk e r
    · rw [rgsFrom_ok hg] at h
      rcases List.mem_cons.1 hx with rfl | hx
      · obtain ⟨h1, h2, h3, h4, h5⟩ := hg
        omega
      · exact rgsFrom_mem h x hx
    · rw [rgsFrom_bad hg] at h
      cases h

theorem inR_false {l : List (Int × Int)} {a : Int} (h : ∀ (i : Nat) (x : Int × Int), l[i]? = some x → ¬ (x.1 ≤ a ∧ a - x.1 < x.2)) : inR l a = false := by
  unfold inR
  rw [List.any_eq_false]
  intro x hx hh
  obtain ⟨i, hi⟩ := List.getElem?_of_mem hx
  simp only [Bool.and_eq_true, decide_eq_true_eq] at hh
  exact h i x hi hh
theorem inR_true {l : List (Int × Int)} {a : Int} {i : Nat} {x : Int × Int} (hi : l[i]? = some x) (h : x.1 ≤ a ∧ a - x.1 < x.2) : inR l a = true := by
  unfold inR
  rw [List.any_eq_true]
  exact ⟨x, List.mem_of_getElem? hi, by simp only [Bool.and_eq_true, decide_eq_true_eq]; exact h⟩
set_option maxRecDepth 100000 in
set_option maxHeartbeats 6400000 in
theorem rgs_in (v : Value) (l : List (Int × Int)) (hgd : rgsFrom (-1) l = true) (p : Int) (p0 : 0 ≤ p) (p1 : p ≤ 200000) (w : World) (hl : Rgs w v l) (V : Bool) (hV : Hid (inR l p = V)) :
    Calls Tryz.prog 52 #[v, .int .i64 p] w (BoolPost w V) := by
  have HVL : Hid (∀ X, Below w.heap.size w X → Calls Tryz.prog 22 #[v] X (BoolPost X true)) := fun X hX => rgs_valid v l X (hl.keep hX) true hgd
  have HL := hid hl
  have HGD := hid hgd
  obtain ⟨a, c, rfl, hnc, hcm, -⟩ := id hl
  obtain ⟨n, hn⟩ : ∃ n, l.length = n := ⟨_, rfl⟩
  have HN := hid hn
  rw [hn] at hnc HVL ⊢
  clear hl hn hgd
  go_enter Tryz.func52, Tryz.ntmps52
  go_wp2_with fail
  go_loopw [5] (fun iv wr => ∃ (k : Nat), k ≤ n ∧ iv = .int .i64 (k : Int) ∧ Hid (∀ (i : Nat) (x : Int × Int), i < k → l[i]? = some x → ¬ (x.1 ≤ p ∧ p - x.1 < x.2)) ∧ Below w.heap.size w wr) (fun iv _ => n - (intOf iv).toNat)
  case atStart => exact ⟨0, Nat.zero_le _, rfl, fun i x hi => by omega, Below.refl _ _⟩
  case round =>
    obtain ⟨k, hk, rfl, hno, hbw⟩ := hrel
    have hki : (0 : Int) ≤ (k : Int) := Int.natCast_nonneg _
    have hnn : n ≤ 9223372036854775807 := by unfold maxLen at hcm; omega
    by_cases hlt : k < n
    · obtain ⟨x, hx⟩ := gs (l := l) HN.out hlt
      obtain ⟨b, o, c', hv', w1, w2, hcl⟩ := HL.out.at hx
      rw [HN.out] at hv'
      simp only [Value.slice.injEq, true_and] at hv'
      obtain ⟨rfl, rfl⟩ := hv'
      have hkl : (k : Int) < (n : Int) := by omega
      have hxb := rgsFrom_mem HGD.out x (List.mem_of_getElem? hx)
      go_upto_region 4 with (go_at_call 22; (with_reducible refine (HVL.out _ hbw).mono ?_); rintro r w2 ⟨rfl, hb2⟩)
      have hbw2 := bt hbw hb2 (Nat.le_refl _)
      obtain ⟨y0, y1⟩ := hcl w2 hbw2
      obtain ⟨xf, xc⟩ := x
      dsimp only at y0 y1 hxb
      have s1 : IntKind.i64.wrap (p - xf) = p - xf := IntWalk.i64_in _ (by omega)
      obtain ⟨df, hdf⟩ : ∃ d, p - xf = d := ⟨_, rfl⟩
      rw [hdf] at s1
      have HX := hid hx
      have HNO := hid hno.out
      have HDF := hid hdf
      clear hx hcl hno hb2
      by_cases h1 : xf ≤ p
      · have a1 : decide (xf ≤ p) = true := decide_eq_true h1
        by_cases h2 : df < xc
        · have a2 : decide (df < xc) = true := decide_eq_true h2
          have HV : Hid (V = true) := by show _ = _; rw [← hV.out]; exact inR_true HX.out ⟨h1, by dsimp only; rw [HDF.out]; exact h2⟩
          clear h1 h2
          go_quiet (fail)
          go_wp2
          go_ret
          exact ⟨ret_bool HV.out.symm, below_drewN hbw2 _⟩
        · have a2 : decide (df < xc) = false := decide_eq_false h2
          have HN2 : Hid (∀ (i : Nat) (x : Int × Int), i < k + 1 → l[i]? = some x → ¬ (x.1 ≤ p ∧ p - x.1 < x.2)) := fun i z hi hz => by
            by_cases e : i = k
            · subst e
              rw [HX.out] at hz
              cases hz
              dsimp only
              rw [HDF.out]
              exact fun e => h2 e.2
            · exact HNO.out i z (by omega) hz
          clear h1 h2
          go_quiet (fail)
          go_wp2
          go_roundw
          case rel => exact ⟨k + 1, by omega, by go_num, HN2.out, below_drewN hbw2 _⟩
          case measure => simp [intOf]; omega
      · have a1 : decide (xf ≤ p) = false := decide_eq_false h1
        have HN2 : Hid (∀ (i : Nat) (x : Int × Int), i < k + 1 → l[i]? = some x → ¬ (x.1 ≤ p ∧ p - x.1 < x.2)) := fun i z hi hz => by
          by_cases e : i = k
          · subst e
            rw [HX.out] at hz
            cases hz
            exact fun e => h1 e.1
          · exact HNO.out i z (by omega) hz
        clear h1
        go_quiet (fail)
        go_wp2
        go_roundw
        case rel => exact ⟨k + 1, by omega, by go_num, HN2.out, below_drewN hbw2 _⟩
        case measure => simp [intOf]; omega
    · obtain rfl : k = n := by omega
      have HV : Hid (V = false) := by
        show _ = _
        rw [← hV.out]
        exact inR_false (fun i x hx => hno.out i x (by have := HN.out; have := (List.getElem?_eq_some_iff.1 hx).1; omega) hx)
      clear hno
      go_wp2
      go_ret
      exact ⟨ret_bool HV.out.symm, hbw⟩

end Go.Proofs.YtliblgmpclefgaaGreat

/-
The reference's ranges: Range, Covers; and Word.
-/
namespace Go.Proofs.YtliblgmpclefgaaGreat
open Go.RowKit

set_option maxRecDepth 100000 in
set_option maxHeartbeats 1600000 in
theorem rg_range (a n : Int) (h0 : 0 ≤ a) (h1 : 1 ≤ n) (h2 : a + n ≤ 65536) (w : World) :
    Calls Tryz.prog 75 #[.agg #[.int .i64 a, .int .i64 n]] w (BoolPost w true) := by
  have hb := bal' w (.cells #[.int .i64 a, .int .i64 n] 33)
  obtain ⟨f, hf⟩ : ∃ f, 65536 - a = f := ⟨_, rfl⟩
  have s1 : IntKind.i64.wrap (65536 - a) = f := (IntWalk.i64_in _ (by omega)).trans hf
  have a1 : 0 ≤ a := h0
  have a2 : a < 65536 := by omega
  have a3 : 1 ≤ n := h1
  have a4 : n ≤ f := by omega
  have d4 : decide (n ≤ f) = true := decide_eq_true a4
  clear hf h2
  go_enter Tryz.func75, Tryz.ntmps75
  go_wp2
  go_ret
  exact ⟨by first | rfl | (simp [a1, a2, a3, a4]), hb⟩

theorem inR_snoc {l : List (Int × Int)} {k : Nat} {x : Int × Int} (hx : l[k]? = some x) (a : Int) : inR (l.take (k + 1)) a = (inR (l.take k) a || (decide (x.1 ≤ a) && decide (a - x.1 < x.2))) := by
  rw [List.take_add_one, hx]
  unfold inR
  rw [List.any_append]
  simp

def CovPost (w : World) (P : Prop) (r : Ending) (w' : World) : Prop := ∃ V : Bool, r = .returned (.bool V) ∧ (V = true ↔ P) ∧ Below w.heap.size w w'
set_option maxRecDepth 100000 in
set_option maxHeartbeats 6400000 in
theorem rgs_covers (v : Value) (l : List (Int × Int)) (hgd : rgsFrom (-1) l = true) (a n : Int) (h0 : 0 ≤ a) (h1 : 1 ≤ n) (h2 : a + n ≤ 65536) (w : World) (hl : Rgs w v l) :
    Calls Tryz.prog 65 #[v, .agg #[.int .i64 a, .int .i64 n]] w (CovPost w (allR l a n.toNat)) := by
  obtain ⟨W0, hW0⟩ : ∃ W, w.alloc (.cells #[.int .i64 a, .int .i64 n] 33) = W := ⟨_, rfl⟩
  have hb0 : Below w.heap.size w W0 := by rw [← hW0]; exact bal' w _
  have p0 : W0.heap[w.heap.size]? = some (.cells #[.int .i64 a, .int .i64 n] 33) := by rw [← hW0]; exact hpNew w _
  have y0 : ∀ X, Below W0.heap.size W0 X → X.cell? ⟨w.heap.size, 0, none⟩ = some (.int .i64 a) := fun X h => hpCell (hpKeep p0 h) 0
  have y1 : ∀ X, Below W0.heap.size W0 X → X.cell? ⟨w.heap.size, 1, none⟩ = some (.int .i64 n) := fun X h => hpCell (hpKeep p0 h) 1
  have HRG : Hid (∀ X, Calls Tryz.prog 75 #[.agg #[.int .i64 a, .int .i64 n]] X (BoolPost X true)) := fun X => rg_range a n h0 h1 h2 X
  have HVL : Hid (∀ X, Below W0.heap.size W0 X → Calls Tryz.prog 22 #[v] X (BoolPost X true)) := fun X hX => rgs_valid v l X (hl.keep (bt hb0 hX (Nat.le_refl _))) true hgd
  have HL := hid (hl.keep hb0)
  have HGD := hid hgd
  obtain ⟨sa, c, rfl, hnc, hcm, -⟩ := id hl
  obtain ⟨m, hm⟩ : ∃ n, l.length = n := ⟨_, rfl⟩
  have HM := hid hm
  obtain ⟨E, hE⟩ : ∃ e, a + n = e := ⟨_, rfl⟩
  have sE : IntKind.i64.wrap (a + n) = E := (IntWalk.i64_in _ (by omega)).trans hE
  obtain ⟨N, hN⟩ : ∃ N, n.toNat = N := ⟨_, rfl⟩
  have HNN : Hid (E = a + (N : Nat)) := by show _ = _; omega
  rw [hm] at hnc HVL ⊢
  rw [hN]
  have HW0 := hid hW0
  have HB0 := hid hb0
  have k0 : Below W0.heap.size W0 W0 := Below.refl _ _
  have H0 := hid h0
  have H2 := hid (show E ≤ 65536 by omega)
  clear hl hm hgd hW0 hb0 p0 hE hN h0 h1 h2
  go_enter Tryz.func65, Tryz.ntmps65
  go_upto_region 1 with (fail)
  rw [HW0.out]
  go_upto_region 3 with (first
    | (go_at_call 75; (with_reducible refine (HRG.out _).mono ?_); rintro r w1 ⟨rfl, hb1⟩; have hB1 := bt k0 hb1 (Nat.le_refl _))
    | (go_at_call 22; (with_reducible refine (HVL.out _ hB1).mono ?_); rintro r w2 ⟨rfl, hb2⟩; have hB2 := bt hB1 hb2 (Nat.le_refl _)))
  clear hb1 hb2
  go_wp2_with fail
  go_loopw [5, 6, 7] (fun av s6 s7 wr => ∃ (j : Nat) (A : Int), av = .int .i64 A ∧ Hid (A = a + (j : Nat)) ∧ j ≤ N ∧ Hid (allR l a j) ∧ Below W0.heap.size W0 wr) (fun av _ _ _ => E.toNat - (intOf av).toNat)
  case atStart => exact ⟨0, a, rfl, (by show _ = _; omega), Nat.zero_le _, fun i hi => by omega, hB2⟩
  case round =>
    obtain ⟨j, A, rfl, hA, hj, hall, hbw⟩ := hrel
    have hEN := HNN.out
    have h00 := H0.out
    have h22 := H2.out
    have hA' := hA.out
    by_cases hlt : j < N
    · have dA : A < E := by omega
      have bA : 0 ≤ A := by omega
      have bA2 : A < 65536 := by omega
      have sA : IntKind.i64.wrap (A + 1) = A + 1 := IntWalk.i64_in _ (by omega)
      clear hEN hA'
      go_upto_region 8 with (fail)
      go_loopw [6, 7] (fun bv iv wi => ∃ (k : Nat) (b : Bool), bv = .bool b ∧ iv = .int .i64 (k : Int) ∧ k ≤ m ∧ Hid (inR (l.take k) A = b) ∧ Below W0.heap.size W0 wi) (fun _ iv _ => m - (intOf iv).toNat)
      case atStart => exact ⟨0, false, rfl, rfl, Nat.zero_le _, rfl, hbw⟩
      case round =>
        obtain ⟨k, b, rfl, rfl, hk, hin, hbi⟩ := hrel
        have hki : (0 : Int) ≤ (k : Int) := Int.natCast_nonneg _
        have hnn : m ≤ 9223372036854775807 := by unfold maxLen at hcm; omega
        by_cases hkm : k < m
        · obtain ⟨x, hx⟩ := gs (l := l) HM.out hkm
          obtain ⟨gb, o, c', hv', w1, w2, hcl⟩ := HL.out.at hx
          rw [HM.out] at hv'
          simp only [Value.slice.injEq, true_and] at hv'
          obtain ⟨rfl, rfl⟩ := hv'
          have hkl : (k : Int) < (m : Int) := by omega
          have hxb := rgsFrom_mem HGD.out x (List.mem_of_getElem? hx)
          obtain ⟨x0, x1⟩ := hcl _ hbi
          have hsn := inR_snoc hx A
          rw [hin.out] at hsn
          obtain ⟨xf, xc⟩ := x
          dsimp only at x0 x1 hxb hsn
          obtain ⟨e, he⟩ : ∃ e, xf + xc = e := ⟨_, rfl⟩
          have s1 : IntKind.i64.wrap (xf + xc) = e := (IntWalk.i64_in _ (by omega)).trans he
          have hde : decide (A - xf < xc) = decide (A < e) := by rw [decide_eq_decide]; omega
          rw [hde] at hsn
          have HSN := hid hsn
          clear hsn hde hx hcl hin he hxb w1 w2
          go_upto_region 10 with (fail)
          cases b with
          | true =>
            have HB : Hid (inR (l.take (k + 1)) A = true) := HSN.out
            go_quiet (fail)
            go_wp2
            go_roundw
            case rel => exact ⟨k + 1, true, rfl, by go_num, by omega, HB.out, below_drewN hbi _⟩
            case measure => simp [intOf]; omega
          | false =>
            by_cases q1 : xf ≤ A
            · have a1 : decide (xf ≤ A) = true := decide_eq_true q1
              by_cases q2 : A < e
              · have a2 : decide (A < e) = true := decide_eq_true q2
                have HB : Hid (inR (l.take (k + 1)) A = true) := by show _ = _; rw [HSN.out, a1, a2]; rfl
                clear q1 q2
                go_quiet (fail)
                go_wp2
                go_roundw
                case rel => exact ⟨k + 1, true, rfl, by go_num, by omega, HB.out, below_drewN hbi _⟩
                case measure => simp [intOf]; omega
              · have a2 : decide (A < e) = false := decide_eq_false q2
                have HB : Hid (inR (l.take (k + 1)) A = false) := by show _ = _; rw [HSN.out, a1, a2]; rfl
                clear q1 q2
                go_quiet (fail)
                go_wp2
                go_roundw
                case rel => exact ⟨k + 1, false, rfl, by go_num, by omega, HB.out, below_drewN hbi _⟩
                case measure => simp [intOf]; omega
            · have a1 : decide (xf ≤ A) = false := decide_eq_false q1
              have HB : Hid (inR (l.take (k + 1)) A = false) := by show _ = _; rw [HSN.out, a1]; rfl
              clear q1
              go_quiet (fail)
              go_wp2
              go_roundw
              case rel => exact ⟨k + 1, false, rfl, by go_num, by omega, HB.out, below_drewN hbi _⟩
              case measure => simp [intOf]; omega
        · obtain rfl : k = m := by omega
          have HIN : Hid (inR l A = b) := by
            have h1 := hin.out
            rw [List.take_of_length_le (by rw [HM.out]; exact Nat.le_refl _)] at h1
            exact h1
          clear hin
          cases b with
          | true =>
            have HA2 : Hid (allR l a (j + 1)) := fun i hi => by
              by_cases e : i = j
              · rw [e, ← hA.out]; exact HIN.out
              · exact hall.out i (by omega)
            go_wp2
            go_roundw
            case rel => exact ⟨j + 1, A + 1, rfl, (by show _ = _; have := hA.out; omega), by omega, HA2.out, hbi⟩
            case measure => simp [intOf]; omega
          | false =>
            go_wp2
            go_ret
            refine ⟨false, rfl, ⟨fun e => (by cases e), fun e => ?_⟩, bt HB0.out hbi (Nat.le_refl _)⟩
            have := e j hlt
            rw [← hA.out, HIN.out] at this
            exact this
    · obtain rfl : j = N := by omega
      have dA : ¬ A < E := by omega
      clear hEN hA'
      go_wp2
      go_ret
      exact ⟨true, rfl, ⟨fun _ => hall.out, fun _ => rfl⟩, bt HB0.out hbw (Nat.le_refl _)⟩

set_option maxRecDepth 100000 in
set_option maxHeartbeats 1600000 in
theorem word_any (t a x : Int) (t0 : 1 ≤ t) (t1 : t ≤ 4) (a0 : 0 ≤ a) (a1 : a < 65536) (x0 : 0 ≤ x) (x1 : x ≤ 65535) (w : World) :
    Calls Tryz.prog 66 #[.int .i64 t, .int .i64 a, .int .i64 x] w fun r w' => ∃ n : Int, r = .returned (.int .i64 n) ∧ 0 ≤ n ∧ n < 65536 ∧ w = w' := by
  have b1 : ¬ t < 1 := by omega
  have b2 : ¬ 4 < t := by omega
  have b3 : ¬ a < 0 := by omega
  have b4 : ¬ 65536 ≤ a := by omega
  have b5 : ¬ x < 0 := by omega
  have b6 : ¬ 65535 < x := by omega
  obtain ⟨p, hp⟩ : ∃ p, 7919 * a = p := ⟨_, rfl⟩
  have s1 : IntKind.i64.wrap (7919 * a) = p := (IntWalk.i64_in _ (by omega)).trans hp
  obtain ⟨q, hq⟩ : ∃ q, x + p = q := ⟨_, rfl⟩
  have s2 : IntKind.i64.wrap (x + p) = q := (IntWalk.i64_in _ (by omega)).trans hq
  obtain ⟨u, hu⟩ : ∃ u, 104729 * t = u := ⟨_, rfl⟩
  have s3 : IntKind.i64.wrap (104729 * t) = u := (IntWalk.i64_in _ (by omega)).trans hu
  obtain ⟨z, hz⟩ : ∃ z, q + u = z := ⟨_, rfl⟩
  have s4 : IntKind.i64.wrap (q + u) = z := (IntWalk.i64_in _ (by omega)).trans hz
  obtain ⟨y, hy⟩ : ∃ y, z.tmod 65536 = y := ⟨_, rfl⟩
  have HY : Hid (0 ≤ y ∧ y < 65536) := by
    show _ ∧ _
    rw [← hy, Int.tmod_eq_emod_of_nonneg (by omega)]
    omega
  clear t0 t1 a0 a1 x0 x1 hp hq hu hz
  go_enter Tryz.func66, Tryz.ntmps66
  go_wp2
  go_ret
  exact ⟨y, rfl, HY.out.1, HY.out.2, rfl⟩

end Go.Proofs.YtliblgmpclefgaaGreat

/-
The reference's slave: its answer from a table.
-/
namespace Go.Proofs.YtliblgmpclefgaaGreat
open Go.RowKit

theorem info8 : (Tryz.prog.info? 52).map (·.size) = some 8 := by kernel_rfl
/-- What a table answers: some bytes, and the exception. -/
def TabPost (w : World) (fn e : Int) (r : Ending) (w' : World) : Prop :=
  ∃ (D : List UInt8) (da : Option Addr) (dc : Nat), r = .returned (.agg (#[.int .i64 fn, .int .i64 e, (.slice da D.length dc), .int .i64 0, .int .i64 0, .bool false, .int .i64 0, .slice none 0 0])) ∧ D.length ≤ 250 ∧ w'.ownsRow w.heap.size 5 1 (.slice da D.length dc) D.length (u8s D) ∧ Below w.heap.size w w'

theorem TabPost.exc {w W1 W2 W3 : World} {fn e : Int} {C : Array Value} (hb1 : Below w.heap.size w W1) (hz : w.heap.size + 4 ≤ W1.heap.size) (h2 : Keeps (fun j => w.heap.size ≤ j) W1 W2) (h3 : Keeps (fun j => w.heap.size ≤ j) W2 W3) (hC : C = #[.int .i64 fn, .int .i64 e, (.slice none 0 0), .int .i64 0, .int .i64 0, .bool false, .int .i64 0, .slice none 0 0]) : TabPost w fn e (.returned (.agg C)) W3 := by
  subst hC
  exact ⟨[], none, 0, rfl, Nat.zero_le _, World.ownsRow_nil _ _ _ _, (hb1.trans (h2.below hb1.size (fun j hj e => by omega))).trans (h3.below (by have := hb1.size; have := h2.size; omega) (fun j hj e => by omega))⟩


set_option maxRecDepth 100000 in
set_option maxHeartbeats 6400000 in
theorem rtable_exc (t : Tbl) (rv : Value) (fn ad qt x : Int) (h0 : 0 ≤ ad) (h1 : 1 ≤ qt) (h2 : ad + qt ≤ 65536) (w : World) (hl : Rgs w rv t.rd) (hgd : t.sup = true → rgsFrom (-1) t.rd = true) (e : Int)
    (he : (t.sup = false ∧ e = 1) ∨ (t.sup = true ∧ t.most < qt ∧ e = 3) ∨ (t.sup = true ∧ ¬ t.most < qt ∧ ¬ allR t.rd ad qt.toNat ∧ e = 2)) :
    Calls Tryz.prog 50 #[.agg #[.bool t.sup, rv, .int .i64 t.most], .agg #[.int .i64 fn, .int .i64 ad, .int .i64 qt, .int .i64 0, .int .i64 0], .int .i64 x] w (TabPost w fn e) := by
  obtain ⟨ra, rc, hrv, -⟩ := id hl
  obtain ⟨rn, hrn⟩ : ∃ n, t.rd.length = n := ⟨_, rfl⟩
  rw [hrn] at hrv
  subst hrv
  obtain ⟨W1, hW1⟩ : ∃ W, (((w.alloc (.cells #[.bool t.sup, .slice ra rn rc, .int .i64 t.most] 26)).alloc (.cells #[.int .i64 fn, .int .i64 ad, .int .i64 qt, .int .i64 0, .int .i64 0] 44)).alloc (.cells (#[.int .i64 0, .int .i64 0, (.slice none 0 0), .int .i64 0, .int .i64 0, .bool false, .int .i64 0, .slice none 0 0]) 52)).alloc (.cells (#[.int .i64 fn, .int .i64 0, (.slice none 0 0), .int .i64 0, .int .i64 0, .bool false, .int .i64 0, .slice none 0 0]) 52) = W := ⟨_, rfl⟩; have hz1 : W1.heap.size = w.heap.size + 4 := (by rw [← hW1]; simp); have hb1 : Below w.heap.size w W1 := (by rw [← hW1]; exact bta (bta (bta (bal' w _) (Nat.le_refl _) _) (Nat.le_refl _) _) (Nat.le_refl _) _); have pT : W1.heap[w.heap.size]? = some (.cells #[.bool t.sup, .slice ra rn rc, .int .i64 t.most] 26) := (by rw [← hW1]; exact hpKeep (hpKeep (hpKeep (hpNew w _) (bal' _ _)) (bal' _ _)) (bal' _ _)); have pQ : W1.heap[w.heap.size + 1]? = some (.cells #[.int .i64 fn, .int .i64 ad, .int .i64 qt, .int .i64 0, .int .i64 0] 44) := (by rw [← hW1]; refine hpKeep (hpKeep ?_ (bal' _ _)) (bal' _ _); simpa using hpNew (w.alloc (.cells #[.bool t.sup, .slice ra rn rc, .int .i64 t.most] 26)) (.cells #[.int .i64 fn, .int .i64 ad, .int .i64 qt, .int .i64 0, .int .i64 0] 44)); have pZ : W1.heap[w.heap.size + 2]? = some (.cells (#[.int .i64 0, .int .i64 0, (.slice none 0 0), .int .i64 0, .int .i64 0, .bool false, .int .i64 0, .slice none 0 0]) 52) := (by rw [← hW1]; refine hpKeep ?_ (bal' _ _); simpa using hpNew ((w.alloc (.cells #[.bool t.sup, .slice ra rn rc, .int .i64 t.most] 26)).alloc (.cells #[.int .i64 fn, .int .i64 ad, .int .i64 qt, .int .i64 0, .int .i64 0] 44)) (.cells (#[.int .i64 0, .int .i64 0, (.slice none 0 0), .int .i64 0, .int .i64 0, .bool false, .int .i64 0, .slice none 0 0]) 52)); have pR : W1.heap[w.heap.size + 3]? = some (.cells (#[.int .i64 fn, .int .i64 0, (.slice none 0 0), .int .i64 0, .int .i64 0, .bool false, .int .i64 0, .slice none 0 0]) 52) := (by rw [← hW1]; simpa using hpNew (((w.alloc (.cells #[.bool t.sup, .slice ra rn rc, .int .i64 t.most] 26)).alloc (.cells #[.int .i64 fn, .int .i64 ad, .int .i64 qt, .int .i64 0, .int .i64 0] 44)).alloc (.cells (#[.int .i64 0, .int .i64 0, (.slice none 0 0), .int .i64 0, .int .i64 0, .bool false, .int .i64 0, .slice none 0 0]) 52)) (.cells (#[.int .i64 fn, .int .i64 0, (.slice none 0 0), .int .i64 0, .int .i64 0, .bool false, .int .i64 0, .slice none 0 0]) 52)); obtain ⟨zb, hzb⟩ : ∃ n, w.heap.size + 2 = n := ⟨_, rfl⟩; obtain ⟨rb, hrb⟩ : ∃ n, w.heap.size + 3 = n := ⟨_, rfl⟩; have E3 : Hid (w.heap.size + 1 + 1 + 1 = rb) := hrb; have E2 : Hid (w.heap.size + 1 + 1 = zb) := hzb; rw [hzb] at pZ; rw [hrb] at pR; have ERB := hid hrb; have EZB := hid hzb
  have t0 : ∀ X, Below W1.heap.size W1 X → X.cell? ⟨w.heap.size, 0, none⟩ = some (.bool t.sup) := (fun X h => hpCell (hpKeep pT h) 0); have t1 : ∀ X, Below W1.heap.size W1 X → X.cell? ⟨w.heap.size, 1, none⟩ = some (.slice ra rn rc) := (fun X h => hpCell (hpKeep pT h) 1); have t2 : ∀ X, Below W1.heap.size W1 X → X.cell? ⟨w.heap.size, 2, none⟩ = some (.int .i64 t.most) := (fun X h => hpCell (hpKeep pT h) 2); have q0 : ∀ X, Below W1.heap.size W1 X → X.cell? ⟨w.heap.size + 1, 0, none⟩ = some (.int .i64 fn) := (fun X h => hpCell (hpKeep pQ h) 0); have q1 : ∀ X, Below W1.heap.size W1 X → X.cell? ⟨w.heap.size + 1, 1, none⟩ = some (.int .i64 ad) := (fun X h => hpCell (hpKeep pQ h) 1); have q2 : ∀ X, Below W1.heap.size W1 X → X.cell? ⟨w.heap.size + 1, 2, none⟩ = some (.int .i64 qt) := (fun X h => hpCell (hpKeep pQ h) 2); have r1 : ∀ X, Below W1.heap.size W1 X → X.cell? ⟨rb, 1, none⟩ = some (.int .i64 0) := (fun X h => hpCell (hpKeep pR h) 1); have f1 : ∀ X, Below W1.heap.size W1 X → X.frozen? ⟨rb, 1, none⟩ = false := (fun X h => hpFree (hpKeep pR h) 1); have k0 : Below W1.heap.size W1 W1 := Below.refl _ _
  have HCV : Hid (t.sup = true → ∀ X, Below W1.heap.size W1 X → Calls Tryz.prog 65 #[.slice ra rn rc, .agg #[.int .i64 ad, .int .i64 qt]] X (CovPost X (allR t.rd ad qt.toNat))) := fun hs X hX => rgs_covers _ t.rd (hgd hs) ad qt h0 h1 h2 X (hl.keep (bt hb1 hX (Nat.le_refl _)))
  have HW1 := hid hW1
  have HB1 := hid hb1
  have HZ1 := hid hz1
  have PZ := hid pZ
  have PR := hid pR
  have KS : Hid (∀ X (e : Int), Below W1.heap.size W1 X → (X.setCell ⟨rb, 1, none⟩ (.int .i64 e)).heap[rb]? = some (.cells (#[.int .i64 fn, .int .i64 e, (.slice none 0 0), .int .i64 0, .int .i64 0, .bool false, .int .i64 0, .slice none 0 0]) 52) ∧ (X.setCell ⟨rb, 1, none⟩ (.int .i64 e)).heap[zb]? = some (.cells (#[.int .i64 0, .int .i64 0, (.slice none 0 0), .int .i64 0, .int .i64 0, .bool false, .int .i64 0, .slice none 0 0]) 52) ∧ Keeps (fun j => w.heap.size ≤ j) W1 (X.setCell ⟨rb, 1, none⟩ (.int .i64 e))) := fun X e hX =>
    ⟨hpSetP (hpKeep pR hX) rfl, (hpOther (by have := ERB.out; have := EZB.out; omega)).trans (hpKeep pZ hX), (Keeps.of_below hX).set _ _ (by show w.heap.size ≤ rb; have := ERB.out; omega)⟩
  clear hW1 hb1 hz1 pT pQ pZ pR hl hgd h0 h1 h2 hrn hzb hrb
  rcases he with ⟨hs, rfl⟩ | ⟨hs, hm, rfl⟩ | ⟨hs, hm, ha, rfl⟩
  · rw [hs] at HW1 t0 ⊢
    clear HCV hs
    go_enter Tryz.func50, Tryz.ntmps50
    go_upto_region 2 with (fail)
    rw [HW1.out, E3.out, E2.out]
    go_upto_region 8 with (fail)
    obtain ⟨pR2, pZ2, hk2⟩ := KS.out W1 1 k0
    generalize W1.setCell ⟨rb, 1, none⟩ (.int .i64 1) = W2 at *
    have e1 : W2.cell? ⟨rb, 1, none⟩ = some (.int .i64 1) := hpCell pR2 1
    have HK2 := hid hk2
    obtain ⟨C, hC⟩ : ∃ C : Array Value, (#[.int .i64 fn, .int .i64 1, (.slice none 0 0), .int .i64 0, .int .i64 0, .bool false, .int .i64 0, .slice none 0 0] : Array Value) = C := ⟨_, rfl⟩; have hcs : C.size = 8 := (by rw [← hC]; rfl); have hi8 : (Tryz.prog.info? 52).map (·.size) = some C.size := (by rw [hcs]; exact info8); have h1c : C.toList.all (·.oneCell') = true := (by rw [← hC]; rfl); rw [hC] at pR2; have HC := hid hC; clear hC
    clear t0 t1 t2 q0 q1 q2 r1 f1 k0 hk2 KS
    go_wp2_with (first | (refine wpList_load_row rfl 52 (.tmp 7) rfl (rb) rfl 52 C (0, 0) _ pR2 Tryz.underlying52 rfl hi8 ?_) | (refine wpList_storeW rfl 52 (.tmp 6) (.tmp 39) rfl (zb) 0 _ 52 C rfl rfl pZ2 (by simp [hcs]) hi8 h1c ?_; intro w8 g8 hk8 hz8)); have g9 : w8.heap[zb]? = some (.cells C 52) := (by rw [g8, List.drop_eq_nil_of_le (by simp [hcs])]; simp); refine bodyPost_ret (results_cell_row rfl _ _ (zb) 52 C (0, 0) _ rfl g9 Tryz.underlying52 rfl hi8) rfl ?_; exact TabPost.exc HB1.out (by have := HZ1.out; omega) HK2.out (hk8.mono (fun j _ e => by have := EZB.out; omega)) HC.out.symm
  · rw [hs] at HW1 t0 ⊢
    clear HCV hs
    go_enter Tryz.func50, Tryz.ntmps50
    go_upto_region 2 with (fail)
    rw [HW1.out, E3.out, E2.out]
    go_upto_region 8 with (fail)
    obtain ⟨pR2, pZ2, hk2⟩ := KS.out W1 3 k0
    generalize W1.setCell ⟨rb, 1, none⟩ (.int .i64 3) = W2 at *
    have e1 : W2.cell? ⟨rb, 1, none⟩ = some (.int .i64 3) := hpCell pR2 1
    have HK2 := hid hk2
    obtain ⟨C, hC⟩ : ∃ C : Array Value, (#[.int .i64 fn, .int .i64 3, (.slice none 0 0), .int .i64 0, .int .i64 0, .bool false, .int .i64 0, .slice none 0 0] : Array Value) = C := ⟨_, rfl⟩; have hcs : C.size = 8 := (by rw [← hC]; rfl); have hi8 : (Tryz.prog.info? 52).map (·.size) = some C.size := (by rw [hcs]; exact info8); have h1c : C.toList.all (·.oneCell') = true := (by rw [← hC]; rfl); rw [hC] at pR2; have HC := hid hC; clear hC
    clear t0 t1 t2 q0 q1 q2 r1 f1 k0 hk2 KS
    go_wp2_with (first | (refine wpList_load_row rfl 52 (.tmp 7) rfl (rb) rfl 52 C (0, 0) _ pR2 Tryz.underlying52 rfl hi8 ?_) | (refine wpList_storeW rfl 52 (.tmp 6) (.tmp 39) rfl (zb) 0 _ 52 C rfl rfl pZ2 (by simp [hcs]) hi8 h1c ?_; intro w8 g8 hk8 hz8)); have g9 : w8.heap[zb]? = some (.cells C 52) := (by rw [g8, List.drop_eq_nil_of_le (by simp [hcs])]; simp); refine bodyPost_ret (results_cell_row rfl _ _ (zb) 52 C (0, 0) _ rfl g9 Tryz.underlying52 rfl hi8) rfl ?_; exact TabPost.exc HB1.out (by have := HZ1.out; omega) HK2.out (hk8.mono (fun j _ e => by have := EZB.out; omega)) HC.out.symm
  · have HCX := hid (HCV.out hs)
    rw [hs] at HW1 t0 ⊢
    have HA := hid ha
    clear HCV hs ha
    go_enter Tryz.func50, Tryz.ntmps50
    go_upto_region 2 with (fail)
    rw [HW1.out, E3.out, E2.out]
    go_upto_region 7 with (go_at_call 65; (with_reducible refine (HCX.out W1 k0).mono ?_); rintro r w2 ⟨V, rfl, hv, hb2⟩; obtain rfl : V = false := (by cases V with | false => rfl | true => exact absurd (hv.1 rfl) HA.out); clear hv)
    go_upto_region 8 with (fail)
    obtain ⟨pR2, pZ2, hk2⟩ := KS.out w2 2 hb2
    generalize w2.setCell ⟨rb, 1, none⟩ (.int .i64 2) = W2 at *
    have e1 : W2.cell? ⟨rb, 1, none⟩ = some (.int .i64 2) := hpCell pR2 1
    have HK2 := hid hk2
    obtain ⟨C, hC⟩ : ∃ C : Array Value, (#[.int .i64 fn, .int .i64 2, (.slice none 0 0), .int .i64 0, .int .i64 0, .bool false, .int .i64 0, .slice none 0 0] : Array Value) = C := ⟨_, rfl⟩; have hcs : C.size = 8 := (by rw [← hC]; rfl); have hi8 : (Tryz.prog.info? 52).map (·.size) = some C.size := (by rw [hcs]; exact info8); have h1c : C.toList.all (·.oneCell') = true := (by rw [← hC]; rfl); rw [hC] at pR2; have HC := hid hC; clear hC
    clear t0 t1 t2 q0 q1 q2 r1 f1 k0 hk2 KS hb2
    go_wp2_with (first | (refine wpList_load_row rfl 52 (.tmp 7) rfl (rb) rfl 52 C (0, 0) _ pR2 Tryz.underlying52 rfl hi8 ?_) | (refine wpList_storeW rfl 52 (.tmp 6) (.tmp 39) rfl (zb) 0 _ 52 C rfl rfl pZ2 (by simp [hcs]) hi8 h1c ?_; intro w8 g8 hk8 hz8)); have g9 : w8.heap[zb]? = some (.cells C 52) := (by rw [g8, List.drop_eq_nil_of_le (by simp [hcs])]; simp); refine bodyPost_ret (results_cell_row rfl _ _ (zb) 52 C (0, 0) _ rfl g9 Tryz.underlying52 rfl hi8) rfl ?_; exact TabPost.exc HB1.out (by have := HZ1.out; omega) HK2.out (hk8.mono (fun j _ e => by have := EZB.out; omega)) HC.out.symm

end Go.Proofs.YtliblgmpclefgaaGreat

/-
The reference's slave: its answer from a table of words.
-/
namespace Go.Proofs.YtliblgmpclefgaaGreat
open Go.RowKit


theorem word_parts (n : Int) (h0 : 0 ≤ n) (h1 : n < 65536) : ∃ a b : Int, IntKind.i64.wrap (n.tdiv 256) = a ∧ n.tmod 256 = b ∧ IntKind.u8.wrap a = a ∧ IntKind.u8.wrap b = b ∧ 0 ≤ a ∧ a ≤ 255 ∧ 0 ≤ b ∧ b ≤ 255 := by
  have e1 : n.tdiv 256 = n / 256 := Int.tdiv_eq_ediv_of_nonneg h0
  have e2 : n.tmod 256 = n % 256 := Int.tmod_eq_emod_of_nonneg h0
  refine ⟨n / 256, n % 256, by rw [e1, IntWalk.i64_in _ (by omega)], e2, ?_, ?_, by omega, by omega, by omega, by omega⟩
  · exact IntWalk.u8_in _ (by omega)
  · exact IntWalk.u8_in _ (by omega)

/-- Where the loop over a table's words stands. -/
structure TbL (W1 : World) (rb zb : Nat) (fn : Int) (D : List UInt8) (v : Value) (W : World) : Prop where
  r : W.heap[rb]? = some (.cells (#[.int .i64 fn, .int .i64 0, v, .int .i64 0, .int .i64 0, .bool false, .int .i64 0, .slice none 0 0]) 52)
  z : W.heap[zb]? = some (.cells (#[.int .i64 0, .int .i64 0, (.slice none 0 0), .int .i64 0, .int .i64 0, .bool false, .int .i64 0, .slice none 0 0]) 52)
  own : W.ownsRow W1.heap.size 5 1 v D.length (u8s D)
  kp : Keeps (fun j => j = rb) W1 W

set_option maxRecDepth 100000 in
set_option maxHeartbeats 6400000 in
theorem rtable_words (t : Tbl) (rv : Value) (fn ad qt x : Int) (hf : fn = 3 ∨ fn = 4) (h0 : 0 ≤ ad) (h1 : 1 ≤ qt) (hq : qt ≤ 125) (h2 : ad + qt ≤ 65536) (x0 : 0 ≤ x) (x1 : x ≤ 65535) (w : World) (hl : Rgs w rv t.rd) (hgd : rgsFrom (-1) t.rd = true)
    (hs : t.sup = true) (hm : ¬ t.most < qt) (ha : allR t.rd ad qt.toNat) :
    Calls Tryz.prog 50 #[.agg #[.bool t.sup, rv, .int .i64 t.most], .agg #[.int .i64 fn, .int .i64 ad, .int .i64 qt, .int .i64 0, .int .i64 0], .int .i64 x] w (TabPost w fn 0) := by
  obtain ⟨ra, rc, hrv, -⟩ := id hl
  obtain ⟨rn, hrn⟩ : ∃ n, t.rd.length = n := ⟨_, rfl⟩
  rw [hrn] at hrv
  subst hrv
  obtain ⟨W1, hW1⟩ : ∃ W, (((w.alloc (.cells #[.bool t.sup, .slice ra rn rc, .int .i64 t.most] 26)).alloc (.cells #[.int .i64 fn, .int .i64 ad, .int .i64 qt, .int .i64 0, .int .i64 0] 44)).alloc (.cells (#[.int .i64 0, .int .i64 0, (.slice none 0 0), .int .i64 0, .int .i64 0, .bool false, .int .i64 0, .slice none 0 0]) 52)).alloc (.cells (#[.int .i64 fn, .int .i64 0, (.slice none 0 0), .int .i64 0, .int .i64 0, .bool false, .int .i64 0, .slice none 0 0]) 52) = W := ⟨_, rfl⟩; have hz1 : W1.heap.size = w.heap.size + 4 := (by rw [← hW1]; simp); have hb1 : Below w.heap.size w W1 := (by rw [← hW1]; exact bta (bta (bta (bal' w _) (Nat.le_refl _) _) (Nat.le_refl _) _) (Nat.le_refl _) _); have pT : W1.heap[w.heap.size]? = some (.cells #[.bool t.sup, .slice ra rn rc, .int .i64 t.most] 26) := (by rw [← hW1]; exact hpKeep (hpKeep (hpKeep (hpNew w _) (bal' _ _)) (bal' _ _)) (bal' _ _)); have pQ : W1.heap[w.heap.size + 1]? = some (.cells #[.int .i64 fn, .int .i64 ad, .int .i64 qt, .int .i64 0, .int .i64 0] 44) := (by rw [← hW1]; refine hpKeep (hpKeep ?_ (bal' _ _)) (bal' _ _); simpa using hpNew (w.alloc (.cells #[.bool t.sup, .slice ra rn rc, .int .i64 t.most] 26)) (.cells #[.int .i64 fn, .int .i64 ad, .int .i64 qt, .int .i64 0, .int .i64 0] 44)); have pZ : W1.heap[w.heap.size + 2]? = some (.cells (#[.int .i64 0, .int .i64 0, (.slice none 0 0), .int .i64 0, .int .i64 0, .bool false, .int .i64 0, .slice none 0 0]) 52) := (by rw [← hW1]; refine hpKeep ?_ (bal' _ _); simpa using hpNew ((w.alloc (.cells #[.bool t.sup, .slice ra rn rc, .int .i64 t.most] 26)).alloc (.cells #[.int .i64 fn, .int .i64 ad, .int .i64 qt, .int .i64 0, .int .i64 0] 44)) (.cells (#[.int .i64 0, .int .i64 0, (.slice none 0 0), .int .i64 0, .int .i64 0, .bool false, .int .i64 0, .slice none 0 0]) 52)); have pR : W1.heap[w.heap.size + 3]? = some (.cells (#[.int .i64 fn, .int .i64 0, (.slice none 0 0), .int .i64 0, .int .i64 0, .bool false, .int .i64 0, .slice none 0 0]) 52) := (by rw [← hW1]; simpa using hpNew (((w.alloc (.cells #[.bool t.sup, .slice ra rn rc, .int .i64 t.most] 26)).alloc (.cells #[.int .i64 fn, .int .i64 ad, .int .i64 qt, .int .i64 0, .int .i64 0] 44)).alloc (.cells (#[.int .i64 0, .int .i64 0, (.slice none 0 0), .int .i64 0, .int .i64 0, .bool false, .int .i64 0, .slice none 0 0]) 52)) (.cells (#[.int .i64 fn, .int .i64 0, (.slice none 0 0), .int .i64 0, .int .i64 0, .bool false, .int .i64 0, .slice none 0 0]) 52)); obtain ⟨zb, hzb⟩ : ∃ n, w.heap.size + 2 = n := ⟨_, rfl⟩; obtain ⟨rb, hrb⟩ : ∃ n, w.heap.size + 3 = n := ⟨_, rfl⟩; have E3 : Hid (w.heap.size + 1 + 1 + 1 = rb) := hrb; have E2 : Hid (w.heap.size + 1 + 1 = zb) := hzb; rw [hzb] at pZ; rw [hrb] at pR; have ERB := hid hrb; have EZB := hid hzb
  have t0 : ∀ X, Below W1.heap.size W1 X → X.cell? ⟨w.heap.size, 0, none⟩ = some (.bool t.sup) := (fun X h => hpCell (hpKeep pT h) 0); have t1 : ∀ X, Below W1.heap.size W1 X → X.cell? ⟨w.heap.size, 1, none⟩ = some (.slice ra rn rc) := (fun X h => hpCell (hpKeep pT h) 1); have t2 : ∀ X, Below W1.heap.size W1 X → X.cell? ⟨w.heap.size, 2, none⟩ = some (.int .i64 t.most) := (fun X h => hpCell (hpKeep pT h) 2); have q0 : ∀ X, Below W1.heap.size W1 X → X.cell? ⟨w.heap.size + 1, 0, none⟩ = some (.int .i64 fn) := (fun X h => hpCell (hpKeep pQ h) 0); have q1 : ∀ X, Below W1.heap.size W1 X → X.cell? ⟨w.heap.size + 1, 1, none⟩ = some (.int .i64 ad) := (fun X h => hpCell (hpKeep pQ h) 1); have q2 : ∀ X, Below W1.heap.size W1 X → X.cell? ⟨w.heap.size + 1, 2, none⟩ = some (.int .i64 qt) := (fun X h => hpCell (hpKeep pQ h) 2); have r1 : ∀ X, Below W1.heap.size W1 X → X.cell? ⟨rb, 1, none⟩ = some (.int .i64 0) := (fun X h => hpCell (hpKeep pR h) 1); have f1 : ∀ X, Below W1.heap.size W1 X → X.frozen? ⟨rb, 1, none⟩ = false := (fun X h => hpFree (hpKeep pR h) 1); have k0 : Below W1.heap.size W1 W1 := Below.refl _ _
  have HCX : Hid (Calls Tryz.prog 65 #[.slice ra rn rc, .agg #[.int .i64 ad, .int .i64 qt]] W1 (CovPost W1 (allR t.rd ad qt.toNat))) := rgs_covers _ t.rd hgd ad qt h0 h1 h2 W1 (hl.keep hb1)
  have HWD : Hid (∀ (k : Nat) X, (k : Int) < qt → Calls Tryz.prog 66 #[.int .i64 fn, .int .i64 (ad + (k : Nat)), .int .i64 x] X fun r w' => ∃ n : Int, r = .returned (.int .i64 n) ∧ 0 ≤ n ∧ n < 65536 ∧ X = w') := fun k X hk => word_any fn (ad + (k : Nat)) x (by omega) (by omega) (by omega) (by omega) x0 x1 X
  have HW1 := hid hW1
  have HB1 := hid hb1
  have HZ1 := hid hz1
  have PZ := hid pZ
  have PR := hid pR
  have PQ := hid pQ
  have HA := hid ha
  have HAD := hid (And.intro h0 h2)
  obtain ⟨N, hN⟩ : ∃ N, qt.toNat = N := ⟨_, rfl⟩
  have HN : Hid (qt = (N : Nat) ∧ N ≤ 125) := by show _ ∧ _; omega
  have f2 : ¬ fn ≤ 2 := by omega
  have f3 : 3 ≤ fn := by omega
  have hrz : rb ≠ zb := by omega
  have hr1 : ¬ W1.heap.size ≤ rb := by omega
  have hz1' : ¬ W1.heap.size ≤ zb := by omega
  rw [hs] at HW1 t0 ⊢
  have HRZ := hid (And.intro hrz (And.intro hr1 hz1'))
  clear hW1 hb1 hz1 pT pQ pZ pR hl hgd h0 h1 h2 hrn hzb hrb hs ha hf x0 x1 hN hq hrz hr1 hz1'
  obtain ⟨i5, hi, hz0, hzz1, hz2⟩ := info_parts infoB
  go_enter Tryz.func50, Tryz.ntmps50
  go_upto_region 2 with (fail)
  rw [HW1.out, E3.out, E2.out]
  go_upto_region 8 with (go_at_call 65; (with_reducible refine HCX.out.mono ?_); rintro r w2 ⟨V, rfl, hv, hb2⟩; obtain rfl : V = true := hv.2 HA.out; clear hv)
  have r1' : w2.cell? ⟨rb, 1, none⟩ = some (.int .i64 0) := r1 w2 hb2
  go_upto_region 10 with (fail)
  have q0' := q0 w2 hb2
  have S0 : TbL W1 rb zb fn [] (.slice none 0 0) w2 := ⟨hpKeep PR.out hb2, hpKeep PZ.out hb2, World.ownsRow_nil _ _ _ _, Keeps.of_below hb2⟩
  have HS0 := hid S0
  clear t0 t1 t2 q1 q2 r1 f1 k0 q0 S0
  go_upto_region 12 with (fail)
  have Q0 : Hid (∀ X, Keeps (fun j => j = rb) W1 X → X.cell? ⟨w.heap.size + 1, 0, none⟩ = some (.int .i64 fn) ∧ X.cell? ⟨w.heap.size + 1, 1, none⟩ = some (.int .i64 ad) ∧ X.cell? ⟨w.heap.size + 1, 2, none⟩ = some (.int .i64 qt)) := fun X hX => by
    have := hpKeeps PQ.out hX (by have := ERB.out; omega)
    exact ⟨hpCell this 0, hpCell this 1, hpCell this 2⟩
  clear q0' r1' hb2
  go_wp2_with fail
  go_loopw [8, 9] (fun iv s9 wr => ∃ (k : Nat) (D : List UInt8) (da : Option Addr) (dc : Nat), iv = .int .i64 (k : Int) ∧ k ≤ N ∧ D.length = 2 * k ∧ Hid (TbL W1 rb zb fn D (.slice da D.length dc) wr)) (fun iv _ _ => N - (intOf iv).toNat)
  case atStart => exact ⟨0, [], none, 0, rfl, Nat.zero_le _, rfl, HS0.out⟩
  case round =>
    obtain ⟨k, D, da, dc, rfl, hk, hD, hst⟩ := hrel
    have hki : (0 : Int) ≤ (k : Int) := Int.natCast_nonneg _
    have hN1 := HN.out.1
    have hN2 := HN.out.2
    obtain ⟨q0, q1, q2⟩ := Q0.out wr hst.out.kp
    by_cases hlt : k < N
    · have dk : (k : Int) < qt := by omega
      obtain ⟨A, hA⟩ : ∃ A, ad + (k : Int) = A := ⟨_, rfl⟩
      have sA : IntKind.i64.wrap (ad + (k : Int)) = A := (IntWalk.i64_in _ (by have := HAD.out; omega)).trans hA
      have HW2 := HWD.out k wr dk
      rw [hA] at HW2
      have HW2 := hid HW2
      clear hA hN1
      go_upto_region 16 with (go_at_call 66; (with_reducible refine HW2.out.mono ?_); rintro r w5 ⟨n, rfl, n0, n1, rfl⟩)
      obtain ⟨a, b, s1, s2, s3, s4, a0, a1, b0, b1⟩ := word_parts n n0 n1
      obtain ⟨ln, hln⟩ : ∃ n, D.length = n := ⟨_, rfl⟩
      have OW : Hid (wr.ownsRow W1.heap.size 5 1 (.slice da ln dc) ln (u8s D)) := by have := hst.out.own; rw [hln] at this; exact this
      have r2 : wr.cell? ⟨rb, 2, none⟩ = some (.slice da ln dc) := by have := hpCell hst.out.r 2; rw [hln] at this; exact this
      have hzw := hst.out.kp.size
      have HLN := hid hln
      have hlc : ln ≤ 250 := by omega
      have HLB : Hid (ln = 2 * k) := by show _ = _; omega
      have HU : Hid (u8s (D ++ [byteI a, byteI b]) = u8s D ++ [.int .u8 a, .int .u8 b]) := by
        show _ = _
        rw [u8s_append]
        have e1 : ((byteI a).toNat : Int) = a := by
          obtain ⟨m, rfl⟩ : ∃ m : Nat, a = (m : Int) := ⟨a.toNat, by omega⟩
          rw [byteI_toNat (by omega)]
        have e2 : ((byteI b).toNat : Int) = b := by
          obtain ⟨m, rfl⟩ : ∃ m : Nat, b = (m : Int) := ⟨b.toNat, by omega⟩
          rw [byteI_toNat (by omega)]
        show u8s D ++ [byteV (byteI a), byteV (byteI b)] = _
        unfold byteV
        rw [e1, e2]
      clear hln n0 n1 hD
      go_wp2_with (at_builtin; refine wpList_appN rfl _ _ 29 rfl W1.heap.size 5 i5 _ 1 1 Tryz.underlying29 hi hz0 hzz1 hz2 rfl (by decide) (.slice da ln dc) ln (u8s D) rfl (OW.out.alloc _) ⟨wr.heap.size, 0, none⟩ 2 2 [.int .u8 a, .int .u8 b] rfl rfl (newsNew wr [.int .u8 a, .int .u8 b] _) (by intro u hu; simp at hu; rcases hu with rfl | rfl <;> rfl) (by unfold maxLen; omega) (by omega) (by simp; omega) ?c3)
      case c3 =>
        intro v6 w6 hown6 hgr6 hnew6
        have hown6' : w6.ownsRow W1.heap.size 5 1 v6 (ln + 2) (u8s (D ++ [byteI a, byteI b])) := by rw [HU.out]; exact hown6
        have hk6 : Keeps (fun j => (Value.slice da ln dc).ownBlock = some j) wr w6 := (Keeps.of_below (bal' wr _)).trans (Keeps.of_grown hgr6 (fun _ hk => hk)) (fun _ _ e => e)
        have hnb : ∀ j, (Value.slice da ln dc).ownBlock = some j → W1.heap.size ≤ j := fun j hj => (OW.out.lt j hj).1
        have hR6 := hpKeeps hst.out.r hk6 (fun e => HRZ.out.2.1 (hnb _ e))
        have hZ6 := hpKeeps hst.out.z hk6 (fun e => HRZ.out.2.2 (hnb _ e))
        have c6 : w6.cell? ⟨rb, 2, none⟩ = some (.slice da ln dc) := by have := hpCell hR6 2; rw [HLN.out] at this; exact this
        have f6 : w6.frozen? ⟨rb, 2, none⟩ = false := hpFree hR6 2
        obtain ⟨a6, k6, rfl⟩ := own_slice hown6'
        have hne6 : ∀ j, (Value.slice a6 (ln + 2) k6).ownBlock = some j → j ≠ rb := fun j hj e => by
          have := (hown6'.lt j hj).1
          exact HRZ.out.2.1 (by rw [← e]; exact this)
        have HST6 : Hid (TbL W1 rb zb fn (D ++ [byteI a, byteI b]) (.slice a6 (ln + 2) k6) (w6.setCell ⟨rb, 2, none⟩ (.slice a6 (ln + 2) k6))) := by
          refine ⟨hpSetP hR6 rfl, (hpOther (fun e => HRZ.out.1 e.symm)).trans hZ6, ?_, ?_⟩
          · have e : (D ++ [byteI a, byteI b]).length = ln + 2 := by rw [List.length_append, HLN.out]; rfl
            rw [e]
            exact own_keeps (F := (· = rb)) hown6' (ks1 (Keeps.refl _ _) _ _) (fun j hj e => hne6 j hj e)
          · exact (hst.out.kp.trans hk6 (fun j hj e => by have := hnb j e; omega)).set _ _ rfl
        have HLL : Hid ((D ++ [byteI a, byteI b]).length = ln + 2) := by show _ = _; rw [List.length_append, HLN.out]; rfl
        clear hown6 hown6' hgr6 hnew6 hk6 hnb hR6 hZ6 hne6
        go_wp2
        go_roundw
        case rel => exact ⟨k + 1, D ++ [byteI a, byteI b], a6, k6, by go_num, by omega, by rw [HLL.out, HLB.out]; omega, by rw [HLL.out]; exact HST6.out⟩
        case measure => simp [intOf]; omega
    · obtain rfl : k = N := by omega
      have dk : ¬ (k : Int) < qt := by omega
      clear hN1
      obtain ⟨C, hC⟩ : ∃ C : Array Value, (#[.int .i64 fn, .int .i64 0, (.slice da D.length dc), .int .i64 0, .int .i64 0, .bool false, .int .i64 0, .slice none 0 0] : Array Value) = C := ⟨_, rfl⟩
      have hcs : C.size = 8 := by rw [← hC]; rfl
      have hi8 : (Tryz.prog.info? 52).map (·.size) = some C.size := by rw [hcs]; exact info8
      have h1c : C.toList.all (·.oneCell') = true := by rw [← hC]; rfl
      have pR2 := hst.out.r
      have pZ2 := hst.out.z
      rw [hC] at pR2
      have HC := hid hC
      have HD : Hid (D.length ≤ 250) := by show _ ≤ _; omega
      clear hC hD
      go_wp2_with (first
        | (refine wpList_load_row rfl 52 (.tmp 7) rfl rb rfl 52 C (0, 0) _ pR2 Tryz.underlying52 rfl hi8 ?_)
        | (refine wpList_storeW rfl 52 (.tmp 6) (.tmp 92) rfl zb 0 _ 52 C rfl rfl pZ2 (by simp [hcs]) hi8 h1c ?_; intro w8 g8 hk8 hz8))
      have g9 : w8.heap[zb]? = some (.cells C 52) := by
        rw [g8, List.drop_eq_nil_of_le (by simp [hcs])]
        simp
      refine bodyPost_ret (results_cell_row rfl _ _ zb 52 C (0, 0) _ rfl g9 Tryz.underlying52 rfl hi8) rfl ?_
      have hz1 := HZ1.out
      have hez := EZB.out
      have her := ERB.out
      refine ⟨D, da, dc, by rw [← HC.out], HD.out, ?_, ?_⟩
      · exact own_lower (own_keeps hst.out.own hk8 (fun j hj e => by have := (hst.out.own.lt j hj).1; omega)) (by omega)
      · exact (HB1.out.trans (hst.out.kp.below (by omega) (fun j hj e => by omega))).trans (hk8.below (by have := hst.out.kp.size; omega) (fun j hj e => by omega))

end Go.Proofs.YtliblgmpclefgaaGreat

/-
The reference's slave: its answer from a table of bits.
-/
namespace Go.Proofs.YtliblgmpclefgaaGreat
open Go.RowKit


theorem u8s_setZ (l : List UInt8) (i : Nat) (x : UInt8) : (u8s l).set i (byteV x) = u8s (l.set i x) := by simp [u8s, List.map_set]
theorem ownb_cellZ {w : World} {base : Nat} {e : TypeId} {g n cap : Nat} {l : List UInt8} (h : w.ownsRow base e 1 (.slice (some ⟨g, 0, none⟩) n cap) n (u8s l)) (i : Nat) (hi : i < n) :
    w.cell? ⟨g, i, none⟩ = some (.int .u8 ((l.getD i 0).toNat : Int)) := by
  have hl : l.length = n := by simpa using h.1
  rw [h.cellAt i (by omega), u8s_get l i (by omega)]
theorem own_madeZ (w : World) (base n : Nat) (hb : base ≤ w.heap.size) (hn : n ≤ 250) :
    (w.alloc (.cells (madeCells #[.int .u8 0] n) 5)).ownsRow base 5 1 (.slice (some ⟨w.heap.size, 0, none⟩) n n) n (u8s (List.replicate n 0)) := by
  refine ⟨by simp, .inr ⟨w.heap.size, n, _, rfl, hb, heap_alloc_new _ _, Nat.le_refl _, by unfold maxLen; omega, by simp [size_madeCells], ?_⟩⟩
  rw [made_one, Nat.mul_one, List.take_of_length_le (by simp)]
  simp [u8s, byteV]

theorem bit_byte (m j : Nat) : Value.int .u8 (((m : Int) + 2 ^ j) % 256) = byteV (UInt8.ofNat (m + 2 ^ j)) := by
  unfold byteV
  rw [UInt8.toNat_ofNat']
  simp
set_option maxRecDepth 100000 in
set_option maxHeartbeats 6400000 in
theorem rtable_bits (t : Tbl) (rv : Value) (fn ad qt x : Int) (hf : fn = 1 ∨ fn = 2) (h0 : 0 ≤ ad) (h1 : 1 ≤ qt) (hq : qt ≤ 2000) (h2 : ad + qt ≤ 65536) (x0 : 0 ≤ x) (x1 : x ≤ 65535) (w : World) (hl : Rgs w rv t.rd) (hgd : rgsFrom (-1) t.rd = true)
    (hs : t.sup = true) (hm : ¬ t.most < qt) (ha : allR t.rd ad qt.toNat) :
    Calls Tryz.prog 50 #[.agg #[.bool t.sup, rv, .int .i64 t.most], .agg #[.int .i64 fn, .int .i64 ad, .int .i64 qt, .int .i64 0, .int .i64 0], .int .i64 x] w (TabPost w fn 0) := by
  obtain ⟨ra, rc, hrv, -⟩ := id hl
  obtain ⟨rn, hrn⟩ : ∃ n, t.rd.length = n := ⟨_, rfl⟩
  rw [hrn] at hrv
  subst hrv
  obtain ⟨W1, hW1⟩ : ∃ W, (((w.alloc (.cells #[.bool t.sup, .slice ra rn rc, .int .i64 t.most] 26)).alloc (.cells #[.int .i64 fn, .int .i64 ad, .int .i64 qt, .int .i64 0, .int .i64 0] 44)).alloc (.cells (#[.int .i64 0, .int .i64 0, (.slice none 0 0), .int .i64 0, .int .i64 0, .bool false, .int .i64 0, .slice none 0 0]) 52)).alloc (.cells (#[.int .i64 fn, .int .i64 0, (.slice none 0 0), .int .i64 0, .int .i64 0, .bool false, .int .i64 0, .slice none 0 0]) 52) = W := ⟨_, rfl⟩; have hz1 : W1.heap.size = w.heap.size + 4 := (by rw [← hW1]; simp); have hb1 : Below w.heap.size w W1 := (by rw [← hW1]; exact bta (bta (bta (bal' w _) (Nat.le_refl _) _) (Nat.le_refl _) _) (Nat.le_refl _) _); have pT : W1.heap[w.heap.size]? = some (.cells #[.bool t.sup, .slice ra rn rc, .int .i64 t.most] 26) := (by rw [← hW1]; exact hpKeep (hpKeep (hpKeep (hpNew w _) (bal' _ _)) (bal' _ _)) (bal' _ _)); have pQ : W1.heap[w.heap.size + 1]? = some (.cells #[.int .i64 fn, .int .i64 ad, .int .i64 qt, .int .i64 0, .int .i64 0] 44) := (by rw [← hW1]; refine hpKeep (hpKeep ?_ (bal' _ _)) (bal' _ _); simpa using hpNew (w.alloc (.cells #[.bool t.sup, .slice ra rn rc, .int .i64 t.most] 26)) (.cells #[.int .i64 fn, .int .i64 ad, .int .i64 qt, .int .i64 0, .int .i64 0] 44)); have pZ : W1.heap[w.heap.size + 2]? = some (.cells (#[.int .i64 0, .int .i64 0, (.slice none 0 0), .int .i64 0, .int .i64 0, .bool false, .int .i64 0, .slice none 0 0]) 52) := (by rw [← hW1]; refine hpKeep ?_ (bal' _ _); simpa using hpNew ((w.alloc (.cells #[.bool t.sup, .slice ra rn rc, .int .i64 t.most] 26)).alloc (.cells #[.int .i64 fn, .int .i64 ad, .int .i64 qt, .int .i64 0, .int .i64 0] 44)) (.cells (#[.int .i64 0, .int .i64 0, (.slice none 0 0), .int .i64 0, .int .i64 0, .bool false, .int .i64 0, .slice none 0 0]) 52)); have pR : W1.heap[w.heap.size + 3]? = some (.cells (#[.int .i64 fn, .int .i64 0, (.slice none 0 0), .int .i64 0, .int .i64 0, .bool false, .int .i64 0, .slice none 0 0]) 52) := (by rw [← hW1]; simpa using hpNew (((w.alloc (.cells #[.bool t.sup, .slice ra rn rc, .int .i64 t.most] 26)).alloc (.cells #[.int .i64 fn, .int .i64 ad, .int .i64 qt, .int .i64 0, .int .i64 0] 44)).alloc (.cells (#[.int .i64 0, .int .i64 0, (.slice none 0 0), .int .i64 0, .int .i64 0, .bool false, .int .i64 0, .slice none 0 0]) 52)) (.cells (#[.int .i64 fn, .int .i64 0, (.slice none 0 0), .int .i64 0, .int .i64 0, .bool false, .int .i64 0, .slice none 0 0]) 52)); obtain ⟨zb, hzb⟩ : ∃ n, w.heap.size + 2 = n := ⟨_, rfl⟩; obtain ⟨rb, hrb⟩ : ∃ n, w.heap.size + 3 = n := ⟨_, rfl⟩; have E3 : Hid (w.heap.size + 1 + 1 + 1 = rb) := hrb; have E2 : Hid (w.heap.size + 1 + 1 = zb) := hzb; rw [hzb] at pZ; rw [hrb] at pR; have ERB := hid hrb; have EZB := hid hzb
  have t0 : ∀ X, Below W1.heap.size W1 X → X.cell? ⟨w.heap.size, 0, none⟩ = some (.bool t.sup) := (fun X h => hpCell (hpKeep pT h) 0); have t1 : ∀ X, Below W1.heap.size W1 X → X.cell? ⟨w.heap.size, 1, none⟩ = some (.slice ra rn rc) := (fun X h => hpCell (hpKeep pT h) 1); have t2 : ∀ X, Below W1.heap.size W1 X → X.cell? ⟨w.heap.size, 2, none⟩ = some (.int .i64 t.most) := (fun X h => hpCell (hpKeep pT h) 2); have q0 : ∀ X, Below W1.heap.size W1 X → X.cell? ⟨w.heap.size + 1, 0, none⟩ = some (.int .i64 fn) := (fun X h => hpCell (hpKeep pQ h) 0); have q1 : ∀ X, Below W1.heap.size W1 X → X.cell? ⟨w.heap.size + 1, 1, none⟩ = some (.int .i64 ad) := (fun X h => hpCell (hpKeep pQ h) 1); have q2 : ∀ X, Below W1.heap.size W1 X → X.cell? ⟨w.heap.size + 1, 2, none⟩ = some (.int .i64 qt) := (fun X h => hpCell (hpKeep pQ h) 2); have r1 : ∀ X, Below W1.heap.size W1 X → X.cell? ⟨rb, 1, none⟩ = some (.int .i64 0) := (fun X h => hpCell (hpKeep pR h) 1); have f1 : ∀ X, Below W1.heap.size W1 X → X.frozen? ⟨rb, 1, none⟩ = false := (fun X h => hpFree (hpKeep pR h) 1); have k0 : Below W1.heap.size W1 W1 := Below.refl _ _
  have HCX : Hid (Calls Tryz.prog 65 #[.slice ra rn rc, .agg #[.int .i64 ad, .int .i64 qt]] W1 (CovPost W1 (allR t.rd ad qt.toNat))) := rgs_covers _ t.rd hgd ad qt h0 h1 h2 W1 (hl.keep hb1)
  have HWD : Hid (∀ (k : Nat) X, (k : Int) < qt → Calls Tryz.prog 66 #[.int .i64 fn, .int .i64 (ad + (k : Nat)), .int .i64 x] X fun r w' => ∃ n : Int, r = .returned (.int .i64 n) ∧ 0 ≤ n ∧ n < 65536 ∧ X = w') := fun k X hk => word_any fn (ad + (k : Nat)) x (by omega) (by omega) (by omega) (by omega) x0 x1 X
  have HW1 := hid hW1
  have HB1 := hid hb1
  have HZ1 := hid hz1
  have PZ := hid pZ
  have PR := hid pR
  have PQ := hid pQ
  have HA := hid ha
  have HAD := hid (And.intro h0 h2)
  obtain ⟨N, hN⟩ : ∃ N, qt.toNat = N := ⟨_, rfl⟩
  have HN : Hid (qt = (N : Nat) ∧ N ≤ 2000) := by show _ ∧ _; omega
  have f2 : fn ≤ 2 := by omega
  have f3 : ¬ 3 ≤ fn := by omega
  have hrz : rb ≠ zb := by omega
  have hr1 : ¬ W1.heap.size ≤ rb := by omega
  have hz1' : ¬ W1.heap.size ≤ zb := by omega
  rw [hs] at HW1 t0 ⊢
  have HRZ := hid (And.intro hrz (And.intro hr1 hz1'))
  clear hW1 hb1 hz1 pT pQ pZ pR hl hgd h0 h1 h2 hrn hzb hrb hs ha hf x0 x1 hN hq hrz hr1 hz1'
  obtain ⟨i5, hi, hz0, hzz1, hz2⟩ := info_parts infoB
  go_enter Tryz.func50, Tryz.ntmps50
  go_upto_region 2 with (fail)
  rw [HW1.out, E3.out, E2.out]
  go_upto_region 8 with (go_at_call 65; (with_reducible refine HCX.out.mono ?_); rintro r w2 ⟨V, rfl, hv, hb2⟩; obtain rfl : V = true := hv.2 HA.out; clear hv)
  have r1' : w2.cell? ⟨rb, 1, none⟩ = some (.int .i64 0) := r1 w2 hb2
  go_upto_region 10 with (fail)
  have q0' := q0 w2 hb2
  have S0 : TbL W1 rb zb fn [] (.slice none 0 0) w2 := ⟨hpKeep PR.out hb2, hpKeep PZ.out hb2, World.ownsRow_nil _ _ _ _, Keeps.of_below hb2⟩
  have HS0 := hid S0
  clear t0 t1 t2 q1 q2 r1 f1 k0 q0 S0
  obtain ⟨M, hM⟩ : ∃ M : Nat, (N + 7) / 8 = M := ⟨_, rfl⟩
  obtain ⟨s, hs7⟩ : ∃ s, qt + 7 = s := ⟨_, rfl⟩
  have sq1 : IntKind.i64.wrap (qt + 7) = s := (IntWalk.i64_in _ (by have := HN.out; omega)).trans hs7
  have sq2 : IntKind.i64.wrap (s.tdiv 8) = (M : Int) := by
    have := HN.out
    rw [Int.tdiv_eq_ediv_of_nonneg (by omega), IntWalk.i64_in _ (by omega)]
    omega
  have hM0 : M ≤ 250 := by have := HN.out; omega
  have HMN := hid hM
  have q2' := (hpCell (hpKeep PQ.out hb2) 2 : w2.cell? ⟨w.heap.size + 1, 2, none⟩ = some (.int .i64 qt))
  have c2' : w2.cell? ⟨rb, 2, none⟩ = some (.slice none 0 0) := hpCell HS0.out.r 2
  have fz2' : w2.frozen? ⟨rb, 2, none⟩ = false := hpFree HS0.out.r 2
  have hmk := run_make_row' (P := Tryz.prog) 29 5 (.int .u8 0) 1 Tryz.underlying29 infoB rfl .i64 .i64 M (by omega) (by omega)
  have hzw2 : W1.heap.size ≤ w2.heap.size := hb2.size
  have HS1 : Hid (TbL W1 rb zb fn (List.replicate M 0) (.slice (some ⟨w2.heap.size, 0, none⟩) M M) ((w2.alloc (.cells (madeCells #[.int .u8 0] M) 5)).setCell ⟨rb, 2, none⟩ (.slice (some ⟨w2.heap.size, 0, none⟩) M M))) := by
    have hrl : rb < w2.heap.size := hpLt HS0.out.r
    have ho := own_madeZ w2 W1.heap.size M hzw2 hM0
    refine ⟨hpSetP (hpKeep HS0.out.r (bal' _ _)) rfl, (hpOther (fun e => HRZ.out.1 e.symm)).trans (hpKeep HS0.out.z (bal' _ _)), ?_, (HS0.out.kp.trans (Keeps.of_below (F := fun _ => False) (bal' _ _)) (fun _ _ e => e.elim)).set _ _ rfl⟩
    rw [List.length_replicate]
    exact own_keeps (F := (· = rb)) ho (ks1 (Keeps.refl _ _) _ _) (fun j hj e => by cases hj; have e' : w2.heap.size = rb := e; omega)
  have Q0 : Hid (∀ X, Keeps (fun j => j = rb) W1 X → X.cell? ⟨w.heap.size + 1, 0, none⟩ = some (.int .i64 fn) ∧ X.cell? ⟨w.heap.size + 1, 1, none⟩ = some (.int .i64 ad) ∧ X.cell? ⟨w.heap.size + 1, 2, none⟩ = some (.int .i64 qt)) := fun X hX => by
    have := hpKeeps PQ.out hX (by have := ERB.out; omega)
    exact ⟨hpCell this 0, hpCell this 1, hpCell this 2⟩
  have c2a : (w2.alloc (.cells (madeCells #[.int .u8 0] M) 5)).cell? ⟨rb, 2, none⟩ = some (.slice none 0 0) := hpCell (hpKeep HS0.out.r (bal' _ _)) 2
  have fz2a : (w2.alloc (.cells (madeCells #[.int .u8 0] M) 5)).frozen? ⟨rb, 2, none⟩ = false := hpFree (hpKeep HS0.out.r (bal' _ _)) 2
  clear hM hs7 hzw2
  go_upto_region 12 with (fail)
  clear q0' r1' hb2 q2' c2' fz2' sq1 sq2 c2a fz2a hmk
  go_wp2_with fail
  go_loopw [8, 9] (fun iv s9 wr => ∃ (k : Nat) (D : List UInt8) (da : Option Addr) (dc : Nat), iv = .int .i64 (k : Int) ∧ k ≤ N ∧ Hid (D.length = M) ∧ Hid (TbL W1 rb zb fn D (.slice da M dc) wr)) (fun iv _ _ => N - (intOf iv).toNat)
  case atStart => exact ⟨0, List.replicate M 0, _, M, rfl, Nat.zero_le _, List.length_replicate, HS1.out⟩
  case round =>
    obtain ⟨k, D, da, dc, rfl, hk, hD, hst⟩ := hrel
    have hki : (0 : Int) ≤ (k : Int) := Int.natCast_nonneg _
    have hN1 := HN.out.1
    have hN2 := HN.out.2
    obtain ⟨q0, q1, q2⟩ := Q0.out wr hst.out.kp
    by_cases hlt : k < N
    · have dk : (k : Int) < qt := by omega
      obtain ⟨A, hA⟩ : ∃ A, ad + (k : Int) = A := ⟨_, rfl⟩
      have sA : IntKind.i64.wrap (ad + (k : Int)) = A := (IntWalk.i64_in _ (by have := HAD.out; omega)).trans hA
      have HW2 := HWD.out k wr dk
      rw [hA] at HW2
      have HW2 := hid HW2
      have hkM : k / 8 < M := by have := HMN.out; omega
      have OW : Hid (wr.ownsRow W1.heap.size 5 1 (.slice da M dc) M (u8s D)) := by have := hst.out.own; rw [hD.out] at this; exact this
      obtain ⟨g, cap, hv1, hg, hnc, hcm⟩ := own_shapeR OW.out (by omega)
      simp only [Value.slice.injEq, true_and] at hv1
      obtain ⟨rfl, rfl⟩ := hv1
      have hcl := ownb_cellZ OW.out (k / 8) hkM
      have hfz := OW.out.frozenAt (k / 8)
      have r2 : wr.cell? ⟨rb, 2, none⟩ = some (.slice (some ⟨g, 0, none⟩) M dc) := hpCell hst.out.r 2
      clear hA hN1 hcm hnc
      go_upto_region 16 with (go_at_call 66; (with_reducible refine HW2.out.mono ?_); rintro r w5 ⟨n, rfl, n0, n1, rfl⟩)
      by_cases hb : n.tmod 2 = 1
      · have d1 : (n.tmod 2 == 1) = true := b1 hb
        clear hb n0 n1
        obtain ⟨Y, hY⟩ : ∃ Y, UInt8.ofNat ((D[k / 8]?.getD 0).toNat + 2 ^ (k % 8)) = Y := ⟨_, rfl⟩
        have E : Hid (Value.int .u8 ((((D[k / 8]?.getD 0).toNat : Int) + 2 ^ (k % 8)) % 256) = byteV Y) := by show _ = _; rw [← hY]; exact bit_byte _ _
        have HST6 : Hid (TbL W1 rb zb fn (D.set (k / 8) Y) (.slice (some ⟨g, 0, none⟩) M dc) (wr.setCell ⟨g, k / 8, none⟩ (byteV Y))) := by
          have hgr : rb ≠ g := fun e => HRZ.out.2.1 (by rw [e]; exact hg)
          have hgz : zb ≠ g := fun e => HRZ.out.2.2 (by rw [e]; exact hg)
          refine ⟨(hpOther hgr).trans hst.out.r, (hpOther hgz).trans hst.out.z, ?_, ?_⟩
          · have h := (OW.out.stored (k / 8) (byteV Y)).1
            rw [u8s_setZ] at h
            rw [List.length_set, hD.out]
            exact h
          · exact Keeps.setNew hst.out.kp ⟨g, k / 8, none⟩ _ hg
        clear hY
        go_upto_region 19 with (fail)
        go_wp2
        go_roundw
        case rel => exact ⟨k + 1, D.set (k / 8) Y, _, _, by go_num, by omega, by show _ = _; rw [List.length_set]; exact hD.out, by rw [E.out]; exact HST6.out⟩
        case measure => simp [intOf]; omega
      · have d1 : (n.tmod 2 == 1) = false := b0 hb
        clear hb n0 n1
        go_wp2
        go_roundw
        case rel => exact ⟨k + 1, D, _, _, by go_num, by omega, hD.out, hst.out⟩
        case measure => simp [intOf]; omega
    · obtain rfl : k = N := by omega
      have dk : ¬ (k : Int) < qt := by omega
      clear hN1
      obtain ⟨C, hC⟩ : ∃ C : Array Value, (#[.int .i64 fn, .int .i64 0, (.slice da M dc), .int .i64 0, .int .i64 0, .bool false, .int .i64 0, .slice none 0 0] : Array Value) = C := ⟨_, rfl⟩
      have hcs : C.size = 8 := by rw [← hC]; rfl
      have hi8 : (Tryz.prog.info? 52).map (·.size) = some C.size := by rw [hcs]; exact info8
      have h1c : C.toList.all (·.oneCell') = true := by rw [← hC]; rfl
      have pR2 := hst.out.r
      have pZ2 := hst.out.z
      rw [hC] at pR2
      have HC := hid hC
      have HM0 := hid hM0
      clear hC hM0
      go_wp2_with (first
        | (refine wpList_load_row rfl 52 (.tmp 7) rfl rb rfl 52 C (0, 0) _ pR2 Tryz.underlying52 rfl hi8 ?_)
        | (refine wpList_storeW rfl 52 (.tmp 6) (.tmp 92) rfl zb 0 _ 52 C rfl rfl pZ2 (by simp [hcs]) hi8 h1c ?_; intro w8 g8 hk8 hz8))
      have g9 : w8.heap[zb]? = some (.cells C 52) := by
        rw [g8, List.drop_eq_nil_of_le (by simp [hcs])]
        simp
      refine bodyPost_ret (results_cell_row rfl _ _ zb 52 C (0, 0) _ rfl g9 Tryz.underlying52 rfl hi8) rfl ?_
      have hz1 := HZ1.out
      have hez := EZB.out
      have her := ERB.out
      have hdm := hD.out
      refine ⟨D, da, dc, by rw [← HC.out, hdm], by rw [hdm]; exact HM0.out, ?_, ?_⟩
      · rw [hdm]
        have := own_lower (own_keeps hst.out.own hk8 (fun j hj e => by have := (hst.out.own.lt j hj).1; omega)) (by omega : w.heap.size ≤ W1.heap.size)
        rw [hdm] at this
        exact this
      · exact (HB1.out.trans (hst.out.kp.below (by omega) (fun j hj e => by omega))).trans (hk8.below (by have := hst.out.kp.size; omega) (fun j hj e => by omega))

end Go.Proofs.YtliblgmpclefgaaGreat

/-
The reference's slave: its answer from a table, whole; the kinds of a window (modscanref21.Table).
-/
namespace Go.Proofs.YtliblgmpclefgaaGreat
open Go.RowKit

/-- The exception of a table's answer. -/
structure TabE (t : Tbl) (q : Rq) (e : Int) : Prop where
  no : t.sup = false → e = 1
  big : t.sup = true → t.most < q.qty → e = 3
  yes : t.sup = true → q.qty ≤ t.most → allR t.rd q.addr q.qty.toNat → e = 0
  out : t.sup = true → q.qty ≤ t.most → ¬ allR t.rd q.addr q.qty.toNat → e = 2
theorem rtable_any (t : Tbl) (rv : Value) (q : Rq) (hq : q.ok = true) (hf : 1 ≤ q.fn ∧ q.fn ≤ 4) (x : Int) (x0 : 0 ≤ x) (x1 : x ≤ 65535) (w : World) (hl : Rgs w rv t.rd) (hgd : t.sup = true → rgsFrom (-1) t.rd = true) :
    Calls Tryz.prog 50 #[.agg #[.bool t.sup, rv, .int .i64 t.most], .agg #[.int .i64 q.fn, .int .i64 q.addr, .int .i64 q.qty, .int .i64 q.code, .int .i64 q.obj], .int .i64 x] w fun r w' => ∃ e, TabE t q e ∧ TabPost w q.fn e r w' := by
  obtain ⟨fn, ad, qt, co, ob⟩ := q
  dsimp only at hf ⊢
  unfold Rq.ok at hq
  dsimp only at hq
  rw [if_pos hf] at hq
  simp only [Bool.and_eq_true, decide_eq_true_eq, beq_iff_eq] at hq
  obtain ⟨⟨⟨⟨⟨h0, h1⟩, h2⟩, h3⟩, rfl⟩, rfl⟩ := hq
  have hlm : (fn = 1 ∨ fn = 2) ∧ qt ≤ 2000 ∨ (fn = 3 ∨ fn = 4) ∧ qt ≤ 125 := by
    unfold limI at h2
    split at h2
    · exact .inl ⟨by assumption, h2⟩
    · split at h2
      · exact .inr ⟨by assumption, h2⟩
      · omega
  cases hs : t.sup with
  | false =>
    have := rtable_exc t rv fn ad qt x h0 h1 (by omega) w hl hgd 1 (.inl ⟨hs, rfl⟩)
    rw [hs] at this
    exact this.mono fun r w' hp => ⟨1, ⟨fun _ => rfl, (fun e => by rw [hs] at e; cases e), (fun e => by rw [hs] at e; cases e), (fun e => by rw [hs] at e; cases e)⟩, hp⟩
  | true =>
    by_cases hm : t.most < qt
    · have := rtable_exc t rv fn ad qt x h0 h1 (by omega) w hl hgd 3 (.inr (.inl ⟨hs, hm, rfl⟩))
      rw [hs] at this
      exact this.mono fun r w' hp => ⟨3, ⟨(fun e => by rw [hs] at e; cases e), fun _ _ => rfl, (fun _ e => by dsimp only at e; omega), (fun _ e => by dsimp only at e; omega)⟩, hp⟩
    · by_cases ha : allR t.rd ad qt.toNat
      · have hE : TabE t ⟨fn, ad, qt, 0, 0⟩ 0 := ⟨(fun e => by rw [hs] at e; cases e), (fun _ e => by dsimp only at e; omega), fun _ _ _ => rfl, fun _ _ e => absurd ha e⟩
        rcases hlm with ⟨hf2, hq2⟩ | ⟨hf2, hq2⟩
        · have := rtable_bits t rv fn ad qt x hf2 h0 h1 hq2 (by omega) x0 x1 w hl (hgd hs) hs hm ha
          rw [hs] at this
          exact this.mono fun r w' hp => ⟨0, hE, hp⟩
        · have := rtable_words t rv fn ad qt x hf2 h0 h1 hq2 (by omega) x0 x1 w hl (hgd hs) hs hm ha
          rw [hs] at this
          exact this.mono fun r w' hp => ⟨0, hE, hp⟩
      · have := rtable_exc t rv fn ad qt x h0 h1 (by omega) w hl hgd 2 (.inr (.inr ⟨hs, hm, ha, rfl⟩))
        rw [hs] at this
        exact this.mono fun r w' hp => ⟨2, ⟨(fun e => by rw [hs] at e; cases e), (fun _ e => by dsimp only at e; omega), (fun _ _ e => absurd e ha), fun _ _ _ => rfl⟩, hp⟩

end Go.Proofs.YtliblgmpclefgaaGreat

/-
The reference's truth about a table (modscanref21.Table).
-/
namespace Go.Proofs.YtliblgmpclefgaaGreat
open Go.RowKit

def TruPost (w : World) (b : Tb) (r : Ending) (w' : World) : Prop := ∃ va vc, r = .returned (.agg #[.int .i64 b.st, .int .i64 b.most, .slice va b.map.length vc]) ∧ Spn w.heap.size w' (.slice va b.map.length vc) b.map ∧ Below w.heap.size w w'

set_option maxRecDepth 100000 in
set_option maxHeartbeats 6400000 in
theorem rtruth_any (t : Tbl) (rv : Value) (f c : Int) (c0 : 0 ≤ c) (c1 : c ≤ 512) (f0 : 0 ≤ f) (f1 : f ≤ 65536 - c) (w : World) (hl : Rgs w rv t.rd) (hgd : t.sup = true → rgsFrom (-1) t.rd = true) (b : Tb) (hb : Hid (t.truth (f, c) = b)) :
    Calls Tryz.prog 36 #[.agg #[.bool t.sup, rv, .int .i64 t.most], .agg #[.int .i64 f, .int .i64 c]] w (TruPost w b) := by
  obtain ⟨ra, rc, hrv, -⟩ := id hl
  obtain ⟨rn, hrn⟩ : ∃ n, t.rd.length = n := ⟨_, rfl⟩
  rw [hrn] at hrv
  subst hrv
  obtain ⟨W1, hW1⟩ : ∃ W, ((w.alloc (.cells #[.bool t.sup, .slice ra rn rc, .int .i64 t.most] 26)).alloc (.cells #[.int .i64 f, .int .i64 c] 33)).alloc (.cells #[.int .i64 0, .int .i64 0, .slice none 0 0] 58) = W := ⟨_, rfl⟩; have hz1 : W1.heap.size = w.heap.size + 3 := (by rw [← hW1]; simp); have hb1 : Below w.heap.size w W1 := (by rw [← hW1]; exact bta (bta (bal' w _) (Nat.le_refl _) _) (Nat.le_refl _) _); have pT : W1.heap[w.heap.size]? = some (.cells #[.bool t.sup, .slice ra rn rc, .int .i64 t.most] 26) := (by rw [← hW1]; exact hpKeep (hpKeep (hpNew w _) (bal' _ _)) (bal' _ _)); have pW : W1.heap[w.heap.size + 1]? = some (.cells #[.int .i64 f, .int .i64 c] 33) := (by rw [← hW1]; refine hpKeep ?_ (bal' _ _); simpa using hpNew (w.alloc (.cells #[.bool t.sup, .slice ra rn rc, .int .i64 t.most] 26)) (.cells #[.int .i64 f, .int .i64 c] 33)); have pZ : W1.heap[w.heap.size + 2]? = some (.cells #[.int .i64 0, .int .i64 0, .slice none 0 0] 58) := (by rw [← hW1]; simpa using hpNew ((w.alloc (.cells #[.bool t.sup, .slice ra rn rc, .int .i64 t.most] 26)).alloc (.cells #[.int .i64 f, .int .i64 c] 33)) (.cells #[.int .i64 0, .int .i64 0, .slice none 0 0] 58)); obtain ⟨zb, hzb⟩ : ∃ n, w.heap.size + 2 = n := ⟨_, rfl⟩; have E2 : Hid (w.heap.size + 1 + 1 = zb) := hzb; rw [hzb] at pZ; have EZB := hid hzb
  have z0 : W1.cell? ⟨zb, 0, none⟩ = some (.int .i64 0) := hpCell pZ 0
  have z1 : W1.cell? ⟨zb, 1, none⟩ = some (.int .i64 0) := hpCell pZ 1
  have z2 : W1.cell? ⟨zb, 2, none⟩ = some (.slice none 0 0) := hpCell pZ 2
  have y0 : W1.frozen? ⟨zb, 0, none⟩ = false := hpFree pZ 0
  have y1 : W1.frozen? ⟨zb, 1, none⟩ = false := hpFree pZ 1
  have y2 : W1.frozen? ⟨zb, 2, none⟩ = false := hpFree pZ 2
  have q0 : ∀ X, Below W1.heap.size W1 X → X.cell? ⟨w.heap.size + 1, 0, none⟩ = some (.int .i64 f) := fun X h => hpCell (hpKeep pW h) 0
  have q1 : ∀ X, Below W1.heap.size W1 X → X.cell? ⟨w.heap.size + 1, 1, none⟩ = some (.int .i64 c) := fun X h => hpCell (hpKeep pW h) 1
  have t0 : ∀ X, Below W1.heap.size W1 X → X.cell? ⟨w.heap.size, 0, none⟩ = some (.bool t.sup) := fun X h => hpCell (hpKeep pT h) 0
  have t1 : ∀ X, Below W1.heap.size W1 X → X.cell? ⟨w.heap.size, 1, none⟩ = some (.slice ra rn rc) := fun X h => hpCell (hpKeep pT h) 1
  have HW1 := hid hW1
  have HB1 := hid hb1
  have HZ1 := hid hz1
  have PT := hid pT
  have PZ := hid pZ
  have HL := hid (hl.keep hb1)
  have k0 : Below W1.heap.size W1 W1 := Below.refl _ _
  have HGD := hid hgd
  clear hW1 hb1 hz1 pT pW pZ hl hgd hrn hzb
  by_cases hc : c = 0
  · have HB : Hid (b = ⟨6, 0, []⟩) := by show _ = _; rw [← hb.out]; unfold Tbl.truth; rw [if_pos hc]
    have d1 := b1 hc
    clear hc c0 c1 f0 f1
    go_enter Tryz.func36, Tryz.ntmps36
    go_upto_region 1 with (fail)
    rw [HW1.out, E2.out]
    go_wp2
    refine bodyPost_ret (v := .agg #[.int .i64 6, .int .i64 0, .slice none 0 0]) (by simp [results, Tryz.results36, go_sem, z0, z1, z2]) rfl ?_; rw [HB.out]; exact ⟨none, 0, rfl, World.ownsRow_nil _ _ _ _, ((HB1.out.setCell (p := ⟨zb, 0, none⟩) (by show w.heap.size ≤ zb; have := EZB.out; omega) _).setCell (p := ⟨zb, 1, none⟩) (by show w.heap.size ≤ zb; have := EZB.out; omega) _).setCell (p := ⟨zb, 2, none⟩) (by show w.heap.size ≤ zb; have := EZB.out; omega) _⟩
  · have d1 := b0 hc
    cases hs : t.sup with
    | false =>
      have HB : Hid (b = ⟨5, 0, []⟩) := by show _ = _; rw [← hb.out]; unfold Tbl.truth; rw [if_neg hc, if_neg (by rw [hs]; decide)]
      rw [hs] at HW1 t0
      clear hc c0 c1 f0 f1 hs
      go_enter Tryz.func36, Tryz.ntmps36
      go_upto_region 1 with (fail)
      rw [HW1.out, E2.out]
      go_wp2
      refine bodyPost_ret (v := .agg #[.int .i64 5, .int .i64 0, .slice none 0 0]) (by simp [results, Tryz.results36, go_sem, z0, z1, z2]) rfl ?_; rw [HB.out]; exact ⟨none, 0, rfl, World.ownsRow_nil _ _ _ _, ((HB1.out.setCell (p := ⟨zb, 0, none⟩) (by show w.heap.size ≤ zb; have := EZB.out; omega) _).setCell (p := ⟨zb, 1, none⟩) (by show w.heap.size ≤ zb; have := EZB.out; omega) _).setCell (p := ⟨zb, 2, none⟩) (by show w.heap.size ≤ zb; have := EZB.out; omega) _⟩
    | true =>
      have hgd := HGD.out hs
      have HB : Hid (b = ⟨2, t.most, rle (kindsOf t.rd f c.toNat)⟩) := by show _ = _; rw [← hb.out]; unfold Tbl.truth; rw [if_neg hc, if_pos hs]
      obtain ⟨N, hN⟩ : ∃ N, c.toNat = N := ⟨_, rfl⟩
      obtain ⟨E, hE⟩ : ∃ e, f + c = e := ⟨_, rfl⟩
      have sE : IntKind.i64.wrap (f + c) = E := (IntWalk.i64_in _ (by omega)).trans hE
      have HNN : Hid (E = f + (N : Nat) ∧ N ≤ 512 ∧ E ≤ 65536 ∧ 0 ≤ f) := by show _ ∧ _ ∧ _ ∧ _; omega
      have HIN : Hid (∀ (A : Int) X, 0 ≤ A → A ≤ 65536 → Below W1.heap.size W1 X → Calls Tryz.prog 52 #[.slice ra rn rc, .int .i64 A] X (BoolPost X (inR t.rd A))) := fun A X h1 h2 hX => rgs_in _ t.rd hgd A h1 (by omega) X (HL.out.keep hX) _ rfl
      obtain ⟨i5, hi, hz0, hzz1, hz2⟩ := info_parts infoInt
      rw [hN] at HB
      rw [hs] at HW1 t0
      clear hc c0 c1 f0 f1 hs hE hN hgd
      go_enter Tryz.func36, Tryz.ntmps36
      go_upto_region 1 with (fail)
      rw [HW1.out, E2.out]
      go_wp2_with fail
      clear z0 z1 z2 y0 y1 y2
      go_loopw [5, 6] (fun kv av wr => ∃ (j : Nat) (A : Int) (ka : Option Addr) (kc : Nat), kv = .slice ka j kc ∧ av = .int .i64 A ∧ Hid (A = f + (j : Nat)) ∧ j ≤ N ∧ Hid (wr.ownsRow W1.heap.size 3 1 (.slice ka j kc) j (ksV (kindsOf t.rd f j))) ∧ Below W1.heap.size W1 wr) (fun _ av _ => E.toNat - (intOf av).toNat)
      case atStart => exact ⟨0, f, none, 0, rfl, rfl, (by show _ = _; omega), Nat.zero_le _, World.ownsRow_nil _ _ _ _, k0⟩
      case round =>
        obtain ⟨j, A, ka, kc, rfl, rfl, hA, hj, hown, hbw⟩ := hrel
        have hA' := hA.out
        obtain ⟨hE1, hE2, hE3, hE4⟩ := HNN.out
        have hsw := hbw.size
        by_cases hlt : j < N
        · have dA : A < E := by omega
          have sA : IntKind.i64.wrap (A + 1) = A + 1 := IntWalk.i64_in _ (by omega)
          have HI := hid (HIN.out A wr (by omega) (by omega) hbw)
          obtain ⟨V, hV⟩ : ∃ V, inR t.rd A = V := ⟨_, rfl⟩
          rw [hV] at HI
          have hjb : j ≤ 512 := by omega
          have HA2 : Hid (A + 1 = f + ((j + 1 : Nat) : Int) ∧ j + 1 ≤ N) := by show _ ∧ _; omega
          have HM : Hid (E.toNat - (intOf (.int .i64 (A + 1))).toNat < E.toNat - (intOf (.int .i64 A)).toNat) := by show _ < _; simp [intOf]; omega
          clear hA' hE1 hE2 hE3 hE4 hlt
          cases V with
          | true =>
            have HK : Hid (ksV (kindsOf t.rd f (j + 1)) = ksV (kindsOf t.rd f j) ++ [.int .i64 1]) := by
              show _ = _
              rw [kindsOf, ← hA.out]
              unfold kindAt ksV
              rw [hV, if_pos rfl, List.map_append]
              rfl
            clear hV
            go_wp2_with (first
              | (go_at_call 52; (with_reducible refine HI.out.mono ?_); rintro r w5 ⟨rfl, hb5⟩; have hbw5 := bt hbw hb5 (Nat.le_refl _); have hs5 := hbw5.size; have HO5 : Hid (w5.ownsRow W1.heap.size 3 1 (.slice ka j kc) j (ksV (kindsOf t.rd f j))) := own_keeps (F := fun _ => False) hown.out (Keeps.of_below hb5) (fun _ _ f => f))
              | (at_builtin; refine wpList_appN rfl _ _ 35 rfl W1.heap.size 3 i5 _ 1 8 Tryz.underlying35 hi hz0 hzz1 hz2 rfl (by decide) (.slice ka j kc) j (ksV (kindsOf t.rd f j)) rfl (HO5.out.alloc _) ⟨w5.heap.size, 0, none⟩ 1 1 [.int .i64 1] rfl rfl (newsNew w5 [.int .i64 1] _) (by intro u hu; simp at hu; rcases hu with rfl | rfl <;> rfl) (by unfold maxLen; omega) (by omega) (by simp; omega) ?c3))
            case c3 =>
              intro v6 w6 hown6 hgr6 hnew6
              obtain ⟨a6, k6, rfl⟩ := own_slice hown6
              have HO6 : Hid (w6.ownsRow W1.heap.size 3 1 (.slice a6 (j + 1) k6) (j + 1) (ksV (kindsOf t.rd f (j + 1)))) := by show World.ownsRow _ _ _ _ _ _ _; rw [HK.out]; exact hown6
              have HB6 : Hid (Below W1.heap.size W1 w6) := (bta hbw5 (Nat.le_refl _) _).grown hgr6 (by simp; omega) (fun i hi => (HO5.out.lt i hi).1)
              clear hown6 hgr6 hnew6
              go_wp2
              go_roundw
              case rel => exact ⟨j + 1, A + 1, a6, k6, rfl, rfl, HA2.out.1, HA2.out.2, HO6.out, HB6.out⟩
              case measure => exact HM.out
          | false =>
            have HK : Hid (ksV (kindsOf t.rd f (j + 1)) = ksV (kindsOf t.rd f j) ++ [.int .i64 2]) := by
              show _ = _
              rw [kindsOf, ← hA.out]
              unfold kindAt ksV
              rw [hV, if_neg (by decide), List.map_append]
              rfl
            clear hV
            go_wp2_with (first
              | (go_at_call 52; (with_reducible refine HI.out.mono ?_); rintro r w5 ⟨rfl, hb5⟩; have hbw5 := bt hbw hb5 (Nat.le_refl _); have hs5 := hbw5.size; have HO5 : Hid (w5.ownsRow W1.heap.size 3 1 (.slice ka j kc) j (ksV (kindsOf t.rd f j))) := own_keeps (F := fun _ => False) hown.out (Keeps.of_below hb5) (fun _ _ f => f))
              | (at_builtin; refine wpList_appN rfl _ _ 35 rfl W1.heap.size 3 i5 _ 1 8 Tryz.underlying35 hi hz0 hzz1 hz2 rfl (by decide) (.slice ka j kc) j (ksV (kindsOf t.rd f j)) rfl (HO5.out.alloc _) ⟨w5.heap.size, 0, none⟩ 1 1 [.int .i64 2] rfl rfl (newsNew w5 [.int .i64 2] _) (by intro u hu; simp at hu; rcases hu with rfl | rfl <;> rfl) (by unfold maxLen; omega) (by omega) (by simp; omega) ?c3))
            case c3 =>
              intro v6 w6 hown6 hgr6 hnew6
              obtain ⟨a6, k6, rfl⟩ := own_slice hown6
              have HO6 : Hid (w6.ownsRow W1.heap.size 3 1 (.slice a6 (j + 1) k6) (j + 1) (ksV (kindsOf t.rd f (j + 1)))) := by show World.ownsRow _ _ _ _ _ _ _; rw [HK.out]; exact hown6
              have HB6 : Hid (Below W1.heap.size W1 w6) := (bta hbw5 (Nat.le_refl _) _).grown hgr6 (by simp; omega) (fun i hi => (HO5.out.lt i hi).1)
              clear hown6 hgr6 hnew6
              go_wp2
              go_roundw
              case rel => exact ⟨j + 1, A + 1, a6, k6, rfl, rfl, HA2.out.1, HA2.out.2, HO6.out, HB6.out⟩
              case measure => exact HM.out
        · obtain rfl : j = N := by omega
          have dA : ¬ A < E := by omega
          obtain ⟨l, hl⟩ : ∃ l, rle (kindsOf t.rd f j) = l := ⟨_, rfl⟩
          have hkl : (kindsOf t.rd f j).length = j := kindsOf_len _ _ _
          have HSP : Hid (Calls Tryz.prog 53 #[.slice ka j kc] wr.drew fun r w' => ∃ v', r = .returned v' ∧ Spn wr.drew.heap.size w' v' l ∧ Below wr.drew.heap.size wr.drew w') := by
            have ho := own_keeps (F := fun _ => False) hown.out (Keeps.of_below (Below.refl wr.heap.size wr).drew) (fun _ _ f => f)
            refine rspans_any W1.heap.size (.slice ka j kc) (kindsOf t.rd f j) wr.drew ?_ (by rw [hkl]; omega) l hl
            rw [hkl]
            exact ho
          rw [hl] at HB
          have hzl : zb < wr.heap.size := by have := EZB.out; have := HZ1.out; omega
          have hzn : w.heap.size ≠ zb := by have := EZB.out; omega
          have t2 : ∀ X, Keeps (· = zb) wr X → X.cell? ⟨w.heap.size, 2, none⟩ = some (.int .i64 t.most) := fun X h => hpCell (hpKeeps (hpKeep PT.out hbw) h hzn) 2
          have PZ2 := hid (hpKeep PZ.out hbw)
          have kk0 : Keeps (· = zb) wr wr := Keeps.refl _ _
          have kD : Keeps (· = zb) wr wr.drew := Keeps.of_below (Below.refl _ _).drew
          have HBW := hid hbw
          clear hA' hE1 hE2 hE3 hE4 hl hkl t0 t1 HIN hown
          go_upto_region 12 with (fail)
          clear q0 q1
          go_region_held3 (fun X => Keeps (· = zb) wr X) ((with_reducible (first | exact kD | assumption | exact kk0 | exact kS3 _ _ _)))
            ((go_at_call 53; (with_reducible refine HSP.out.mono ?_); rintro r w7 ⟨v7, rfl, hsp7, hb7⟩; obtain ⟨a7, c7, rfl⟩ := hsp7.slice; have hB7 : Below wr.heap.size wr w7 := bt (Below.refl _ _).drew hb7 (Nat.le_refl _); have hK7 : Keeps (· = zb) wr w7 := Keeps.of_below hB7; have pz7 := hpKeep PZ2.out hB7; have z0 : w7.cell? ⟨zb, 0, none⟩ = some (.int .i64 0) := hpCell pz7 0; have z1 : w7.cell? ⟨zb, 1, none⟩ = some (.int .i64 0) := hpCell pz7 1; have z2 : w7.cell? ⟨zb, 2, none⟩ = some (.slice none 0 0) := hpCell pz7 2; have y0 : w7.frozen? ⟨zb, 0, none⟩ = false := hpFree pz7 0; have y1 : w7.frozen? ⟨zb, 1, none⟩ = false := hpFree pz7 1; have y2 : w7.frozen? ⟨zb, 2, none⟩ = false := hpFree pz7 2; have kS3 : ∀ a b c, Keeps (· = zb) wr (((w7.setCell ⟨zb, 0, none⟩ a).setCell ⟨zb, 1, none⟩ b).setCell ⟨zb, 2, none⟩ c) := (fun a b c => ks1 (ks1 (ks1 hK7 _ _) _ _) _ _)))
          all_goals
            go_wp2
            have zz := hpSetP (i := 2) (u := .slice a7 l.length c7) (C := #[.int .i64 2, .int .i64 t.most, .slice a7 l.length c7]) (hpSetP (i := 1) (u := .int .i64 t.most) (C := #[.int .i64 2, .int .i64 t.most, .slice none 0 0]) (hpSetP (i := 0) (u := .int .i64 2) (C := #[.int .i64 2, .int .i64 0, .slice none 0 0]) pz7 rfl) rfl) rfl
            have x0 := hpCell zz 0
            have x1 := hpCell zz 1
            have x2 := hpCell zz 2
            refine bodyPost_ret (v := .agg #[.int .i64 2, .int .i64 t.most, .slice a7 l.length c7]) (by simp [results, Tryz.results36, go_sem, x0, x1, x2]) rfl ?_
            have hez := EZB.out
            have hz1 := HZ1.out
            have hsw2 := HBW.out.size
            rw [HB.out]
            refine ⟨a7, c7, rfl, ?_, ?_⟩
            · refine own_lower (own_keeps (F := (· = zb)) hsp7 (ks1 (ks1 (ks1 (Keeps.refl _ _) _ _) _ _) _ _) (fun i hi e => ?_)) (by show w.heap.size ≤ wr.heap.size; omega)
              have := (hsp7.lt i hi).1
              have h8 : wr.heap.size ≤ i := this
              omega
            · exact (bt HB1.out HBW.out (Nat.le_refl _)).trans ((kS3 _ _ _).below (by omega) (fun i hi e => by omega))

end Go.Proofs.YtliblgmpclefgaaGreat

/-
The reference's truth about a slave (modscanref21.Device).
-/
namespace Go.Proofs.YtliblgmpclefgaaGreat
open Go.RowKit

def TvI (W : World) (b : Nat) (d : Dv) (ov sv : Value) (mv : Nat → Value) : Prop := W.heap[b]? = some (.cells (DvC d ov sv mv) 61)
theorem TvI.keep {W W' : World} {b : Nat} {d : Dv} {ov sv : Value} {mv : Nat → Value} (h : TvI W b d ov sv mv) (hb : Below W.heap.size W W') : TvI W' b d ov sv mv := hpKeep h hb
theorem TvI.tab {W : World} {b : Nat} {d : Dv} {ov sv : Value} {mv : Nat → Value} (h : TvI W b d ov sv mv) {k : Nat} (hk : k < 4) :
    W.cell? ⟨b, 8 + k * 3, none⟩ = some (.int .i64 (d.ts k).st) ∧ W.cell? ⟨b, 8 + k * 3 + 1, none⟩ = some (.int .i64 (d.ts k).most) ∧ W.cell? ⟨b, 8 + k * 3 + 2, none⟩ = some (mv k) := by
  rw [hpCell h, hpCell h, hpCell h]
  match k, hk with
  | 0, _ => exact ⟨rfl, rfl, rfl⟩
  | 1, _ => exact ⟨rfl, rfl, rfl⟩
  | 2, _ => exact ⟨rfl, rfl, rfl⟩
  | 3, _ => exact ⟨rfl, rfl, rfl⟩
theorem TvI.setTab {W : World} {b : Nat} {d : Dv} {ov sv : Value} {mv : Nat → Value} (h : TvI W b d ov sv mv) {k : Nat} (hk : k < 4) (t : Tb) (u : Value) :
    TvI (((W.setCell ⟨b, 8 + k * 3, none⟩ (.int .i64 t.st)).setCell ⟨b, 8 + k * 3 + 1, none⟩ (.int .i64 t.most)).setCell ⟨b, 8 + k * 3 + 2, none⟩ u) b (d.tab k t) ov sv (fun i => if i = k then u else mv i) := by
  refine hpSetP (hpSetP (hpSetP h rfl) rfl) ?_
  match k, hk with
  | 0, _ => rfl
  | 1, _ => rfl
  | 2, _ => rfl
  | 3, _ => rfl
theorem SlC_tab (s : Sl) (rv : Nat → Value) (ov sv : Value) {W : World} {b : Nat} (h : W.heap[b]? = some (.cells (SlC s rv ov sv) 31)) {k : Nat} (hk : k < 4) :
    W.cell? ⟨b, 3 + k * 3, none⟩ = some (.bool (s.ts k).sup) ∧ W.cell? ⟨b, 3 + k * 3 + 1, none⟩ = some (rv k) ∧ W.cell? ⟨b, 3 + k * 3 + 2, none⟩ = some (.int .i64 (s.ts k).most) := by
  rw [hpCell h, hpCell h, hpCell h]
  match k, hk with
  | 0, _ => exact ⟨rfl, rfl, rfl⟩
  | 1, _ => exact ⟨rfl, rfl, rfl⟩
  | 2, _ => exact ⟨rfl, rfl, rfl⟩
  | 3, _ => exact ⟨rfl, rfl, rfl⟩
def dv0 : Dv := { Dv.zero with st := 2, idn := 5, srv := 5 }

set_option maxRecDepth 100000 in
set_option maxHeartbeats 12800000 in
theorem rdevice_truth (s : Sl) (rv : Nat → Value) (ov sv : Value) (win : Nat → Int × Int) (w : World) (hR : SlR w s rv ov sv) (hw : WinOk win) (hg : ∀ k, k < 4 → (s.ts k).sup = true → rgsFrom (-1) (s.ts k).rd = true) :
    Calls Tryz.prog 16 #[.agg (SlC s rv ov sv), .agg (WgC win)] w fun r w' => ∃ ov' sv' mv', r = .returned (.agg (DvC (s.dk win 4) ov' sv' mv')) ∧ DvRd w' (s.dk win 4) ov' sv' mv' ∧ Below w.heap.size w w' := by
  obtain ⟨oa, oc, rfl, -⟩ := id hR.ob
  obtain ⟨sa, sc, rfl, -⟩ := id hR.sd
  obtain ⟨on, hon⟩ : ∃ n, s.objs.length = n := ⟨_, rfl⟩
  obtain ⟨sn, hsn⟩ : ∃ n, s.sd.length = n := ⟨_, rfl⟩
  rw [hon, hsn] at hR ⊢
  clear hon hsn
  obtain ⟨H, hH⟩ : ∃ H, s.hs = H := ⟨_, rfl⟩
  have hSL : SlC s rv (.slice oa on oc) (.slice sa sn sc) = #[.int .i64 s.bd, .int .i64 s.pa, .int .i64 s.un, .bool (s.ts 0).sup, rv 0, .int .i64 (s.ts 0).most, .bool (s.ts 1).sup, rv 1, .int .i64 (s.ts 1).most, .bool (s.ts 2).sup, rv 2, .int .i64 (s.ts 2).most, .bool (s.ts 3).sup, rv 3, .int .i64 (s.ts 3).most, .int .i64 s.lv, .slice oa on oc, .bool H, .slice sa sn sc] := by unfold SlC; rw [hH]
  have HH := hid hH
  rw [hSL]
  show Calls _ _ #[.agg #[.int .i64 s.bd, .int .i64 s.pa, .int .i64 s.un, .bool (s.ts 0).sup, rv 0, .int .i64 (s.ts 0).most, .bool (s.ts 1).sup, rv 1, .int .i64 (s.ts 1).most, .bool (s.ts 2).sup, rv 2, .int .i64 (s.ts 2).most, .bool (s.ts 3).sup, rv 3, .int .i64 (s.ts 3).most, .int .i64 s.lv, .slice oa on oc, .bool H, .slice sa sn sc], .agg #[.int .i64 (win 0).1, .int .i64 (win 0).2, .int .i64 (win 1).1, .int .i64 (win 1).2, .int .i64 (win 2).1, .int .i64 (win 2).2, .int .i64 (win 3).1, .int .i64 (win 3).2]] w _
  obtain ⟨W0, hW0⟩ : ∃ W, ((w.alloc (.cells #[.int .i64 s.bd, .int .i64 s.pa, .int .i64 s.un, .bool (s.ts 0).sup, rv 0, .int .i64 (s.ts 0).most, .bool (s.ts 1).sup, rv 1, .int .i64 (s.ts 1).most, .bool (s.ts 2).sup, rv 2, .int .i64 (s.ts 2).most, .bool (s.ts 3).sup, rv 3, .int .i64 (s.ts 3).most, .int .i64 s.lv, .slice oa on oc, .bool H, .slice sa sn sc] 31)).alloc (.cells #[.int .i64 (win 0).1, .int .i64 (win 0).2, .int .i64 (win 1).1, .int .i64 (win 1).2, .int .i64 (win 2).1, .int .i64 (win 2).2, .int .i64 (win 3).1, .int .i64 (win 3).2] 34)).alloc (.cells #[.int .i64 0, .int .i64 0, .int .i64 0, .int .i64 0, .int .i64 0, .slice none 0 0, .int .i64 0, .slice none 0 0, .int .i64 0, .int .i64 0, .slice none 0 0, .int .i64 0, .int .i64 0, .slice none 0 0, .int .i64 0, .int .i64 0, .slice none 0 0, .int .i64 0, .int .i64 0, .slice none 0 0, .string ⟨#[]⟩] 61) = W := ⟨_, rfl⟩
  have hz0 : W0.heap.size = w.heap.size + 3 := by rw [← hW0]; simp
  have hb0 : Below w.heap.size w W0 := by rw [← hW0]; exact bta (bta (bal' w _) (Nat.le_refl _) _) (Nat.le_refl _) _
  have pS : W0.heap[w.heap.size]? = some (.cells (SlC s rv (.slice oa on oc) (.slice sa sn sc)) 31) := by rw [hSL, ← hW0]; exact hpKeep (hpKeep (hpNew w _) (bal' _ _)) (bal' _ _)
  have pG : WgI W0 (w.heap.size + 1) win := by rw [← hW0]; refine hpKeep ?_ (bal' _ _); have := hpNew (w.alloc (.cells #[.int .i64 s.bd, .int .i64 s.pa, .int .i64 s.un, .bool (s.ts 0).sup, rv 0, .int .i64 (s.ts 0).most, .bool (s.ts 1).sup, rv 1, .int .i64 (s.ts 1).most, .bool (s.ts 2).sup, rv 2, .int .i64 (s.ts 2).most, .bool (s.ts 3).sup, rv 3, .int .i64 (s.ts 3).most, .int .i64 s.lv, .slice oa on oc, .bool H, .slice sa sn sc] 31)) (.cells #[.int .i64 (win 0).1, .int .i64 (win 0).2, .int .i64 (win 1).1, .int .i64 (win 1).2, .int .i64 (win 2).1, .int .i64 (win 2).2, .int .i64 (win 3).1, .int .i64 (win 3).2] 34); rw [World.size_alloc] at this; exact this
  obtain ⟨zb, hzb⟩ : ∃ n, w.heap.size + 2 = n := ⟨_, rfl⟩
  have pZ : W0.heap[zb]? = some (.cells #[.int .i64 0, .int .i64 0, .int .i64 0, .int .i64 0, .int .i64 0, .slice none 0 0, .int .i64 0, .slice none 0 0, .int .i64 0, .int .i64 0, .slice none 0 0, .int .i64 0, .int .i64 0, .slice none 0 0, .int .i64 0, .int .i64 0, .slice none 0 0, .int .i64 0, .int .i64 0, .slice none 0 0, .string ⟨#[]⟩] 61) := by rw [← hW0, ← hzb]; have := hpNew ((w.alloc (.cells #[.int .i64 s.bd, .int .i64 s.pa, .int .i64 s.un, .bool (s.ts 0).sup, rv 0, .int .i64 (s.ts 0).most, .bool (s.ts 1).sup, rv 1, .int .i64 (s.ts 1).most, .bool (s.ts 2).sup, rv 2, .int .i64 (s.ts 2).most, .bool (s.ts 3).sup, rv 3, .int .i64 (s.ts 3).most, .int .i64 s.lv, .slice oa on oc, .bool H, .slice sa sn sc] 31)).alloc (.cells #[.int .i64 (win 0).1, .int .i64 (win 0).2, .int .i64 (win 1).1, .int .i64 (win 1).2, .int .i64 (win 2).1, .int .i64 (win 2).2, .int .i64 (win 3).1, .int .i64 (win 3).2] 34)) (.cells #[.int .i64 0, .int .i64 0, .int .i64 0, .int .i64 0, .int .i64 0, .slice none 0 0, .int .i64 0, .slice none 0 0, .int .i64 0, .int .i64 0, .slice none 0 0, .int .i64 0, .int .i64 0, .slice none 0 0, .int .i64 0, .int .i64 0, .slice none 0 0, .int .i64 0, .int .i64 0, .slice none 0 0, .string ⟨#[]⟩] 61); rw [World.size_alloc, World.size_alloc] at this; exact this
  have E2 : Hid (w.heap.size + 1 + 1 = zb) := hzb
  have EZB := hid hzb
  have HW0 := hid hW0
  have HZ0 := hid hz0
  have HB0 := hid hb0
  have PS := hid pS
  have PG := hid pG
  have PZ := hid pZ
  clear hW0 hzb hz0 hb0 pS pG pZ hSL hH
  go_enter Tryz.func16, Tryz.ntmps16
  go_upto_region 1 with (fail)
  rw [HW0.out, E2.out]
  go_upto_region 2 with (refine wpList_storeW rfl 61 (.tmp 5) (.tmp 7) rfl W0.heap.size 0 _ 61 (DvC dv0 (.slice none 0 0) (.slice none 0 0) (fun _ => .slice none 0 0)) rfl rfl (hpNew W0 (.cells #[.int .i64 0, .int .i64 0, .int .i64 0, .int .i64 0, .int .i64 0, .slice none 0 0, .int .i64 0, .slice none 0 0, .int .i64 0, .int .i64 0, .slice none 0 0, .int .i64 0, .int .i64 0, .slice none 0 0, .int .i64 0, .int .i64 0, .slice none 0 0, .int .i64 0, .int .i64 0, .slice none 0 0, .string ⟨#[]⟩] 61)) (by simp [DvC]) info21 rfl ?_; intro w3 g3 hk3 hz3)
  have g3' : TvI w3 W0.heap.size dv0 (.slice none 0 0) (.slice none 0 0) (fun _ => .slice none 0 0) := g3
  have hb3 : Below W0.heap.size W0 w3 := (bal' W0 (.cells #[.int .i64 0, .int .i64 0, .int .i64 0, .int .i64 0, .int .i64 0, .slice none 0 0, .int .i64 0, .slice none 0 0, .int .i64 0, .int .i64 0, .slice none 0 0, .int .i64 0, .int .i64 0, .slice none 0 0, .int .i64 0, .int .i64 0, .slice none 0 0, .int .i64 0, .int .i64 0, .slice none 0 0, .string ⟨#[]⟩] 61)).trans (hk3.below (by simp) (fun j hj e => by omega))
  have hd3 : W0.heap.size < w3.heap.size := hpLt g3'
  have HB3 := hid hb3
  have PS3 := hid (hpKeep PS.out hb3)
  have PG3 := hid (hpKeep PG.out hb3)
  have PZ3 := hid (hpKeep PZ.out hb3)
  obtain ⟨db, hdb⟩ : ∃ n, W0.heap.size = n := ⟨_, rfl⟩
  have HDB := hid hdb
  have HDE : Hid (db = w.heap.size + 3) := by show _ = _; rw [← hdb]; exact HZ0.out
  rw [hdb] at g3' hd3
  have G3 := hid g3'
  clear g3 hk3 hz3 hb3 g3'
  dsimp only [Act.put]
  rw [hdb]
  clear hdb
  have t15 : w3.cell? ⟨w.heap.size, 15, none⟩ = some (.int .i64 s.lv) := hpCell PS3.out 15
  have t16 : w3.cell? ⟨w.heap.size, 16, none⟩ = some (.slice oa on oc) := hpCell PS3.out 16
  have t17 : ∀ X, Keeps (· = db) w3 X → X.cell? ⟨w.heap.size, 17, none⟩ = some (.bool H) ∧ X.cell? ⟨w.heap.size, 18, none⟩ = some (.slice sa sn sc) := fun X hX => by
    have := hpKeeps PS3.out hX (by have := HDE.out; omega)
    exact ⟨by rw [← HH.out]; exact hpCell this 17, hpCell this 18⟩
  have HT17 := hid t17
  have d3 : w3.cell? ⟨db, 3, none⟩ = some (.int .i64 5) := hpCell G3.out 3
  have d4 : w3.cell? ⟨db, 4, none⟩ = some (.int .i64 0) := hpCell G3.out 4
  have d5 : w3.cell? ⟨db, 5, none⟩ = some (.slice none 0 0) := hpCell G3.out 5
  have y3 : w3.frozen? ⟨db, 3, none⟩ = false := hpFree G3.out 3
  have y4 : w3.frozen? ⟨db, 4, none⟩ = false := hpFree G3.out 4
  have y5 : w3.frozen? ⟨db, 5, none⟩ = false := hpFree G3.out 5
  clear t17
  go_upto_if 10 with (fail)
  go_cut [] from 8 to 17 (fun wc => Hid (∃ ova, TvI wc db { s.d2 with srv := 5 } ova (.slice none 0 0) (fun _ => .slice none 0 0) ∧ Keeps (· = db) w3 wc ∧ (0 < s.lv → ova = .slice oa on oc) ∧ (¬ 0 < s.lv → ova = .slice none 0 0)))
  case first =>
    by_cases hlv : 0 < s.lv
    · have HV := hid hlv
      go_upto_region 3 with (fail)
      go_region
      go_wp2
      go_meet
      case rel =>
        refine ⟨.slice oa on oc, ?_, (ks1 (ks1 (ks1 (Keeps.refl _ _) _ _) _ _) _ _).trans (Keeps.of_below (F := fun _ => False) (Below.refl _ _).drew) (fun _ _ e => e.elim), fun _ => rfl, fun e => absurd HV.out (by omega)⟩
        have e1 : s.d2 = { Sl.d1 with idn := 2, lv := s.lv, objs := s.objs } := by unfold Sl.d2; rw [if_pos HV.out, if_pos HV.out, if_pos HV.out]
        rw [e1]
        have x1 := hpSetP (i := 5) (u := .slice oa on oc) (C := DvC { ({ Sl.d1 with idn := 2, lv := s.lv, objs := s.objs } : Dv) with srv := 5 } (.slice oa on oc) (.slice none 0 0) (fun _ => .slice none 0 0)) (hpSetP (i := 4) (u := .int .i64 s.lv) (C := DvC { ({ Sl.d1 with idn := 2, lv := s.lv } : Dv) with srv := 5 } (.slice none 0 0) (.slice none 0 0) (fun _ => .slice none 0 0)) (hpSetP (i := 3) (u := .int .i64 2) (C := DvC { ({ Sl.d1 with idn := 2 } : Dv) with srv := 5 } (.slice none 0 0) (.slice none 0 0) (fun _ => .slice none 0 0)) G3.out rfl) rfl) rfl
        exact hpKeep x1 (Below.refl _ _).drew
    · have HV := hid hlv
      go_wp2
      go_meet
      case rel =>
        have hn : ¬ 0 < s.lv := by have := HV.out; omega
        refine ⟨.slice none 0 0, ?_, Keeps.refl _ _, fun e => absurd e hn, fun _ => rfl⟩
        have e1 : s.d2 = { Sl.d1 with idn := 5, lv := 0, objs := [] } := by unfold Sl.d2; rw [if_neg hn, if_neg hn, if_neg hn]
        rw [e1]
        exact G3.out
  case rest =>
    obtain ⟨W4, hW4⟩ : ∃ W, W = wc := ⟨_, rfl⟩
    subst hW4
    obtain ⟨ova, hi4, hk4, ho1, ho2⟩ := hcut.out
    have I4 := hid hi4
    have K4 := hid hk4
    have HO := hid (And.intro ho1 ho2)
    obtain ⟨t17, t18⟩ := HT17.out W4 hk4
    have d6 : W4.cell? ⟨db, 6, none⟩ = some (.int .i64 5) := hpCell hi4 6
    have d7 : W4.cell? ⟨db, 7, none⟩ = some (.slice none 0 0) := hpCell hi4 7
    have y6 : W4.frozen? ⟨db, 6, none⟩ = false := hpFree hi4 6
    have y7 : W4.frozen? ⟨db, 7, none⟩ = false := hpFree hi4 7
    clear t15 t16 d3 d4 d5 y3 y4 y5 hi4 hk4 ho1 ho2 hcut HT17
    go_upto_if 19 with (fail)
    go_cut [] from 18 to 23 (fun wc => Hid (∃ sva, TvI wc db (s.dk win 0) ova sva (fun _ => .slice none 0 0) ∧ Keeps (· = db) W4 wc ∧ (H = true → sva = .slice sa sn sc) ∧ (H = false → sva = .slice none 0 0)))
    case first =>
      cases H with
      | true =>
        go_upto_region 5 with (fail)
        go_region
        go_wp2
        go_meet
        case rel =>
          refine ⟨.slice sa sn sc, ?_, (ks1 (ks1 (Keeps.refl _ _) _ _) _ _).trans (Keeps.of_below (F := fun _ => False) (Below.refl _ _).drew) (fun _ _ e => e.elim), fun _ => rfl, fun e => (by cases e)⟩
          have e1 : s.dk win 0 = { s.d2 with srv := 2, sd := s.sd } := by
            unfold Sl.dk Sl.d3
            rw [if_pos HH.out, if_pos HH.out]
            rfl
          rw [e1]
          have x1 := hpSetP (i := 7) (u := .slice sa sn sc) (C := DvC { s.d2 with srv := 2, sd := s.sd } ova (.slice sa sn sc) (fun _ => .slice none 0 0)) (hpSetP (i := 6) (u := .int .i64 2) (C := DvC { s.d2 with srv := 2 } ova (.slice none 0 0) (fun _ => .slice none 0 0)) I4.out rfl) rfl
          exact hpKeep x1 (Below.refl _ _).drew
      | false =>
        go_wp2
        go_meet
        case rel =>
          have hn : ¬ s.hs = true := by rw [HH.out]; decide
          refine ⟨.slice none 0 0, ?_, Keeps.refl _ _, fun e => (by cases e), fun _ => rfl⟩
          have e1 : s.dk win 0 = { s.d2 with srv := 5, sd := [] } := by
            unfold Sl.dk Sl.d3
            rw [if_neg hn, if_neg hn]
            rfl
          rw [e1]
          exact I4.out
    case rest =>
      obtain ⟨W5, hW5⟩ : ∃ W, W = wc := ⟨_, rfl⟩
      subst hW5
      obtain ⟨sva, hi5, hk5, hs1, hs2⟩ := hcut.out
      have I5 := hid hi5
      have K5 : Hid (Keeps (· = db) w3 W5) := K4.out.trans hk5 (fun _ _ e => e)
      have HSV := hid (And.intro hs1 hs2)
      clear hi5 hk5 hs1 hs2 hcut t17 t18 d6 d7 y6 y7
      go_wp2_with fail
      have hd35 : w3.heap.size ≤ W5.heap.size := K5.out.size
      go_loopw [6] (fun iv wr => ∃ (k : Nat) (mv : Nat → Value), iv = .int .i64 (k : Int) ∧ k ≤ 4 ∧ Hid (TvI wr db (s.dk win k) ova sva mv) ∧ Hid (∀ i, i < 4 → Spn w3.heap.size wr (mv i) ((s.dk win k).ts i).map) ∧ Hid (Keeps (· = db) w3 wr)) (fun iv _ => 4 - (intOf iv).toNat)
      case atStart => exact ⟨0, fun _ => .slice none 0 0, rfl, by omega, I5.out, fun i hi => Spn.nil _ _, K5.out⟩
      case round =>
        obtain ⟨k, mv, rfl, hk, hi6, hrw, hkp⟩ := hrel
        have hki : (0 : Int) ≤ (k : Int) := Int.natCast_nonneg _
        have hed := HDE.out
        have hz0 := HZ0.out
        by_cases hlt : k < 4
        · have hkl : (k : Int) < 4 := by omega
          have hbw : Below w.heap.size w wr := (bt HB0.out HB3.out (Nat.le_refl _)).trans (hkp.out.below (by have := HB3.out.size; omega) (fun j hj e => by omega))
          obtain ⟨ra, rc, hrv, -⟩ := id (hR.rg k hlt)
          obtain ⟨rn, hrn⟩ : ∃ n, (s.ts k).rd.length = n := ⟨_, rfl⟩
          rw [hrn] at hrv
          have hwk := hw k hlt
          obtain ⟨b, hb⟩ : ∃ b, (s.ts k).truth ((win k).1, (win k).2) = b := ⟨_, rfl⟩
          have HTB : Hid (Calls Tryz.prog 36 #[.agg #[.bool (s.ts k).sup, .slice ra rn rc, .int .i64 (s.ts k).most], .agg #[.int .i64 (win k).1, .int .i64 (win k).2]] wr.drew (TruPost wr.drew b)) := by
            rw [← hrv]
            exact rtruth_any (s.ts k) (rv k) (win k).1 (win k).2 hwk.1 hwk.2.1 hwk.2.2.1 hwk.2.2.2 wr.drew ((hR.rg k hlt).keep (bt hbw (Below.refl wr.heap.size wr).drew (Nat.le_refl _))) (hg k hlt) b hb
          have hsl : ∀ X, Keeps (· = db) wr X → X.cell? ⟨w.heap.size, 3 + k * 3, none⟩ = some (.bool (s.ts k).sup) ∧ X.cell? ⟨w.heap.size, 3 + k * 3 + 1, none⟩ = some (rv k) ∧ X.cell? ⟨w.heap.size, 3 + k * 3 + 2, none⟩ = some (.int .i64 (s.ts k).most) := fun X hX => SlC_tab s rv _ _ (hpKeeps (hpKeeps PS3.out hkp.out (by omega)) hX (by omega)) hlt
          have hwg : ∀ X, Keeps (· = db) wr X → WgI X (w.heap.size + 1) win := fun X hX => hpKeeps (hpKeeps PG3.out hkp.out (by omega)) hX (by omega)
          have u0 : ∀ X, Keeps (· = db) wr X → X.cell? ⟨w.heap.size, 3 + k * 3, none⟩ = some (.bool (s.ts k).sup) := fun X hX => (hsl X hX).1
          have u1 : ∀ X, Keeps (· = db) wr X → X.cell? ⟨w.heap.size, 3 + k * 3 + 1, none⟩ = some (.slice ra rn rc) := fun X hX => by rw [← hrv]; exact (hsl X hX).2.1
          have u2 : ∀ X, Keeps (· = db) wr X → X.cell? ⟨w.heap.size, 3 + k * 3 + 2, none⟩ = some (.int .i64 (s.ts k).most) := fun X hX => (hsl X hX).2.2
          have v0 : ∀ X, Keeps (· = db) wr X → X.cell? ⟨w.heap.size + 1, k * 2, none⟩ = some (.int .i64 (win k).1) := fun X hX => (hwg X hX).first hlt
          have v1 : ∀ X, Keeps (· = db) wr X → X.cell? ⟨w.heap.size + 1, k * 2 + 1, none⟩ = some (.int .i64 (win k).2) := fun X hX => (hwg X hX).count hlt
          have k0 : Keeps (· = db) wr wr := Keeps.refl _ _
          have kD : Keeps (· = db) wr wr.drew := Keeps.of_below (Below.refl _ _).drew
          have HBE : Hid ((s.dk win k).tab k b = s.dk win (k + 1)) := by show _ = _; rw [← hb]; exact Sl.dk_succ s win k
          have HB1 := hid hb
          clear hsl hwg hrv hrn hwk hb hbw hed hz0
          go_upto_region 9 with (fail)
          go_region_held3 (fun X => Keeps (· = db) wr X) ((with_reducible (first | exact kD | assumption | exact k0 | exact kS3 _ _ _)))
            ((go_at_call 36; (with_reducible refine HTB.out.mono ?_); rintro r w7 ⟨va, vc, rfl, hsp7, hb7⟩; have hB7 : Below wr.heap.size wr w7 := bt (Below.refl _ _).drew hb7 (Nat.le_refl _); have hK7 : Keeps (· = db) wr w7 := Keeps.of_below hB7; have h7 := hi6.out.keep hB7; have c0 := (h7.tab hlt).1; have c1 := (h7.tab hlt).2.1; have c2 := (h7.tab hlt).2.2; have e0 : w7.frozen? ⟨db, 8 + k * 3, none⟩ = false := hpFree h7 _; have e1 : w7.frozen? ⟨db, 8 + k * 3 + 1, none⟩ = false := hpFree h7 _; have e2 : w7.frozen? ⟨db, 8 + k * 3 + 2, none⟩ = false := hpFree h7 _; have kS3 : ∀ a b c, Keeps (· = db) wr (((w7.setCell ⟨db, 8 + k * 3, none⟩ a).setCell ⟨db, 8 + k * 3 + 1, none⟩ b).setCell ⟨db, 8 + k * 3 + 2, none⟩ c) := (fun a b c => ks1 (ks1 (ks1 hK7 _ _) _ _) _ _)))
          all_goals
            have hx := h7.setTab hlt b (.slice va b.map.length vc)
            rw [HBE.out] at hx
            have HX := hid hx
            have HKK := hid (hkp.out.trans (kS3 (.int .i64 b.st) (.int .i64 b.most) (.slice va b.map.length vc)) (fun _ _ e => e))
            have HRW : Hid (∀ i, i < 4 → Spn w3.heap.size (((w7.setCell ⟨db, 8 + k * 3, none⟩ (.int .i64 b.st)).setCell ⟨db, 8 + k * 3 + 1, none⟩ (.int .i64 b.most)).setCell ⟨db, 8 + k * 3 + 2, none⟩ (.slice va b.map.length vc)) ((fun i => if i = k then Value.slice va b.map.length vc else mv i) i) ((s.dk win (k + 1)).ts i).map) := fun i hi => by
              have hks : Keeps (· = db) w7 (((w7.setCell ⟨db, 8 + k * 3, none⟩ (.int .i64 b.st)).setCell ⟨db, 8 + k * 3 + 1, none⟩ (.int .i64 b.most)).setCell ⟨db, 8 + k * 3 + 2, none⟩ (.slice va b.map.length vc)) := ks1 (ks1 (ks1 (Keeps.refl _ _) _ _) _ _) _ _
              have hzz := hkp.out.size
              rw [← HBE.out]
              show Spn _ _ (if i = k then _ else _) _
              by_cases e : i = k
              · subst e
                rw [if_pos rfl, Dv.tab_most]
                refine own_lower (own_keeps hsp7 hks (fun j hj e => ?_)) (by show w3.heap.size ≤ wr.heap.size; omega)
                have h8 : wr.heap.size ≤ j := (hsp7.lt j hj).1
                omega
              · rw [if_neg e]
                have e9 : ((s.dk win k).tab k b).ts i = (s.dk win k).ts i := if_neg e
                rw [e9]
                have h8 := (hrw.out i hi)
                exact (h8.keep hB7).keeps hks (fun j hj e => by have := (h8.lt j hj).1; omega)
            clear hx u0 u1 u2 v0 v1 k0 kD kS3
            go_wp2
            go_roundw
            case rel => exact ⟨k + 1, _, by go_num, by omega, HX.out, HRW.out, HKK.out⟩
            case measure => simp [intOf]; omega
        · obtain rfl : k = 4 := by omega
          have hfin : ∀ X, Below w.heap.size w X → (∀ i, i < 4 → Spn w3.heap.size X (mv i) ((s.dk win 4).ts i).map) → DvRd X (s.dk win 4) ova sva mv := fun X hX hr => by
            refine ⟨?_, ?_, fun i hi => own_lower (hr i hi) (Nat.zero_le _)⟩
            · show Obs X ova (if 0 < s.lv then s.objs else [])
              by_cases hlv : 0 < s.lv
              · rw [if_pos hlv, HO.out.1 hlv]
                exact hR.ob.keep hX
              · rw [if_neg hlv, HO.out.2 (by omega)]
                exact Obs.nil X
            · show Bs X sva (if s.hs = true then s.sd else [])
              rw [HH.out]
              cases H with
              | true =>
                rw [if_pos rfl, HSV.out.1 rfl]
                exact hR.sd.keep hX
              | false =>
                rw [if_neg (by decide), HSV.out.2 rfl]
                exact Bs.nil X
          have hbw : Below w.heap.size w wr := (bt HB0.out HB3.out (Nat.le_refl _)).trans (hkp.out.below (by have := HB3.out.size; omega) (fun j hj e => by omega))
          have hone := DvC_one (hfin wr hbw hrw.out)
          have pR2 := hi6.out
          unfold TvI at pR2
          have pZ2 := hpKeeps PZ3.out hkp.out (fun e => by have := EZB.out; omega)
          have hi21 : (Tryz.prog.info? 61).map (·.size) = some (DvC (s.dk win 4) ova sva mv).size := info21
          have HFIN := hid hfin
          have HBW := hid hbw
          obtain ⟨C, hC⟩ : ∃ C, DvC (s.dk win 4) ova sva mv = C := ⟨_, rfl⟩
          rw [hC] at pR2 hi21 hone
          have hcs : C.size = 21 := by rw [← hC]; rfl
          have HC := hid hC
          clear hC hfin hbw hed hz0
          go_wp2_with (first
            | (refine wpList_load_row rfl 61 (.tmp 5) rfl db rfl 61 C (0, 0) _ pR2 Tryz.underlying61 rfl hi21 ?_)
            | (refine wpList_storeW rfl 61 (.tmp 4) (.tmp 39) rfl zb 0 _ 61 C rfl rfl pZ2 (by simp [hcs]) hi21 hone ?_; intro w8 g8 hk8 hz8))
          have g9 : w8.heap[zb]? = some (.cells C 61) := by
            rw [g8, List.drop_eq_nil_of_le (by simp [hcs])]
            simp
          refine bodyPost_ret (results_cell_row rfl _ _ zb 61 C (0, 0) _ rfl g9 Tryz.underlying61 rfl hi21) rfl ?_
          have hez := EZB.out
          have hde := HDE.out
          have hz0 := HZ0.out
          have hz3 := HB3.out.size
          have hzb := HBW.out.size
          have hb8 : Below w.heap.size w w8 := HBW.out.trans (hk8.below (by omega) (fun j hj e => by omega))
          exact ⟨ova, sva, mv, by rw [← HC.out], HFIN.out w8 hb8 (fun i hi => (hrw.out i hi).keeps hk8 (fun j hj e => by have := ((hrw.out i hi).lt j hj).1; omega)), hb8⟩

end Go.Proofs.YtliblgmpclefgaaGreat
