/-
  Texts 6 of the claim.
-/
import Derived.Test.YtpkheiaanjhffaaGreatU04
import Derived.Deep.CutRange
import Derived.Test.YtpkheiaanjhffaaGreatU03
import Derived.OpenShut
import Derived.Test.YtpkheiaanjhffaaGreatU05
import Derived.BigQuiet
namespace Go.Proofs.YtpkheiaanjhffaaGreat
open Go.RowKit
structure Tbl where
  sup : Bool
  rd : List (Int × Int)
  most : Int
structure Sl where
  bd : Int
  pa : Int
  un : Int
  ts : Nat → Tbl
  lv : Int
  objs : List Ob
  hs : Bool
  sd : List UInt8
def inR (rd : List (Int × Int)) (a : Int) : Bool := rd.any (fun r => decide (r.1 ≤ a) && decide (a - r.1 < r.2))
def kindAt (rd : List (Int × Int)) (a : Int) : Int := if inR rd a = true then 1 else 2
def kindsOf (rd : List (Int × Int)) (a : Int) : Nat → List Int
  | 0 => []
  | n + 1 => kindsOf rd a n ++ [kindAt rd (a + (n : Nat))]
def allR (rd : List (Int × Int)) (a : Int) (n : Nat) : Prop := ∀ i : Nat, i < n → inR rd (a + (i : Nat)) = true
structure Sl.ok (s : Sl) : Prop where
  tb : ∀ k, k < 4 → (s.ts k).sup = true → 1 ≤ (s.ts k).most ∧ (s.ts k).most ≤ limI ((k : Nat) + 1)
  lv : 0 ≤ s.lv
  ob : 0 < s.lv → s.objs ≠ [] ∧ s.objs.length ≤ 16 ∧ ordF (-1) s.objs = true ∧ ∀ y ∈ s.objs, y.id ≤ 255
  sd : s.hs = true → 0 < s.sd.length
def Tbl.truth (t : Tbl) (w : Int × Int) : Tb := if w.2 = 0 then ⟨6, 0, []⟩ else if t.sup = true then ⟨2, t.most, rle (kindsOf t.rd w.1 w.2.toNat)⟩ else ⟨5, 0, []⟩
def Sl.d1 : Dv := { Dv.zero with st := 2 }
def Sl.d2 (s : Sl) : Dv := { Sl.d1 with idn := if 0 < s.lv then 2 else 5, lv := if 0 < s.lv then s.lv else 0, objs := if 0 < s.lv then s.objs else [] }
def Sl.d3 (s : Sl) : Dv := { s.d2 with srv := if s.hs = true then 2 else 5, sd := if s.hs = true then s.sd else [] }
def Sl.dk (s : Sl) (win : Nat → Int × Int) (k : Nat) : Dv := { s.d3 with ts := fun i => if i < k then (s.ts i).truth (win i) else ⟨0, 0, []⟩ }
theorem cellsRgs : Tryz.prog.cellsOf 31 = 1 := by kernel_rfl
theorem cellsRg : Tryz.prog.cellsOf 130 = 2 := by kernel_rfl
theorem cellsTb : Tryz.prog.cellsOf 33 = 3 := by kernel_rfl
theorem cellsTb4 : Tryz.prog.cellsOf 34 = 12 := by kernel_rfl
theorem cellsSt : Tryz.prog.cellsOf 30 = 2 := by kernel_rfl
theorem cellsSl : Tryz.prog.cellsOf 38 = 19 := by kernel_rfl
def RgR (_ : World) (cs : List Value) (x : Int × Int) : Prop := cs = [.int .i64 x.1, .int .i64 x.2] ∧ wfI x.1 ∧ wfI x.2
def Rgs (w : World) (v : Value) (l : List (Int × Int)) : Prop := Sls 2 RgR w v l
theorem Rgs.keep {w w' : World} {v : Value} {l : List (Int × Int)} (h : Rgs w v l) (hb : Below w.heap.size w w') : Rgs w' v l := Sls.keep (fun _ _ _ _ h _ => h) h hb
theorem int_rd {w : World} {v : Value} (h : Rd Tryz.prog w 3 [v]) : ∃ n : Int, v = .int .i64 n ∧ wfI n := by
  obtain ⟨n, e, hw⟩ := Rd.int Tryz.underlying3 h
  simp only [List.cons.injEq, and_true] at e
  have hb := bounds_i64 hw
  exact ⟨n, e, by unfold wfI; omega⟩
theorem bool_rd {w : World} {v : Value} (h : Rd Tryz.prog w 4 [v]) : ∃ b : Bool, v = .bool b := by
  obtain ⟨b, e⟩ := Rd.bool Tryz.underlying4 h
  simp only [List.cons.injEq, and_true] at e
  exact ⟨b, e⟩
theorem rg_rd {w : World} {cs : List Value} (h : Rd Tryz.prog w 130 cs) : ∃ x, RgR w cs x := by
  obtain ⟨hl, hf⟩ := h.struct Tryz.underlying130
  rw [cellsRg] at hl
  obtain ⟨c0, c1, rfl⟩ := lst2 hl
  have f0 := hf _ (List.mem_cons_self ..)
  have f1 := hf _ (List.mem_cons_of_mem _ (List.mem_cons_self ..))
  simp only [cellsInt, List.drop_zero, List.drop_succ_cons, List.take_succ_cons, List.take_zero] at f0 f1
  obtain ⟨a, rfl, w0⟩ := int_rd f0
  obtain ⟨b, rfl, w1⟩ := int_rd f1
  exact ⟨(a, b), rfl, w0, w1⟩
theorem rgs_rd {w : World} {v : Value} (h : Rd Tryz.prog w 31 [v]) : ∃ l, Rgs w v l :=
  Sls.of_rd (R := RgR) Tryz.underlying31 cellsRg (by decide) (fun _ h => rg_rd h) h
theorem lst3 {α : Type} {l : List α} (h : l.length = 3) : ∃ a b c, l = [a, b, c] := by
  match l, h with
  | [a, b, c], _ => exact ⟨a, b, c, rfl⟩
theorem lst19 {α : Type} {l : List α} (h : l.length = 19) : ∃ a b c d e f g i j k m n o p q r s t u, l = [a, b, c, d, e, f, g, i, j, k, m, n, o, p, q, r, s, t, u] := by
  match l, h with
  | [a, b, c, d, e, f, g, i, j, k, m, n, o, p, q, r, s, t, u], _ => exact ⟨a, b, c, d, e, f, g, i, j, k, m, n, o, p, q, r, s, t, u, rfl⟩
theorem tb_rd {w : World} {cs : List Value} (h : Rd Tryz.prog w 33 cs) : ∃ (t : Tbl) (v : Value), cs = [.bool t.sup, v, .int .i64 t.most] ∧ Rgs w v t.rd ∧ wfI t.most := by
  obtain ⟨hl, hf⟩ := h.struct Tryz.underlying33
  rw [cellsTb] at hl
  obtain ⟨c0, c1, c2, rfl⟩ := lst3 hl
  have f0 := hf _ (List.mem_cons_self ..)
  have f1 := hf _ (List.mem_cons_of_mem _ (List.mem_cons_self ..))
  have f2 := hf _ (List.mem_cons_of_mem _ (List.mem_cons_of_mem _ (List.mem_cons_self ..)))
  simp only [cellsInt, cellsBool, cellsRgs, List.drop_zero, List.drop_succ_cons, List.take_succ_cons, List.take_zero] at f0 f1 f2
  obtain ⟨a, rfl⟩ := bool_rd f0
  obtain ⟨l, hr⟩ := rgs_rd f1
  obtain ⟨b, rfl, w1⟩ := int_rd f2
  exact ⟨⟨a, l, b⟩, c1, rfl, hr, w1⟩
def SlC (s : Sl) (rv : Nat → Value) (ov sv : Value) : Array Value :=
  #[.int .i64 s.bd, .int .i64 s.pa, .int .i64 s.un, .bool (s.ts 0).sup, rv 0, .int .i64 (s.ts 0).most, .bool (s.ts 1).sup, rv 1, .int .i64 (s.ts 1).most, .bool (s.ts 2).sup, rv 2, .int .i64 (s.ts 2).most, .bool (s.ts 3).sup, rv 3, .int .i64 (s.ts 3).most, .int .i64 s.lv, ov, .bool s.hs, sv]
structure SlR (w : World) (s : Sl) (rv : Nat → Value) (ov sv : Value) : Prop where
  rg : ∀ k, k < 4 → Rgs w (rv k) (s.ts k).rd
  ob : Obs w ov s.objs
  sd : Bs w sv s.sd
  mo : ∀ k, k < 4 → wfI (s.ts k).most
  un : wfI s.un
  lv : wfI s.lv
  bd : wfI s.bd
  pa : wfI s.pa
theorem SlR.keep {w w' : World} {s : Sl} {rv : Nat → Value} {ov sv : Value} (h : SlR w s rv ov sv) (hb : Below w.heap.size w w') : SlR w' s rv ov sv :=
  ⟨fun k hk => (h.rg k hk).keep hb, h.ob.keep hb, h.sd.keep hb, h.mo, h.un, h.lv, h.bd, h.pa⟩
def mk4 {α : Type} (a b c d : α) : Nat → α
  | 0 => a
  | 1 => b
  | 2 => c
  | _ => d
theorem sl_rd {w : World} {cs : Array Value} (h : Rd Tryz.prog w 38 cs.toList) : ∃ s rv ov sv, cs = SlC s rv ov sv ∧ SlR w s rv ov sv := by
  obtain ⟨hl, hf⟩ := h.struct Tryz.underlying38
  rw [cellsSl] at hl
  obtain ⟨cl⟩ := cs
  obtain ⟨c0, c1, c2, c3, c4, c5, c6, c7, c8, c9, c10, c11, c12, c13, c14, c15, c16, c17, c18, rfl⟩ := lst19 hl
  have f0 := hf _ (List.mem_cons_self ..)
  have f1 := hf _ (List.mem_cons_of_mem _ (List.mem_cons_self ..))
  have f2 := hf _ (List.mem_cons_of_mem _ (List.mem_cons_of_mem _ (List.mem_cons_self ..)))
  have f3 := hf _ (List.mem_cons_of_mem _ (List.mem_cons_of_mem _ (List.mem_cons_of_mem _ (List.mem_cons_self ..))))
  have f4 := hf _ (List.mem_cons_of_mem _ (List.mem_cons_of_mem _ (List.mem_cons_of_mem _ (List.mem_cons_of_mem _ (List.mem_cons_self ..)))))
  have f5 := hf _ (List.mem_cons_of_mem _ (List.mem_cons_of_mem _ (List.mem_cons_of_mem _ (List.mem_cons_of_mem _ (List.mem_cons_of_mem _ (List.mem_cons_self ..))))))
  have f6 := hf _ (List.mem_cons_of_mem _ (List.mem_cons_of_mem _ (List.mem_cons_of_mem _ (List.mem_cons_of_mem _ (List.mem_cons_of_mem _ (List.mem_cons_of_mem _ (List.mem_cons_self ..)))))))
  simp only [cellsInt, cellsBool, cellsBytes, cellsObs, cellsSt, cellsTb4, List.drop_zero, List.drop_succ_cons, List.take_succ_cons, List.take_zero] at f0 f1 f2 f3 f4 f5 f6
  obtain ⟨hl0, g0⟩ := f0.struct Tryz.underlying30
  have s0 := g0 _ (List.mem_cons_self ..)
  have s1 := g0 _ (List.mem_cons_of_mem _ (List.mem_cons_self ..))
  simp only [cellsInt, List.drop_zero, List.drop_succ_cons, List.take_succ_cons, List.take_zero] at s0 s1
  obtain ⟨b0, rfl, w0⟩ := int_rd s0
  obtain ⟨b1, rfl, w1⟩ := int_rd s1
  obtain ⟨b2, rfl, w2⟩ := int_rd f1
  obtain ⟨hl2, g2⟩ := f2.array Tryz.underlying34
  have t0 := g2 0 (by decide)
  have t1 := g2 1 (by decide)
  have t2 := g2 2 (by decide)
  have t3 := g2 3 (by decide)
  simp only [cellsTb, Nat.zero_mul, Nat.reduceMul, List.drop_zero, List.drop_succ_cons, List.take_succ_cons, List.take_zero] at t0 t1 t2 t3
  obtain ⟨x0, v0, e0, r0, m0⟩ := tb_rd t0
  obtain ⟨x1, v1, e1, r1, m1⟩ := tb_rd t1
  obtain ⟨x2, v2, e2, r2, m2⟩ := tb_rd t2
  obtain ⟨x3, v3, e3, r3, m3⟩ := tb_rd t3
  obtain ⟨b3, rfl, w3⟩ := int_rd f3
  obtain ⟨os, ho⟩ := Obs.of_rd f4
  obtain ⟨b5, rfl⟩ := bool_rd f5
  obtain ⟨ds, hd⟩ := Bs.of_rd Tryz.underlying36 Tryz.underlying5 cellsU8 f6
  simp only [List.cons.injEq, and_true] at e0 e1 e2 e3
  obtain ⟨rfl, rfl, rfl⟩ := e0
  obtain ⟨rfl, rfl, rfl⟩ := e1
  obtain ⟨rfl, rfl, rfl⟩ := e2
  obtain ⟨rfl, rfl, rfl⟩ := e3
  refine ⟨⟨b0, b1, b2, mk4 x0 x1 x2 x3, b3, os, b5, ds⟩, mk4 _ _ _ _, _, _, rfl, fun k hk => ?_, ho, hd, fun k hk => ?_, w2, w3, w0, w1⟩
  · match k, hk with
    | 0, _ => exact r0
    | 1, _ => exact r1
    | 2, _ => exact r2
    | 3, _ => exact r3
  · match k, hk with
    | 0, _ => exact m0
    | 1, _ => exact m1
    | 2, _ => exact m2
    | 3, _ => exact m3
def rgsFrom (e : Int) : List (Int × Int) → Bool
  | [] => true
  | r :: l => !(decide (r.1 ≤ e) || decide (r.1 < 0) || decide (65536 ≤ r.1) || decide (r.2 < 1) || decide (65536 - r.1 < r.2)) && rgsFrom (r.1 + r.2) l
def rgOk (e : Int) (x : Int × Int) : Prop := ¬ x.1 ≤ e ∧ ¬ x.1 < 0 ∧ ¬ 65536 ≤ x.1 ∧ ¬ x.2 < 1 ∧ ¬ 65536 - x.1 < x.2
theorem rgsFrom_ok {e : Int} {x : Int × Int} {l : List (Int × Int)} (h : rgOk e x) : rgsFrom e (x :: l) = rgsFrom (x.1 + x.2) l := by
  obtain ⟨h1, h2, h3, h4, h5⟩ := h
  simp only [rgsFrom, decide_eq_false h1, decide_eq_false h2, decide_eq_false h3, decide_eq_false h4, decide_eq_false h5]
  rfl
theorem rgsFrom_bad {e : Int} {x : Int × Int} {l : List (Int × Int)} (h : ¬ rgOk e x) : rgsFrom e (x :: l) = false := by
  cases hh : rgsFrom e (x :: l) with
  | false => rfl
  | true =>
    exfalso
    simp only [rgsFrom, Bool.and_eq_true, Bool.not_eq_true', Bool.or_eq_false_iff, decide_eq_false_iff_not] at hh
    obtain ⟨⟨⟨⟨⟨h1, h2⟩, h3⟩, h4⟩, h5⟩, _⟩ := hh
    exact h ⟨h1, h2, h3, h4, h5⟩
theorem badR {e : Int} {x : Int × Int} (h : ¬ rgOk e x) : x.1 ≤ e ∨ (¬ x.1 ≤ e ∧ x.1 < 0) ∨ (¬ x.1 ≤ e ∧ ¬ x.1 < 0 ∧ 65536 ≤ x.1) ∨ (¬ x.1 ≤ e ∧ ¬ x.1 < 0 ∧ ¬ 65536 ≤ x.1 ∧ x.2 < 1) ∨ (¬ x.1 ≤ e ∧ ¬ x.1 < 0 ∧ ¬ 65536 ≤ x.1 ∧ ¬ x.2 < 1 ∧ 65536 - x.1 < x.2) := by
  unfold rgOk at h
  omega
theorem Rgs.at {w : World} {v : Value} {l : List (Int × Int)} (h : Rgs w v l) {k : Nat} {x : Int × Int} (hx : l[k]? = some x) :
    ∃ b o c, v = .slice (some ⟨b, o, none⟩) l.length c ∧ wfI x.1 ∧ wfI x.2 ∧ ∀ W, Below w.heap.size w W → W.cell? ⟨b, o + k * 2, none⟩ = some (.int .i64 x.1) ∧ W.cell? ⟨b, o + k * 2 + 1, none⟩ = some (.int .i64 x.2) := by
  obtain ⟨a, c, rfl, h1, h2, h3, h4⟩ := h
  obtain ⟨b, o, rfl, hel⟩ := h4 (by rintro rfl; simp at hx)
  obtain ⟨r, hr, ⟨rfl, w1, w2⟩, hc⟩ := hel k x hx
  exact ⟨b, o, c, rfl, w1, w2, fun W hW => ⟨cell_keep hW (hc 0 _ rfl), cell_keep hW (hc 1 _ rfl)⟩⟩
set_option maxRecDepth 100000 in
set_option maxHeartbeats 6400000 in
theorem rgs_valid (v : Value) (l : List (Int × Int)) (w : World) (hl : Rgs w v l) (V : Bool) (hV : Hid (rgsFrom (-1) l = V)) :
    Calls Tryz.prog 67 #[v] w (BoolPost w V) := by
  have HL := hid hl
  obtain ⟨a, c, rfl, hnc, hcm, -⟩ := id hl
  obtain ⟨n, hn⟩ : ∃ n, l.length = n := ⟨_, rfl⟩
  have HN := hid hn
  rw [hn] at hnc ⊢
  clear hl hn
  go_enter Tryz.func67, Tryz.ntmps67
  go_wp2_with fail
  go_loopw [3, 4] (fun ev iv wr => ∃ (k : Nat) (e : Int), k ≤ n ∧ ev = .int .i64 e ∧ iv = .int .i64 (k : Int) ∧ -1 ≤ e ∧ e ≤ 65536 ∧ Hid (rgsFrom e (l.drop k) = V) ∧ Below w.heap.size w wr) (fun _ iv _ => n - (intOf iv).toNat)
  case atStart => exact ⟨0, -1, Nat.zero_le _, rfl, rfl, by decide, by decide, hV.out, Below.refl _ _⟩
  case round =>
    obtain ⟨k, e, hk, rfl, rfl, he0, he1, hv, hbw⟩ := hrel
    have hki : (0 : Int) ≤ (k : Int) := Int.natCast_nonneg _
    have hnn : n ≤ 9223372036854775807 := by unfold maxLen at hcm; omega
    by_cases hlt : k < n
    · obtain ⟨x, hx⟩ := gs (l := l) HN.out hlt
      obtain ⟨b, o, c', hv', w1, w2, hcl⟩ := HL.out.at hx
      rw [HN.out] at hv'
      simp only [Value.slice.injEq, true_and] at hv'
      obtain ⟨rfl, rfl⟩ := hv'
      have hkl : (k : Int) < (n : Int) := by omega
      obtain ⟨y0, y1⟩ := hcl wr hbw
      have hdr : l.drop k = x :: l.drop (k + 1) := by
        rw [List.drop_eq_getElem_cons (by have := HN.out; omega)]
        congr 1
        rw [List.getElem?_eq_getElem (by have := HN.out; omega)] at hx
        exact Option.some.inj hx
      have hve := hv.out
      rw [hdr] at hve
      obtain ⟨xf, xc⟩ := x
      dsimp only at y0 y1 w1 w2
      by_cases hg : rgOk e (xf, xc)
      · rw [rgsFrom_ok hg] at hve
        obtain ⟨h1, h2, h3, h4, h5⟩ := hg
        dsimp only at h1 h2 h3 h4 h5 hve
        have a1 : decide (xf ≤ e) = false := decide_eq_false h1
        have a2 : decide (xf < 0) = false := decide_eq_false h2
        have a3 : decide (65536 ≤ xf) = false := decide_eq_false h3
        have a4 : decide (xc < 1) = false := decide_eq_false h4
        obtain ⟨f, hf⟩ : ∃ f, 65536 - xf = f := ⟨_, rfl⟩
        have a5 : decide (f < xc) = false := decide_eq_false (by omega)
        have s1 : IntKind.i64.wrap (65536 - xf) = f := (IntWalk.i64_in _ (by omega)).trans hf
        obtain ⟨e2, he2⟩ : ∃ e, xf + xc = e := ⟨_, rfl⟩
        have s2 : IntKind.i64.wrap (xf + xc) = e2 := (IntWalk.i64_in _ (by omega)).trans he2
        have hb2 : -1 ≤ e2 ∧ e2 ≤ 65536 := by omega
        rw [he2] at hve
        have HVE := hid hve
        clear h1 h2 h3 h4 h5 hf he2 hve hv hx hdr hcl w1 w2
        go_upto_region 5 with (fail)
        go_quiet (fail)
        have hbq : Below w.heap.size w (wr.drewN nq) := below_drewN hbw _
        have y0' : (wr.drewN nq).cell? ⟨b, o + k * 2, none⟩ = some (.int .i64 xf) := cell_keep (below_drewN (Below.refl _ _) _) y0
        have y1' : (wr.drewN nq).cell? ⟨b, o + k * 2 + 1, none⟩ = some (.int .i64 xc) := cell_keep (below_drewN (Below.refl _ _) _) y1
        generalize wr.drewN nq = wq at *
        go_upto_region 7 with (fail)
        go_quiet (fail)
        go_wp2
        go_roundw
        case rel => exact ⟨k + 1, e2, by omega, rfl, by go_num, hb2.1, hb2.2, HVE.out, below_drewN hbq _⟩
        case measure => simp [intOf]; omega
      · rw [rgsFrom_bad hg] at hve
        have HV : Hid (V = false) := hve.symm
        have hb := badR hg
        dsimp only at hb
        clear hg hve hv hx hdr hcl
        rcases hb with h1 | ⟨h1, h2⟩ | ⟨h1, h2, h3⟩ | ⟨h1, h2, h3, h4⟩ | ⟨h1, h2, h3, h4, h5⟩
        · have a1 : decide (xf ≤ e) = true := decide_eq_true h1
          clear h1
          go_upto_region 5 with (fail); go_quiet (fail); go_wp2; go_ret; exact ⟨ret_bool HV.out.symm, below_drewN hbw _⟩
        · have a1 : decide (xf ≤ e) = false := decide_eq_false h1
          have a2 : decide (xf < 0) = true := decide_eq_true h2
          clear h1 h2
          go_upto_region 5 with (fail); go_quiet (fail); go_wp2; go_ret; exact ⟨ret_bool HV.out.symm, below_drewN hbw _⟩
        · have a1 : decide (xf ≤ e) = false := decide_eq_false h1
          have a2 : decide (xf < 0) = false := decide_eq_false h2
          have a3 : decide (65536 ≤ xf) = true := decide_eq_true h3
          clear h1 h2 h3
          go_upto_region 5 with (fail); go_quiet (fail); go_wp2; go_ret; exact ⟨ret_bool HV.out.symm, below_drewN hbw _⟩
        · have a1 : decide (xf ≤ e) = false := decide_eq_false h1
          have a2 : decide (xf < 0) = false := decide_eq_false h2
          have a3 : decide (65536 ≤ xf) = false := decide_eq_false h3
          have a4 : decide (xc < 1) = true := decide_eq_true h4
          clear h1 h2 h3 h4
          go_upto_region 5 with (fail); go_quiet (fail); go_wp2; go_ret; exact ⟨ret_bool HV.out.symm, below_drewN hbw _⟩
        · have a1 : decide (xf ≤ e) = false := decide_eq_false h1
          have a2 : decide (xf < 0) = false := decide_eq_false h2
          have a3 : decide (65536 ≤ xf) = false := decide_eq_false h3
          have a4 : decide (xc < 1) = false := decide_eq_false h4
          obtain ⟨f, hf⟩ : ∃ f, 65536 - xf = f := ⟨_, rfl⟩
          have a5 : decide (f < xc) = true := decide_eq_true (by omega)
          have s1 : IntKind.i64.wrap (65536 - xf) = f := (IntWalk.i64_in _ (by omega)).trans hf
          clear h1 h2 h3 h4 h5 hf
          go_upto_region 5 with (fail); go_quiet (fail); go_wp2; go_ret; exact ⟨ret_bool HV.out.symm, below_drewN hbw _⟩
    · obtain rfl : k = n := by omega
      have HV : Hid (true = V) := by
        have h1 := hv.out
        rw [List.drop_eq_nil_of_le (by rw [HN.out]; exact Nat.le_refl _)] at h1
        exact h1
      clear hv
      go_wp2
      go_ret
      exact ⟨ret_bool HV.out, hbw⟩
theorem rgsFrom_mem {e : Int} : ∀ {l : List (Int × Int)}, rgsFrom e l = true → ∀ x ∈ l, 0 ≤ x.1 ∧ x.1 < 65536 ∧ 1 ≤ x.2 ∧ x.2 ≤ 65536 - x.1
  | [], _, x, hx => by cases hx
  | r :: l, h, x, hx => by
    by_cases hg : rgOk e r
    · rw [rgsFrom_ok hg] at h
      rcases List.mem_cons.1 hx with rfl | hx
      · obtain ⟨h1, h2, h3, h4, h5⟩ := hg
        omega
      · exact rgsFrom_mem h x hx
    · rw [rgsFrom_bad hg] at h
      cases h
def SetPost (w : World) (b p : Int) (r : Ending) (w' : World) : Prop := ∃ V : Bool, r = .returned (.bool V) ∧ Hid (V = true ↔ Okset b p) ∧ Below w.heap.size w w'
theorem SetPost.mk {w w' : World} {b p : Int} (V : Bool) (h : V = true ↔ Okset b p) (hb : Below w.heap.size w w') : SetPost w b p (.returned (.bool V)) w' := ⟨V, rfl, h, hb⟩
set_option maxRecDepth 100000 in
set_option maxHeartbeats 3200000 in
theorem rvalid_set (b p : Int) (w : World) : Calls Tryz.prog 49 #[.agg #[.int .i64 b, .int .i64 p]] w (SetPost w b p) := by
  go_enter Tryz.func49, Tryz.ntmps49
  go_wp2_with fail
  refine (rall_any _).mono ?_
  rintro r w1 ⟨v, rfl, hown, hb1⟩
  obtain ⟨g, c, rfl, hnc, hcm, hel⟩ := own_setting hown (by decide)
  have HE := hid hel
  have q0 := hpCell (hpKeep (hpNew w _) hb1) 0
  have q1 := hpCell (hpKeep (hpNew w _) hb1) 1
  unfold maxLen at hcm
  have hbw := bt (bal' w _) hb1 (Nat.le_refl _)
  clear hel hown hb1
  go_wp2
  go_loopw [4] (fun i wr => ∃ k : Nat, k ≤ 24 ∧ i = .int .i64 k ∧ Hid (∀ j, j < k → allS[j]? ≠ some (b, p)) ∧ ∃ n, wr = w1.drewN n) (fun i _ => 24 - (intOf i).toNat)
  case atStart => exact ⟨0, by omega, rfl, fun j hj => absurd hj (by omega), 0, rfl⟩
  case round =>
    obtain ⟨k, hk, rfl, hno, nd, rfl⟩ := hrel
    by_cases hlt : k < 24
    · have hkl : (k : Int) < 24 := by omega
      obtain ⟨x, hgx⟩ : ∃ x, allS[k]? = some x := ⟨_, List.getElem?_eq_getElem (show k < allS.length by rw [allS_len]; exact hlt)⟩
      obtain ⟨e0, e1⟩ := HE.out k x hgx
      have HG := hid hgx
      clear hgx
      obtain ⟨x1, x2⟩ := x
      by_cases hx : x1 = b ∧ x2 = p
      · obtain ⟨d1, d2⟩ : (x1 == b) = true ∧ (x2 == p) = true := ⟨by rw [beq_iff_eq]; exact hx.1, by rw [beq_iff_eq]; exact hx.2⟩
        have HXX := hid hx
        clear hx
        go_wp2
        go_quiet (fail)
        go_wp2
        go_ret
        exact SetPost.mk true ⟨fun _ => by have := allS_ok (List.mem_of_getElem? HG.out); rw [← HXX.out.1, ← HXX.out.2]; exact this, fun _ => rfl⟩ (below_drewN (below_drewN hbw _) _)
      · have HN : Hid (∀ j, j < k + 1 → allS[j]? ≠ some (b, p)) := by
          intro j hj e
          by_cases hjk : j = k
          · subst hjk
            rw [HG.out] at e
            cases e
            exact hx ⟨rfl, rfl⟩
          · exact hno.out j (by omega) e
        rcases (show (x1 == b) = false ∨ ((x1 == b) = true ∧ (x2 == p) = false) by
          by_cases h1 : x1 = b
          · exact .inr ⟨by rw [beq_iff_eq]; exact h1, by rw [beq_eq_false_iff_ne]; exact fun h2 => hx ⟨h1, h2⟩⟩
          · exact .inl (by rw [beq_eq_false_iff_ne]; exact h1)) with d1 | ⟨d1, d2⟩
        all_goals
          clear hx
          go_wp2
          go_quiet (fail)
          go_wp2
          go_roundw
          case rel => exact ⟨k + 1, by omega, by go_num, HN, nd + nq, rfl⟩
          case measure => simp [intOf]; omega
    · obtain rfl : k = 24 := by omega
      go_wp2
      go_ret
      refine SetPost.mk false ⟨fun e => (by cases e), fun h => ?_⟩ (below_drewN hbw _)
      obtain ⟨j, hj⟩ := List.getElem?_of_mem (allS_mem h)
      exact absurd hj (hno.out j (by have := (List.getElem?_eq_some_iff.1 hj).1; rw [allS_len] at this; exact this))
end Go.Proofs.YtpkheiaanjhffaaGreat
