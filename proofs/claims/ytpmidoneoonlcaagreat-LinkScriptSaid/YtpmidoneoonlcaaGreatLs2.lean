/-
  A row of script operations, element by element.
-/
import Derived.Test.YtpmidoneoonlcaaGreatMrm
import Derived.Test.YtpmidoneoonlcaaGreatMaw
import Derived.Test.YtpmidoneoonlcaaGreatRqm
import Derived.Test.YtpmidoneoonlcaaGreatMbase
namespace Go.Proofs.YtpmidoneoonlcaaGreat
open Go.RowKit

theorem cellsEvS : Tryz.prog.cellsOf 37 = 3 := by kernel_rfl
theorem cellsIS : Tryz.prog.cellsOf 3 = 1 := by kernel_rfl
theorem cellsBS : Tryz.prog.cellsOf 5 = 1 := by kernel_rfl
theorem listOf3S {α : Type} {l : List α} (h : l.length = 3) : ∃ a b c, l = [a, b, c] := by
  match l, h with
  | [a, b, c], _ => exact ⟨a, b, c, rfl⟩
theorem cellsRqS : Tryz.prog.cellsOf 39 = 5 := by kernel_rfl
theorem lst5S {α : Type} {l : List α} (h : l.length = 5) : ∃ a b c d e, l = [a, b, c, d, e] := by
  match l, h with
  | [a, b, c, d, e], _ => exact ⟨a, b, c, d, e, rfl⟩
theorem rq_rdS {w : World} {cs : List Value} (h : Rd Tryz.prog w 39 cs) : ∃ a b c d e : Int, cs = [.int .i64 a, .int .i64 b, .int .i64 c, .int .i64 d, .int .i64 e] := by
  obtain ⟨hl, hf⟩ := h.struct Tryz.underlying39
  rw [cellsRqS] at hl
  obtain ⟨c0, c1, c2, c3, c4, rfl⟩ := lst5S hl
  have f0 := hf _ (List.mem_cons_self ..)
  have f1 := hf _ (List.mem_cons_of_mem _ (List.mem_cons_self ..))
  have f2 := hf _ (List.mem_cons_of_mem _ (List.mem_cons_of_mem _ (List.mem_cons_self ..)))
  have f3 := hf _ (List.mem_cons_of_mem _ (List.mem_cons_of_mem _ (List.mem_cons_of_mem _ (List.mem_cons_self ..))))
  have f4 := hf _ (List.mem_cons_of_mem _ (List.mem_cons_of_mem _ (List.mem_cons_of_mem _ (List.mem_cons_of_mem _ (List.mem_cons_self ..)))))
  simp only [cellsIS, List.drop_zero, List.drop_succ_cons, List.take_succ_cons, List.take_zero] at f0 f1 f2 f3 f4
  obtain ⟨n0, e0, _⟩ := Rd.int Tryz.underlying3 f0
  obtain ⟨n1, e1, _⟩ := Rd.int Tryz.underlying3 f1
  obtain ⟨n2, e2, _⟩ := Rd.int Tryz.underlying3 f2
  obtain ⟨n3, e3, _⟩ := Rd.int Tryz.underlying3 f3
  obtain ⟨n4, e4, _⟩ := Rd.int Tryz.underlying3 f4
  simp only [List.cons.injEq, and_true] at e0 e1 e2 e3 e4
  subst e0; subst e1; subst e2; subst e3; subst e4
  exact ⟨n0, n1, n2, n3, n4, rfl⟩
theorem cellsOp : Tryz.prog.cellsOf 41 = 15 := by kernel_rfl
theorem cellsBo : Tryz.prog.cellsOf 4 = 1 := by kernel_rfl
theorem lst15 {α : Type} {l : List α} (h : l.length = 15) : ∃ a0 a1 a2 a3 a4 a5 a6 a7 a8 a9 a10 a11 a12 a13 a14, l = [a0, a1, a2, a3, a4, a5, a6, a7, a8, a9, a10, a11, a12, a13, a14] := by
  match l, h with
  | [a0, a1, a2, a3, a4, a5, a6, a7, a8, a9, a10, a11, a12, a13, a14], _ => exact ⟨a0, a1, a2, a3, a4, a5, a6, a7, a8, a9, a10, a11, a12, a13, a14, rfl⟩

/-- An operation of a script. -/
structure Sop where
  kd : Int
  un : Int
  fn : Int
  a : Int
  b : Int
  gp : Int
  xt : Int
  xv : UInt8
  xf : Int
  raw : Bool
  q : Rq

def Sop.cells (o : Sop) : Array Value := #[.int .i64 o.kd, .int .i64 o.un, .int .i64 o.fn, .int .i64 o.a, .int .i64 o.b, .int .i64 o.gp, .int .i64 o.xt, .int .u8 (o.xv.toNat : Int), .int .i64 o.xf, .bool o.raw, .int .i64 o.q.fn, .int .i64 o.q.addr, .int .i64 o.q.qty, .int .i64 o.q.code, .int .i64 o.q.obj]
structure Sop.wf (o : Sop) : Prop where
  kd : (Lit.int .i64 o.kd).wf = true
  fn : (Lit.int .i64 o.fn).wf = true
  a : (Lit.int .i64 o.a).wf = true
  b : (Lit.int .i64 o.b).wf = true
  gp : (Lit.int .i64 o.gp).wf = true
  xt : (Lit.int .i64 o.xt).wf = true
def SopAt (w : World) (a : Option Addr) (i : Nat) : Prop :=
  ∃ (bk off : Nat) (o : Sop), a = some ⟨bk, off, none⟩ ∧ o.wf ∧ ∀ j, j < 15 → w.cell? ⟨bk, off + i * 15 + j, none⟩ = o.cells[j]?

theorem ev_rd {w : World} {cs : List Value} (h : Rd Tryz.prog w 37 cs) : ∃ (t : Int) (v : UInt8) (f : Int), cs = [.int .i64 t, .int .u8 (v.toNat : Int), .int .i64 f] ∧ (Lit.int .i64 t).wf = true := by
  obtain ⟨hl, hf⟩ := h.struct Tryz.underlying37
  rw [cellsEvS] at hl
  obtain ⟨d0, d1, d2, rfl⟩ := listOf3S hl
  have f0 := hf _ (List.mem_cons_self ..)
  have f1 := hf _ (List.mem_cons_of_mem _ (List.mem_cons_self ..))
  have f2 := hf _ (List.mem_cons_of_mem _ (List.mem_cons_of_mem _ (List.mem_cons_self ..)))
  simp only [cellsIS, cellsBS, List.drop_zero, List.drop_succ_cons, List.take_succ_cons, List.take_zero] at f0 f1 f2
  obtain ⟨k, hk, wk⟩ := Rd.int Tryz.underlying3 f0
  obtain ⟨n, hn, wn⟩ := Rd.int Tryz.underlying5 f1
  obtain ⟨m, hm', wm⟩ := Rd.int Tryz.underlying3 f2
  simp only [List.cons.injEq, and_true] at hk hn hm'
  subst hk; subst hn; subst hm'
  have hv : 0 ≤ n ∧ n ≤ 255 := by
    have h1 : IntKind.u8.min ≤ n ∧ n ≤ IntKind.u8.max := by simpa [Lit.wf] using wn
    exact ⟨h1.1, h1.2⟩
  exact ⟨k, byteI n, m, by rw [byteI_val hv.1 hv.2], wk⟩

set_option maxRecDepth 100000 in
theorem ops_rd {w : World} {a : Option Addr} {len cap : Nat} (h : Rd Tryz.prog w 22 [.slice a len cap]) : len ≤ cap ∧ cap ≤ maxLen ∧ ∀ i, i < len → SopAt w a i := by
  rcases h.slice Tryz.underlying22 with h | ⟨ad, len', cap', h, hl, hm, hel⟩
  · cases h; exact ⟨Nat.le_refl _, Nat.zero_le _, fun i hi => by omega⟩
  · cases h
    refine ⟨hl, hm, fun i hi => ?_⟩
    obtain ⟨ds, hd, hcell, hr⟩ := hel i hi
    rw [cellsOp] at hd hcell
    obtain ⟨d0, d1, d2, d3, d4, d5, d6, d7, d8, d9, d10, d11, d12, d13, d14, rfl⟩ := lst15 hd
    obtain ⟨_, hf⟩ := hr.struct Tryz.underlying41
    have f0 := hf _ (List.mem_cons_self ..)
    have f1 := hf _ (List.mem_cons_of_mem _ (List.mem_cons_self ..))
    have f2 := hf _ (List.mem_cons_of_mem _ (List.mem_cons_of_mem _ (List.mem_cons_self ..)))
    have f3 := hf _ (List.mem_cons_of_mem _ (List.mem_cons_of_mem _ (List.mem_cons_of_mem _ (List.mem_cons_self ..))))
    have f4 := hf _ (List.mem_cons_of_mem _ (List.mem_cons_of_mem _ (List.mem_cons_of_mem _ (List.mem_cons_of_mem _ (List.mem_cons_self ..)))))
    have f5 := hf _ (List.mem_cons_of_mem _ (List.mem_cons_of_mem _ (List.mem_cons_of_mem _ (List.mem_cons_of_mem _ (List.mem_cons_of_mem _ (List.mem_cons_self ..))))))
    have f6 := hf _ (List.mem_cons_of_mem _ (List.mem_cons_of_mem _ (List.mem_cons_of_mem _ (List.mem_cons_of_mem _ (List.mem_cons_of_mem _ (List.mem_cons_of_mem _ (List.mem_cons_self ..)))))))
    have f7 := hf _ (List.mem_cons_of_mem _ (List.mem_cons_of_mem _ (List.mem_cons_of_mem _ (List.mem_cons_of_mem _ (List.mem_cons_of_mem _ (List.mem_cons_of_mem _ (List.mem_cons_of_mem _ (List.mem_cons_self ..))))))))
    have f8 := hf _ (List.mem_cons_of_mem _ (List.mem_cons_of_mem _ (List.mem_cons_of_mem _ (List.mem_cons_of_mem _ (List.mem_cons_of_mem _ (List.mem_cons_of_mem _ (List.mem_cons_of_mem _ (List.mem_cons_of_mem _ (List.mem_cons_self ..)))))))))
    simp only [cellsIS, cellsEvS, cellsBo, cellsRqS, List.drop_zero, List.drop_succ_cons, List.take_succ_cons, List.take_zero] at f0 f1 f2 f3 f4 f5 f6 f7 f8
    obtain ⟨n0, e0, w0⟩ := Rd.int Tryz.underlying3 f0
    obtain ⟨n1, e1, w1⟩ := Rd.int Tryz.underlying3 f1
    obtain ⟨n2, e2, w2⟩ := Rd.int Tryz.underlying3 f2
    obtain ⟨n3, e3, w3⟩ := Rd.int Tryz.underlying3 f3
    obtain ⟨n4, e4, w4⟩ := Rd.int Tryz.underlying3 f4
    obtain ⟨n5, e5, w5⟩ := Rd.int Tryz.underlying3 f5
    obtain ⟨xt, xv, xf, e6, w6⟩ := ev_rd f6
    obtain ⟨rb, e7⟩ := Rd.bool Tryz.underlying4 f7
    obtain ⟨q0, q1, q2, q3, q4, e8⟩ := rq_rdS f8
    simp only [List.cons.injEq, and_true] at e0 e1 e2 e3 e4 e5 e6 e7 e8
    obtain ⟨e6, e6b, e6c⟩ := e6
    obtain ⟨e8, e8b, e8c, e8d, e8e⟩ := e8
    subst e0; subst e1; subst e2; subst e3; subst e4; subst e5; subst e6; subst e6b; subst e6c; subst e7; subst e8; subst e8b; subst e8c; subst e8d; subst e8e
    have hs2 : ad = ⟨ad.block, ad.off, none⟩ := by
      obtain ⟨es, he, hcell0, _⟩ := hel 0 (by omega)
      rw [cellsOp] at he hcell0
      obtain ⟨u0, u1, u2, u3, u4, u5, u6, u7, u8, u9, u10, u11, u12, u13, u14, rfl⟩ := lst15 he
      have h0 := hcell0 0 (by omega)
      exact spot_of (v := u0) (by simpa [Addr.add] using h0)
    refine ⟨ad.block, ad.off, ⟨n0, n1, n2, n3, n4, n5, xt, xv, xf, rb, ⟨q0, q1, q2, q3, q4⟩⟩, by rw [← hs2], ⟨w0, w2, w3, w4, w5, w6⟩, fun j hj => ?_⟩
    have hc := hcell j hj
    rw [hs2, add_lit, add_lit] at hc
    rw [hc]
    have hk : j = 0 ∨ j = 1 ∨ j = 2 ∨ j = 3 ∨ j = 4 ∨ j = 5 ∨ j = 6 ∨ j = 7 ∨ j = 8 ∨ j = 9 ∨ j = 10 ∨ j = 11 ∨ j = 12 ∨ j = 13 ∨ j = 14 := by omega
    rcases hk with h | h | h | h | h | h | h | h | h | h | h | h | h | h | h <;> subst h <;> rfl

end Go.Proofs.YtpmidoneoonlcaaGreat
