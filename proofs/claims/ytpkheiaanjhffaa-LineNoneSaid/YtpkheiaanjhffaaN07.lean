/-
  Texts 7 of the claim.
-/
import Derived.Test.YtpkheiaanjhffaaN06
import Derived.Deep.OwnRows
import Derived.Deep.QuietTactic
import Derived.BigQuiet
import Derived.Test.YtpkheiaanjhffaaN04
import Derived.Deep.RegionHeldLaw
import Derived.Deep.RegionLaw
import Derived.Deep.CutRange
import Derived.Deep.CutBlock
import Derived.Laws.Rows
namespace Go.Proofs.Ytpkheiaanjhffaa
open Go.RowKit
def setV : List (Int × Int) → List Value
  | [] => []
  | x :: l => .int .i64 x.1 :: .int .i64 x.2 :: setV l
theorem setV_length (l : List (Int × Int)) : (setV l).length = l.length * 2 := by
  induction l with
  | nil => rfl
  | cons x l ih => simp [setV, ih]; omega
theorem setV_get : ∀ (l : List (Int × Int)) (i : Nat) (x : Int × Int), l[i]? = some x → (setV l)[i * 2]? = some (.int .i64 x.1) ∧ (setV l)[i * 2 + 1]? = some (.int .i64 x.2)
  | [], i, x, h => by simp at h
  | y :: l, 0, x, h => by
    simp at h
    subst h
    exact ⟨rfl, rfl⟩
  | y :: l, i + 1, x, h => by
    have := setV_get l i x (by simpa using h)
    rw [show (i + 1) * 2 = i * 2 + 2 by omega]
    exact this
def frameT (b : Int) (n : Nat) : Int := n * charT b
end Go.Proofs.Ytpkheiaanjhffaa

namespace Go.Proofs.Ytpkheiaanjhffaa
open Go.RowKit
structure Tbl where
  sup : Bool
  rd : List (Int × Int)
  most : Int
structure Sl where
  bd : Int
  pa : Int
  un : Int
  ts : Nat → Tbl
  lv : Int
  objs : List Ob
  hs : Bool
  sd : List UInt8
def inR (rd : List (Int × Int)) (a : Int) : Bool := rd.any (fun r => decide (r.1 ≤ a) && decide (a - r.1 < r.2))
def kindAt (rd : List (Int × Int)) (a : Int) : Int := if inR rd a = true then 1 else 2
def kindsOf (rd : List (Int × Int)) (a : Int) : Nat → List Int
  | 0 => []
  | n + 1 => kindsOf rd a n ++ [kindAt rd (a + (n : Nat))]
def allR (rd : List (Int × Int)) (a : Int) (n : Nat) : Prop := ∀ i : Nat, i < n → inR rd (a + (i : Nat)) = true
structure Sl.ok (s : Sl) : Prop where
  tb : ∀ k, k < 4 → (s.ts k).sup = true → 1 ≤ (s.ts k).most ∧ (s.ts k).most ≤ limI ((k : Nat) + 1)
  lv : 0 ≤ s.lv
  ob : 0 < s.lv → s.objs ≠ [] ∧ s.objs.length ≤ 16 ∧ ordF (-1) s.objs = true ∧ ∀ y ∈ s.objs, y.id ≤ 255
  sd : s.hs = true → 0 < s.sd.length
def Tbl.truth (t : Tbl) (w : Int × Int) : Tb := if w.2 = 0 then ⟨6, 0, []⟩ else if t.sup = true then ⟨2, t.most, rle (kindsOf t.rd w.1 w.2.toNat)⟩ else ⟨5, 0, []⟩
def Sl.d1 : Dv := { Dv.zero with st := 2 }
def Sl.d2 (s : Sl) : Dv := { Sl.d1 with idn := if 0 < s.lv then 2 else 5, lv := if 0 < s.lv then s.lv else 0, objs := if 0 < s.lv then s.objs else [] }
def Sl.d3 (s : Sl) : Dv := { s.d2 with srv := if s.hs = true then 2 else 5, sd := if s.hs = true then s.sd else [] }
def Sl.dk (s : Sl) (win : Nat → Int × Int) (k : Nat) : Dv := { s.d3 with ts := fun i => if i < k then (s.ts i).truth (win i) else ⟨0, 0, []⟩ }
end Go.Proofs.Ytpkheiaanjhffaa
namespace Go.Proofs.Ytpkheiaanjhffaa
open Go.RowKit
end Go.Proofs.Ytpkheiaanjhffaa
namespace Go.Proofs.Ytpkheiaanjhffaa
open Go.RowKit
def RgR (_ : World) (cs : List Value) (x : Int × Int) : Prop := cs = [.int .i64 x.1, .int .i64 x.2] ∧ wfI x.1 ∧ wfI x.2
def Rgs (w : World) (v : Value) (l : List (Int × Int)) : Prop := Sls 2 RgR w v l
theorem Rgs.keep {w w' : World} {v : Value} {l : List (Int × Int)} (h : Rgs w v l) (hb : Below w.heap.size w w') : Rgs w' v l := Sls.keep (fun _ _ _ _ h _ => h) h hb
def SlC (s : Sl) (rv : Nat → Value) (ov sv : Value) : Array Value :=
  #[.int .i64 s.bd, .int .i64 s.pa, .int .i64 s.un, .bool (s.ts 0).sup, rv 0, .int .i64 (s.ts 0).most, .bool (s.ts 1).sup, rv 1, .int .i64 (s.ts 1).most, .bool (s.ts 2).sup, rv 2, .int .i64 (s.ts 2).most, .bool (s.ts 3).sup, rv 3, .int .i64 (s.ts 3).most, .int .i64 s.lv, ov, .bool s.hs, sv]
structure SlR (w : World) (s : Sl) (rv : Nat → Value) (ov sv : Value) : Prop where
  rg : ∀ k, k < 4 → Rgs w (rv k) (s.ts k).rd
  ob : Obs w ov s.objs
  sd : Bs w sv s.sd
  mo : ∀ k, k < 4 → wfI (s.ts k).most
  un : wfI s.un
  lv : wfI s.lv
  bd : wfI s.bd
  pa : wfI s.pa
theorem SlR.keep {w w' : World} {s : Sl} {rv : Nat → Value} {ov sv : Value} (h : SlR w s rv ov sv) (hb : Below w.heap.size w w') : SlR w' s rv ov sv :=
  ⟨fun k hk => (h.rg k hk).keep hb, h.ob.keep hb, h.sd.keep hb, h.mo, h.un, h.lv, h.bd, h.pa⟩
end Go.Proofs.Ytpkheiaanjhffaa
namespace Go.Proofs.Ytpkheiaanjhffaa
open Go.RowKit
def rgsFrom (e : Int) : List (Int × Int) → Bool
  | [] => true
  | r :: l => !(decide (r.1 ≤ e) || decide (r.1 < 0) || decide (65536 ≤ r.1) || decide (r.2 < 1) || decide (65536 - r.1 < r.2)) && rgsFrom (r.1 + r.2) l
def rgOk (e : Int) (x : Int × Int) : Prop := ¬ x.1 ≤ e ∧ ¬ x.1 < 0 ∧ ¬ 65536 ≤ x.1 ∧ ¬ x.2 < 1 ∧ ¬ 65536 - x.1 < x.2
theorem rgsFrom_ok {e : Int} {x : Int × Int} {l : List (Int × Int)} (h : rgOk e x) : rgsFrom e (x :: l) = rgsFrom (x.1 + x.2) l := by
  obtain ⟨h1, h2, h3, h4, h5⟩ := h
  simp only [rgsFrom, decide_eq_false h1, decide_eq_false h2, decide_eq_false h3, decide_eq_false h4, decide_eq_false h5]
  rfl
theorem rgsFrom_bad {e : Int} {x : Int × Int} {l : List (Int × Int)} (h : ¬ rgOk e x) : rgsFrom e (x :: l) = false := by
  cases hh : rgsFrom e (x :: l) with
  | false => rfl
  | true =>
    exfalso
    simp only [rgsFrom, Bool.and_eq_true, Bool.not_eq_true', Bool.or_eq_false_iff, decide_eq_false_iff_not] at hh
    obtain ⟨⟨⟨⟨⟨h1, h2⟩, h3⟩, h4⟩, h5⟩, _⟩ := hh
    exact h ⟨h1, h2, h3, h4, h5⟩
theorem badR {e : Int} {x : Int × Int} (h : ¬ rgOk e x) : x.1 ≤ e ∨ (¬ x.1 ≤ e ∧ x.1 < 0) ∨ (¬ x.1 ≤ e ∧ ¬ x.1 < 0 ∧ 65536 ≤ x.1) ∨ (¬ x.1 ≤ e ∧ ¬ x.1 < 0 ∧ ¬ 65536 ≤ x.1 ∧ x.2 < 1) ∨ (¬ x.1 ≤ e ∧ ¬ x.1 < 0 ∧ ¬ 65536 ≤ x.1 ∧ ¬ x.2 < 1 ∧ 65536 - x.1 < x.2) := by
  unfold rgOk at h
  omega
theorem Rgs.at {w : World} {v : Value} {l : List (Int × Int)} (h : Rgs w v l) {k : Nat} {x : Int × Int} (hx : l[k]? = some x) :
    ∃ b o c, v = .slice (some ⟨b, o, none⟩) l.length c ∧ wfI x.1 ∧ wfI x.2 ∧ ∀ W, Below w.heap.size w W → W.cell? ⟨b, o + k * 2, none⟩ = some (.int .i64 x.1) ∧ W.cell? ⟨b, o + k * 2 + 1, none⟩ = some (.int .i64 x.2) := by
  obtain ⟨a, c, rfl, h1, h2, h3, h4⟩ := h
  obtain ⟨b, o, rfl, hel⟩ := h4 (by rintro rfl; simp at hx)
  obtain ⟨r, hr, ⟨rfl, w1, w2⟩, hc⟩ := hel k x hx
  exact ⟨b, o, c, rfl, w1, w2, fun W hW => ⟨cell_keep hW (hc 0 _ rfl), cell_keep hW (hc 1 _ rfl)⟩⟩
theorem rgsFrom_mem {e : Int} : ∀ {l : List (Int × Int)}, rgsFrom e l = true → ∀ x ∈ l, 0 ≤ x.1 ∧ x.1 < 65536 ∧ 1 ≤ x.2 ∧ x.2 ≤ 65536 - x.1
  | [], _, x, hx => by cases hx
  | r :: l, h, x, hx => by
    by_cases hg : rgOk e r
    · rw [rgsFrom_ok hg] at h
      rcases List.mem_cons.1 hx with rfl | hx
      · obtain ⟨h1, h2, h3, h4, h5⟩ := hg
        omega
      · exact rgsFrom_mem h x hx
    · rw [rgsFrom_bad hg] at h
      cases h
end Go.Proofs.Ytpkheiaanjhffaa
namespace Go.Proofs.Ytpkheiaanjhffaa
open Go.RowKit
end Go.Proofs.Ytpkheiaanjhffaa

namespace Go.Proofs.Ytpkheiaanjhffaa
open Go.RowKit
end Go.Proofs.Ytpkheiaanjhffaa

namespace Go
section
variable {P : Program} {ops : Array Oper} {Q : Exit → Act → World → Prop} {md : Region.Mode} {S S' : World → Prop}
theorem wpAnyH_takeD {i d : Nat} {oi : Oper} {v : Value} {fuel : Nat} {listed : Array Bool} {a : Act} {w : World} (hi : ops[i]? = some oi)
    (hs : Region.noSelect ops = true) (hf : Region.free md ops listed i = true) (hr : (Region.ready md ops listed).contains i = true)
    (hQ : ∀ c a w, Q (.panic c) (a.put oi.dst v) w → Q (.panic c) a w) (hd : oi.dst = some d) (hy : YieldsIf P ops S oi v a) (hS : S w)
    (h : wpAnyH P md ops Q S fuel (listed.setIfInBounds i true) { a with tmps := a.tmps.setIfInBounds d v } w) : wpAnyH P md ops Q S (fuel + 1) listed a w :=
  wpAnyH_take hi hs hf hr hQ hy hS (by rw [hd]; exact h)
theorem tkD (i d : Nat) {oi : Oper} {v : Value} {fuel : Nat} {listed : Array Bool} {a : Act} {w : World} (hi : ops[i]? = some oi)
    (hb : (Region.noSelect ops && Region.free md ops listed i && (Region.ready md ops listed).contains i) = true)
    (hQ : ∀ c a w, Q (.panic c) (a.put oi.dst v) w → Q (.panic c) a w) (hd : oi.dst = some d) (hw : Region.wanted oi (yielded ops a.tmps) = true) (hS : S w)
    (hy : ∀ w, S w → (execOp a.eval oi).run P w = .ok (.value v) w)
    (h : wpAnyH P md ops Q S fuel (listed.setIfInBounds i true) { a with tmps := a.tmps.setIfInBounds d v } w) : wpAnyH P md ops Q S (fuel + 1) listed a w := by
  simp only [Bool.and_eq_true] at hb
  exact wpAnyH_takeD hi hb.1.1 hb.1.2 hb.2 hQ hd (.inl ⟨hw, hy⟩) hS h
end
end Go

namespace Go.Proofs.Ytpkheiaanjhffaa
open Go.RowKit
end Go.Proofs.Ytpkheiaanjhffaa
namespace Go.Proofs.Ytpkheiaanjhffaa
open Go.RowKit
theorem CsL.app {α : Type} {sz : Nat} {Q : List Value → α → Prop} : ∀ (l : List α) (cs : List Value), CsL sz Q cs l → ∀ (l' : List α) (cs' : List Value), CsL sz Q cs' l' → CsL sz Q (cs ++ cs') (l ++ l')
  | [], cs, h, l', cs', h' => by obtain rfl : cs = [] := h; exact h'
  | x :: l, cs, h, l', cs', h' => by
    obtain ⟨r, k, rfl, h1, h2, h3⟩ := h
    exact ⟨r, k ++ cs', by simp, h1, h2, CsL.app l k h3 l' cs' h'⟩
end Go.Proofs.Ytpkheiaanjhffaa
namespace Go.Proofs.Ytpkheiaanjhffaa
open Go.RowKit
end Go.Proofs.Ytpkheiaanjhffaa
namespace Go.Proofs.Ytpkheiaanjhffaa
open Go.RowKit
end Go.Proofs.Ytpkheiaanjhffaa
namespace Go.Proofs.Ytpkheiaanjhffaa
open Go.RowKit
end Go.Proofs.Ytpkheiaanjhffaa

namespace Go.Proofs.Ytpkheiaanjhffaa
open Go.RowKit
theorem infoInt : (Try.prog.info? 3).map (fun i => (i.zero, i.size, i.bytes)) = some (some (.int .i64 0), 1, 8) := by kernel_rfl
end Go.Proofs.Ytpkheiaanjhffaa
namespace Go.Proofs.Ytpkheiaanjhffaa
open Go.RowKit
end Go.Proofs.Ytpkheiaanjhffaa
namespace Go.Proofs.Ytpkheiaanjhffaa
open Go.RowKit
end Go.Proofs.Ytpkheiaanjhffaa

namespace Go.Proofs.Ytpkheiaanjhffaa
open Go.RowKit
end Go.Proofs.Ytpkheiaanjhffaa
namespace Go.Proofs.Ytpkheiaanjhffaa
open Go.RowKit
end Go.Proofs.Ytpkheiaanjhffaa
namespace Go.Proofs.Ytpkheiaanjhffaa
open Go.RowKit
end Go.Proofs.Ytpkheiaanjhffaa

namespace Go.Proofs.Ytpkheiaanjhffaa
open Go.RowKit
end Go.Proofs.Ytpkheiaanjhffaa

namespace Go.Proofs.Ytpkheiaanjhffaa
open Go.RowKit
end Go.Proofs.Ytpkheiaanjhffaa

namespace Go.Proofs.Ytpkheiaanjhffaa
open Go.RowKit
theorem run_loadVar_at {P : Program} (w : World) (a : Addr) (ty : TypeId) (cs : Array Value) (d : TypeDesc) (hc : ∀ j v, cs.toList[j]? = some v → w.cell? (a.add j) = some v)
    (hu : P.underlying ty = some d) (hd : (match d with | .struct _ | .array _ _ => true | _ => false) = true) (hi : (P.info? ty).map (·.size) = some cs.size) :
    (loadVar ty a).run P w = .ok (.agg cs) w := by
  have hl : (loadCells a cs.toList.length).run P w = .ok cs.toList.toArray w := run_loadCells_list (P := P) w a cs.toList hc
  cases hq : P.info? ty with
  | none => simp [hq] at hi
  | some i =>
    have hs : i.size = cs.size := by simpa [hq] using hi
    have hagg : (isAgg ty).run P w = .ok true w := by
      unfold isAgg
      rw [Sem.run_bind, run_underlying hu w]
      cases d <;> simp_all
    simp only [Array.length_toList, Array.toArray_toList] at hl
    simp [loadVar, Sem.run_bind, hagg, sizeOf, typeInfo, hq, hs, hl]
theorem wpList_load_at {P : Program} {ops : Array Oper} {rest : List Oper} {o : Oper} {a : Act} {w : World} {Q : Exit → Act → World → Prop} (hgd : o.guard = none) (ty : TypeId) (x : Operand) (ho : o.op = .load ty x)
    (ad : Addr) (hx : a.eval x = .pointer (some ad)) (cs : Array Value) (d : TypeDesc) (hc : ∀ j v, cs.toList[j]? = some v → w.cell? (ad.add j) = some v)
    (hu : P.underlying ty = some d) (hd : (match d with | .struct _ | .array _ _ => true | _ => false) = true) (hi : (P.info? ty).map (·.size) = some cs.size)
    (h : wpList P ops Q rest (a.put o.dst (.agg cs)) w) : wpList P ops Q (o :: rest) a w :=
  wpList_plain hgd fun K hK => by
    unfold Oper.wp execOp
    simp only [ho, hx, Instr.loadAt, Instr.sureAddr, Sem.run_bind, Sem.run_pure, Result.andThen_ok, run_loadVar_at w ad ty cs d hc hu hd hi]
    exact hK _ _ h
theorem results_ct_row {P : Program} {fn : Func} {p u : Tmp} {ty : TypeId} (h : fn.results = #[.cell p ty, .tmp u]) (tmps : Array Value) (w : World) (g : Nat) (t : TypeId) (cs : Array Value) (fr : Nat × Nat) (d : TypeDesc)
    (hp : tmps.getD p undef = .pointer (some ⟨g, 0, none⟩)) (hg : w.heap[g]? = some (.cells cs t fr))
    (hu : P.underlying ty = some d) (hd : (match d with | .struct _ | .array _ _ => true | _ => false) = true) (hi : (P.info? ty).map (·.size) = some cs.size) :
    (results fn tmps).run P w = .ok (.tuple #[.agg cs, tmps.getD u undef]) w := by
  rw [results_cell_tmp h, hp]
  simp [asAddr, run_loadVar_row w g t ty cs fr d hg hu hd hi]
end Go.Proofs.Ytpkheiaanjhffaa

namespace Go.Proofs.Ytpkheiaanjhffaa
open Go.RowKit
end Go.Proofs.Ytpkheiaanjhffaa
