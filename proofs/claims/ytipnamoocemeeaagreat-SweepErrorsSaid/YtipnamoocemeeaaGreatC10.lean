/-
  Texts 10 of the claim.
-/
import Derived.Test.YtipnamoocemeeaaGreatRows
import Derived.Test.YtipnamoocemeeaaGreatC01
import Derived.Deep.RegionHeld3
import Derived.Test.YtipnamoocemeeaaGreatC09
import Derived.Laws.EntriesVeiled
/-
  The state that an outcome says of a unit: the contracts of the program's and the reference's function, and the walk of the law PresenceState.
-/
namespace Go.Proofs.YtipnamoocemeeaaGreat
open Go.RowKit

def stateOf (v : Int) : Int := if v == 1 then 2 else if v == 2 then 2 else if v == 3 then 1 else if v == 4 then 3 else if v == 5 then 4 else 0

set_option maxHeartbeats 400000 in
theorem state_any (n : Int) (a b c d e f g i : Value) (w : World) :
    Calls Tryz.prog 83 #[.agg #[.int .i64 n, a, b, c, d, e, f, g, i]] w fun r w' => r = .returned (.int .i64 (stateOf n)) ∧ Below w.heap.size w w' := by
  have hb := (Below.refl w.heap.size w).alloc (Nat.le_refl _) (.cells #[.int .i64 n, a, b, c, d, e, f, g, i] 55)
  go_enter Tryz.func83, Tryz.ntmps83
  go_wp2
  all_goals (go_ret; refine ⟨ret_int ?_, hb⟩; simp only [stateOf, *, ↓reduceIte, Bool.false_eq_true])

set_option maxHeartbeats 400000 in
theorem prequest_any (w : World) :
    Calls Tryz.prog 81 #[] w fun r w' => r = .returned (.agg #[.int .i64 3, .int .i64 0, .int .i64 1, .int .i64 0, .int .i64 0]) ∧ Below w.heap.size w w' := by
  go_enter Tryz.func81, Tryz.ntmps81
  go_wp2
  exact bodyPost_ret (v := .agg #[.int .i64 3, .int .i64 0, .int .i64 1, .int .i64 0, .int .i64 0]) (by simp [results, Tryz.results81, go_sem]) rfl ⟨rfl, (Below.refl _ _).alloc (Nat.le_refl _) _⟩

end Go.Proofs.YtipnamoocemeeaaGreat

/-
  A probe of the program, by value: the plain device, the cells of the probe's block, and the contracts of begin, end, server.Result and the like.
-/
namespace Go.Proofs.YtipnamoocemeeaaGreat
open Go.RowKit

/-- What was found out of a table. -/
structure Tb where
  st : Int
  most : Int
  map : List (Int × Int)
/-- A device. -/
structure Dv where
  st : Int
  idn : Int
  lv : Int
  objs : List Ob
  srv : Int
  sd : List UInt8
  ts : Nat → Tb
def Dv.zero : Dv := ⟨0, 0, 0, [], 0, [], fun _ => ⟨0, 0, []⟩⟩
def Dv.tab (d : Dv) (k : Nat) (t : Tb) : Dv := { d with ts := fun i => if i = k then t else d.ts i }

def PbC (win : Nat → Int × Int) (pr af : Value) (d : Dv) (ov sv : Value) (mv : Nat → Value) (q : Int) : Array Value := #[.int .i64 (win 0).1, .int .i64 (win 0).2, .int .i64 (win 1).1, .int .i64 (win 1).2, .int .i64 (win 2).1, .int .i64 (win 2).2, .int .i64 (win 3).1, .int .i64 (win 3).2, pr, af, .int .i64 0, .int .i64 0, .int .i64 d.st, .int .i64 d.idn, .int .i64 d.lv, ov, .int .i64 d.srv, sv, .int .i64 (d.ts 0).st, .int .i64 (d.ts 0).most, mv 0, .int .i64 (d.ts 1).st, .int .i64 (d.ts 1).most, mv 1, .int .i64 (d.ts 2).st, .int .i64 (d.ts 2).most, mv 2, .int .i64 (d.ts 3).st, .int .i64 (d.ts 3).most, mv 3, .string ByteArray.empty, .int .i64 q]
def PbI (W : World) (g : Nat) (win : Nat → Int × Int) (pr af : Value) (d : Dv) (ov sv : Value) (mv : Nat → Value) (q : Int) : Prop := W.heap[g]? = some (.cells (PbC win pr af d ov sv mv q) 143)

set_option maxRecDepth 100000 in
set_option maxHeartbeats 1600000 in
theorem begin_any (g b : Nat) (t : TypeId) (fn : Fn) (fi ca : Array Value) (A : Array Value) (hA : A.size = 32) (w : World) (h : w.heap[g]? = some (.cells A 143)) :
    Calls Tryz.prog 80 #[.pointer (some ⟨g, 0, none⟩), .iface t (.pointer (some ⟨b, 0, none⟩)), .func fn fi ca] w fun r w' => r = .returned (.tuple #[]) ∧ w' = (w.setCell ⟨g, 8, none⟩ (.iface t (.pointer (some ⟨b, 0, none⟩)))).setCell ⟨g, 9, none⟩ (.func fn fi ca) := by
  have c8 : w.cell? ⟨g, 8, none⟩ = some (A[8]'(by omega)) := by rw [hpCell h 8]; exact Array.getElem?_eq_getElem _
  have c9 : w.cell? ⟨g, 9, none⟩ = some (A[9]'(by omega)) := by rw [hpCell h 9]; exact Array.getElem?_eq_getElem _
  have f8 : w.frozen? ⟨g, 8, none⟩ = false := hpFree h 8
  have f9 : w.frozen? ⟨g, 9, none⟩ = false := hpFree h 9
  generalize A[8]'(by omega) = a8 at *
  generalize A[9]'(by omega) = a9 at *
  clear h hA
  go_enter Tryz.func80, Tryz.ntmps80
  go_wp2
  go_end0
  exact ⟨rfl, rfl⟩

set_option maxRecDepth 100000 in
set_option maxHeartbeats 1600000 in
theorem pend_any (g : Nat) (A : Array Value) (hA : A.size = 32) (w : World) (h : w.heap[g]? = some (.cells A 143)) :
    Calls Tryz.prog 127 #[.pointer (some ⟨g, 0, none⟩)] w fun r w' => r = .returned (.tuple #[]) ∧ w' = (w.setCell ⟨g, 8, none⟩ .nilIface).setCell ⟨g, 9, none⟩ .nilFunc := by
  have c8 : w.cell? ⟨g, 8, none⟩ = some (A[8]'(by omega)) := by rw [hpCell h 8]; exact Array.getElem?_eq_getElem _
  have c9 : w.cell? ⟨g, 9, none⟩ = some (A[9]'(by omega)) := by rw [hpCell h 9]; exact Array.getElem?_eq_getElem _
  have f8 : w.frozen? ⟨g, 8, none⟩ = false := hpFree h 8
  have f9 : w.frozen? ⟨g, 9, none⟩ = false := hpFree h 9
  generalize A[8]'(by omega) = a8 at *
  generalize A[9]'(by omega) = a9 at *
  clear h hA
  go_enter Tryz.func127, Tryz.ntmps127
  go_wp2
  go_end0
  go_wp2
  go_end0
  exact ⟨rfl, rfl⟩

/-- The probe's block may have got another procedure. -/
theorem PbI.begun {W : World} {g : Nat} {win : Nat → Int × Int} {pr af : Value} {d : Dv} {ov sv : Value} {mv : Nat → Value} {q : Int} (h : PbI W g win pr af d ov sv mv q) (pr' af' : Value) :
    PbI ((W.setCell ⟨g, 8, none⟩ pr').setCell ⟨g, 9, none⟩ af') g win pr' af' d ov sv mv q := hpSetP (hpSetP h rfl) rfl

def srvSt (O : Oc) : Int := if O.verdict = 1 ∧ O.reply.fn = 17 ∧ 0 < O.reply.data.length then 2 else if O.verdict = 2 ∧ O.reply.exc = 1 then 5 else 4
def srvData (O : Oc) : List UInt8 := if O.verdict = 1 ∧ O.reply.fn = 17 ∧ 0 < O.reply.data.length then O.reply.data else []
def SrvPost (w : World) (s : Int) (D : List UInt8) (r : Ending) (w' : World) : Prop :=
  ∃ a c, r = .returned (.tuple #[.int .i64 s, .slice a D.length c]) ∧ w'.ownsRow w.heap.size 5 1 (.slice a D.length c) D.length (u8s D) ∧ Below w.heap.size w w'
set_option maxRecDepth 100000 in
set_option maxHeartbeats 1600000 in
theorem sresult_srv (O : Oc) (da : Option Addr) (dc : Nat) (oa : Option Addr) (oc : Nat) (hO : O.reply.data.length ≤ 300) (w : World) (HI : Bs w (.slice da O.reply.data.length dc) O.reply.data) (s : Int) (D : List UInt8) (hs : Hid (srvSt O = s)) (hD : Hid (srvData O = D)) :
    Calls Tryz.prog 156 #[.agg #[.int .i64 O.verdict, .int .i64 O.reply.fn, .int .i64 O.reply.exc, .slice da O.reply.data.length dc, .int .i64 O.reply.code, .int .i64 O.reply.level, .bool O.reply.more, .int .i64 O.reply.next, .slice oa O.reply.objs.length oc]] w (SrvPost w s D) := by
  obtain ⟨W0, hW0⟩ : ∃ W, w.alloc (.cells #[.int .i64 O.verdict, .int .i64 O.reply.fn, .int .i64 O.reply.exc, .slice da O.reply.data.length dc, .int .i64 O.reply.code, .int .i64 O.reply.level, .bool O.reply.more, .int .i64 O.reply.next, .slice oa O.reply.objs.length oc] 55) = W := ⟨_, rfl⟩
  have hb0 : Below w.heap.size w W0 := by rw [← hW0]; exact bal' w _
  have p0 : W0.heap[w.heap.size]? = some (.cells #[.int .i64 O.verdict, .int .i64 O.reply.fn, .int .i64 O.reply.exc, .slice da O.reply.data.length dc, .int .i64 O.reply.code, .int .i64 O.reply.level, .bool O.reply.more, .int .i64 O.reply.next, .slice oa O.reply.objs.length oc] 55) := by rw [← hW0]; exact hpNew w _
  have c0 : W0.cell? ⟨w.heap.size, 0, none⟩ = some (.int .i64 O.verdict) := hpCell p0 0
  have c1 : W0.cell? ⟨w.heap.size, 1, none⟩ = some (.int .i64 O.reply.fn) := hpCell p0 1
  have c2 : W0.cell? ⟨w.heap.size, 2, none⟩ = some (.int .i64 O.reply.exc) := hpCell p0 2
  have c3 : W0.cell? ⟨w.heap.size, 3, none⟩ = some (.slice da O.reply.data.length dc) := hpCell p0 3
  have HCL : Hid (Calls Tryz.prog 154 #[.slice da O.reply.data.length dc] W0 fun r w' => ∃ v', r = .returned v' ∧ w'.ownsRow W0.heap.size 5 1 v' O.reply.data.length (u8s O.reply.data) ∧ Below W0.heap.size W0 w') := clone_any (.slice da O.reply.data.length dc) O.reply.data W0 (HI.keep hb0) (by omega)
  have HW0 := hid hW0
  have HB0 := hid hb0
  clear hW0 hb0 p0 HI
  by_cases hA : O.verdict = 1 ∧ O.reply.fn = 17 ∧ 0 < O.reply.data.length
  · have HE : Hid (s = 2) := by show _ = _; rw [← hs.out]; unfold srvSt; rw [if_pos hA]
    obtain rfl : D = O.reply.data := by rw [← hD.out]; unfold srvData; rw [if_pos hA]
    have d1 := b1 hA.1
    have d2 := b1 hA.2.1
    have d3 : 0 < O.reply.data.length := hA.2.2
    clear hA hs hD hO
    go_enter Tryz.func156, Tryz.ntmps156
    go_upto_region 1 with (fail)
    rw [HW0.out]
    obtain ⟨n, hN⟩ : ∃ n, O.reply.data.length = n := ⟨_, rfl⟩
    have HN := hid hN
    rw [hN] at HCL c3 d3 ⊢
    clear hN
    go_wp2_with (go_at_call 154; (with_reducible refine HCL.out.mono ?_); rintro r w2 ⟨v2, rfl, hr2, hb2⟩; obtain ⟨a2, k2, rfl⟩ := own_slice hr2)
    refine bodyPost_ret (v := .tuple #[.int .i64 2, .slice a2 n k2]) (by simp [results, Tryz.results156, go_sem]) rfl ?_
    exact ⟨a2, k2, by rw [HE.out, HN.out], by rw [HN.out]; exact own_lower hr2 HB0.out.size, bt HB0.out hb2 (Nat.le_refl _)⟩
  · obtain rfl : D = [] := by rw [← hD.out]; unfold srvData; rw [if_neg hA]
    have hd : (O.verdict == 1) = false ∨ ((O.verdict == 1) = true ∧ (O.reply.fn == 17) = false) ∨ ((O.verdict == 1) = true ∧ (O.reply.fn == 17) = true ∧ ¬ 0 < O.reply.data.length) := by
      by_cases h1 : O.verdict = 1
      · by_cases h2 : O.reply.fn = 17
        · exact .inr (.inr ⟨b1 h1, b1 h2, fun h3 => hA ⟨h1, h2, h3⟩⟩)
        · exact .inr (.inl ⟨b1 h1, b0 h2⟩)
      · exact .inl (b0 h1)
    have hS : Hid (s = if O.verdict = 2 ∧ O.reply.exc = 1 then 5 else 4) := by show _ = _; rw [← hs.out]; unfold srvSt; rw [if_neg hA]
    clear hA hs hD hO HCL
    have he : ((O.verdict == 2) = false ∧ s = 4) ∨ ((O.verdict == 2) = true ∧ (O.reply.exc == 1) = false ∧ s = 4) ∨ ((O.verdict == 2) = true ∧ (O.reply.exc == 1) = true ∧ s = 5) := by
      rw [hS.out]
      by_cases h1 : O.verdict = 2
      · by_cases h2 : O.reply.exc = 1
        · exact .inr (.inr ⟨b1 h1, b1 h2, if_pos ⟨h1, h2⟩⟩)
        · exact .inr (.inl ⟨b1 h1, b0 h2, if_neg (fun e => h2 e.2)⟩)
      · exact .inl ⟨b0 h1, if_neg (fun e => h1 e.1)⟩
    clear hS
    obtain ⟨n, hN⟩ : ∃ n, O.reply.data.length = n := ⟨_, rfl⟩
    rw [hN] at c3 hd HW0 ⊢
    clear hN
    rcases hd with d1 | ⟨d1, d2⟩ | ⟨d1, d2, d3⟩
    all_goals
      rcases he with ⟨e1, e3⟩ | ⟨e1, e2, e3⟩ | ⟨e1, e2, e3⟩
      all_goals
        have HE := hid e3
        clear e3
        go_enter Tryz.func156, Tryz.ntmps156
        go_upto_region 1 with (fail)
        rw [HW0.out]
        go_wp2
        go_ret2
        exact ⟨none, 0, by rw [HE.out]; rfl, World.ownsRow_nil _ _ _ _, HB0.out⟩

end Go.Proofs.YtipnamoocemeeaaGreat
