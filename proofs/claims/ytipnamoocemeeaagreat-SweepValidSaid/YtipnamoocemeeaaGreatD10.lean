/-
  Texts 10 of the claim.
-/
import Derived.Test.YtipnamoocemeeaaGreatRows
import Derived.Test.YtipnamoocemeeaaGreatD01
import Derived.Deep.RegionHeld3
import Derived.Test.YtipnamoocemeeaaGreatD09
import Derived.Laws.EntriesVeiled
namespace Go.Proofs.YtipnamoocemeeaaGreat
open Go.RowKit
def stateOf (v : Int) : Int := if v == 1 then 2 else if v == 2 then 2 else if v == 3 then 1 else if v == 4 then 3 else if v == 5 then 4 else 0
set_option maxHeartbeats 400000 in
theorem state_any (n : Int) (a b c d e f g i : Value) (w : World) :
    Calls Tryz.prog 83 #[.agg #[.int .i64 n, a, b, c, d, e, f, g, i]] w fun r w' => r = .returned (.int .i64 (stateOf n)) ∧ Below w.heap.size w w' := by
  have hb := (Below.refl w.heap.size w).alloc (Nat.le_refl _) (.cells #[.int .i64 n, a, b, c, d, e, f, g, i] 55)
  go_enter Tryz.func83, Tryz.ntmps83
  go_wp2
  all_goals (go_ret; refine ⟨ret_int ?_, hb⟩; simp only [stateOf, *, ↓reduceIte, Bool.false_eq_true])
set_option maxHeartbeats 400000 in
theorem prequest_any (w : World) :
    Calls Tryz.prog 81 #[] w fun r w' => r = .returned (.agg #[.int .i64 3, .int .i64 0, .int .i64 1, .int .i64 0, .int .i64 0]) ∧ Below w.heap.size w w' := by
  go_enter Tryz.func81, Tryz.ntmps81
  go_wp2
  exact bodyPost_ret (v := .agg #[.int .i64 3, .int .i64 0, .int .i64 1, .int .i64 0, .int .i64 0]) (by simp [results, Tryz.results81, go_sem]) rfl ⟨rfl, (Below.refl _ _).alloc (Nat.le_refl _) _⟩
end Go.Proofs.YtipnamoocemeeaaGreat

namespace Go.Proofs.YtipnamoocemeeaaGreat
open Go.RowKit
structure Tb where
  st : Int
  most : Int
  map : List (Int × Int)
structure Dv where
  st : Int
  idn : Int
  lv : Int
  objs : List Ob
  srv : Int
  sd : List UInt8
  ts : Nat → Tb
def Dv.zero : Dv := ⟨0, 0, 0, [], 0, [], fun _ => ⟨0, 0, []⟩⟩
def Dv.tab (d : Dv) (k : Nat) (t : Tb) : Dv := { d with ts := fun i => if i = k then t else d.ts i }
def PbC (win : Nat → Int × Int) (pr af : Value) (d : Dv) (ov sv : Value) (mv : Nat → Value) (q : Int) : Array Value := #[.int .i64 (win 0).1, .int .i64 (win 0).2, .int .i64 (win 1).1, .int .i64 (win 1).2, .int .i64 (win 2).1, .int .i64 (win 2).2, .int .i64 (win 3).1, .int .i64 (win 3).2, pr, af, .int .i64 0, .int .i64 0, .int .i64 d.st, .int .i64 d.idn, .int .i64 d.lv, ov, .int .i64 d.srv, sv, .int .i64 (d.ts 0).st, .int .i64 (d.ts 0).most, mv 0, .int .i64 (d.ts 1).st, .int .i64 (d.ts 1).most, mv 1, .int .i64 (d.ts 2).st, .int .i64 (d.ts 2).most, mv 2, .int .i64 (d.ts 3).st, .int .i64 (d.ts 3).most, mv 3, .string ByteArray.empty, .int .i64 q]
def PbI (W : World) (g : Nat) (win : Nat → Int × Int) (pr af : Value) (d : Dv) (ov sv : Value) (mv : Nat → Value) (q : Int) : Prop := W.heap[g]? = some (.cells (PbC win pr af d ov sv mv q) 143)
set_option maxRecDepth 100000 in
set_option maxHeartbeats 1600000 in
theorem begin_any (g b : Nat) (t : TypeId) (fn : Fn) (fi ca : Array Value) (A : Array Value) (hA : A.size = 32) (w : World) (h : w.heap[g]? = some (.cells A 143)) :
    Calls Tryz.prog 80 #[.pointer (some ⟨g, 0, none⟩), .iface t (.pointer (some ⟨b, 0, none⟩)), .func fn fi ca] w fun r w' => r = .returned (.tuple #[]) ∧ w' = (w.setCell ⟨g, 8, none⟩ (.iface t (.pointer (some ⟨b, 0, none⟩)))).setCell ⟨g, 9, none⟩ (.func fn fi ca) := by
  have c8 : w.cell? ⟨g, 8, none⟩ = some (A[8]'(by omega)) := by rw [hpCell h 8]; exact Array.getElem?_eq_getElem _
  have c9 : w.cell? ⟨g, 9, none⟩ = some (A[9]'(by omega)) := by rw [hpCell h 9]; exact Array.getElem?_eq_getElem _
  have f8 : w.frozen? ⟨g, 8, none⟩ = false := hpFree h 8
  have f9 : w.frozen? ⟨g, 9, none⟩ = false := hpFree h 9
  generalize A[8]'(by omega) = a8 at *
  generalize A[9]'(by omega) = a9 at *
  clear h hA
  go_enter Tryz.func80, Tryz.ntmps80
  go_wp2
  go_end0
  exact ⟨rfl, rfl⟩
set_option maxRecDepth 100000 in
set_option maxHeartbeats 1600000 in
theorem pend_any (g : Nat) (A : Array Value) (hA : A.size = 32) (w : World) (h : w.heap[g]? = some (.cells A 143)) :
    Calls Tryz.prog 127 #[.pointer (some ⟨g, 0, none⟩)] w fun r w' => r = .returned (.tuple #[]) ∧ w' = (w.setCell ⟨g, 8, none⟩ .nilIface).setCell ⟨g, 9, none⟩ .nilFunc := by
  have c8 : w.cell? ⟨g, 8, none⟩ = some (A[8]'(by omega)) := by rw [hpCell h 8]; exact Array.getElem?_eq_getElem _
  have c9 : w.cell? ⟨g, 9, none⟩ = some (A[9]'(by omega)) := by rw [hpCell h 9]; exact Array.getElem?_eq_getElem _
  have f8 : w.frozen? ⟨g, 8, none⟩ = false := hpFree h 8
  have f9 : w.frozen? ⟨g, 9, none⟩ = false := hpFree h 9
  generalize A[8]'(by omega) = a8 at *
  generalize A[9]'(by omega) = a9 at *
  clear h hA
  go_enter Tryz.func127, Tryz.ntmps127
  go_wp2
  go_end0
  go_wp2
  go_end0
  exact ⟨rfl, rfl⟩
theorem PbI.begun {W : World} {g : Nat} {win : Nat → Int × Int} {pr af : Value} {d : Dv} {ov sv : Value} {mv : Nat → Value} {q : Int} (h : PbI W g win pr af d ov sv mv q) (pr' af' : Value) :
    PbI ((W.setCell ⟨g, 8, none⟩ pr').setCell ⟨g, 9, none⟩ af') g win pr' af' d ov sv mv q := hpSetP (hpSetP h rfl) rfl
def srvSt (O : Oc) : Int := if O.verdict = 1 ∧ O.reply.fn = 17 ∧ 0 < O.reply.data.length then 2 else if O.verdict = 2 ∧ O.reply.exc = 1 then 5 else 4
def srvData (O : Oc) : List UInt8 := if O.verdict = 1 ∧ O.reply.fn = 17 ∧ 0 < O.reply.data.length then O.reply.data else []
def SrvPost (w : World) (s : Int) (D : List UInt8) (r : Ending) (w' : World) : Prop :=
  ∃ a c, r = .returned (.tuple #[.int .i64 s, .slice a D.length c]) ∧ w'.ownsRow w.heap.size 5 1 (.slice a D.length c) D.length (u8s D) ∧ Below w.heap.size w w'
set_option maxRecDepth 100000 in
set_option maxHeartbeats 1600000 in
theorem sresult_srv (O : Oc) (da : Option Addr) (dc : Nat) (oa : Option Addr) (oc : Nat) (hO : O.reply.data.length ≤ 300) (w : World) (HI : Bs w (.slice da O.reply.data.length dc) O.reply.data) (s : Int) (D : List UInt8) (hs : Hid (srvSt O = s)) (hD : Hid (srvData O = D)) :
    Calls Tryz.prog 156 #[.agg #[.int .i64 O.verdict, .int .i64 O.reply.fn, .int .i64 O.reply.exc, .slice da O.reply.data.length dc, .int .i64 O.reply.code, .int .i64 O.reply.level, .bool O.reply.more, .int .i64 O.reply.next, .slice oa O.reply.objs.length oc]] w (SrvPost w s D) := by
  obtain ⟨W0, hW0⟩ : ∃ W, w.alloc (.cells #[.int .i64 O.verdict, .int .i64 O.reply.fn, .int .i64 O.reply.exc, .slice da O.reply.data.length dc, .int .i64 O.reply.code, .int .i64 O.reply.level, .bool O.reply.more, .int .i64 O.reply.next, .slice oa O.reply.objs.length oc] 55) = W := ⟨_, rfl⟩
  have hb0 : Below w.heap.size w W0 := by rw [← hW0]; exact bal' w _
  have p0 : W0.heap[w.heap.size]? = some (.cells #[.int .i64 O.verdict, .int .i64 O.reply.fn, .int .i64 O.reply.exc, .slice da O.reply.data.length dc, .int .i64 O.reply.code, .int .i64 O.reply.level, .bool O.reply.more, .int .i64 O.reply.next, .slice oa O.reply.objs.length oc] 55) := by rw [← hW0]; exact hpNew w _
  have c0 : W0.cell? ⟨w.heap.size, 0, none⟩ = some (.int .i64 O.verdict) := hpCell p0 0
  have c1 : W0.cell? ⟨w.heap.size, 1, none⟩ = some (.int .i64 O.reply.fn) := hpCell p0 1
  have c2 : W0.cell? ⟨w.heap.size, 2, none⟩ = some (.int .i64 O.reply.exc) := hpCell p0 2
  have c3 : W0.cell? ⟨w.heap.size, 3, none⟩ = some (.slice da O.reply.data.length dc) := hpCell p0 3
  have HCL : Hid (Calls Tryz.prog 154 #[.slice da O.reply.data.length dc] W0 fun r w' => ∃ v', r = .returned v' ∧ w'.ownsRow W0.heap.size 5 1 v' O.reply.data.length (u8s O.reply.data) ∧ Below W0.heap.size W0 w') := clone_any (.slice da O.reply.data.length dc) O.reply.data W0 (HI.keep hb0) (by omega)
  have HW0 := hid hW0
  have HB0 := hid hb0
  clear hW0 hb0 p0 HI
  by_cases hA : O.verdict = 1 ∧ O.reply.fn = 17 ∧ 0 < O.reply.data.length
  · have HE : Hid (s = 2) := by show _ = _; rw [← hs.out]; unfold srvSt; rw [if_pos hA]
    obtain rfl : D = O.reply.data := by rw [← hD.out]; unfold srvData; rw [if_pos hA]
    have d1 := b1 hA.1
    have d2 := b1 hA.2.1
    have d3 : 0 < O.reply.data.length := hA.2.2
    clear hA hs hD hO
    go_enter Tryz.func156, Tryz.ntmps156
    go_upto_region 1 with (fail)
    rw [HW0.out]
    obtain ⟨n, hN⟩ : ∃ n, O.reply.data.length = n := ⟨_, rfl⟩
    have HN := hid hN
    rw [hN] at HCL c3 d3 ⊢
    clear hN
    go_wp2_with (go_at_call 154; (with_reducible refine HCL.out.mono ?_); rintro r w2 ⟨v2, rfl, hr2, hb2⟩; obtain ⟨a2, k2, rfl⟩ := own_slice hr2)
    refine bodyPost_ret (v := .tuple #[.int .i64 2, .slice a2 n k2]) (by simp [results, Tryz.results156, go_sem]) rfl ?_
    exact ⟨a2, k2, by rw [HE.out, HN.out], by rw [HN.out]; exact own_lower hr2 HB0.out.size, bt HB0.out hb2 (Nat.le_refl _)⟩
  · obtain rfl : D = [] := by rw [← hD.out]; unfold srvData; rw [if_neg hA]
    have hd : (O.verdict == 1) = false ∨ ((O.verdict == 1) = true ∧ (O.reply.fn == 17) = false) ∨ ((O.verdict == 1) = true ∧ (O.reply.fn == 17) = true ∧ ¬ 0 < O.reply.data.length) := by
      by_cases h1 : O.verdict = 1
      · by_cases h2 : O.reply.fn = 17
        · exact .inr (.inr ⟨b1 h1, b1 h2, fun h3 => hA ⟨h1, h2, h3⟩⟩)
        · exact .inr (.inl ⟨b1 h1, b0 h2⟩)
      · exact .inl (b0 h1)
    have hS : Hid (s = if O.verdict = 2 ∧ O.reply.exc = 1 then 5 else 4) := by show _ = _; rw [← hs.out]; unfold srvSt; rw [if_neg hA]
    clear hA hs hD hO HCL
    have he : ((O.verdict == 2) = false ∧ s = 4) ∨ ((O.verdict == 2) = true ∧ (O.reply.exc == 1) = false ∧ s = 4) ∨ ((O.verdict == 2) = true ∧ (O.reply.exc == 1) = true ∧ s = 5) := by
      rw [hS.out]
      by_cases h1 : O.verdict = 2
      · by_cases h2 : O.reply.exc = 1
        · exact .inr (.inr ⟨b1 h1, b1 h2, if_pos ⟨h1, h2⟩⟩)
        · exact .inr (.inl ⟨b1 h1, b0 h2, if_neg (fun e => h2 e.2)⟩)
      · exact .inl ⟨b0 h1, if_neg (fun e => h1 e.1)⟩
    clear hS
    obtain ⟨n, hN⟩ : ∃ n, O.reply.data.length = n := ⟨_, rfl⟩
    rw [hN] at c3 hd HW0 ⊢
    clear hN
    rcases hd with d1 | ⟨d1, d2⟩ | ⟨d1, d2, d3⟩
    all_goals
      rcases he with ⟨e1, e3⟩ | ⟨e1, e2, e3⟩ | ⟨e1, e2, e3⟩
      all_goals
        have HE := hid e3
        clear e3
        go_enter Tryz.func156, Tryz.ntmps156
        go_upto_region 1 with (fail)
        rw [HW0.out]
        go_wp2
        go_ret2
        exact ⟨none, 0, by rw [HE.out]; rfl, World.ownsRow_nil _ _ _ _, HB0.out⟩
end Go.Proofs.YtipnamoocemeeaaGreat

namespace Go.Proofs.YtipnamoocemeeaaGreat
open Go.RowKit
inductive Ph
  | test
  | ident (x : Idn)
  | server
  | seek (k : Nat) (s : Sr)
  | map (k : Nat) (m : Mp)
  | done
def FQ (P Q : Nat → Prop) (g : Nat) (j : Nat) : Prop := ¬ P j ∨ Q j ∨ j = g
def St (F : Nat → Prop) (W : World) (b : Nat) (o : Obj) : Prop := ∀ W', Keeps F W W' → W'.heap[b]? = some o
def OnC (q : Rq) (f : Value) (dn : Bool) : Array Value := #[.int .i64 q.fn, .int .i64 q.addr, .int .i64 q.qty, .int .i64 q.code, .int .i64 q.obj, f, .bool dn]
def OnAt (W : World) (b : Nat) (q : Rq) (f : Value) (dn : Bool) : Prop := W.heap[b]? = some (.cells (OnC q f dn) 150)
def rqT : Rq := ⟨3, 0, 1, 0, 0⟩
def rqS : Rq := ⟨17, 0, 0, 0, 0⟩
def PrAt (F Q : Nat → Prop) (W : World) (g : Nat) (pr af : Value) : Ph → Prop
  | .done => pr = .nilIface ∧ af = .nilFunc
  | .test => ∃ b bp, pr = .iface 145 (.pointer (some ⟨b, 0, none⟩)) ∧ af = .func (.func 84) #[.pointer (some ⟨g, 0, none⟩)] #[] ∧ Q b ∧ OnAt W b rqT (.func (.func 82) #[] #[.pointer (some ⟨bp, 0, none⟩)]) false ∧ St F W bp (.cells #[.pointer (some ⟨g, 0, none⟩)] 93)
  | .ident x => ∃ b v cs bi bp, pr = .iface 188 (.pointer (some ⟨b, 0, none⟩)) ∧ af = .func (.func 129) #[] #[.pointer (some ⟨bi, 0, none⟩), .pointer (some ⟨bp, 0, none⟩)] ∧ IdAt Q W b x v cs ∧ St F W bp (.cells #[.pointer (some ⟨g, 0, none⟩)] 93) ∧ St F W bi (.cells #[.pointer (some ⟨b, 0, none⟩)] 188)
  | .server => ∃ b bp bq, pr = .iface 145 (.pointer (some ⟨b, 0, none⟩)) ∧ af = .func (.func 158) #[] #[.pointer (some ⟨bq, 0, none⟩)] ∧ Q b ∧ OnAt W b rqS (.func (.func 155) #[] #[.pointer (some ⟨bp, 0, none⟩)]) false ∧ St F W bp (.cells #[.pointer (some ⟨g, 0, none⟩)] 93) ∧ St F W bq (.cells #[.pointer (some ⟨g, 0, none⟩)] 93)
  | .seek k s => ∃ b bp bk bs, pr = .iface 221 (.pointer (some ⟨b, 0, none⟩)) ∧ af = .func (.func 167) #[] #[.pointer (some ⟨bp, 0, none⟩), .pointer (some ⟨bk, 0, none⟩), .pointer (some ⟨bs, 0, none⟩)] ∧ k < 4 ∧ Q b ∧ SrAt W b s ∧ St F W bp (.cells #[.pointer (some ⟨g, 0, none⟩)] 93) ∧ St F W bk (.cells #[.int .i64 (k : Int)] 3) ∧ St F W bs (.cells #[.pointer (some ⟨b, 0, none⟩)] 221)
  | .map k m => ∃ b v q bm bp bk, pr = .iface 226 (.pointer (some ⟨b, 0, none⟩)) ∧ af = .func (.func 171) #[] #[.pointer (some ⟨bm, 0, none⟩), .pointer (some ⟨bp, 0, none⟩), .pointer (some ⟨bk, 0, none⟩)] ∧ k < 4 ∧ MpAt Q W b m v q ∧ St F W bp (.cells #[.pointer (some ⟨g, 0, none⟩)] 93) ∧ St F W bk (.cells #[.int .i64 (k : Int)] 3) ∧ St F W bm (.cells #[.pointer (some ⟨b, 0, none⟩)] 226)
def NewPr (w w' : World) (g : Nat) (pr af : Value) (ph : Ph) : Prop :=
  ∃ Q : Nat → Prop, (∀ j, Q j → w.heap.size ≤ j ∧ j < w'.heap.size) ∧ ∀ P : Nat → Prop, PrAt (FQ (Grw P w w') Q g) Q w' g pr af ph
def StepTo (w : World) (g : Nat) (win : Nat → Int × Int) (ov sv : Value) (mv : Nat → Value) (q : Int) (ph : Ph) (d : Dv) (w' : World) : Prop :=
  (∃ pr af, PbI w' g win pr af d ov sv mv q ∧ NewPr w w' g pr af ph) ∧ Keeps (· = g) w w'
def meas (win : Nat → Int × Int) : Nat → Dv → Ph × Dv
  | 0, d => (.done, d)
  | n + 1, d => if (win (3 - n)).2 = 0 then meas win n (d.tab (3 - n) { d.ts (3 - n) with st := 6 }) else (.seek (3 - n) (Sr.new ((3 - n : Nat) + 1)), d)
def WinOk (win : Nat → Int × Int) : Prop := ∀ k, k < 4 → 0 ≤ (win k).2 ∧ (win k).2 ≤ 512 ∧ 0 ≤ (win k).1 ∧ (win k).1 ≤ 65536 - (win k).2
theorem meas_skip {win : Nat → Int × Int} {k : Nat} {d : Dv} (hk : k < 4) (h : (win k).2 = 0) : meas win (4 - k) d = meas win (4 - (k + 1)) (d.tab k { d.ts k with st := 6 }) := by
  obtain ⟨n, hn⟩ : ∃ n, 4 - k = n + 1 := ⟨3 - k, by omega⟩
  rw [hn, show 4 - (k + 1) = n by omega]
  have hk3 : 3 - n = k := by omega
  show (if (win (3 - n)).2 = 0 then _ else _) = _
  rw [hk3, if_pos h]
theorem meas_go {win : Nat → Int × Int} {k : Nat} {d : Dv} (hk : k < 4) (h : ¬ (win k).2 = 0) : meas win (4 - k) d = (.seek k (Sr.new ((k : Nat) + 1)), d) := by
  obtain ⟨n, hn⟩ : ∃ n, 4 - k = n + 1 := ⟨3 - k, by omega⟩
  rw [hn]
  have hk3 : 3 - n = k := by omega
  show (if (win (3 - n)).2 = 0 then _ else _) = _
  rw [hk3, if_neg h]
theorem PbI.count {W : World} {g : Nat} {win : Nat → Int × Int} {pr af : Value} {d : Dv} {ov sv : Value} {mv : Nat → Value} {q : Int} (h : PbI W g win pr af d ov sv mv q) {k : Nat} (hk : k < 4) :
    W.cell? ⟨g, k * 2 + 1, none⟩ = some (.int .i64 (win k).2) := by
  rw [hpCell h]
  match k, hk with
  | 0, _ => rfl
  | 1, _ => rfl
  | 2, _ => rfl
  | 3, _ => rfl
theorem PbI.tst {W : World} {g : Nat} {win : Nat → Int × Int} {pr af : Value} {d : Dv} {ov sv : Value} {mv : Nat → Value} {q : Int} (h : PbI W g win pr af d ov sv mv q) {k : Nat} (hk : k < 4) :
    W.cell? ⟨g, 18 + k * 3, none⟩ = some (.int .i64 (d.ts k).st) := by
  rw [hpCell h]
  match k, hk with
  | 0, _ => rfl
  | 1, _ => rfl
  | 2, _ => rfl
  | 3, _ => rfl
theorem PbI.setSt {W : World} {g : Nat} {win : Nat → Int × Int} {pr af : Value} {d : Dv} {ov sv : Value} {mv : Nat → Value} {q : Int} (h : PbI W g win pr af d ov sv mv q) {k : Nat} (hk : k < 4) (s : Int) :
    PbI (W.setCell ⟨g, 18 + k * 3, none⟩ (.int .i64 s)) g win pr af (d.tab k { d.ts k with st := s }) ov sv mv q := by
  refine hpSetP h ?_
  match k, hk with
  | 0, _ => rfl
  | 1, _ => rfl
  | 2, _ => rfl
  | 3, _ => rfl
theorem PbI.keep {W W' : World} {g : Nat} {win : Nat → Int × Int} {pr af : Value} {d : Dv} {ov sv : Value} {mv : Nat → Value} {q : Int} (h : PbI W g win pr af d ov sv mv q) (hb : Below W.heap.size W W') : PbI W' g win pr af d ov sv mv q := hpKeep h hb
theorem begin_pb {W : World} {g : Nat} {win : Nat → Int × Int} {pr af : Value} {d : Dv} {ov sv : Value} {mv : Nat → Value} {q : Int} (h : PbI W g win pr af d ov sv mv q) (b : Nat) (t : TypeId) (fn : Fn) (fi ca : Array Value) :
    Calls Tryz.prog 80 #[.pointer (some ⟨g, 0, none⟩), .iface t (.pointer (some ⟨b, 0, none⟩)), .func fn fi ca] W fun r w' => r = .returned (.tuple #[]) ∧ w' = (W.setCell ⟨g, 8, none⟩ (.iface t (.pointer (some ⟨b, 0, none⟩)))).setCell ⟨g, 9, none⟩ (.func fn fi ca) :=
  begin_any g b t fn fi ca _ rfl W h
theorem pend_pb {W : World} {g : Nat} {win : Nat → Int × Int} {pr af : Value} {d : Dv} {ov sv : Value} {mv : Nat → Value} {q : Int} (h : PbI W g win pr af d ov sv mv q) :
    Calls Tryz.prog 127 #[.pointer (some ⟨g, 0, none⟩)] W fun r w' => r = .returned (.tuple #[]) ∧ w' = (W.setCell ⟨g, 8, none⟩ .nilIface).setCell ⟨g, 9, none⟩ .nilFunc :=
  pend_any g _ rfl W h
theorem Keeps.setNew {F : Nat → Prop} {a w : World} (h : Keeps F a w) (p : Addr) (v : Value) (hp : a.heap.size ≤ p.block) : Keeps F a (w.setCell p v) :=
  ⟨h.os, h.tape, h.output, by simp [World.setCell]; exact h.size, fun i hi hn => by
    rw [Below.heap_setCell _ _ _ _ (by rintro rfl; omega)]; exact h.block i hi hn⟩
theorem St.of {F : Nat → Prop} {W : World} {b : Nat} {o : Obj} (h : W.heap[b]? = some o) (hn : ¬ F b) : St F W b o := fun _ hk => hpKeeps h hk hn
theorem FQ.new {P Q : Nat → Prop} {w w' : World} {g j : Nat} (h1 : w.heap.size ≤ j) (h2 : j < w'.heap.size) (h3 : ¬ Q j) (h4 : j ≠ g) : ¬ FQ (Grw P w w') Q g j := fun h => by
  rcases h with h | h | h
  · exact h (.inr ⟨h1, h2⟩)
  · exact h3 h
  · exact h4 h
set_option maxRecDepth 100000 in
set_option maxHeartbeats 6400000 in
theorem measure_any (g : Nat) (win : Nat → Int × Int) (pr af : Value) (d : Dv) (ov sv : Value) (mv : Nat → Value) (q : Int) (k0 : Nat) (hk0 : k0 ≤ 4) (w : World) (h : PbI w g win pr af d ov sv mv q) (ph : Ph) (d' : Dv) (hm : Hid (meas win (4 - k0) d = (ph, d'))) :
    Calls Tryz.prog 159 #[.pointer (some ⟨g, 0, none⟩), .int .i64 (k0 : Int)] w fun r w' => r = .returned (.tuple #[]) ∧ StepTo w g win ov sv mv q ph d' w' := by
  have hmf : ∀ (fn : Fn) (first cap : Array Value) (w : World), (Instr.makeFunc fn first cap).run Tryz.prog w = .ok (.func fn first cap) w := fun _ _ _ _ => rfl
  have hgl : g < w.heap.size := hpLt h
  obtain ⟨W0, hW0⟩ : ∃ W, (w.alloc (.cells #[.pointer (some ⟨g, 0, none⟩)] 93)).alloc (.cells #[.int .i64 (k0 : Int)] 3) = W := ⟨_, rfl⟩
  have hb0 : Below w.heap.size w W0 := by rw [← hW0]; exact bta (bal' w _) (Nat.le_refl _) _
  have hz0 : W0.heap.size = w.heap.size + 2 := by rw [← hW0]; simp
  have pA : W0.heap[w.heap.size]? = some (.cells #[.pointer (some ⟨g, 0, none⟩)] 93) := by rw [← hW0]; exact hpKeep (hpNew w _) (bal' _ _)
  have pB : W0.heap[w.heap.size + 1]? = some (.cells #[.int .i64 (k0 : Int)] 3) := by
    rw [← hW0]
    have := hpNew (w.alloc (.cells #[.pointer (some ⟨g, 0, none⟩)] 93)) (.cells #[.int .i64 (k0 : Int)] 3)
    simpa using this
  have H := hid h
  have HW0 := hid hW0
  have HB0 := hid hb0
  have HZ0 := hid hz0
  have PA := hid pA
  have PB := hid pB
  clear hW0 hb0 hz0 pA pB h
  go_enter Tryz.func159, Tryz.ntmps159
  go_upto_region 1 with (fail)
  rw [HW0.out]
  go_loopw [] (fun wr => ∃ (k : Nat) (d1 : Dv), k ≤ 4 ∧ Hid (meas win (4 - k) d1 = (ph, d')) ∧ Hid (PbI wr g win pr af d1 ov sv mv q) ∧ Hid (wr.heap[w.heap.size]? = some (.cells #[.pointer (some ⟨g, 0, none⟩)] 93)) ∧ wr.heap[w.heap.size + 1]? = some (.cells #[.int .i64 (k : Int)] 3) ∧ Hid (Keeps (· = g) w wr) ∧ Hid (wr.heap.size = w.heap.size + 2)) (fun wr => 4 - (intOf ((wr.cell? ⟨w.heap.size + 1, 0, none⟩).getD (.int .i64 0))).toNat)
  case atStart => exact ⟨k0, d, hk0, hm, hpKeep H.out HB0.out, PA.out, PB.out, Keeps.of_below HB0.out, HZ0.out⟩
  case round =>
    obtain ⟨k, d1, hk, hme, hpb, hpa, hpk, hkp, hzr⟩ := hrel
    have e0 : wr.cell? ⟨w.heap.size, 0, none⟩ = some (.pointer (some ⟨g, 0, none⟩)) := hpCell hpa.out 0
    have e1 : wr.cell? ⟨w.heap.size + 1, 0, none⟩ = some (.int .i64 (k : Int)) := hpCell hpk 0
    have f1 : wr.frozen? ⟨w.heap.size + 1, 0, none⟩ = false := hpFree hpk 0
    have HPK := hid hpk
    clear hpk
    have hki : (0 : Int) ≤ (k : Int) := Int.natCast_nonneg _
    by_cases hlt : k < 4
    · have hkl : (k : Int) < 4 := by omega
      have hc : wr.cell? ⟨g, k * 2 + 1, none⟩ = some (.int .i64 (win k).2) := hpb.out.count hlt
      by_cases hz : (win k).2 = 0
      · have dz := b1 hz
        have HME : Hid (meas win (4 - (k + 1)) (d1.tab k { d1.ts k with st := 6 }) = (ph, d')) := by show _ = _; rw [← meas_skip hlt hz]; exact hme.out
        clear hz hme
        have c2 : wr.cell? ⟨g, 18 + k * 3, none⟩ = some (.int .i64 (d1.ts k).st) := hpb.out.tst hlt
        have f2 : wr.frozen? ⟨g, 18 + k * 3, none⟩ = false := hpFree hpb.out _
        go_upto_region 1 with (fail)
        go_quiet (fail)
        go_wp2
        go_region
        go_wp2
        go_roundw
        case rel =>
          refine ⟨k + 1, d1.tab k { d1.ts k with st := 6 }, by omega, HME.out, ?_, ?_, ?_, ?_, ?_⟩
          · exact (hpOther (by omega)).trans ((hpb.out.keep (below_drewN (Below.refl _ _) _).drew).setSt hlt 6)
          · exact (hpOther (by omega)).trans ((hpOther (by omega)).trans (hpKeep hpa.out (below_drewN (Below.refl _ _) _).drew))
          · exact hpSetP ((hpOther (by omega)).trans (hpKeep HPK.out (below_drewN (Below.refl _ _) _).drew)) (by simp)
          · exact Keeps.setNew (ks1 (hkp.out.trans (Keeps.of_below (below_drewN (Below.refl _ _) _).drew) (fun _ _ e => e)) _ _) _ _ (by show w.heap.size ≤ w.heap.size + 1; omega)
          · show _ = _
            have := hzr.out
            simp
            omega
        case measure =>
          have pk' := hpSetP (i := 0) (u := .int .i64 ((k : Int) + 1)) (C := #[.int .i64 ((k : Int) + 1)]) ((hpOther (w := (wr.drewN (nq + 1))) (b := g) (i := 18 + k * 3) (u := .int .i64 6) (by omega : w.heap.size + 1 ≠ g)).trans (hpKeep HPK.out (below_drewN (Below.refl _ _) _))) rfl
          rw [hpCell pk' 0, e1]
          simp [intOf]
          omega
      · have dz := b0 hz
        have d4 : ((k : Int) == 4) = false := b0 (by omega)
        have sw : IntKind.i64.wrap ((k : Int) + 1) = (k : Int) + 1 := IntWalk.i64_in _ (by omega)
        have HME : Hid (ph = .seek k (Sr.new ((k : Int) + 1)) ∧ d' = d1) := by
          have h := hme.out
          rw [meas_go hlt hz] at h
          exact ⟨(Prod.mk.inj h).1.symm, (Prod.mk.inj h).2.symm⟩
        have HSN : Hid (∀ X, Calls Tryz.prog 166 #[.int .i64 ((k : Int) + 1)] X fun r w' => ∃ b : Nat, r = .returned (.pointer (some ⟨b, 0, none⟩)) ∧ X.heap.size ≤ b ∧ SrAt w' b (Sr.new ((k : Int) + 1)) ∧ Below X.heap.size X w') := fun X => snew_any _ (by omega) X
        clear hz hme
        go_upto_region 1 with (fail)
        go_quiet (fail)
        have hbq : Below wr.heap.size wr (wr.drewN nq) := below_drewN (Below.refl _ _) _
        generalize wr.drewN nq = wq at *
        have q0 := cell_keep hbq e0
        have q1 := cell_keep hbq e1
        go_wp2_with (first | (go_at_call 166; (with_reducible refine (HSN.out _).mono ?_); rintro r w4 ⟨b4, rfl, hge4, hsr4, hb4⟩; have hbx := bt hbq hb4 (Nat.le_refl _); have q2 := cell_keep hbx e0; have q3 := (fun o => cell_keep (bal' w4 o) q2); have hpb5 : ∀ o, PbI (w4.alloc o) g win pr af d1 ov sv mv q := (fun o => (hpb.out.keep hbx).keep (bal' _ _)); have hk5 := hkp.out.trans (Keeps.of_below hbx) (fun _ _ e => e)) | (go_at_call 80; (with_reducible refine (begin_pb (hpb5 _) _ _ _ _ _).mono ?_); rintro r w6 ⟨rfl, rfl⟩))
        go_end0
        have hz4 : wr.heap.size ≤ b4 := by have := hbq.size; omega
        have hl4 : b4 < w4.heap.size := hsr4.lt
        have hzz := hzr.out
        have hs4 := hbx.size
        refine ⟨rfl, ⟨.iface 221 (.pointer (some ⟨b4, 0, none⟩)), .func (.func 167) #[] #[.pointer (some ⟨w.heap.size, 0, none⟩), .pointer (some ⟨w.heap.size + 1, 0, none⟩), .pointer (some ⟨w4.heap.size, 0, none⟩)], ?_, (· = b4), fun j hj => ?_, fun P => ?_⟩, ?_⟩
        · rw [HME.out.2]
          exact (hpb5 _).begun _ _
        · subst hj
          simp
          omega
        · rw [HME.out.1]
          refine ⟨b4, w.heap.size, w.heap.size + 1, w4.heap.size, rfl, rfl, hlt, rfl, ?_, ?_, ?_, ?_⟩
          · exact (hpOther (by omega)).trans ((hpOther (by omega)).trans (hpKeep hsr4 (bal' _ _)))
          · exact St.of ((hpOther (by omega)).trans ((hpOther (by omega)).trans (hpKeep (hpKeep hpa.out hbx) (bal' _ _)))) (FQ.new (by omega) (by simp; omega) (by omega) (by omega))
          · exact St.of ((hpOther (by omega)).trans ((hpOther (by omega)).trans (hpKeep (hpKeep HPK.out hbx) (bal' _ _)))) (FQ.new (by omega) (by simp; omega) (by omega) (by omega))
          · exact St.of ((hpOther (by omega)).trans ((hpOther (by omega)).trans (hpNew _ _))) (FQ.new (by omega) (by simp) (by omega) (by omega))
        · exact ks1 (ks1 (hk5.trans (Keeps.of_below (bal' _ _)) (fun _ _ e => e)) _ _) _ _
    · obtain rfl : k = 4 := by omega
      have HME : Hid (ph = .done ∧ d' = d1) := by
        have h := hme.out
        exact ⟨(Prod.mk.inj h).1.symm, (Prod.mk.inj h).2.symm⟩
      have d3 : ¬ ((4 : Nat) : Int) < 4 := by decide
      have d4 : (((4 : Nat) : Int) == 4) = true := by decide
      have hbq0 : ∀ n, Below wr.heap.size wr (wr.drewN n) := fun n => below_drewN (Below.refl _ _) _
      clear hme
      go_upto_region 1 with (fail)
      go_quiet (fail)
      have hbq := hbq0 nq
      generalize wr.drewN nq = wq at *
      have q0 := cell_keep hbq e0
      have q1 := cell_keep hbq e1
      have hpq := hpb.out.keep hbq
      go_wp2_with (go_at_call 127; (with_reducible refine (pend_pb hpq).mono ?_); rintro r w6 ⟨rfl, rfl⟩)
      refine bodyPost_ret (results_none rfl _ _ _) rfl ?_
      exact ⟨rfl, ⟨.nilIface, .nilFunc, (by rw [HME.out.2]; exact hpq.begun _ _), fun _ => False, (fun j hj => hj.elim), fun P => (by rw [HME.out.1]; exact ⟨rfl, rfl⟩)⟩, ks1 (ks1 (hkp.out.trans (Keeps.of_below hbq) (fun _ _ e => e)) _ _) _ _⟩
end Go.Proofs.YtipnamoocemeeaaGreat
