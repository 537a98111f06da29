/-
  Texts 11 of the claim.
-/
import Derived.Test.YtipnamoocemeeaaGreatC10
/-
  A probe of the program: what it holds in a state, and the contracts of measure.
-/
namespace Go.Proofs.YtipnamoocemeeaaGreat
open Go.RowKit

inductive Ph
  | test
  | ident (x : Idn)
  | server
  | seek (k : Nat) (s : Sr)
  | map (k : Nat) (m : Mp)
  | done

/-- What may change while a probe stands. -/
def FQ (P Q : Nat → Prop) (g : Nat) (j : Nat) : Prop := ¬ P j ∨ Q j ∨ j = g
def St (F : Nat → Prop) (W : World) (b : Nat) (o : Obj) : Prop := ∀ W', Keeps F W W' → W'.heap[b]? = some o
def OnC (q : Rq) (f : Value) (dn : Bool) : Array Value := #[.int .i64 q.fn, .int .i64 q.addr, .int .i64 q.qty, .int .i64 q.code, .int .i64 q.obj, f, .bool dn]
def OnAt (W : World) (b : Nat) (q : Rq) (f : Value) (dn : Bool) : Prop := W.heap[b]? = some (.cells (OnC q f dn) 150)
def rqT : Rq := ⟨3, 0, 1, 0, 0⟩
def rqS : Rq := ⟨17, 0, 0, 0, 0⟩

/-- The procedure that runs, and what follows it. -/
def PrAt (F Q : Nat → Prop) (W : World) (g : Nat) (pr af : Value) : Ph → Prop
  | .done => pr = .nilIface ∧ af = .nilFunc
  | .test => ∃ b bp, pr = .iface 145 (.pointer (some ⟨b, 0, none⟩)) ∧ af = .func (.func 84) #[.pointer (some ⟨g, 0, none⟩)] #[] ∧ Q b ∧ OnAt W b rqT (.func (.func 82) #[] #[.pointer (some ⟨bp, 0, none⟩)]) false ∧ St F W bp (.cells #[.pointer (some ⟨g, 0, none⟩)] 93)
  | .ident x => ∃ b v cs bi bp, pr = .iface 188 (.pointer (some ⟨b, 0, none⟩)) ∧ af = .func (.func 129) #[] #[.pointer (some ⟨bi, 0, none⟩), .pointer (some ⟨bp, 0, none⟩)] ∧ IdAt Q W b x v cs ∧ St F W bp (.cells #[.pointer (some ⟨g, 0, none⟩)] 93) ∧ St F W bi (.cells #[.pointer (some ⟨b, 0, none⟩)] 188)
  | .server => ∃ b bp bq, pr = .iface 145 (.pointer (some ⟨b, 0, none⟩)) ∧ af = .func (.func 158) #[] #[.pointer (some ⟨bq, 0, none⟩)] ∧ Q b ∧ OnAt W b rqS (.func (.func 155) #[] #[.pointer (some ⟨bp, 0, none⟩)]) false ∧ St F W bp (.cells #[.pointer (some ⟨g, 0, none⟩)] 93) ∧ St F W bq (.cells #[.pointer (some ⟨g, 0, none⟩)] 93)
  | .seek k s => ∃ b bp bk bs, pr = .iface 221 (.pointer (some ⟨b, 0, none⟩)) ∧ af = .func (.func 167) #[] #[.pointer (some ⟨bp, 0, none⟩), .pointer (some ⟨bk, 0, none⟩), .pointer (some ⟨bs, 0, none⟩)] ∧ k < 4 ∧ Q b ∧ SrAt W b s ∧ St F W bp (.cells #[.pointer (some ⟨g, 0, none⟩)] 93) ∧ St F W bk (.cells #[.int .i64 (k : Int)] 3) ∧ St F W bs (.cells #[.pointer (some ⟨b, 0, none⟩)] 221)
  | .map k m => ∃ b v q bm bp bk, pr = .iface 226 (.pointer (some ⟨b, 0, none⟩)) ∧ af = .func (.func 171) #[] #[.pointer (some ⟨bm, 0, none⟩), .pointer (some ⟨bp, 0, none⟩), .pointer (some ⟨bk, 0, none⟩)] ∧ k < 4 ∧ MpAt Q W b m v q ∧ St F W bp (.cells #[.pointer (some ⟨g, 0, none⟩)] 93) ∧ St F W bk (.cells #[.int .i64 (k : Int)] 3) ∧ St F W bm (.cells #[.pointer (some ⟨b, 0, none⟩)] 226)

/-- A procedure that lies in new blocks. -/
def NewPr (w w' : World) (g : Nat) (pr af : Value) (ph : Ph) : Prop :=
  ∃ Q : Nat → Prop, (∀ j, Q j → w.heap.size ≤ j ∧ j < w'.heap.size) ∧ ∀ P : Nat → Prop, PrAt (FQ (Grw P w w') Q g) Q w' g pr af ph
/-- The probe's block keeps, but for the procedure and the device's numbers. -/
def StepTo (w : World) (g : Nat) (win : Nat → Int × Int) (ov sv : Value) (mv : Nat → Value) (q : Int) (ph : Ph) (d : Dv) (w' : World) : Prop :=
  (∃ pr af, PbI w' g win pr af d ov sv mv q ∧ NewPr w w' g pr af ph) ∧ Keeps (· = g) w w'

/-- The table that comes next. -/
def meas (win : Nat → Int × Int) : Nat → Dv → Ph × Dv
  | 0, d => (.done, d)
  | n + 1, d => if (win (3 - n)).2 = 0 then meas win n (d.tab (3 - n) { d.ts (3 - n) with st := 6 }) else (.seek (3 - n) (Sr.new ((3 - n : Nat) + 1)), d)
def WinOk (win : Nat → Int × Int) : Prop := ∀ k, k < 4 → 0 ≤ (win k).2 ∧ (win k).2 ≤ 512 ∧ 0 ≤ (win k).1 ∧ (win k).1 ≤ 65536 - (win k).2

theorem meas_skip {win : Nat → Int × Int} {k : Nat} {d : Dv} (hk : k < 4) (h : (win k).2 = 0) : meas win (4 - k) d = meas win (4 - (k + 1)) (d.tab k { d.ts k with st := 6 }) := by
  obtain ⟨n, hn⟩ : ∃ n, 4 - k = n + 1 := ⟨3 - k, by omega⟩
  rw [hn, show 4 - (k + 1) = n by omega]
  have hk3 : 3 - n = k := by omega
  show (if (win (3 - n)).2 = 0 then _ else _) = _
  rw [hk3, if_pos h]
theorem meas_go {win : Nat → Int × Int} {k : Nat} {d : Dv} (hk : k < 4) (h : ¬ (win k).2 = 0) : meas win (4 - k) d = (.seek k (Sr.new ((k : Nat) + 1)), d) := by
  obtain ⟨n, hn⟩ : ∃ n, 4 - k = n + 1 := ⟨3 - k, by omega⟩
  rw [hn]
  have hk3 : 3 - n = k := by omega
  show (if (win (3 - n)).2 = 0 then _ else _) = _
  rw [hk3, if_neg h]
theorem PbI.count {W : World} {g : Nat} {win : Nat → Int × Int} {pr af : Value} {d : Dv} {ov sv : Value} {mv : Nat → Value} {q : Int} (h : PbI W g win pr af d ov sv mv q) {k : Nat} (hk : k < 4) :
    W.cell? ⟨g, k * 2 + 1, none⟩ = some (.int .i64 (win k).2) := by
  rw [hpCell h]
  match k, hk with
  | 0, _ => rfl
  | 1, _ => rfl
  | 2, _ => rfl
  | 3, _ => rfl

theorem PbI.tst {W : World} {g : Nat} {win : Nat → Int × Int} {pr af : Value} {d : Dv} {ov sv : Value} {mv : Nat → Value} {q : Int} (h : PbI W g win pr af d ov sv mv q) {k : Nat} (hk : k < 4) :
    W.cell? ⟨g, 18 + k * 3, none⟩ = some (.int .i64 (d.ts k).st) := by
  rw [hpCell h]
  match k, hk with
  | 0, _ => rfl
  | 1, _ => rfl
  | 2, _ => rfl
  | 3, _ => rfl
theorem PbI.setSt {W : World} {g : Nat} {win : Nat → Int × Int} {pr af : Value} {d : Dv} {ov sv : Value} {mv : Nat → Value} {q : Int} (h : PbI W g win pr af d ov sv mv q) {k : Nat} (hk : k < 4) (s : Int) :
    PbI (W.setCell ⟨g, 18 + k * 3, none⟩ (.int .i64 s)) g win pr af (d.tab k { d.ts k with st := s }) ov sv mv q := by
  refine hpSetP h ?_
  match k, hk with
  | 0, _ => rfl
  | 1, _ => rfl
  | 2, _ => rfl
  | 3, _ => rfl
theorem PbI.keep {W W' : World} {g : Nat} {win : Nat → Int × Int} {pr af : Value} {d : Dv} {ov sv : Value} {mv : Nat → Value} {q : Int} (h : PbI W g win pr af d ov sv mv q) (hb : Below W.heap.size W W') : PbI W' g win pr af d ov sv mv q := hpKeep h hb

theorem begin_pb {W : World} {g : Nat} {win : Nat → Int × Int} {pr af : Value} {d : Dv} {ov sv : Value} {mv : Nat → Value} {q : Int} (h : PbI W g win pr af d ov sv mv q) (b : Nat) (t : TypeId) (fn : Fn) (fi ca : Array Value) :
    Calls Tryz.prog 80 #[.pointer (some ⟨g, 0, none⟩), .iface t (.pointer (some ⟨b, 0, none⟩)), .func fn fi ca] W fun r w' => r = .returned (.tuple #[]) ∧ w' = (W.setCell ⟨g, 8, none⟩ (.iface t (.pointer (some ⟨b, 0, none⟩)))).setCell ⟨g, 9, none⟩ (.func fn fi ca) :=
  begin_any g b t fn fi ca _ rfl W h
theorem pend_pb {W : World} {g : Nat} {win : Nat → Int × Int} {pr af : Value} {d : Dv} {ov sv : Value} {mv : Nat → Value} {q : Int} (h : PbI W g win pr af d ov sv mv q) :
    Calls Tryz.prog 127 #[.pointer (some ⟨g, 0, none⟩)] W fun r w' => r = .returned (.tuple #[]) ∧ w' = (W.setCell ⟨g, 8, none⟩ .nilIface).setCell ⟨g, 9, none⟩ .nilFunc :=
  pend_any g _ rfl W h
theorem Keeps.setNew {F : Nat → Prop} {a w : World} (h : Keeps F a w) (p : Addr) (v : Value) (hp : a.heap.size ≤ p.block) : Keeps F a (w.setCell p v) :=
  ⟨h.os, h.tape, h.output, by simp [World.setCell]; exact h.size, fun i hi hn => by
    rw [Below.heap_setCell _ _ _ _ (by rintro rfl; omega)]; exact h.block i hi hn⟩
theorem St.of {F : Nat → Prop} {W : World} {b : Nat} {o : Obj} (h : W.heap[b]? = some o) (hn : ¬ F b) : St F W b o := fun _ hk => hpKeeps h hk hn
/-- A block of this call's, other than the procedure's. -/
theorem FQ.new {P Q : Nat → Prop} {w w' : World} {g j : Nat} (h1 : w.heap.size ≤ j) (h2 : j < w'.heap.size) (h3 : ¬ Q j) (h4 : j ≠ g) : ¬ FQ (Grw P w w') Q g j := fun h => by
  rcases h with h | h | h
  · exact h (.inr ⟨h1, h2⟩)
  · exact h3 h
  · exact h4 h

set_option maxRecDepth 100000 in
set_option maxHeartbeats 6400000 in
theorem measure_any (g : Nat) (win : Nat → Int × Int) (pr af : Value) (d : Dv) (ov sv : Value) (mv : Nat → Value) (q : Int) (k0 : Nat) (hk0 : k0 ≤ 4) (w : World) (h : PbI w g win pr af d ov sv mv q) (ph : Ph) (d' : Dv) (hm : Hid (meas win (4 - k0) d = (ph, d'))) :
    Calls Tryz.prog 159 #[.pointer (some ⟨g, 0, none⟩), .int .i64 (k0 : Int)] w fun r w' => r = .returned (.tuple #[]) ∧ StepTo w g win ov sv mv q ph d' w' := by
  have hmf : ∀ (fn : Fn) (first cap : Array Value) (w : World), (Instr.makeFunc fn first cap).run Tryz.prog w = .ok (.func fn first cap) w := fun _ _ _ _ => rfl
  have hgl : g < w.heap.size := hpLt h
  obtain ⟨W0, hW0⟩ : ∃ W, (w.alloc (.cells #[.pointer (some ⟨g, 0, none⟩)] 93)).alloc (.cells #[.int .i64 (k0 : Int)] 3) = W := ⟨_, rfl⟩
  have hb0 : Below w.heap.size w W0 := by rw [← hW0]; exact bta (bal' w _) (Nat.le_refl _) _
  have hz0 : W0.heap.size = w.heap.size + 2 := by rw [← hW0]; simp
  have pA : W0.heap[w.heap.size]? = some (.cells #[.pointer (some ⟨g, 0, none⟩)] 93) := by rw [← hW0]; exact hpKeep (hpNew w _) (bal' _ _)
  have pB : W0.heap[w.heap.size + 1]? = some (.cells #[.int .i64 (k0 : Int)] 3) := by
    rw [← hW0]
    have := hpNew (w.alloc (.cells #[.pointer (some ⟨g, 0, none⟩)] 93)) (.cells #[.int .i64 (k0 : Int)] 3)
    simpa using this
  have H := hid h
  have HW0 := hid hW0
  have HB0 := hid hb0
  have HZ0 := hid hz0
  have PA := hid pA
  have PB := hid pB
  clear hW0 hb0 hz0 pA pB h
  go_enter Tryz.func159, Tryz.ntmps159
  go_upto_region 1 with (fail)
  rw [HW0.out]
  go_loopw [] (fun wr => ∃ (k : Nat) (d1 : Dv), k ≤ 4 ∧ Hid (meas win (4 - k) d1 = (ph, d')) ∧ Hid (PbI wr g win pr af d1 ov sv mv q) ∧ Hid (wr.heap[w.heap.size]? = some (.cells #[.pointer (some ⟨g, 0, none⟩)] 93)) ∧ wr.heap[w.heap.size + 1]? = some (.cells #[.int .i64 (k : Int)] 3) ∧ Hid (Keeps (· = g) w wr) ∧ Hid (wr.heap.size = w.heap.size + 2)) (fun wr => 4 - (intOf ((wr.cell? ⟨w.heap.size + 1, 0, none⟩).getD (.int .i64 0))).toNat)
  case atStart => exact ⟨k0, d, hk0, hm, hpKeep H.out HB0.out, PA.out, PB.out, Keeps.of_below HB0.out, HZ0.out⟩
  case round =>
    obtain ⟨k, d1, hk, hme, hpb, hpa, hpk, hkp, hzr⟩ := hrel
    have e0 : wr.cell? ⟨w.heap.size, 0, none⟩ = some (.pointer (some ⟨g, 0, none⟩)) := hpCell hpa.out 0
    have e1 : wr.cell? ⟨w.heap.size + 1, 0, none⟩ = some (.int .i64 (k : Int)) := hpCell hpk 0
    have f1 : wr.frozen? ⟨w.heap.size + 1, 0, none⟩ = false := hpFree hpk 0
    have HPK := hid hpk
    clear hpk
    have hki : (0 : Int) ≤ (k : Int) := Int.natCast_nonneg _
    by_cases hlt : k < 4
    · have hkl : (k : Int) < 4 := by omega
      have hc : wr.cell? ⟨g, k * 2 + 1, none⟩ = some (.int .i64 (win k).2) := hpb.out.count hlt
      by_cases hz : (win k).2 = 0
      · have dz := b1 hz
        have HME : Hid (meas win (4 - (k + 1)) (d1.tab k { d1.ts k with st := 6 }) = (ph, d')) := by show _ = _; rw [← meas_skip hlt hz]; exact hme.out
        clear hz hme
        have c2 : wr.cell? ⟨g, 18 + k * 3, none⟩ = some (.int .i64 (d1.ts k).st) := hpb.out.tst hlt
        have f2 : wr.frozen? ⟨g, 18 + k * 3, none⟩ = false := hpFree hpb.out _
        go_upto_region 1 with (fail)
        go_quiet (fail)
        go_wp2
        go_region
        go_wp2
        go_roundw
        case rel =>
          refine ⟨k + 1, d1.tab k { d1.ts k with st := 6 }, by omega, HME.out, ?_, ?_, ?_, ?_, ?_⟩
          · exact (hpOther (by omega)).trans ((hpb.out.keep (below_drewN (Below.refl _ _) _).drew).setSt hlt 6)
          · exact (hpOther (by omega)).trans ((hpOther (by omega)).trans (hpKeep hpa.out (below_drewN (Below.refl _ _) _).drew))
          · exact hpSetP ((hpOther (by omega)).trans (hpKeep HPK.out (below_drewN (Below.refl _ _) _).drew)) (by simp)
          · exact Keeps.setNew (ks1 (hkp.out.trans (Keeps.of_below (below_drewN (Below.refl _ _) _).drew) (fun _ _ e => e)) _ _) _ _ (by show w.heap.size ≤ w.heap.size + 1; omega)
          · show _ = _
            have := hzr.out
            simp
            omega
        case measure =>
          have pk' := hpSetP (i := 0) (u := .int .i64 ((k : Int) + 1)) (C := #[.int .i64 ((k : Int) + 1)]) ((hpOther (w := (wr.drewN (nq + 1))) (b := g) (i := 18 + k * 3) (u := .int .i64 6) (by omega : w.heap.size + 1 ≠ g)).trans (hpKeep HPK.out (below_drewN (Below.refl _ _) _))) rfl
          rw [hpCell pk' 0, e1]
          simp [intOf]
          omega
      · have dz := b0 hz
        have d4 : ((k : Int) == 4) = false := b0 (by omega)
        have sw : IntKind.i64.wrap ((k : Int) + 1) = (k : Int) + 1 := IntWalk.i64_in _ (by omega)
        have HME : Hid (ph = .seek k (Sr.new ((k : Int) + 1)) ∧ d' = d1) := by
          have h := hme.out
          rw [meas_go hlt hz] at h
          exact ⟨(Prod.mk.inj h).1.symm, (Prod.mk.inj h).2.symm⟩
        have HSN : Hid (∀ X, Calls Tryz.prog 166 #[.int .i64 ((k : Int) + 1)] X fun r w' => ∃ b : Nat, r = .returned (.pointer (some ⟨b, 0, none⟩)) ∧ X.heap.size ≤ b ∧ SrAt w' b (Sr.new ((k : Int) + 1)) ∧ Below X.heap.size X w') := fun X => snew_any _ (by omega) X
        clear hz hme
        go_upto_region 1 with (fail)
        go_quiet (fail)
        have hbq : Below wr.heap.size wr (wr.drewN nq) := below_drewN (Below.refl _ _) _
        generalize wr.drewN nq = wq at *
        have q0 := cell_keep hbq e0
        have q1 := cell_keep hbq e1
        go_wp2_with (first | (go_at_call 166; (with_reducible refine (HSN.out _).mono ?_); rintro r w4 ⟨b4, rfl, hge4, hsr4, hb4⟩; have hbx := bt hbq hb4 (Nat.le_refl _); have q2 := cell_keep hbx e0; have q3 := (fun o => cell_keep (bal' w4 o) q2); have hpb5 : ∀ o, PbI (w4.alloc o) g win pr af d1 ov sv mv q := (fun o => (hpb.out.keep hbx).keep (bal' _ _)); have hk5 := hkp.out.trans (Keeps.of_below hbx) (fun _ _ e => e)) | (go_at_call 80; (with_reducible refine (begin_pb (hpb5 _) _ _ _ _ _).mono ?_); rintro r w6 ⟨rfl, rfl⟩))
        go_end0
        have hz4 : wr.heap.size ≤ b4 := by have := hbq.size; omega
        have hl4 : b4 < w4.heap.size := hsr4.lt
        have hzz := hzr.out
        have hs4 := hbx.size
        refine ⟨rfl, ⟨.iface 221 (.pointer (some ⟨b4, 0, none⟩)), .func (.func 167) #[] #[.pointer (some ⟨w.heap.size, 0, none⟩), .pointer (some ⟨w.heap.size + 1, 0, none⟩), .pointer (some ⟨w4.heap.size, 0, none⟩)], ?_, (· = b4), fun j hj => ?_, fun P => ?_⟩, ?_⟩
        · rw [HME.out.2]
          exact (hpb5 _).begun _ _
        · subst hj
          simp
          omega
        · rw [HME.out.1]
          refine ⟨b4, w.heap.size, w.heap.size + 1, w4.heap.size, rfl, rfl, hlt, rfl, ?_, ?_, ?_, ?_⟩
          · exact (hpOther (by omega)).trans ((hpOther (by omega)).trans (hpKeep hsr4 (bal' _ _)))
          · exact St.of ((hpOther (by omega)).trans ((hpOther (by omega)).trans (hpKeep (hpKeep hpa.out hbx) (bal' _ _)))) (FQ.new (by omega) (by simp; omega) (by omega) (by omega))
          · exact St.of ((hpOther (by omega)).trans ((hpOther (by omega)).trans (hpKeep (hpKeep HPK.out hbx) (bal' _ _)))) (FQ.new (by omega) (by simp; omega) (by omega) (by omega))
          · exact St.of ((hpOther (by omega)).trans ((hpOther (by omega)).trans (hpNew _ _))) (FQ.new (by omega) (by simp) (by omega) (by omega))
        · exact ks1 (ks1 (hk5.trans (Keeps.of_below (bal' _ _)) (fun _ _ e => e)) _ _) _ _
    · obtain rfl : k = 4 := by omega
      have HME : Hid (ph = .done ∧ d' = d1) := by
        have h := hme.out
        exact ⟨(Prod.mk.inj h).1.symm, (Prod.mk.inj h).2.symm⟩
      have d3 : ¬ ((4 : Nat) : Int) < 4 := by decide
      have d4 : (((4 : Nat) : Int) == 4) = true := by decide
      have hbq0 : ∀ n, Below wr.heap.size wr (wr.drewN n) := fun n => below_drewN (Below.refl _ _) _
      clear hme
      go_upto_region 1 with (fail)
      go_quiet (fail)
      have hbq := hbq0 nq
      generalize wr.drewN nq = wq at *
      have q0 := cell_keep hbq e0
      have q1 := cell_keep hbq e1
      have hpq := hpb.out.keep hbq
      go_wp2_with (go_at_call 127; (with_reducible refine (pend_pb hpq).mono ?_); rintro r w6 ⟨rfl, rfl⟩)
      refine bodyPost_ret (results_none rfl _ _ _) rfl ?_
      exact ⟨rfl, ⟨.nilIface, .nilFunc, (by rw [HME.out.2]; exact hpq.begun _ _), fun _ => False, (fun j hj => hj.elim), fun P => (by rw [HME.out.1]; exact ⟨rfl, rfl⟩)⟩, ks1 (ks1 (hkp.out.trans (Keeps.of_below hbq) (fun _ _ e => e)) _ _) _ _⟩

end Go.Proofs.YtipnamoocemeeaaGreat
