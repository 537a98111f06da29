/-
  Texts 14 of the claim.
-/
import Derived.Test.YtipnamoocemeeaaGreatC13
/-
  A probe of the program: the contracts of the functions that take an outcome, and of those that follow a procedure (identification, server).
-/
namespace Go.Proofs.YtipnamoocemeeaaGreat
open Go.RowKit

theorem PbI.setState {W : World} {g : Nat} {win : Nat → Int × Int} {pr af : Value} {d : Dv} {ov sv : Value} {mv : Nat → Value} {q : Int} (h : PbI W g win pr af d ov sv mv q) (s : Int) :
    PbI (W.setCell ⟨g, 12, none⟩ (.int .i64 s)) g win pr af { d with st := s } ov sv mv q := hpSetP h rfl

set_option maxRecDepth 100000 in
set_option maxHeartbeats 3200000 in
theorem store_state (g bp : Nat) (win : Nat → Int × Int) (pr af : Value) (d : Dv) (ov sv : Value) (mv : Nat → Value) (q : Int) (w : World) (h : PbI w g win pr af d ov sv mv q) (hb : w.heap[bp]? = some (.cells #[.pointer (some ⟨g, 0, none⟩)] 93)) (hne : bp ≠ g) (v x : Int) (f da c l m n ob : Value) :
    Calls Tryz.prog 82 #[.agg #[.int .i64 v, f, .int .i64 x, da, c, l, m, n, ob], .pointer (some ⟨bp, 0, none⟩)] w fun r w' => r = .returned (.tuple #[]) ∧ PbI w' g win pr af { d with st := stateOf v } ov sv mv q ∧ Keeps (· = g) w w' := by
  have hgl : g < w.heap.size := hpLt h
  obtain ⟨W0, hW0⟩ : ∃ W, w.alloc (.cells #[.int .i64 v, f, .int .i64 x, da, c, l, m, n, ob] 55) = W := ⟨_, rfl⟩
  have hb0 : Below w.heap.size w W0 := by rw [← hW0]; exact bal' w _
  have p0 : W0.heap[w.heap.size]? = some (.cells #[.int .i64 v, f, .int .i64 x, da, c, l, m, n, ob] 55) := by rw [← hW0]; exact hpNew w _
  have hne2 : w.heap.size ≠ g := by omega
  have x0 : ∀ X, Keeps (· = g) W0 X → X.cell? ⟨bp, 0, none⟩ = some (.pointer (some ⟨g, 0, none⟩)) := fun X k => hpCell (hpKeeps (hpKeep hb hb0) k hne) 0
  have o0 : ∀ X, Keeps (· = g) W0 X → X.cell? ⟨w.heap.size, 0, none⟩ = some (.int .i64 v) := fun X k => hpCell (hpKeeps p0 k hne2) 0
  have o1 : ∀ X, Keeps (· = g) W0 X → X.cell? ⟨w.heap.size, 1, none⟩ = some f := fun X k => hpCell (hpKeeps p0 k hne2) 1
  have o2 : ∀ X, Keeps (· = g) W0 X → X.cell? ⟨w.heap.size, 2, none⟩ = some (.int .i64 x) := fun X k => hpCell (hpKeeps p0 k hne2) 2
  have o3 : ∀ X, Keeps (· = g) W0 X → X.cell? ⟨w.heap.size, 3, none⟩ = some da := fun X k => hpCell (hpKeeps p0 k hne2) 3
  have o4 : ∀ X, Keeps (· = g) W0 X → X.cell? ⟨w.heap.size, 4, none⟩ = some c := fun X k => hpCell (hpKeeps p0 k hne2) 4
  have o5 : ∀ X, Keeps (· = g) W0 X → X.cell? ⟨w.heap.size, 5, none⟩ = some l := fun X k => hpCell (hpKeeps p0 k hne2) 5
  have o6 : ∀ X, Keeps (· = g) W0 X → X.cell? ⟨w.heap.size, 6, none⟩ = some m := fun X k => hpCell (hpKeeps p0 k hne2) 6
  have o7 : ∀ X, Keeps (· = g) W0 X → X.cell? ⟨w.heap.size, 7, none⟩ = some n := fun X k => hpCell (hpKeeps p0 k hne2) 7
  have o8 : ∀ X, Keeps (· = g) W0 X → X.cell? ⟨w.heap.size, 8, none⟩ = some ob := fun X k => hpCell (hpKeeps p0 k hne2) 8
  have k0 : Keeps (· = g) W0 W0 := Keeps.refl _ _
  have kD : Keeps (· = g) W0 W0.drew := Keeps.of_below (Below.refl _ _).drew
  have kS : ∀ X a, Keeps (· = g) W0 X → Keeps (· = g) W0 (X.setCell ⟨g, 12, none⟩ a) := fun X a h => ks1 h _ _
  have H := hid (PbI.keep h hb0)
  have HW0 := hid hW0
  have HB0 := hid hb0
  clear hW0 hb0 p0 h hb
  obtain ⟨S, hS⟩ : ∃ S, stateOf v = S := ⟨_, rfl⟩
  rw [hS]
  have HST : Hid (Calls Tryz.prog 83 #[.agg #[.int .i64 v, f, .int .i64 x, da, c, l, m, n, ob]] W0.drew fun r w' => r = .returned (.int .i64 S) ∧ Below W0.drew.heap.size W0.drew w') := by rw [← hS]; exact state_any _ _ _ _ _ _ _ _ _ _
  clear hS
  go_enter Tryz.func82, Tryz.ntmps82
  go_upto_region 1 with (fail)
  rw [HW0.out]
  go_region_held3 (fun X => Keeps (· = g) W0 X) ((with_reducible (first | exact kD | assumption | exact k0 | exact kS _ _ hK2)))
    ((go_at_call 83; (with_reducible refine HST.out.mono ?_); rintro r w2 ⟨rfl, hb2⟩; have hB2 : Below W0.heap.size W0 w2 := bt (Below.refl _ _).drew hb2 (Nat.le_refl _); have hK2 : Keeps (· = g) W0 w2 := Keeps.of_below hB2; have hp2 := H.out.keep hB2; have c12 : w2.cell? ⟨g, 12, none⟩ = some (.int .i64 d.st) := hpCell hp2 12; have f12 : w2.frozen? ⟨g, 12, none⟩ = false := hpFree hp2 12))
  all_goals
    go_wp2
    go_end0
    exact ⟨rfl, hp2.setState S, ks1 (Keeps.of_below (bt HB0.out hB2 (Nat.le_refl _))) _ _⟩

theorem PbI.setServer {W : World} {g : Nat} {win : Nat → Int × Int} {pr af : Value} {d : Dv} {ov sv : Value} {mv : Nat → Value} {q : Int} (h : PbI W g win pr af d ov sv mv q) (s : Int) (D : List UInt8) (u : Value) :
    PbI ((W.setCell ⟨g, 16, none⟩ (.int .i64 s)).setCell ⟨g, 17, none⟩ u) g win pr af { d with srv := s, sd := D } ov u mv q := hpSetP (hpSetP h rfl) rfl

set_option maxRecDepth 100000 in
set_option maxHeartbeats 3200000 in
theorem store_server (g bp : Nat) (win : Nat → Int × Int) (pr af : Value) (d : Dv) (ov sv : Value) (mv : Nat → Value) (q : Int) (w : World) (h : PbI w g win pr af d ov sv mv q) (hb : w.heap[bp]? = some (.cells #[.pointer (some ⟨g, 0, none⟩)] 93)) (hne : bp ≠ g) (O : Oc) (da : Option Addr) (dc : Nat) (oa : Option Addr) (oc : Nat) (hO : O.reply.data.length ≤ 300) (HI : Bs w (.slice da O.reply.data.length dc) O.reply.data) :
    Calls Tryz.prog 155 #[.agg #[.int .i64 O.verdict, .int .i64 O.reply.fn, .int .i64 O.reply.exc, .slice da O.reply.data.length dc, .int .i64 O.reply.code, .int .i64 O.reply.level, .bool O.reply.more, .int .i64 O.reply.next, .slice oa O.reply.objs.length oc], .pointer (some ⟨bp, 0, none⟩)] w fun r w' => r = .returned (.tuple #[]) ∧ ∃ a k w2, w'.heap.size = w2.heap.size ∧ PbI w' g win pr af { d with srv := srvSt O, sd := srvData O } ov (.slice a (srvData O).length k) mv q ∧ w2.ownsRow w.heap.size 5 1 (.slice a (srvData O).length k) (srvData O).length (u8s (srvData O)) ∧ Below w.heap.size w w2 ∧ Keeps (· = g) w2 w' := by
  have hgl : g < w.heap.size := hpLt h
  obtain ⟨W0, hW0⟩ : ∃ W, w.alloc (.cells #[.int .i64 O.verdict, .int .i64 O.reply.fn, .int .i64 O.reply.exc, .slice da O.reply.data.length dc, .int .i64 O.reply.code, .int .i64 O.reply.level, .bool O.reply.more, .int .i64 O.reply.next, .slice oa O.reply.objs.length oc] 55) = W := ⟨_, rfl⟩
  have hb0 : Below w.heap.size w W0 := by rw [← hW0]; exact bal' w _
  have p0 : W0.heap[w.heap.size]? = some (.cells #[.int .i64 O.verdict, .int .i64 O.reply.fn, .int .i64 O.reply.exc, .slice da O.reply.data.length dc, .int .i64 O.reply.code, .int .i64 O.reply.level, .bool O.reply.more, .int .i64 O.reply.next, .slice oa O.reply.objs.length oc] 55) := by rw [← hW0]; exact hpNew w _
  have hne2 : w.heap.size ≠ g := by omega
  have x0 : ∀ X, Keeps (· = g) W0 X → X.cell? ⟨bp, 0, none⟩ = some (.pointer (some ⟨g, 0, none⟩)) := fun X k => hpCell (hpKeeps (hpKeep hb hb0) k hne) 0
  have o0 : ∀ X, Keeps (· = g) W0 X → X.cell? ⟨w.heap.size, 0, none⟩ = some (.int .i64 O.verdict) := fun X k => hpCell (hpKeeps p0 k hne2) 0
  have o1 : ∀ X, Keeps (· = g) W0 X → X.cell? ⟨w.heap.size, 1, none⟩ = some (.int .i64 O.reply.fn) := fun X k => hpCell (hpKeeps p0 k hne2) 1
  have o2 : ∀ X, Keeps (· = g) W0 X → X.cell? ⟨w.heap.size, 2, none⟩ = some (.int .i64 O.reply.exc) := fun X k => hpCell (hpKeeps p0 k hne2) 2
  have o3 : ∀ X, Keeps (· = g) W0 X → X.cell? ⟨w.heap.size, 3, none⟩ = some (.slice da O.reply.data.length dc) := fun X k => hpCell (hpKeeps p0 k hne2) 3
  have o4 : ∀ X, Keeps (· = g) W0 X → X.cell? ⟨w.heap.size, 4, none⟩ = some (.int .i64 O.reply.code) := fun X k => hpCell (hpKeeps p0 k hne2) 4
  have o5 : ∀ X, Keeps (· = g) W0 X → X.cell? ⟨w.heap.size, 5, none⟩ = some (.int .i64 O.reply.level) := fun X k => hpCell (hpKeeps p0 k hne2) 5
  have o6 : ∀ X, Keeps (· = g) W0 X → X.cell? ⟨w.heap.size, 6, none⟩ = some (.bool O.reply.more) := fun X k => hpCell (hpKeeps p0 k hne2) 6
  have o7 : ∀ X, Keeps (· = g) W0 X → X.cell? ⟨w.heap.size, 7, none⟩ = some (.int .i64 O.reply.next) := fun X k => hpCell (hpKeeps p0 k hne2) 7
  have o8 : ∀ X, Keeps (· = g) W0 X → X.cell? ⟨w.heap.size, 8, none⟩ = some (.slice oa O.reply.objs.length oc) := fun X k => hpCell (hpKeeps p0 k hne2) 8
  have k0 : Keeps (· = g) W0 W0 := Keeps.refl _ _
  have kD : Keeps (· = g) W0 W0.drew := Keeps.of_below (Below.refl _ _).drew
  have kS : ∀ X a b, Keeps (· = g) W0 X → Keeps (· = g) W0 ((X.setCell ⟨g, 16, none⟩ a).setCell ⟨g, 17, none⟩ b) := fun X a b h => ks1 (ks1 h _ _) _ _
  have kS1 : ∀ X a, Keeps (· = g) W0 X → Keeps (· = g) W0 (X.setCell ⟨g, 16, none⟩ a) := fun X a h => ks1 h _ _
  have H := hid (PbI.keep h hb0)
  have HW0 := hid hW0
  have HB0 := hid hb0
  obtain ⟨S, hS⟩ : ∃ S, srvSt O = S := ⟨_, rfl⟩
  obtain ⟨D, hD⟩ : ∃ S, srvData O = S := ⟨_, rfl⟩
  rw [hS, hD]
  have HST : Hid (Calls Tryz.prog 156 #[.agg #[.int .i64 O.verdict, .int .i64 O.reply.fn, .int .i64 O.reply.exc, .slice da O.reply.data.length dc, .int .i64 O.reply.code, .int .i64 O.reply.level, .bool O.reply.more, .int .i64 O.reply.next, .slice oa O.reply.objs.length oc]] W0.drew (SrvPost W0.drew S D)) := sresult_srv O da dc oa oc hO W0.drew (HI.keep (bt hb0 (Below.refl _ _).drew (Nat.le_refl _))) S D hS hD
  clear hS hD hW0 hb0 p0 h hb HI hO
  obtain ⟨dl, hdl⟩ : ∃ n, O.reply.data.length = n := ⟨_, rfl⟩
  obtain ⟨ol, hol⟩ : ∃ n, O.reply.objs.length = n := ⟨_, rfl⟩
  rw [hdl] at HST o3 HW0 ⊢
  rw [hol] at HST o8 HW0 ⊢
  clear hdl hol
  go_enter Tryz.func155, Tryz.ntmps155
  go_upto_region 1 with (fail)
  rw [HW0.out]
  go_region_held3 (fun X => Keeps (· = g) W0 X) ((with_reducible (first | exact kD | assumption | exact k0 | exact kS1 _ _ hK2 | exact kS _ _ _ hK2)))
    ((go_at_call 156; (with_reducible refine HST.out.mono ?_); rintro r w2 ⟨a2, k2, rfl, hr2, hb2⟩; have hB2 : Below W0.heap.size W0 w2 := bt (Below.refl _ _).drew hb2 (Nat.le_refl _); have hK2 : Keeps (· = g) W0 w2 := Keeps.of_below hB2; have hp2 := H.out.keep hB2; have c16 : w2.cell? ⟨g, 16, none⟩ = some (.int .i64 d.srv) := hpCell hp2 16; have f16 : w2.frozen? ⟨g, 16, none⟩ = false := hpFree hp2 16; have c17 : w2.cell? ⟨g, 17, none⟩ = some sv := hpCell hp2 17; have f17 : w2.frozen? ⟨g, 17, none⟩ = false := hpFree hp2 17))
  all_goals
    go_wp2
    go_end0
    exact ⟨rfl, a2, k2, w2, (by simp), hp2.setServer S D _, own_lower hr2 (by have := HB0.out.size; simp; omega), bt HB0.out hB2 (Nat.le_refl _), ks1 (ks1 (Keeps.refl _ _) _ _) _ _⟩

end Go.Proofs.YtipnamoocemeeaaGreat
