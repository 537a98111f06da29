/-
  Texts 14 of the claim.
-/
import Derived.Test.YtipnamoocemeeaaGreatD13
namespace Go.Proofs.YtipnamoocemeeaaGreat
open Go.RowKit
set_option maxRecDepth 100000 in
set_option maxHeartbeats 3200000 in
theorem once_next (b : Nat) (q : Rq) (f : Value) (dn : Bool) (w : World) (h : OnAt w b q f dn) (V : Bool) (hV : (!dn) = V) :
    Calls Tryz.prog 193 #[.pointer (some ⟨b, 0, none⟩)] w (AskPost w q V) := by
  subst hV
  obtain ⟨W0, hW0⟩ : ∃ W, w.alloc (.cells #[.int .i64 0, .int .i64 0, .int .i64 0, .int .i64 0, .int .i64 0] 39) = W := ⟨_, rfl⟩
  have hb0 : Below w.heap.size w W0 := by rw [← hW0]; exact bal' w _
  have p0 : W0.heap[w.heap.size]? = some (.cells #[.int .i64 0, .int .i64 0, .int .i64 0, .int .i64 0, .int .i64 0] 39) := by rw [← hW0]; exact hpNew w _
  have hbl : b < w.heap.size := hpLt h
  have hbn : b ≠ w.heap.size := by omega
  have h0 := hpKeep h hb0
  have c0 : W0.cell? ⟨b, 0, none⟩ = some (.int .i64 q.fn) := hpCell h0 0
  have c1 : W0.cell? ⟨b, 1, none⟩ = some (.int .i64 q.addr) := hpCell h0 1
  have c2 : W0.cell? ⟨b, 2, none⟩ = some (.int .i64 q.qty) := hpCell h0 2
  have c3 : W0.cell? ⟨b, 3, none⟩ = some (.int .i64 q.code) := hpCell h0 3
  have c4 : W0.cell? ⟨b, 4, none⟩ = some (.int .i64 q.obj) := hpCell h0 4
  have c6 : W0.cell? ⟨b, 6, none⟩ = some (.bool dn) := hpCell h0 6
  have z0 : W0.cell? ⟨w.heap.size, 0, none⟩ = some (.int .i64 0) := hpCell p0 0
  have z1 : W0.cell? ⟨w.heap.size, 1, none⟩ = some (.int .i64 0) := hpCell p0 1
  have z2 : W0.cell? ⟨w.heap.size, 2, none⟩ = some (.int .i64 0) := hpCell p0 2
  have z3 : W0.cell? ⟨w.heap.size, 3, none⟩ = some (.int .i64 0) := hpCell p0 3
  have z4 : W0.cell? ⟨w.heap.size, 4, none⟩ = some (.int .i64 0) := hpCell p0 4
  have y0 : W0.frozen? ⟨w.heap.size, 0, none⟩ = false := hpFree p0 0
  have y1 : W0.frozen? ⟨w.heap.size, 1, none⟩ = false := hpFree p0 1
  have y2 : W0.frozen? ⟨w.heap.size, 2, none⟩ = false := hpFree p0 2
  have y3 : W0.frozen? ⟨w.heap.size, 3, none⟩ = false := hpFree p0 3
  have y4 : W0.frozen? ⟨w.heap.size, 4, none⟩ = false := hpFree p0 4
  have HW0 := hid hW0
  have HB0 := hid hb0
  clear hW0 hb0 p0 h h0 hbl
  go_enter Tryz.func193, Tryz.ntmps193
  go_upto_region 1 with (fail)
  rw [HW0.out]
  go_region
  all_goals
    go_wp2
    refine bodyPost_ret (v := .tuple #[.agg #[.int .i64 q.fn, .int .i64 q.addr, .int .i64 q.qty, .int .i64 q.code, .int .i64 q.obj], .bool (!dn)]) (by simp [results, Tryz.results193, go_sem, z0, z1, z2, z3, z4]) rfl ⟨rfl, ?_⟩
    exact (((((bt HB0.out (Below.refl _ _).drew (Nat.le_refl _)).setCell (p := ⟨w.heap.size, 0, none⟩) (Nat.le_refl _) _).setCell (p := ⟨w.heap.size, 1, none⟩) (Nat.le_refl _) _).setCell (p := ⟨w.heap.size, 2, none⟩) (Nat.le_refl _) _).setCell (p := ⟨w.heap.size, 3, none⟩) (Nat.le_refl _) _).setCell (p := ⟨w.heap.size, 4, none⟩) (Nat.le_refl _) _
def OnFed (P Q : Nat → Prop) (w : World) (g b : Nat) (win : Nat → Int × Int) (pr af : Value) (q : Int) (rq : Rq) (f : Value) (d : Dv) (r : Ending) (w' : World) : Prop :=
  r = .returned (.int .i64 0) ∧ (∃ ov sv mv, PbI w' g win pr af d ov sv mv q ∧ RdSt (fun j => j < w.heap.size ∧ FQ P Q g j) w' d ov sv mv) ∧ OnAt w' b rq f true ∧ Keeps (fun j => j = g ∨ j = b) w w'
set_option maxRecDepth 100000 in
set_option maxHeartbeats 3200000 in
theorem once_test (P Q : Nat → Prop) (g b bp : Nat) (win : Nat → Int × Int) (pr af : Value) (d : Dv) (ov sv : Value) (mv : Nat → Value) (q : Int) (w : World) (h : PbI w g win pr af d ov sv mv q) (hrd : RdSt (FQ P Q g) w d ov sv mv) (rq : Rq) (ho : OnAt w b rq (.func (.func 82) #[] #[.pointer (some ⟨bp, 0, none⟩)]) false) (hQ : Q b) (hbg : b ≠ g)
    (hbp : w.heap[bp]? = some (.cells #[.pointer (some ⟨g, 0, none⟩)] 93)) (hpg : bp ≠ g) (hpb : bp ≠ b) (O : Oc) (da : Option Addr) (dc : Nat) (oa : Option Addr) (oc : Nat) :
    Calls Tryz.prog 192 #[.pointer (some ⟨b, 0, none⟩), .agg #[.int .i64 O.verdict, .int .i64 O.reply.fn, .int .i64 O.reply.exc, .slice da O.reply.data.length dc, .int .i64 O.reply.code, .int .i64 O.reply.level, .bool O.reply.more, .int .i64 O.reply.next, .slice oa O.reply.objs.length oc]] w (OnFed P Q w g b win pr af q rq (.func (.func 82) #[] #[.pointer (some ⟨bp, 0, none⟩)]) { d with st := stateOf O.verdict }) := by
  obtain ⟨W0, hW0⟩ : ∃ W, w.alloc (.cells #[.int .i64 O.verdict, .int .i64 O.reply.fn, .int .i64 O.reply.exc, .slice da O.reply.data.length dc, .int .i64 O.reply.code, .int .i64 O.reply.level, .bool O.reply.more, .int .i64 O.reply.next, .slice oa O.reply.objs.length oc] 55) = W := ⟨_, rfl⟩; have hgl : g < w.heap.size := hpLt h; have hbl : b < w.heap.size := hpLt ho; have hb0 : Below w.heap.size w W0 := (by rw [← hW0]; exact bal' w _); have p0 : W0.heap[w.heap.size]? = some (.cells #[.int .i64 O.verdict, .int .i64 O.reply.fn, .int .i64 O.reply.exc, .slice da O.reply.data.length dc, .int .i64 O.reply.code, .int .i64 O.reply.level, .bool O.reply.more, .int .i64 O.reply.next, .slice oa O.reply.objs.length oc] 55) := (by rw [← hW0]; exact hpNew w _); have c6 : W0.cell? ⟨b, 6, none⟩ = some (.bool false) := hpCell (hpKeep ho hb0) 6; have f6 : W0.frozen? ⟨b, 6, none⟩ = false := hpFree (hpKeep ho hb0) 6; obtain ⟨W1, hW1⟩ : ∃ W, W0.setCell ⟨b, 6, none⟩ (.bool true) = W := ⟨_, rfl⟩; have hk1 : Keeps (· = b) w W1 := (by rw [← hW1]; exact ks1 (Keeps.of_below hb0) _ _); have p1 : W1.heap[w.heap.size]? = some (.cells #[.int .i64 O.verdict, .int .i64 O.reply.fn, .int .i64 O.reply.exc, .slice da O.reply.data.length dc, .int .i64 O.reply.code, .int .i64 O.reply.level, .bool O.reply.more, .int .i64 O.reply.next, .slice oa O.reply.objs.length oc] 55) := (by rw [← hW1]; exact (hpOther (by omega)).trans p0)
  have o1 : OnAt W1 b rq (.func (.func 82) #[] #[.pointer (some ⟨bp, 0, none⟩)]) true := (by rw [← hW1]; exact hpSetP (hpKeep ho hb0) rfl); have c5 : ∀ X, Keeps (· = g) W1 X → X.cell? ⟨b, 5, none⟩ = some (.func (.func 82) #[] #[.pointer (some ⟨bp, 0, none⟩)]) := (fun X k => hpCell (hpKeeps o1 k hbg) 5); have h1 : PbI W1 g win pr af d ov sv mv q := hpKeeps h hk1 (Ne.symm hbg); have hbp1 := hpKeeps hbp hk1 hpb; have hwg : w.heap.size ≠ g := (by omega)
  have x0 : ∀ X, Keeps (· = g) W1 X → X.cell? ⟨w.heap.size, 0, none⟩ = some (.int .i64 O.verdict) := (fun X k => hpCell (hpKeeps p1 k hwg) 0); have x1 : ∀ X, Keeps (· = g) W1 X → X.cell? ⟨w.heap.size, 1, none⟩ = some (.int .i64 O.reply.fn) := (fun X k => hpCell (hpKeeps p1 k hwg) 1); have x2 : ∀ X, Keeps (· = g) W1 X → X.cell? ⟨w.heap.size, 2, none⟩ = some (.int .i64 O.reply.exc) := (fun X k => hpCell (hpKeeps p1 k hwg) 2); have x3 : ∀ X, Keeps (· = g) W1 X → X.cell? ⟨w.heap.size, 3, none⟩ = some (.slice da O.reply.data.length dc) := (fun X k => hpCell (hpKeeps p1 k hwg) 3); have x4 : ∀ X, Keeps (· = g) W1 X → X.cell? ⟨w.heap.size, 4, none⟩ = some (.int .i64 O.reply.code) := (fun X k => hpCell (hpKeeps p1 k hwg) 4); have x5 : ∀ X, Keeps (· = g) W1 X → X.cell? ⟨w.heap.size, 5, none⟩ = some (.int .i64 O.reply.level) := (fun X k => hpCell (hpKeeps p1 k hwg) 5); have x6 : ∀ X, Keeps (· = g) W1 X → X.cell? ⟨w.heap.size, 6, none⟩ = some (.bool O.reply.more) := (fun X k => hpCell (hpKeeps p1 k hwg) 6); have x7 : ∀ X, Keeps (· = g) W1 X → X.cell? ⟨w.heap.size, 7, none⟩ = some (.int .i64 O.reply.next) := (fun X k => hpCell (hpKeeps p1 k hwg) 7); have x8 : ∀ X, Keeps (· = g) W1 X → X.cell? ⟨w.heap.size, 8, none⟩ = some (.slice oa O.reply.objs.length oc) := (fun X k => hpCell (hpKeeps p1 k hwg) 8)
  have hgl1 : w.heap.size ≤ W1.heap.size := hk1.size
  have HST : Hid (Calls Tryz.prog 82 #[.agg #[.int .i64 O.verdict, .int .i64 O.reply.fn, .int .i64 O.reply.exc, .slice da O.reply.data.length dc, .int .i64 O.reply.code, .int .i64 O.reply.level, .bool O.reply.more, .int .i64 O.reply.next, .slice oa O.reply.objs.length oc], .pointer (some ⟨bp, 0, none⟩)] W1.drew fun r w' => r = .returned (.tuple #[]) ∧ PbI w' g win pr af { d with st := stateOf O.verdict } ov sv mv q ∧ Keeps (· = g) W1.drew w') := store_state g bp win pr af d ov sv mv q W1.drew (h1.keep (Below.refl _ _).drew) (hpKeep hbp1 (Below.refl _ _).drew) hpg _ _ _ _ _ _ _ _ _
  have HW0 := hid hW0; have HW1 := hid hW1; have HK1 := hid hk1; have HO1 := hid o1; have HRD := hid hrd; have k0 : Keeps (· = g) W1 W1 := Keeps.refl _ _; have kD : Keeps (· = g) W1 W1.drew := Keeps.of_below (Below.refl _ _).drew; clear hW0 hW1 hb0 p0 p1 hk1 o1 h ho hbp h1 hbp1 hrd
  go_enter Tryz.func192, Tryz.ntmps192
  go_upto_region 1 with (fail)
  rw [HW0.out]
  go_upto_region 2 with (fail)
  rw [HW1.out]
  go_region_held3 (fun X => Keeps (· = g) W1 X) ((with_reducible (first | exact kD | assumption | exact k0)))
    ((go_at_call 82; (with_reducible refine HST.out.mono ?_); rintro r w2 ⟨rfl, hp2, hk2⟩; have hK2 : Keeps (· = g) W1 w2 := kD.trans hk2 (fun _ _ e => e)))
  all_goals
    go_wp2
    go_ret
    refine ⟨rfl, ⟨ov, sv, mv, hp2, ?_⟩, hpKeeps HO1.out hK2 hbg, (HK1.out.mono (fun _ _ e => .inr e)).trans hK2 (fun _ _ e => .inl e)⟩
    exact (HRD.out.keeps (H := fun j => j = g ∨ j = b) ((HK1.out.mono (fun _ _ e => .inr e)).trans hK2 (fun _ _ e => .inl e)) (fun j _ e => by rcases e with e | e; exact .inr (.inr e); subst e; exact .inr (.inl hQ)) (fun _ _ e => e.2)).num rfl rfl (fun _ => rfl)
set_option maxRecDepth 100000 in
set_option maxHeartbeats 3200000 in
theorem once_server (P Q : Nat → Prop) (g b bp : Nat) (win : Nat → Int × Int) (pr af : Value) (d : Dv) (ov sv : Value) (mv : Nat → Value) (q : Int) (w : World) (h : PbI w g win pr af d ov sv mv q) (hrd : RdSt (FQ P Q g) w d ov sv mv) (rq : Rq) (ho : OnAt w b rq (.func (.func 155) #[] #[.pointer (some ⟨bp, 0, none⟩)]) false) (hQ : Q b) (hbg : b ≠ g)
    (hbp : w.heap[bp]? = some (.cells #[.pointer (some ⟨g, 0, none⟩)] 93)) (hpg : bp ≠ g) (hpb : bp ≠ b) (O : Oc) (da : Option Addr) (dc : Nat) (oa : Option Addr) (oc : Nat) (hO : O.reply.data.length ≤ 300) (HI : ∀ W, Keeps (· = b) w W → Bs W (.slice da O.reply.data.length dc) O.reply.data) :
    Calls Tryz.prog 192 #[.pointer (some ⟨b, 0, none⟩), .agg #[.int .i64 O.verdict, .int .i64 O.reply.fn, .int .i64 O.reply.exc, .slice da O.reply.data.length dc, .int .i64 O.reply.code, .int .i64 O.reply.level, .bool O.reply.more, .int .i64 O.reply.next, .slice oa O.reply.objs.length oc]] w (OnFed P Q w g b win pr af q rq (.func (.func 155) #[] #[.pointer (some ⟨bp, 0, none⟩)]) { d with srv := srvSt O, sd := srvData O }) := by
  obtain ⟨W0, hW0⟩ : ∃ W, w.alloc (.cells #[.int .i64 O.verdict, .int .i64 O.reply.fn, .int .i64 O.reply.exc, .slice da O.reply.data.length dc, .int .i64 O.reply.code, .int .i64 O.reply.level, .bool O.reply.more, .int .i64 O.reply.next, .slice oa O.reply.objs.length oc] 55) = W := ⟨_, rfl⟩; have hgl : g < w.heap.size := hpLt h; have hbl : b < w.heap.size := hpLt ho; have hb0 : Below w.heap.size w W0 := (by rw [← hW0]; exact bal' w _); have p0 : W0.heap[w.heap.size]? = some (.cells #[.int .i64 O.verdict, .int .i64 O.reply.fn, .int .i64 O.reply.exc, .slice da O.reply.data.length dc, .int .i64 O.reply.code, .int .i64 O.reply.level, .bool O.reply.more, .int .i64 O.reply.next, .slice oa O.reply.objs.length oc] 55) := (by rw [← hW0]; exact hpNew w _); have c6 : W0.cell? ⟨b, 6, none⟩ = some (.bool false) := hpCell (hpKeep ho hb0) 6; have f6 : W0.frozen? ⟨b, 6, none⟩ = false := hpFree (hpKeep ho hb0) 6; obtain ⟨W1, hW1⟩ : ∃ W, W0.setCell ⟨b, 6, none⟩ (.bool true) = W := ⟨_, rfl⟩; have hk1 : Keeps (· = b) w W1 := (by rw [← hW1]; exact ks1 (Keeps.of_below hb0) _ _); have p1 : W1.heap[w.heap.size]? = some (.cells #[.int .i64 O.verdict, .int .i64 O.reply.fn, .int .i64 O.reply.exc, .slice da O.reply.data.length dc, .int .i64 O.reply.code, .int .i64 O.reply.level, .bool O.reply.more, .int .i64 O.reply.next, .slice oa O.reply.objs.length oc] 55) := (by rw [← hW1]; exact (hpOther (by omega)).trans p0)
  have o1 : OnAt W1 b rq (.func (.func 155) #[] #[.pointer (some ⟨bp, 0, none⟩)]) true := (by rw [← hW1]; exact hpSetP (hpKeep ho hb0) rfl); have c5 : ∀ X, Keeps (· = g) W1 X → X.cell? ⟨b, 5, none⟩ = some (.func (.func 155) #[] #[.pointer (some ⟨bp, 0, none⟩)]) := (fun X k => hpCell (hpKeeps o1 k hbg) 5); have h1 : PbI W1 g win pr af d ov sv mv q := hpKeeps h hk1 (Ne.symm hbg); have hbp1 := hpKeeps hbp hk1 hpb; have hwg : w.heap.size ≠ g := (by omega)
  have x0 : ∀ X, Keeps (· = g) W1 X → X.cell? ⟨w.heap.size, 0, none⟩ = some (.int .i64 O.verdict) := (fun X k => hpCell (hpKeeps p1 k hwg) 0); have x1 : ∀ X, Keeps (· = g) W1 X → X.cell? ⟨w.heap.size, 1, none⟩ = some (.int .i64 O.reply.fn) := (fun X k => hpCell (hpKeeps p1 k hwg) 1); have x2 : ∀ X, Keeps (· = g) W1 X → X.cell? ⟨w.heap.size, 2, none⟩ = some (.int .i64 O.reply.exc) := (fun X k => hpCell (hpKeeps p1 k hwg) 2); have x3 : ∀ X, Keeps (· = g) W1 X → X.cell? ⟨w.heap.size, 3, none⟩ = some (.slice da O.reply.data.length dc) := (fun X k => hpCell (hpKeeps p1 k hwg) 3); have x4 : ∀ X, Keeps (· = g) W1 X → X.cell? ⟨w.heap.size, 4, none⟩ = some (.int .i64 O.reply.code) := (fun X k => hpCell (hpKeeps p1 k hwg) 4); have x5 : ∀ X, Keeps (· = g) W1 X → X.cell? ⟨w.heap.size, 5, none⟩ = some (.int .i64 O.reply.level) := (fun X k => hpCell (hpKeeps p1 k hwg) 5); have x6 : ∀ X, Keeps (· = g) W1 X → X.cell? ⟨w.heap.size, 6, none⟩ = some (.bool O.reply.more) := (fun X k => hpCell (hpKeeps p1 k hwg) 6); have x7 : ∀ X, Keeps (· = g) W1 X → X.cell? ⟨w.heap.size, 7, none⟩ = some (.int .i64 O.reply.next) := (fun X k => hpCell (hpKeeps p1 k hwg) 7); have x8 : ∀ X, Keeps (· = g) W1 X → X.cell? ⟨w.heap.size, 8, none⟩ = some (.slice oa O.reply.objs.length oc) := (fun X k => hpCell (hpKeeps p1 k hwg) 8)
  have hgl1 : w.heap.size ≤ W1.heap.size := hk1.size
  have HST : Hid (Calls Tryz.prog 155 #[.agg #[.int .i64 O.verdict, .int .i64 O.reply.fn, .int .i64 O.reply.exc, .slice da O.reply.data.length dc, .int .i64 O.reply.code, .int .i64 O.reply.level, .bool O.reply.more, .int .i64 O.reply.next, .slice oa O.reply.objs.length oc], .pointer (some ⟨bp, 0, none⟩)] W1.drew fun r w' => r = .returned (.tuple #[]) ∧ ∃ a k w2, w'.heap.size = w2.heap.size ∧ PbI w' g win pr af { d with srv := srvSt O, sd := srvData O } ov (.slice a (srvData O).length k) mv q ∧ w2.ownsRow W1.drew.heap.size 5 1 (.slice a (srvData O).length k) (srvData O).length (u8s (srvData O)) ∧ Below W1.drew.heap.size W1.drew w2 ∧ Keeps (· = g) w2 w') := store_server g bp win pr af d ov sv mv q W1.drew (h1.keep (Below.refl _ _).drew) (hpKeep hbp1 (Below.refl _ _).drew) hpg O da dc oa oc hO (HI _ (hk1.trans (Keeps.of_below (Below.refl _ _).drew) (fun _ _ e => e)))
  clear HI
  have HW0 := hid hW0; have HW1 := hid hW1; have HK1 := hid hk1; have HO1 := hid o1; have HRD := hid hrd; have k0 : Keeps (· = g) W1 W1 := Keeps.refl _ _; have kD : Keeps (· = g) W1 W1.drew := Keeps.of_below (Below.refl _ _).drew; clear hW0 hW1 hb0 p0 p1 hk1 o1 h ho hbp h1 hbp1 hrd
  go_enter Tryz.func192, Tryz.ntmps192
  go_upto_region 1 with (fail)
  rw [HW0.out]
  go_upto_region 2 with (fail)
  rw [HW1.out]
  go_region_held3 (fun X => Keeps (· = g) W1 X) ((with_reducible (first | exact kD | assumption | exact k0)))
    ((go_at_call 155; (with_reducible refine HST.out.mono ?_); rintro r w2 ⟨rfl, a2, k2, w3, hsz, hp2, hown, hb3, hk2⟩; have hK2 : Keeps (· = g) W1 w2 := (kD.trans (Keeps.of_below hb3) (fun _ _ e => e)).trans hk2 (fun _ _ e => e)))
  all_goals
    go_wp2
    go_ret
    have hKK : Keeps (fun j => j = g ∨ j = b) w w2 := (HK1.out.mono (fun _ _ e => .inr e)).trans hK2 (fun _ _ e => .inl e)
    refine ⟨rfl, ⟨ov, _, mv, hp2, ?_⟩, hpKeeps HO1.out hK2 hbg, hKK⟩
    intro W' hW'
    have hold := HRD.out W' ((hKK.mono (G := FQ P Q g) (fun j _ e => by rcases e with e | e; exact .inr (.inr e); subst e; exact .inr (.inl hQ))).trans hW' (fun _ _ e => e.2))
    refine ⟨hold.1, ?_, hold.2.2⟩
    refine Bs.own (own_lower (own_keeps (own_keeps hown hk2 (fun j hj e => ?_)) (hW'.mono (fun _ _ e => e.1)) (fun j hj e => ?_)) (Nat.zero_le _))
    · have := (hown.lt j hj).1
      simp at this
      omega
    · have := (hown.lt j hj).1
      simp at this
      omega
def FeedEnd (R : World → Prop) (r : Ending) (w' : World) : Prop := r = .returned (.int .i64 0) ∧ R w'
end Go.Proofs.YtipnamoocemeeaaGreat
