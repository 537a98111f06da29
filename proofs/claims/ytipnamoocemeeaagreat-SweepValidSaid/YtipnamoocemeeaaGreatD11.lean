/-
  Texts 11 of the claim.
-/
import Derived.Test.YtipnamoocemeeaaGreatD10
import Derived.Deep.CutRange
namespace Go.Proofs.YtipnamoocemeeaaGreat
open Go.RowKit
theorem PbI.most {W : World} {g : Nat} {win : Nat → Int × Int} {pr af : Value} {d : Dv} {ov sv : Value} {mv : Nat → Value} {q : Int} (h : PbI W g win pr af d ov sv mv q) {k : Nat} (hk : k < 4) :
    W.cell? ⟨g, 18 + k * 3 + 1, none⟩ = some (.int .i64 (d.ts k).most) := by
  rw [hpCell h]
  match k, hk with
  | 0, _ => rfl
  | 1, _ => rfl
  | 2, _ => rfl
  | 3, _ => rfl
theorem PbI.first {W : World} {g : Nat} {win : Nat → Int × Int} {pr af : Value} {d : Dv} {ov sv : Value} {mv : Nat → Value} {q : Int} (h : PbI W g win pr af d ov sv mv q) {k : Nat} (hk : k < 4) :
    W.cell? ⟨g, k * 2, none⟩ = some (.int .i64 (win k).1) := by
  rw [hpCell h]
  match k, hk with
  | 0, _ => rfl
  | 1, _ => rfl
  | 2, _ => rfl
  | 3, _ => rfl
def minI (a b : Int) : Int := if b < a then b else a
set_option maxRecDepth 100000 in
set_option maxHeartbeats 6400000 in
theorem explore_any (g : Nat) (win : Nat → Int × Int) (hw : WinOk win) (pr af : Value) (d : Dv) (ov sv : Value) (mv : Nat → Value) (q : Int) (k : Nat) (hk : k < 4) (w : World) (h : PbI w g win pr af d ov sv mv q) (hc : ¬ (win k).2 = 0) (hmo : 1 ≤ (d.ts k).most) :
    Calls Tryz.prog 169 #[.pointer (some ⟨g, 0, none⟩), .int .i64 (k : Int)] w fun r w' => r = .returned (.tuple #[]) ∧ StepTo w g win ov sv mv q (.map k (Mp.new ((k : Int) + 1) (win k).1 (win k).2 (minI (d.ts k).most (win k).2))) d w' := by
  have hmf : ∀ (fn : Fn) (first cap : Array Value) (w : World), (Instr.makeFunc fn first cap).run Tryz.prog w = .ok (.func fn first cap) w := fun _ _ _ _ => rfl
  have hgl : g < w.heap.size := hpLt h
  obtain ⟨W0, hW0⟩ : ∃ W, (w.alloc (.cells #[.pointer (some ⟨g, 0, none⟩)] 93)).alloc (.cells #[.int .i64 (k : Int)] 3) = W := ⟨_, rfl⟩
  have hb0 : Below w.heap.size w W0 := by rw [← hW0]; exact bta (bal' w _) (Nat.le_refl _) _
  have hz0 : W0.heap.size = w.heap.size + 2 := by rw [← hW0]; simp
  have pA : W0.heap[w.heap.size]? = some (.cells #[.pointer (some ⟨g, 0, none⟩)] 93) := by rw [← hW0]; exact hpKeep (hpNew w _) (bal' _ _)
  have pB : W0.heap[w.heap.size + 1]? = some (.cells #[.int .i64 (k : Int)] 3) := by
    rw [← hW0]
    have := hpNew (w.alloc (.cells #[.pointer (some ⟨g, 0, none⟩)] 93)) (.cells #[.int .i64 (k : Int)] 3)
    simpa using this
  have hwk := hw k hk
  obtain ⟨fi, hfi⟩ : ∃ c, (win k).1 = c := ⟨_, rfl⟩
  obtain ⟨cn, hcn⟩ : ∃ c, (win k).2 = c := ⟨_, rfl⟩
  obtain ⟨mo, hmoo⟩ : ∃ c, (d.ts k).most = c := ⟨_, rfl⟩
  have h0 := h.keep hb0
  obtain ⟨mm, hmm⟩ : ∃ c, minI mo cn = c := ⟨_, rfl⟩
  have c1 := h0.first hk
  have c2 := h0.count hk
  have c3 := h0.most hk
  rw [hfi, hcn] at hwk
  rw [hcn] at hc
  rw [hmoo] at hmo
  rw [hfi] at c1
  rw [hcn] at c2
  rw [hmoo] at c3
  rw [hfi, hcn, hmoo, hmm]
  have m1 : ∀ ts T W, (Builtin.min_ ts T #[.int .i64 mo, .int .i64 cn]).run Tryz.prog W = .ok (.int .i64 mm) W := bmin Tryz.prog mo cn mm hmm
  have hm1 : 1 ≤ mm ∧ mm ≤ 2000 := by rw [← hmm]; unfold minI; split <;> omega
  have HNW : Hid (∀ X, Calls Tryz.prog 170 #[.int .i64 ((k : Int) + 1), .agg #[.int .i64 fi, .int .i64 cn], .int .i64 mm] X fun r w' => ∃ b : Nat, r = .returned (.pointer (some ⟨b, 0, none⟩)) ∧ X.heap.size ≤ b ∧ MpAt (Grw (fun _ => False) X w') w' b (Mp.new ((k : Int) + 1) fi cn mm) (.slice none 0 0) 0 ∧ Below X.heap.size X w') := fun X => mnew_any ((k : Int) + 1) fi cn mm (by omega) (by omega) (by omega) (by omega) (by omega) (by omega) hm1.1 hm1.2 X
  have sw : IntKind.i64.wrap ((k : Int) + 1) = (k : Int) + 1 := IntWalk.i64_in _ (by omega)
  have hki : (0 : Int) ≤ (k : Int) := Int.natCast_nonneg _
  have hkl : (k : Int) < 4 := by omega
  have e0 : ∀ X, Below W0.heap.size W0 X → X.cell? ⟨w.heap.size, 0, none⟩ = some (.pointer (some ⟨g, 0, none⟩)) := fun X k => hpCell (hpKeep pA k) 0
  have e1 : ∀ X, Below W0.heap.size W0 X → X.cell? ⟨w.heap.size + 1, 0, none⟩ = some (.int .i64 (k : Int)) := fun X k => hpCell (hpKeep pB k) 0
  have c1' : ∀ X, Below W0.heap.size W0 X → X.cell? ⟨g, k * 2, none⟩ = some (.int .i64 fi) := fun X k => cell_keep k c1
  have c2' : ∀ X, Below W0.heap.size W0 X → X.cell? ⟨g, k * 2 + 1, none⟩ = some (.int .i64 cn) := fun X k => cell_keep k c2
  have k0 : Below W0.heap.size W0 W0 := Below.refl _ _
  have kA : ∀ o, Below W0.heap.size W0 (W0.alloc o) := fun o => bal' W0 o
  have kD : Below W0.heap.size W0 W0.drew := (Below.refl _ _).drew
  have kDA : ∀ o, Below W0.heap.size W0 (W0.drew.alloc o) := fun o => bta kD (Nat.le_refl _) o
  have H := hid h0
  have HW0 := hid hW0
  have HB0 := hid hb0
  have HZ0 := hid hz0
  have PA := hid pA
  have PB := hid pB
  clear hW0 hb0 hz0 pA pB h h0 hw hwk hm1 hmm hfi hcn hmoo hmo hc
  go_enter Tryz.func169, Tryz.ntmps169
  go_upto_region 1 with (fail)
  rw [HW0.out]
  go_region
  go_upto_region 2 with (fail)
  have hb1 : Below W0.heap.size W0 (W0.alloc (.cells #[.int .i64 fi, .int .i64 cn] 24)).drew := (bal' W0 _).drew
  have p1 : (W0.alloc (.cells #[.int .i64 fi, .int .i64 cn] 24)).drew.heap[W0.heap.size]? = some (.cells #[.int .i64 fi, .int .i64 cn] 24) := hpKeep (hpNew W0 _) (Below.refl _ _).drew
  have hz1 : (W0.alloc (.cells #[.int .i64 fi, .int .i64 cn] 24)).drew.heap.size = W0.heap.size + 1 := by simp
  generalize (W0.alloc (.cells #[.int .i64 fi, .int .i64 cn] 24)).drew = W1 at *
  have x0 : ∀ X, Below W1.heap.size W1 X → X.cell? ⟨w.heap.size, 0, none⟩ = some (.pointer (some ⟨g, 0, none⟩)) := fun X k => e0 X (bt hb1 k (Nat.le_refl _))
  have x1 : ∀ X, Below W1.heap.size W1 X → X.cell? ⟨w.heap.size + 1, 0, none⟩ = some (.int .i64 (k : Int)) := fun X k => e1 X (bt hb1 k (Nat.le_refl _))
  have x2 : ∀ X, Below W1.heap.size W1 X → X.cell? ⟨W0.heap.size, 0, none⟩ = some (.int .i64 fi) := fun X k => hpCell (hpKeep p1 k) 0
  have x3 : ∀ X, Below W1.heap.size W1 X → X.cell? ⟨W0.heap.size, 1, none⟩ = some (.int .i64 cn) := fun X k => hpCell (hpKeep p1 k) 1
  have x4 : ∀ X, Below W1.heap.size W1 X → X.cell? ⟨g, 18 + k * 3 + 1, none⟩ = some (.int .i64 mo) := fun X k => cell_keep (bt hb1 k (Nat.le_refl _)) c3
  have H1 := hid (H.out.keep hb1)
  have P1 := hid p1
  have HB1 := hid hb1
  have HZ1 := hid hz1
  clear e0 e1 c1 c2 c3 c1' c2' k0 kA kD kDA p1 hb1 hz1
  have k0 : Below W1.heap.size W1 W1 := Below.refl _ _
  have kA : ∀ o, Below W1.heap.size W1 (W1.alloc o) := fun o => bal' W1 o
  have kD : Below W1.heap.size W1 W1.drew := (Below.refl _ _).drew
  have kDA : ∀ o, Below W1.heap.size W1 (W1.alloc o).drew := fun o => (bal' W1 o).drew
  have kS : ∀ X v, Below W1.heap.size W1 X → Below W1.heap.size W1 (X.setCell ⟨W1.heap.size, 0, none⟩ v) := fun X v h => h.setCell (p := ⟨W1.heap.size, 0, none⟩) (Nat.le_refl _) v
  have kAA : ∀ X o, Below W1.heap.size W1 X → Below W1.heap.size W1 (X.alloc o) := fun X o h => bta h (Nat.le_refl _) o
  go_region_held3 (fun X => Below W1.heap.size W1 X) ((with_reducible (first | exact kD | exact kDA _ | assumption | exact kA _ | exact kS _ _ hb6 | exact kAA _ _ hb6))) (first
    | (go_at_call 170; (with_reducible refine (HNW.out (W1.alloc (.cells #[.pointer none] 226)).drew).mono ?_); rintro r w5 ⟨b5, rfl, hge5, hmp5, hb5⟩; have hb6 := bt (kDA _) hb5 (Nat.le_refl _); have hn5 := hpKeep (hpKeep (hpNew W1 (.cells #[.pointer none] 226)) (Below.refl _ _).drew) hb5; have hn6 := hpCell hn5 0; have hn7 := hpFree hn5 0; have hsz5 : W1.heap.size < b5 := (by simp at hge5; omega))
    | (go_at_call 170; (with_reducible refine (HNW.out W1.drew).mono ?_); rintro r w5 ⟨b5, rfl, hge5, hmp5, hb5⟩; have hb6 := bt kD hb5 (Nat.le_refl _)))
  all_goals
    first
    | (have pm : (w5.setCell ⟨W1.heap.size, 0, none⟩ (.pointer (some ⟨b5, 0, none⟩))).heap[W1.heap.size]? = some (.cells #[.pointer (some ⟨b5, 0, none⟩)] 226) := hpSetP hn5 rfl
       have hbF := kS _ (.pointer (some ⟨b5, 0, none⟩)) hb6
       have hmF := (hpOther (w := w5) (b := W1.heap.size) (i := 0) (u := .pointer (some ⟨b5, 0, none⟩)) (by omega : b5 ≠ W1.heap.size)).trans hmp5.at_
       have hjm : W1.heap.size ≤ W1.heap.size ∧ W1.heap.size < (w5.setCell ⟨W1.heap.size, 0, none⟩ (.pointer (some ⟨b5, 0, none⟩))).heap.size ∧ W1.heap.size ≠ b5 := ⟨Nat.le_refl _, hpLt pm, by omega⟩
       generalize w5.setCell ⟨W1.heap.size, 0, none⟩ (.pointer (some ⟨b5, 0, none⟩)) = WF at *
       have hj1 : W1.heap.size ≤ W1.heap.size := hjm.1
       have hj2 := hjm.2
       have hl5 : b5 < WF.heap.size := hpLt hmF
       have hg5 : W1.heap.size ≤ b5 := by simp at hge5; omega
       have y0 := x0 WF hbF
       have y1 := hpCell pm 0
       have hpF : PbI WF g win pr af d ov sv mv q := H1.out.keep hbF
       have hW1 := HB1.out.size
       have hsF := hbF.size
       have hbw : Below w.heap.size w WF := bt HB0.out (bt HB1.out hbF (Nat.le_refl _)) (Nat.le_refl _)
       clear x0 x1 x2 x3 x4 k0 kA kD kDA kS kAA
       go_wp2_with (go_at_call 80; (with_reducible refine (begin_pb hpF _ _ _ _ _).mono ?_); rintro r w6 ⟨rfl, rfl⟩)
       go_end0
       have hz := HZ0.out
       have hz1 := HZ1.out
       refine ⟨rfl, ⟨.iface 226 (.pointer (some ⟨b5, 0, none⟩)), .func (.func 171) #[] #[.pointer (some ⟨W1.heap.size, 0, none⟩), .pointer (some ⟨w.heap.size, 0, none⟩), .pointer (some ⟨w.heap.size + 1, 0, none⟩)], hpF.begun _ _, (· = b5), fun j hj => ?_, fun P => ?_⟩, ?_⟩
       · subst hj
         simp
         omega
       · refine ⟨b5, .slice none 0 0, 0, W1.heap.size, w.heap.size, w.heap.size + 1, rfl, rfl, hk, ⟨?_, Rns.nil _ _, rfl, fun j hj => by cases hj⟩, ?_, ?_, ?_⟩
         · exact (hpOther (by omega)).trans ((hpOther (by omega)).trans hmF)
         · exact St.of ((hpOther (by omega)).trans ((hpOther (by omega)).trans (hpKeep (hpKeep PA.out HB1.out) hbF))) (FQ.new (by omega) (by simp; omega) (by omega) (by omega))
         · exact St.of ((hpOther (by omega)).trans ((hpOther (by omega)).trans (hpKeep (hpKeep PB.out HB1.out) hbF))) (FQ.new (by omega) (by simp; omega) (by omega) (by omega))
         · exact St.of ((hpOther (by omega)).trans ((hpOther (by omega)).trans pm)) (FQ.new (by omega) (by simp; omega) (by omega) (by omega))
       · exact ks1 (ks1 (Keeps.of_below hbw) _ _) _ _)
    | (have pm : (w5.alloc (.cells #[.pointer (some ⟨b5, 0, none⟩)] 226)).heap[w5.heap.size]? = some (.cells #[.pointer (some ⟨b5, 0, none⟩)] 226) := hpNew _ _
       have hbF := kAA _ (.cells #[.pointer (some ⟨b5, 0, none⟩)] 226) hb6
       have hmF := hpKeep hmp5.at_ (bal' w5 (.cells #[.pointer (some ⟨b5, 0, none⟩)] 226))
       have hjm : W1.heap.size ≤ w5.heap.size ∧ w5.heap.size < (w5.alloc (.cells #[.pointer (some ⟨b5, 0, none⟩)] 226)).heap.size ∧ w5.heap.size ≠ b5 := ⟨hb6.size, hpLt pm, by have := hmp5.lt; omega⟩
       generalize w5.alloc (.cells #[.pointer (some ⟨b5, 0, none⟩)] 226) = WF at *
       have hj1 : W1.heap.size ≤ w5.heap.size := hjm.1
       have hj2 := hjm.2
       have hl5 : b5 < WF.heap.size := hpLt hmF
       have hg5 : W1.heap.size ≤ b5 := by simp at hge5; omega
       have y0 := x0 WF hbF
       have y1 := hpCell pm 0
       have hpF : PbI WF g win pr af d ov sv mv q := H1.out.keep hbF
       have hW1 := HB1.out.size
       have hsF := hbF.size
       have hbw : Below w.heap.size w WF := bt HB0.out (bt HB1.out hbF (Nat.le_refl _)) (Nat.le_refl _)
       clear x0 x1 x2 x3 x4 k0 kA kD kDA kS kAA
       go_wp2_with (go_at_call 80; (with_reducible refine (begin_pb hpF _ _ _ _ _).mono ?_); rintro r w6 ⟨rfl, rfl⟩)
       go_end0
       have hz := HZ0.out
       have hz1 := HZ1.out
       refine ⟨rfl, ⟨.iface 226 (.pointer (some ⟨b5, 0, none⟩)), .func (.func 171) #[] #[.pointer (some ⟨w5.heap.size, 0, none⟩), .pointer (some ⟨w.heap.size, 0, none⟩), .pointer (some ⟨w.heap.size + 1, 0, none⟩)], hpF.begun _ _, (· = b5), fun j hj => ?_, fun P => ?_⟩, ?_⟩
       · subst hj
         simp
         omega
       · refine ⟨b5, .slice none 0 0, 0, w5.heap.size, w.heap.size, w.heap.size + 1, rfl, rfl, hk, ⟨?_, Rns.nil _ _, rfl, fun j hj => by cases hj⟩, ?_, ?_, ?_⟩
         · exact (hpOther (by omega)).trans ((hpOther (by omega)).trans hmF)
         · exact St.of ((hpOther (by omega)).trans ((hpOther (by omega)).trans (hpKeep (hpKeep PA.out HB1.out) hbF))) (FQ.new (by omega) (by simp; omega) (by omega) (by omega))
         · exact St.of ((hpOther (by omega)).trans ((hpOther (by omega)).trans (hpKeep (hpKeep PB.out HB1.out) hbF))) (FQ.new (by omega) (by simp; omega) (by omega) (by omega))
         · exact St.of ((hpOther (by omega)).trans ((hpOther (by omega)).trans pm)) (FQ.new (by omega) (by simp; omega) (by omega) (by omega))
       · exact ks1 (ks1 (Keeps.of_below hbw) _ _) _ _)
end Go.Proofs.YtipnamoocemeeaaGreat

namespace Go.Proofs.YtipnamoocemeeaaGreat
open Go.RowKit
def DvRd (W : World) (d : Dv) (ov sv : Value) (mv : Nat → Value) : Prop := Obs W ov d.objs ∧ Bs W sv d.sd ∧ ∀ k, k < 4 → Spn 0 W (mv k) (d.ts k).map
def RdSt (F : Nat → Prop) (W : World) (d : Dv) (ov sv : Value) (mv : Nat → Value) : Prop := ∀ W', Keeps F W W' → DvRd W' d ov sv mv
theorem RdSt.keeps {F G H : Nat → Prop} {w w' : World} {d : Dv} {ov sv : Value} {mv : Nat → Value} (h : RdSt F w d ov sv mv) (hk : Keeps H w w') (h1 : ∀ j, j < w.heap.size → H j → F j) (h2 : ∀ j, j < w.heap.size → G j → F j) : RdSt G w' d ov sv mv :=
  fun W' hW => h W' ((hk.mono h1).trans hW h2)
theorem RdSt.num {F : Nat → Prop} {W : World} {d d' : Dv} {ov sv : Value} {mv : Nat → Value} (h : RdSt F W d ov sv mv) (h1 : d'.objs = d.objs) (h2 : d'.sd = d.sd) (h3 : ∀ k, (d'.ts k).map = (d.ts k).map) : RdSt F W d' ov sv mv := fun W' hW => by
  obtain ⟨a, b, c⟩ := h W' hW
  exact ⟨(by rw [h1]; exact a), (by rw [h2]; exact b), fun k hk => (by rw [h3]; exact c k hk)⟩
def AfPost (P Q : Nat → Prop) (w : World) (g : Nat) (win : Nat → Int × Int) (q : Int) (ph : Ph) (d : Dv) (r : Ending) (w' : World) : Prop :=
  r = .returned (.tuple #[]) ∧ ∃ w2 ov sv mv, w.heap.size ≤ w2.heap.size ∧ RdSt (fun j => j < w.heap.size ∧ FQ P Q g j) w2 d ov sv mv ∧ StepTo w2 g win ov sv mv q ph d w' ∧ Keeps (· = g) w w'
set_option maxRecDepth 100000 in
set_option maxHeartbeats 3200000 in
theorem srequest_any (w : World) : Calls Tryz.prog 157 #[] w fun r w' => r = .returned (.agg #[.int .i64 17, .int .i64 0, .int .i64 0, .int .i64 0, .int .i64 0]) ∧ Below w.heap.size w w' := by
  go_enter Tryz.func157, Tryz.ntmps157
  go_wp2
  exact bodyPost_ret (v := .agg #[.int .i64 17, .int .i64 0, .int .i64 0, .int .i64 0, .int .i64 0]) (by simp [results, Tryz.results157, go_sem]) rfl ⟨rfl, (Below.refl _ _).alloc (Nat.le_refl _) _⟩
set_option maxRecDepth 100000 in
set_option maxHeartbeats 6400000 in
theorem report_any (g : Nat) (win : Nat → Int × Int) (pr af : Value) (d : Dv) (ov sv : Value) (mv : Nat → Value) (q : Int) (w : World) (h : PbI w g win pr af d ov sv mv q) :
    Calls Tryz.prog 131 #[.pointer (some ⟨g, 0, none⟩)] w fun r w' => r = .returned (.tuple #[]) ∧ StepTo w g win ov sv mv q .server d w' := by
  have hmf : ∀ (fn : Fn) (first cap : Array Value) (w : World), (Instr.makeFunc fn first cap).run Tryz.prog w = .ok (.func fn first cap) w := fun _ _ _ _ => rfl
  have hgl : g < w.heap.size := hpLt h
  obtain ⟨W0, hW0⟩ : ∃ W, w.alloc (.cells #[.pointer (some ⟨g, 0, none⟩)] 93) = W := ⟨_, rfl⟩
  have hb0 : Below w.heap.size w W0 := by rw [← hW0]; exact bal' w _
  have hz0 : W0.heap.size = w.heap.size + 1 := by rw [← hW0]; simp
  have pA : W0.heap[w.heap.size]? = some (.cells #[.pointer (some ⟨g, 0, none⟩)] 93) := by rw [← hW0]; exact hpNew w _
  have hne : w.heap.size ≠ g := by omega
  have x0 : ∀ X, Keeps (· = g) W0 X → X.cell? ⟨w.heap.size, 0, none⟩ = some (.pointer (some ⟨g, 0, none⟩)) := fun X k => hpCell (hpKeeps pA k (by omega)) 0
  have kD : Keeps (· = g) W0 W0.drew := Keeps.of_below (Below.refl _ _).drew
  have kA : ∀ X o, Below W0.heap.size W0 X → Keeps (· = g) W0 (X.alloc o) := fun X o h => Keeps.of_below (bta h (Nat.le_refl _) o)
  have kS : ∀ X a b, Keeps (· = g) W0 X → Keeps (· = g) W0 ((X.setCell ⟨g, 8, none⟩ a).setCell ⟨g, 9, none⟩ b) := fun X a b h => ks1 (ks1 h _ _) _ _
  have H := hid (PbI.keep h hb0)
  have HW0 := hid hW0
  have HB0 := hid hb0
  have HZ0 := hid hz0
  have PA := hid pA
  have k0 : Keeps (· = g) W0 W0 := Keeps.refl _ _
  clear hW0 hb0 hz0 pA h
  go_enter Tryz.func131, Tryz.ntmps131
  go_upto_region 1 with (fail)
  rw [HW0.out]
  go_upto_region 2 with (fail)
  go_region_held3 (fun X => Keeps (· = g) W0 X) ((with_reducible (first | exact kD | assumption | exact k0 | exact kA _ _ hB2 | exact kS _ _ _ (kA _ _ hB2)))) (first
    | (go_at_call 157; (with_reducible refine (srequest_any W0.drew).mono ?_); rintro r w2 ⟨rfl, hb2⟩; have hB2 : Below W0.heap.size W0 w2 := bt (Below.refl _ _).drew hb2 (Nat.le_refl _); have hK2 : Keeps (· = g) W0 w2 := Keeps.of_below hB2; have hp2 : ∀ o, PbI (w2.alloc o) g win pr af d ov sv mv q := (fun o => (H.out.keep hB2).keep (bal' _ _)))
    | (go_at_call 80; (with_reducible refine (begin_pb (hp2 _) _ _ _ _ _).mono ?_); rintro r w6 ⟨rfl, rfl⟩))
  all_goals
    go_wp2
    go_end0
    have hz := HZ0.out
    have hs2 := hB2.size
    refine ⟨rfl, ⟨.iface 145 (.pointer (some ⟨w2.heap.size, 0, none⟩)), .func (.func 158) #[] #[.pointer (some ⟨w.heap.size, 0, none⟩)], (hp2 _).begun _ _, (· = w2.heap.size), fun j hj => ?_, fun P => ?_⟩, ?_⟩
    · subst hj
      simp
      omega
    · refine ⟨w2.heap.size, w.heap.size, w.heap.size, rfl, rfl, rfl, ?_, ?_, ?_⟩
      · exact (hpOther (by omega)).trans ((hpOther (by omega)).trans (hpNew _ _))
      · exact St.of ((hpOther (by omega)).trans ((hpOther (by omega)).trans (hpKeep (hpKeep PA.out hB2) (bal' _ _)))) (FQ.new (by omega) (by simp; omega) (by omega) (by omega))
      · exact St.of ((hpOther (by omega)).trans ((hpOther (by omega)).trans (hpKeep (hpKeep PA.out hB2) (bal' _ _)))) (FQ.new (by omega) (by simp; omega) (by omega) (by omega))
    · exact ks1 (ks1 (Keeps.of_below (bta (bt HB0.out hB2 (Nat.le_refl _)) (Nat.le_refl _) _)) _ _) _ _
set_option maxRecDepth 100000 in
set_option maxHeartbeats 6400000 in
theorem identify_any (g : Nat) (win : Nat → Int × Int) (pr af : Value) (d : Dv) (ov sv : Value) (mv : Nat → Value) (q : Int) (w : World) (h : PbI w g win pr af d ov sv mv q) (ph : Ph) (hph : Hid (ph = if d.st = 2 then .ident Idn.new else .done)) :
    Calls Tryz.prog 84 #[.pointer (some ⟨g, 0, none⟩)] w fun r w' => r = .returned (.tuple #[]) ∧ StepTo w g win ov sv mv q ph d w' := by
  have hmf : ∀ (fn : Fn) (first cap : Array Value) (w : World), (Instr.makeFunc fn first cap).run Tryz.prog w = .ok (.func fn first cap) w := fun _ _ _ _ => rfl
  have hgl : g < w.heap.size := hpLt h
  obtain ⟨W0, hW0⟩ : ∃ W, w.alloc (.cells #[.pointer (some ⟨g, 0, none⟩)] 93) = W := ⟨_, rfl⟩
  have hb0 : Below w.heap.size w W0 := by rw [← hW0]; exact bal' w _
  have hz0 : W0.heap.size = w.heap.size + 1 := by rw [← hW0]; simp
  have pA : W0.heap[w.heap.size]? = some (.cells #[.pointer (some ⟨g, 0, none⟩)] 93) := by rw [← hW0]; exact hpNew w _
  have x0 : W0.cell? ⟨w.heap.size, 0, none⟩ = some (.pointer (some ⟨g, 0, none⟩)) := hpCell pA 0
  have h0 : PbI W0 g win pr af d ov sv mv q := PbI.keep h hb0
  have c12 : W0.cell? ⟨g, 12, none⟩ = some (.int .i64 d.st) := hpCell h0 12
  have HW0 := hid hW0
  have HB0 := hid hb0
  have HZ0 := hid hz0
  have PA := hid pA
  clear hW0 hb0 hz0 pA h
  by_cases h2 : d.st = 2
  · have d2 : (d.st != 2) = false := by rw [bne_eq_false_iff_eq]; exact h2
    have HPH : Hid (ph = .ident Idn.new) := by show _ = _; rw [hph.out, if_pos h2]
    clear h2 hph
    obtain ⟨W1, hW1⟩ : ∃ W, W0.alloc (.cells #[.int .i64 0, .int .i64 0, .slice none 0 0, .int .i64 0, .int .i64 0] 213) = W := ⟨_, rfl⟩
    have hb1 : Below W0.heap.size W0 W1 := by rw [← hW1]; exact bal' W0 _
    have hz1 : W1.heap.size = W0.heap.size + 1 := by rw [← hW1]; simp
    have x1 : ∀ o, (W1.alloc o).cell? ⟨w.heap.size, 0, none⟩ = some (.pointer (some ⟨g, 0, none⟩)) := fun o => cell_keep (bta hb1 (Nat.le_refl _) o) x0
    have hp1 : ∀ o, PbI (W1.alloc o) g win pr af d ov sv mv q := fun o => h0.keep (bta hb1 (Nat.le_refl _) o)
    have pI : W1.heap[W0.heap.size]? = some (.cells #[.int .i64 0, .int .i64 0, .slice none 0 0, .int .i64 0, .int .i64 0] 213) := by rw [← hW1]; exact hpNew W0 _
    have HW1 := hid hW1
    have HB1 := hid hb1
    have HZ1 := hid hz1
    have PI := hid pI
    clear hW1 hb1 hz1 pI
    go_enter Tryz.func84, Tryz.ntmps84
    go_upto_region 1 with (fail)
    rw [HW0.out]
    go_wp2_with (first
      | (go_at_call 128; (with_reducible refine (inew_any W0).mono ?_); rintro r w2 ⟨rfl, rfl⟩; rw [HW1.out])
      | (go_at_call 80; (with_reducible refine (begin_pb (hp1 _) _ _ _ _ _).mono ?_); rintro r w6 ⟨rfl, rfl⟩))
    go_end0
    have hz := HZ0.out
    have hz1 := HZ1.out
    refine ⟨rfl, ⟨.iface 188 (.pointer (some ⟨W0.heap.size, 0, none⟩)), .func (.func 129) #[] #[.pointer (some ⟨W1.heap.size, 0, none⟩), .pointer (some ⟨w.heap.size, 0, none⟩)], (hp1 _).begun _ _, (· = W0.heap.size), fun j hj => ?_, fun P => ?_⟩, ?_⟩
    · subst hj
      simp
      omega
    · rw [HPH.out]
      refine ⟨W0.heap.size, .slice none 0 0, [], W1.heap.size, w.heap.size, rfl, rfl, ⟨?_, World.ownsRow_nil _ _ _ _, rfl, rfl, fun j hj => by cases hj⟩, ?_, ?_⟩
      · exact (hpOther (by omega)).trans ((hpOther (by omega)).trans (hpKeep PI.out (bal' _ _)))
      · exact St.of ((hpOther (by omega)).trans ((hpOther (by omega)).trans (hpKeep (hpKeep PA.out HB1.out) (bal' _ _)))) (FQ.new (by omega) (by simp; omega) (by omega) (by omega))
      · exact St.of ((hpOther (by omega)).trans ((hpOther (by omega)).trans (hpNew _ _))) (FQ.new (by omega) (by simp) (by omega) (by omega))
    · exact ks1 (ks1 (Keeps.of_below (bta (bt HB0.out HB1.out (Nat.le_refl _)) (Nat.le_refl _) _)) _ _) _ _
  · have d2 : (d.st != 2) = true := by rw [bne_iff_ne]; exact h2
    have HPH : Hid (ph = .done) := by show _ = _; rw [hph.out, if_neg h2]
    clear h2 hph
    go_enter Tryz.func84, Tryz.ntmps84
    go_upto_region 1 with (fail)
    rw [HW0.out]
    go_wp2_with (go_at_call 127; (with_reducible refine (pend_pb h0).mono ?_); rintro r w6 ⟨rfl, rfl⟩)
    refine bodyPost_ret (results_none rfl _ _ _) rfl ?_
    exact ⟨rfl, ⟨.nilIface, .nilFunc, h0.begun _ _, fun _ => False, (fun j hj => hj.elim), fun P => (by rw [HPH.out]; exact ⟨rfl, rfl⟩)⟩, ks1 (ks1 (Keeps.of_below HB0.out) _ _) _ _⟩
end Go.Proofs.YtipnamoocemeeaaGreat
