/-
  Texts 12 of the claim.
-/
import Derived.Test.YtipnamoocemeeaaGreatD11
namespace Go.Proofs.YtipnamoocemeeaaGreat
open Go.RowKit
theorem PbI.setState {W : World} {g : Nat} {win : Nat → Int × Int} {pr af : Value} {d : Dv} {ov sv : Value} {mv : Nat → Value} {q : Int} (h : PbI W g win pr af d ov sv mv q) (s : Int) :
    PbI (W.setCell ⟨g, 12, none⟩ (.int .i64 s)) g win pr af { d with st := s } ov sv mv q := hpSetP h rfl
set_option maxRecDepth 100000 in
set_option maxHeartbeats 3200000 in
theorem store_state (g bp : Nat) (win : Nat → Int × Int) (pr af : Value) (d : Dv) (ov sv : Value) (mv : Nat → Value) (q : Int) (w : World) (h : PbI w g win pr af d ov sv mv q) (hb : w.heap[bp]? = some (.cells #[.pointer (some ⟨g, 0, none⟩)] 93)) (hne : bp ≠ g) (v x : Int) (f da c l m n ob : Value) :
    Calls Tryz.prog 82 #[.agg #[.int .i64 v, f, .int .i64 x, da, c, l, m, n, ob], .pointer (some ⟨bp, 0, none⟩)] w fun r w' => r = .returned (.tuple #[]) ∧ PbI w' g win pr af { d with st := stateOf v } ov sv mv q ∧ Keeps (· = g) w w' := by
  have hgl : g < w.heap.size := hpLt h
  obtain ⟨W0, hW0⟩ : ∃ W, w.alloc (.cells #[.int .i64 v, f, .int .i64 x, da, c, l, m, n, ob] 55) = W := ⟨_, rfl⟩
  have hb0 : Below w.heap.size w W0 := by rw [← hW0]; exact bal' w _
  have p0 : W0.heap[w.heap.size]? = some (.cells #[.int .i64 v, f, .int .i64 x, da, c, l, m, n, ob] 55) := by rw [← hW0]; exact hpNew w _
  have hne2 : w.heap.size ≠ g := by omega
  have x0 : ∀ X, Keeps (· = g) W0 X → X.cell? ⟨bp, 0, none⟩ = some (.pointer (some ⟨g, 0, none⟩)) := fun X k => hpCell (hpKeeps (hpKeep hb hb0) k hne) 0
  have o0 : ∀ X, Keeps (· = g) W0 X → X.cell? ⟨w.heap.size, 0, none⟩ = some (.int .i64 v) := fun X k => hpCell (hpKeeps p0 k hne2) 0
  have o1 : ∀ X, Keeps (· = g) W0 X → X.cell? ⟨w.heap.size, 1, none⟩ = some f := fun X k => hpCell (hpKeeps p0 k hne2) 1
  have o2 : ∀ X, Keeps (· = g) W0 X → X.cell? ⟨w.heap.size, 2, none⟩ = some (.int .i64 x) := fun X k => hpCell (hpKeeps p0 k hne2) 2
  have o3 : ∀ X, Keeps (· = g) W0 X → X.cell? ⟨w.heap.size, 3, none⟩ = some da := fun X k => hpCell (hpKeeps p0 k hne2) 3
  have o4 : ∀ X, Keeps (· = g) W0 X → X.cell? ⟨w.heap.size, 4, none⟩ = some c := fun X k => hpCell (hpKeeps p0 k hne2) 4
  have o5 : ∀ X, Keeps (· = g) W0 X → X.cell? ⟨w.heap.size, 5, none⟩ = some l := fun X k => hpCell (hpKeeps p0 k hne2) 5
  have o6 : ∀ X, Keeps (· = g) W0 X → X.cell? ⟨w.heap.size, 6, none⟩ = some m := fun X k => hpCell (hpKeeps p0 k hne2) 6
  have o7 : ∀ X, Keeps (· = g) W0 X → X.cell? ⟨w.heap.size, 7, none⟩ = some n := fun X k => hpCell (hpKeeps p0 k hne2) 7
  have o8 : ∀ X, Keeps (· = g) W0 X → X.cell? ⟨w.heap.size, 8, none⟩ = some ob := fun X k => hpCell (hpKeeps p0 k hne2) 8
  have k0 : Keeps (· = g) W0 W0 := Keeps.refl _ _
  have kD : Keeps (· = g) W0 W0.drew := Keeps.of_below (Below.refl _ _).drew
  have kS : ∀ X a, Keeps (· = g) W0 X → Keeps (· = g) W0 (X.setCell ⟨g, 12, none⟩ a) := fun X a h => ks1 h _ _
  have H := hid (PbI.keep h hb0)
  have HW0 := hid hW0
  have HB0 := hid hb0
  clear hW0 hb0 p0 h hb
  obtain ⟨S, hS⟩ : ∃ S, stateOf v = S := ⟨_, rfl⟩
  rw [hS]
  have HST : Hid (Calls Tryz.prog 83 #[.agg #[.int .i64 v, f, .int .i64 x, da, c, l, m, n, ob]] W0.drew fun r w' => r = .returned (.int .i64 S) ∧ Below W0.drew.heap.size W0.drew w') := by rw [← hS]; exact state_any _ _ _ _ _ _ _ _ _ _
  clear hS
  go_enter Tryz.func82, Tryz.ntmps82
  go_upto_region 1 with (fail)
  rw [HW0.out]
  go_region_held3 (fun X => Keeps (· = g) W0 X) ((with_reducible (first | exact kD | assumption | exact k0 | exact kS _ _ hK2)))
    ((go_at_call 83; (with_reducible refine HST.out.mono ?_); rintro r w2 ⟨rfl, hb2⟩; have hB2 : Below W0.heap.size W0 w2 := bt (Below.refl _ _).drew hb2 (Nat.le_refl _); have hK2 : Keeps (· = g) W0 w2 := Keeps.of_below hB2; have hp2 := H.out.keep hB2; have c12 : w2.cell? ⟨g, 12, none⟩ = some (.int .i64 d.st) := hpCell hp2 12; have f12 : w2.frozen? ⟨g, 12, none⟩ = false := hpFree hp2 12))
  all_goals
    go_wp2
    go_end0
    exact ⟨rfl, hp2.setState S, ks1 (Keeps.of_below (bt HB0.out hB2 (Nat.le_refl _))) _ _⟩
theorem PbI.setServer {W : World} {g : Nat} {win : Nat → Int × Int} {pr af : Value} {d : Dv} {ov sv : Value} {mv : Nat → Value} {q : Int} (h : PbI W g win pr af d ov sv mv q) (s : Int) (D : List UInt8) (u : Value) :
    PbI ((W.setCell ⟨g, 16, none⟩ (.int .i64 s)).setCell ⟨g, 17, none⟩ u) g win pr af { d with srv := s, sd := D } ov u mv q := hpSetP (hpSetP h rfl) rfl
set_option maxRecDepth 100000 in
set_option maxHeartbeats 3200000 in
theorem store_server (g bp : Nat) (win : Nat → Int × Int) (pr af : Value) (d : Dv) (ov sv : Value) (mv : Nat → Value) (q : Int) (w : World) (h : PbI w g win pr af d ov sv mv q) (hb : w.heap[bp]? = some (.cells #[.pointer (some ⟨g, 0, none⟩)] 93)) (hne : bp ≠ g) (O : Oc) (da : Option Addr) (dc : Nat) (oa : Option Addr) (oc : Nat) (hO : O.reply.data.length ≤ 300) (HI : Bs w (.slice da O.reply.data.length dc) O.reply.data) :
    Calls Tryz.prog 155 #[.agg #[.int .i64 O.verdict, .int .i64 O.reply.fn, .int .i64 O.reply.exc, .slice da O.reply.data.length dc, .int .i64 O.reply.code, .int .i64 O.reply.level, .bool O.reply.more, .int .i64 O.reply.next, .slice oa O.reply.objs.length oc], .pointer (some ⟨bp, 0, none⟩)] w fun r w' => r = .returned (.tuple #[]) ∧ ∃ a k w2, w'.heap.size = w2.heap.size ∧ PbI w' g win pr af { d with srv := srvSt O, sd := srvData O } ov (.slice a (srvData O).length k) mv q ∧ w2.ownsRow w.heap.size 5 1 (.slice a (srvData O).length k) (srvData O).length (u8s (srvData O)) ∧ Below w.heap.size w w2 ∧ Keeps (· = g) w2 w' := by
  have hgl : g < w.heap.size := hpLt h
  obtain ⟨W0, hW0⟩ : ∃ W, w.alloc (.cells #[.int .i64 O.verdict, .int .i64 O.reply.fn, .int .i64 O.reply.exc, .slice da O.reply.data.length dc, .int .i64 O.reply.code, .int .i64 O.reply.level, .bool O.reply.more, .int .i64 O.reply.next, .slice oa O.reply.objs.length oc] 55) = W := ⟨_, rfl⟩
  have hb0 : Below w.heap.size w W0 := by rw [← hW0]; exact bal' w _
  have p0 : W0.heap[w.heap.size]? = some (.cells #[.int .i64 O.verdict, .int .i64 O.reply.fn, .int .i64 O.reply.exc, .slice da O.reply.data.length dc, .int .i64 O.reply.code, .int .i64 O.reply.level, .bool O.reply.more, .int .i64 O.reply.next, .slice oa O.reply.objs.length oc] 55) := by rw [← hW0]; exact hpNew w _
  have hne2 : w.heap.size ≠ g := by omega
  have x0 : ∀ X, Keeps (· = g) W0 X → X.cell? ⟨bp, 0, none⟩ = some (.pointer (some ⟨g, 0, none⟩)) := fun X k => hpCell (hpKeeps (hpKeep hb hb0) k hne) 0
  have o0 : ∀ X, Keeps (· = g) W0 X → X.cell? ⟨w.heap.size, 0, none⟩ = some (.int .i64 O.verdict) := fun X k => hpCell (hpKeeps p0 k hne2) 0
  have o1 : ∀ X, Keeps (· = g) W0 X → X.cell? ⟨w.heap.size, 1, none⟩ = some (.int .i64 O.reply.fn) := fun X k => hpCell (hpKeeps p0 k hne2) 1
  have o2 : ∀ X, Keeps (· = g) W0 X → X.cell? ⟨w.heap.size, 2, none⟩ = some (.int .i64 O.reply.exc) := fun X k => hpCell (hpKeeps p0 k hne2) 2
  have o3 : ∀ X, Keeps (· = g) W0 X → X.cell? ⟨w.heap.size, 3, none⟩ = some (.slice da O.reply.data.length dc) := fun X k => hpCell (hpKeeps p0 k hne2) 3
  have o4 : ∀ X, Keeps (· = g) W0 X → X.cell? ⟨w.heap.size, 4, none⟩ = some (.int .i64 O.reply.code) := fun X k => hpCell (hpKeeps p0 k hne2) 4
  have o5 : ∀ X, Keeps (· = g) W0 X → X.cell? ⟨w.heap.size, 5, none⟩ = some (.int .i64 O.reply.level) := fun X k => hpCell (hpKeeps p0 k hne2) 5
  have o6 : ∀ X, Keeps (· = g) W0 X → X.cell? ⟨w.heap.size, 6, none⟩ = some (.bool O.reply.more) := fun X k => hpCell (hpKeeps p0 k hne2) 6
  have o7 : ∀ X, Keeps (· = g) W0 X → X.cell? ⟨w.heap.size, 7, none⟩ = some (.int .i64 O.reply.next) := fun X k => hpCell (hpKeeps p0 k hne2) 7
  have o8 : ∀ X, Keeps (· = g) W0 X → X.cell? ⟨w.heap.size, 8, none⟩ = some (.slice oa O.reply.objs.length oc) := fun X k => hpCell (hpKeeps p0 k hne2) 8
  have k0 : Keeps (· = g) W0 W0 := Keeps.refl _ _
  have kD : Keeps (· = g) W0 W0.drew := Keeps.of_below (Below.refl _ _).drew
  have kS : ∀ X a b, Keeps (· = g) W0 X → Keeps (· = g) W0 ((X.setCell ⟨g, 16, none⟩ a).setCell ⟨g, 17, none⟩ b) := fun X a b h => ks1 (ks1 h _ _) _ _
  have kS1 : ∀ X a, Keeps (· = g) W0 X → Keeps (· = g) W0 (X.setCell ⟨g, 16, none⟩ a) := fun X a h => ks1 h _ _
  have H := hid (PbI.keep h hb0)
  have HW0 := hid hW0
  have HB0 := hid hb0
  obtain ⟨S, hS⟩ : ∃ S, srvSt O = S := ⟨_, rfl⟩
  obtain ⟨D, hD⟩ : ∃ S, srvData O = S := ⟨_, rfl⟩
  rw [hS, hD]
  have HST : Hid (Calls Tryz.prog 156 #[.agg #[.int .i64 O.verdict, .int .i64 O.reply.fn, .int .i64 O.reply.exc, .slice da O.reply.data.length dc, .int .i64 O.reply.code, .int .i64 O.reply.level, .bool O.reply.more, .int .i64 O.reply.next, .slice oa O.reply.objs.length oc]] W0.drew (SrvPost W0.drew S D)) := sresult_srv O da dc oa oc hO W0.drew (HI.keep (bt hb0 (Below.refl _ _).drew (Nat.le_refl _))) S D hS hD
  clear hS hD hW0 hb0 p0 h hb HI hO
  obtain ⟨dl, hdl⟩ : ∃ n, O.reply.data.length = n := ⟨_, rfl⟩
  obtain ⟨ol, hol⟩ : ∃ n, O.reply.objs.length = n := ⟨_, rfl⟩
  rw [hdl] at HST o3 HW0 ⊢
  rw [hol] at HST o8 HW0 ⊢
  clear hdl hol
  go_enter Tryz.func155, Tryz.ntmps155
  go_upto_region 1 with (fail)
  rw [HW0.out]
  go_region_held3 (fun X => Keeps (· = g) W0 X) ((with_reducible (first | exact kD | assumption | exact k0 | exact kS1 _ _ hK2 | exact kS _ _ _ hK2)))
    ((go_at_call 156; (with_reducible refine HST.out.mono ?_); rintro r w2 ⟨a2, k2, rfl, hr2, hb2⟩; have hB2 : Below W0.heap.size W0 w2 := bt (Below.refl _ _).drew hb2 (Nat.le_refl _); have hK2 : Keeps (· = g) W0 w2 := Keeps.of_below hB2; have hp2 := H.out.keep hB2; have c16 : w2.cell? ⟨g, 16, none⟩ = some (.int .i64 d.srv) := hpCell hp2 16; have f16 : w2.frozen? ⟨g, 16, none⟩ = false := hpFree hp2 16; have c17 : w2.cell? ⟨g, 17, none⟩ = some sv := hpCell hp2 17; have f17 : w2.frozen? ⟨g, 17, none⟩ = false := hpFree hp2 17))
  all_goals
    go_wp2
    go_end0
    exact ⟨rfl, a2, k2, w2, (by simp), hp2.setServer S D _, own_lower hr2 (by have := HB0.out.size; simp; omega), bt HB0.out hB2 (Nat.le_refl _), ks1 (ks1 (Keeps.refl _ _) _ _) _ _⟩
end Go.Proofs.YtipnamoocemeeaaGreat

namespace Go.Proofs.YtipnamoocemeeaaGreat
open Go.RowKit
theorem IdAt.stay {P F : Nat → Prop} {w w' : World} {g : Nat} {x : Idn} {v : Value} {cs : List Value} (h : IdAt P w g x v cs) (hk : Keeps F w w') (hF : ∀ j, P j → ¬ F j) : IdAt P w' g x v cs :=
  ⟨hpKeeps h.at_ hk (hF _ h.pg), own_keeps h.own hk (fun k hk' => hF _ (h.pv k hk').1), CsL.mono (fun r z hz => ObQF.keeps (F := ObF P g v) (hk.mono (fun k _ e => .inl (fun hp => hF k hp e))) (fun _ _ hj => hj) r z hz) _ _ h.obs, h.pg, h.pv⟩
theorem IdAt.keep {P : Nat → Prop} {w w' : World} {g : Nat} {x : Idn} {v : Value} {cs : List Value} (h : IdAt P w g x v cs) (hb : Below w.heap.size w w') : IdAt P w' g x v cs := h.stay (F := fun _ => False) (Keeps.of_below hb) (fun _ _ e => e)
theorem PbI.setIdent {W : World} {g : Nat} {win : Nat → Int × Int} {pr af : Value} {d : Dv} {ov sv : Value} {mv : Nat → Value} {q : Int} (h : PbI W g win pr af d ov sv mv q) (s l : Int) (os : List Ob) (u : Value) :
    PbI (((W.setCell ⟨g, 13, none⟩ (.int .i64 s)).setCell ⟨g, 14, none⟩ (.int .i64 l)).setCell ⟨g, 15, none⟩ u) g win pr af { d with idn := s, lv := l, objs := os } u sv mv q := hpSetP (hpSetP (hpSetP h rfl) rfl) rfl
theorem af_old {P Q : Nat → Prop} {w w2 : World} {g : Nat} {d : Dv} {ov sv : Value} {mv : Nat → Value} (h : RdSt (FQ P Q g) w d ov sv mv) (hk : Keeps (· = g) w w2) : RdSt (fun j => j < w.heap.size ∧ FQ P Q g j) w2 d ov sv mv :=
  h.keeps hk (fun _ _ e => .inr (.inr e)) (fun _ _ e => e.2)
def Dv.ident (d : Dv) (x : Idn) : Dv := { d with idn := x.st, lv := if x.st = 2 then x.level else 0, objs := if x.st = 2 then x.objs else [] }
set_option maxRecDepth 100000 in
set_option maxHeartbeats 3200000 in
theorem af_ident (P Q : Nat → Prop) (g b bi bp : Nat) (win : Nat → Int × Int) (pr af : Value) (d : Dv) (ov sv : Value) (mv : Nat → Value) (q : Int) (w : World) (h : PbI w g win pr af d ov sv mv q) (hrd : RdSt (FQ P Q g) w d ov sv mv) (R : Nat → Prop) (x : Idn) (v : Value) (cs : List Value) (hI : IdAt R w b x v cs) (hx : x.fin)
    (hbp : w.heap[bp]? = some (.cells #[.pointer (some ⟨g, 0, none⟩)] 93)) (hpg : bp ≠ g) (hbi : w.heap[bi]? = some (.cells #[.pointer (some ⟨b, 0, none⟩)] 188)) (hig : bi ≠ g) :
    Calls Tryz.prog 129 #[.pointer (some ⟨bi, 0, none⟩), .pointer (some ⟨bp, 0, none⟩)] w (AfPost P Q w g win q .server (d.ident x)) := by
  have hgl : g < w.heap.size := hpLt h
  have x0 : ∀ X, Keeps (· = g) w X → X.cell? ⟨bp, 0, none⟩ = some (.pointer (some ⟨g, 0, none⟩)) := fun X k => hpCell (hpKeeps hbp k hpg) 0
  have x1 : ∀ X, Keeps (· = g) w X → X.cell? ⟨bi, 0, none⟩ = some (.pointer (some ⟨b, 0, none⟩)) := fun X k => hpCell (hpKeeps hbi k hig) 0
  have k0 : Keeps (· = g) w w := Keeps.refl _ _
  have kD : Keeps (· = g) w w.drew := Keeps.of_below (Below.refl _ _).drew
  have kS1 : ∀ X a, Keeps (· = g) w X → Keeps (· = g) w (X.setCell ⟨g, 13, none⟩ a) := fun X a h => ks1 h _ _
  have kS2 : ∀ X a b, Keeps (· = g) w X → Keeps (· = g) w ((X.setCell ⟨g, 13, none⟩ a).setCell ⟨g, 14, none⟩ b) := fun X a b h => ks1 (ks1 h _ _) _ _
  have kS3 : ∀ X a b c, Keeps (· = g) w X → Keeps (· = g) w (((X.setCell ⟨g, 13, none⟩ a).setCell ⟨g, 14, none⟩ b).setCell ⟨g, 15, none⟩ c) := fun X a b c h => ks1 (ks1 (ks1 h _ _) _ _) _ _
  obtain ⟨lv, hlv⟩ : ∃ l, (if x.st = 2 then x.level else 0) = l := ⟨_, rfl⟩
  obtain ⟨l, hl⟩ : ∃ l, (if x.st = 2 then x.objs else []) = l := ⟨_, rfl⟩
  have hdd : d.ident x = { d with idn := x.st, lv := lv, objs := l } := by unfold Dv.ident; rw [hlv, hl]
  have HRS : Hid (Calls Tryz.prog 130 #[.pointer (some ⟨b, 0, none⟩)] w.drew (IdRes w.drew x.st lv l)) := iresult_any (hI.keep (Below.refl _ _).drew) hx lv l hlv.symm hl.symm
  rw [hdd]
  have H := hid h
  have HRD := hid hrd
  clear h hrd hI hx hbp hbi hlv hl hdd
  go_enter Tryz.func129, Tryz.ntmps129
  go_upto_region 0 with (fail)
  go_region_held3 (fun X => Keeps (· = g) w X) ((with_reducible (first | exact kD | assumption | exact k0 | exact kS1 _ _ hK2 | exact kS2 _ _ _ hK2 | exact kS3 _ _ _ _ hK2)))
    ((go_at_call 130; (with_reducible refine HRS.out.mono ?_); rintro r w2 ⟨a2, k2, rfl, hr2, hb2⟩; have hB2 : Below w.heap.size w w2 := bt (Below.refl _ _).drew hb2 (Nat.le_refl _); have hK2 : Keeps (· = g) w w2 := Keeps.of_below hB2; have hp2 := H.out.keep hB2; have c13 : w2.cell? ⟨g, 13, none⟩ = some (.int .i64 d.idn) := hpCell hp2 13; have f13 : w2.frozen? ⟨g, 13, none⟩ = false := hpFree hp2 13; have c14 : w2.cell? ⟨g, 14, none⟩ = some (.int .i64 d.lv) := hpCell hp2 14; have f14 : w2.frozen? ⟨g, 14, none⟩ = false := hpFree hp2 14; have c15 : w2.cell? ⟨g, 15, none⟩ = some ov := hpCell hp2 15; have f15 : w2.frozen? ⟨g, 15, none⟩ = false := hpFree hp2 15))
  all_goals
    have hp3 := hp2.setIdent x.st lv l (.slice a2 l.length k2)
    have hK3 := kS3 _ (.int .i64 x.st) (.int .i64 lv) (.slice a2 l.length k2) hK2
    have hK23 : Keeps (· = g) w2 (((w2.setCell ⟨g, 13, none⟩ (.int .i64 x.st)).setCell ⟨g, 14, none⟩ (.int .i64 lv)).setCell ⟨g, 15, none⟩ (.slice a2 l.length k2)) := ks1 (ks1 (ks1 (Keeps.refl _ _) _ _) _ _) _ _
    have HR2 := hid hr2
    clear hr2
    generalize ((w2.setCell ⟨g, 13, none⟩ (.int .i64 x.st)).setCell ⟨g, 14, none⟩ (.int .i64 lv)).setCell ⟨g, 15, none⟩ (.slice a2 l.length k2) = W3 at *
    have y0 := x0 W3 hK3
    go_wp2_with (go_at_call 131; (with_reducible refine (report_any g win pr af _ _ sv mv q W3 hp3).mono ?_); rintro r w4 ⟨rfl, hs4⟩)
    go_end0
    refine ⟨rfl, W3, _, sv, mv, hK3.size, ?_, hs4, hK3.trans hs4.2 (fun _ _ e => e)⟩
    intro W' hW'
    have hold := HRD.out W' ((hK3.mono (G := FQ P Q g) (fun _ _ e => .inr (.inr e))).trans hW' (fun _ _ e => e.2))
    refine ⟨HR2.out W' ⟨Nat.le_trans hK23.size hW'.size, fun j hj hlt => ?_⟩, hold.2⟩
    have hj' : w.heap.size ≤ j := by simpa using hj
    rw [hW'.block j (Nat.lt_of_lt_of_le hlt hK23.size) (fun e => by have := e.1; omega), hK23.block j hlt (by omega)]
set_option maxRecDepth 100000 in
set_option maxHeartbeats 3200000 in
theorem af_server (P Q : Nat → Prop) (g bq : Nat) (win : Nat → Int × Int) (pr af : Value) (d : Dv) (ov sv : Value) (mv : Nat → Value) (q : Int) (w : World) (h : PbI w g win pr af d ov sv mv q) (hrd : RdSt (FQ P Q g) w d ov sv mv)
    (hbp : w.heap[bq]? = some (.cells #[.pointer (some ⟨g, 0, none⟩)] 93)) (ph : Ph) (d' : Dv) (hm : Hid (meas win 4 d = (ph, d'))) (hd' : d'.objs = d.objs ∧ d'.sd = d.sd ∧ ∀ k, (d'.ts k).map = (d.ts k).map) :
    Calls Tryz.prog 158 #[.pointer (some ⟨bq, 0, none⟩)] w (AfPost P Q w g win q ph d') := by
  have x0 : w.cell? ⟨bq, 0, none⟩ = some (.pointer (some ⟨g, 0, none⟩)) := hpCell hbp 0
  have H := hid h
  have HRD := hid hrd
  have HD := hid hd'
  have HME : Hid (Calls Tryz.prog 159 #[.pointer (some ⟨g, 0, none⟩), .int .i64 0] w fun r w' => r = .returned (.tuple #[]) ∧ StepTo w g win ov sv mv q ph d' w') := measure_any g win pr af d ov sv mv q 0 (by decide) w h ph d' hm
  clear h hrd hbp hm hd'
  go_enter Tryz.func158, Tryz.ntmps158
  go_wp2_with (go_at_call 159; (with_reducible refine HME.out.mono ?_); rintro r w4 ⟨rfl, hs4⟩)
  go_end0
  exact ⟨rfl, w, ov, sv, mv, Nat.le_refl _, (af_old HRD.out (Keeps.refl _ _)).num HD.out.1 HD.out.2.1 HD.out.2.2, hs4, hs4.2⟩
theorem meas_same (win : Nat → Int × Int) : ∀ (n : Nat) (d : Dv) (ph : Ph) (d' : Dv), meas win n d = (ph, d') → d'.objs = d.objs ∧ d'.sd = d.sd ∧ ∀ k, (d'.ts k).map = (d.ts k).map
  | 0, d, ph, d', h => by
    have := (Prod.mk.inj h).2
    subst this
    exact ⟨rfl, rfl, fun _ => rfl⟩
  | n + 1, d, ph, d', h => by
    unfold meas at h
    split at h
    · obtain ⟨a, b, c⟩ := meas_same win n _ ph d' h
      refine ⟨a, b, fun k => ?_⟩
      rw [c k]
      show (if k = 3 - n then { d.ts (3 - n) with st := 6 } else d.ts k).map = _
      split
      · rename_i e
        rw [e]
      · rfl
    · have := (Prod.mk.inj h).2
      subst this
      exact ⟨rfl, rfl, fun _ => rfl⟩
end Go.Proofs.YtipnamoocemeeaaGreat
