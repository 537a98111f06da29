/-
  The contract of modscanlaw26.Awake.
-/
import Derived.Test.YtliblgmpclefgaaGreatPbm
import Derived.Test.YtliblgmpclefgaaGreatPbp
import Derived.Test.YtliblgmpclefgaaGreatPbq
namespace Go.Proofs.YtliblgmpclefgaaGreat
open Go.RowKit

theorem DvC_one {w : World} {d : Dv} {ov sv : Value} {mv : Nat → Value} (h : DvRd w d ov sv mv) : (DvC d ov sv mv).toList.all (·.oneCell') = true := by
  obtain ⟨va, vc, rfl, -⟩ := id h.1
  obtain ⟨sa, sc, rfl, -⟩ := id h.2.1
  obtain ⟨_, _, e0⟩ := (h.2.2 0 (by decide)).slice
  obtain ⟨_, _, e1⟩ := (h.2.2 1 (by decide)).slice
  obtain ⟨_, _, e2⟩ := (h.2.2 2 (by decide)).slice
  obtain ⟨_, _, e3⟩ := (h.2.2 3 (by decide)).slice
  unfold DvC
  rw [e0, e1, e2, e3]
  rfl
def win0 : Nat → Int × Int := fun _ => (0, 0)
theorem win0_ok : WinOk win0 := fun k _ => ⟨(by show (0 : Int) ≤ 0; decide), (by show (0 : Int) ≤ 512; decide), (by show (0 : Int) ≤ 0; decide), (by show (0 : Int) ≤ 65536 - 0; decide)⟩
def litO (v x : Int) : Oc := ⟨v, ⟨0, x, [], 0, 0, false, 0, []⟩⟩
theorem litO_fit (v x : Int) : (litO v x).fit := ⟨(by show 0 ≤ 40; decide), fun y h => (by cases h), (by show 0 ≤ 300; decide), (by show (0 : Int) ≤ 9223372036854775807; decide)⟩
theorem feed_lit {P : Nat → Prop} {w : World} {g : Nat} {win : Nat → Int × Int} (hw : WinOk win) {p p' : Pb} (h : PbAt P w g win p) (hok : p.ph.ok win) (hd : p.ph ≠ .done) (hq0 : 0 ≤ p.q) (hq1 : p.q ≤ 1000000) (v x : Int) (hp : p.feed win (litO v x) = p') :
    Calls Tryz.prog 12 #[.pointer (some ⟨g, 0, none⟩), .agg #[.int .i64 v, .int .i64 0, .int .i64 x, .slice none 0 0, .int .i64 0, .int .i64 0, .bool false, .int .i64 0, .slice none 0 0]] w (FeedEnd (PbFed P w g win p')) := by
  subst hp
  exact pfeed_any hw h hok hd hq0 hq1 (litO v x) none 0 none 0 (fun W _ => ⟨Bs.nil _, Obs.nil _, (by show (0 : Int) ≤ 9223372036854775807; decide), (by show -9223372036854775808 ≤ (0 : Int); decide)⟩) (litO_fit v x)
def dA : Dv := { Dv.zero with st := 1 }
def dB1 : Dv := { Dv.zero with st := 2 }
def dB2 : Dv := dB1.ident (Idn.new.feed (litO 2 1))
def dB3 : Dv := (meas win0 4 { dB2 with srv := srvSt (litO 2 1), sd := srvData (litO 2 1) }).2
theorem stA : (⟨.test, Dv.zero, 0⟩ : Pb).feed win0 (litO 3 0) = ⟨.done, dA, 1⟩ := rfl
theorem stB1 : (⟨.test, Dv.zero, 0⟩ : Pb).feed win0 (litO 2 1) = ⟨.ident Idn.new, dB1, 1⟩ := rfl
theorem stB2 : (⟨.ident Idn.new, dB1, 1⟩ : Pb).feed win0 (litO 2 1) = ⟨.server, dB2, 2⟩ := rfl
theorem stB3 : (⟨.server, dB2, 2⟩ : Pb).feed win0 (litO 2 1) = ⟨.done, dB3, 3⟩ := rfl
theorem dA_small : dA.small := ⟨by decide, fun y h => (by cases h), by decide, fun k _ => (by show 0 ≤ 1024; decide)⟩
theorem dB3_val : dB3.st = 2 ∧ dB3.idn = 5 ∧ dB3.srv = 5 ∧ (dB3.ts 3).st = 6 := ⟨rfl, rfl, rfl, rfl⟩
theorem dB3_small : dB3.small := by
  have h := meas_same win0 4 { dB2 with srv := srvSt (litO 2 1), sd := srvData (litO 2 1) } _ _ rfl
  refine ⟨?_, fun y hy => ?_, ?_, fun k _ => ?_⟩
  · show dB3.objs.length ≤ 1280
    rw [show dB3.objs = [] from h.1]
    decide
  · rw [show dB3.objs = [] from h.1] at hy
    cases hy
  · rw [show dB3.sd = [] from h.2.1]
    decide
  · rw [show (dB3.ts k).map = [] from h.2.2 k]
    decide

set_option maxRecDepth 100000 in
set_option maxHeartbeats 6400000 in
theorem awake26_any (w : World) : Calls Tryz.prog 6 #[] w (BoolPost w true) := by
  have HNW : Hid (∀ X, Calls Tryz.prog 8 #[.agg #[.int .i64 0, .int .i64 0, .int .i64 0, .int .i64 0, .int .i64 0, .int .i64 0, .int .i64 0, .int .i64 0]] X fun r w' => ∃ g : Nat, r = .returned (.pointer (some ⟨g, 0, none⟩)) ∧ X.heap.size ≤ g ∧ PbAt (Grw (fun _ => False) X w') w' g win0 ⟨.test, Dv.zero, 0⟩ ∧ Below X.heap.size X w') := fun X => pnew_ok win0 win0_ok X
  go_enter Tryz.func6, Tryz.ntmps6
  go_wp2_with fail
  refine (HNW.out _).mono ?_
  rintro r w1 ⟨g1, rfl, hg1, hp1, hb1⟩
  go_wp2_with fail
  refine (HNW.out _).mono ?_
  rintro r w2 ⟨g2, rfl, hg2, hp2, hb2⟩
  have hp12 := hp1.keep (F := fun _ => False) (Keeps.of_below hb2) (fun _ _ e => e.elim)
  have HF1 := hid (feed_lit win0_ok hp12 trivial (by intro e; cases e) (by decide) (by decide) 3 0 stA)
  have HP2 := hid hp2
  clear hp1 hp2 hp12
  go_wp2_with (go_at_call 12; refine HF1.out.mono ?_; rintro r w3 ⟨rfl, hp3, hk3⟩)
  have hd12 : ∀ j, Grw (fun _ => False) w w1 j → ¬ Grw (fun _ => False) w1 w2 j := fun j h1 h2 => by
    rcases h1 with h1 | h1
    · exact h1
    · rcases h2 with h2 | h2
      · exact h2
      · omega
  have hB3 : Below w.heap.size w w3 := (bt hb1 hb2 (Nat.le_refl _)).trans (hk3.below (B := w.heap.size) (by have := hb1.size; have := hb2.size; omega) (fun j hj e => by rcases e with e | e; exact e; omega))
  have hq3 := HP2.out.keep hk3 (fun j _ e h => hd12 j e h)
  refine (presult_any hp3 dA_small dA true rfl rfl).mono ?_
  rintro r w4 ⟨ov, sv, mv, rfl, hr4, hb4⟩
  have h14 := DvC_one (hr4 w4 (Agree.refl _ _))
  have hq4 := hq3.keep (F := fun _ => False) (Keeps.of_below (bta hb4 (Nat.le_refl _) (.cells #[.int .i64 0, .int .i64 0, .int .i64 0, .int .i64 0, .int .i64 0, .slice none 0 0, .int .i64 0, .slice none 0 0, .int .i64 0, .int .i64 0, .slice none 0 0, .int .i64 0, .int .i64 0, .slice none 0 0, .int .i64 0, .int .i64 0, .slice none 0 0, .int .i64 0, .int .i64 0, .slice none 0 0, .string ⟨#[]⟩] 61))) (fun _ _ e => e.elim)
  have hq4' := hid hq4
  clear hq3 hq4 hr4 hp3 HP2
  go_wp2_with (refine wpList_storeW rfl 61 (.tmp 3) (.tmp 27) rfl w4.heap.size 0 _ 61 (DvC dA ov sv mv) rfl rfl (hpNew w4 (.cells #[.int .i64 0, .int .i64 0, .int .i64 0, .int .i64 0, .int .i64 0, .slice none 0 0, .int .i64 0, .slice none 0 0, .int .i64 0, .int .i64 0, .slice none 0 0, .int .i64 0, .int .i64 0, .slice none 0 0, .int .i64 0, .int .i64 0, .slice none 0 0, .int .i64 0, .int .i64 0, .slice none 0 0, .string ⟨#[]⟩] 61)) (by simp [DvC]) info21 h14 ?_; intro w5 g5 hk5 hz5)
  have hs1 := hb1.size
  have hs2 : w2.heap.size ≤ w4.heap.size := Nat.le_trans hk3.size hb4.size
  have g5' : w5.heap[w4.heap.size]? = some (.cells (DvC dA ov sv mv) 61) := by
    rw [g5, List.drop_eq_nil_of_le (by simp [DvC])]
    simp
  have hz5' : w5.heap.size = w4.heap.size + 1 := by rw [hz5]; simp
  have hq5 := (hq4'.out.keep hk5 (fun j _ e h => by rcases h with h | h; exact h; omega)).keep (F := fun _ => False) (Keeps.of_below (bal' w5 (.cells #[.int .i64 2, .int .i64 0, .int .i64 1, .slice none 0 0, .int .i64 0, .int .i64 0, .bool false, .int .i64 0, .slice none 0 0] 54))) (fun _ _ e => e.elim)
  have HF2 := hid (feed_lit win0_ok hq5 trivial (by intro e; cases e) (by decide) (by decide) 2 1 stB1)
  have n5 : (w5.alloc (.cells #[.int .i64 2, .int .i64 0, .int .i64 1, .slice none 0 0, .int .i64 0, .int .i64 0, .bool false, .int .i64 0, .slice none 0 0] 54)).heap[w5.heap.size]? = some (.cells #[.int .i64 2, .int .i64 0, .int .i64 1, .slice none 0 0, .int .i64 0, .int .i64 0, .bool false, .int .i64 0, .slice none 0 0] 54) := hpNew _ _
  have m5 := hpKeep g5' (bal' w5 (.cells #[.int .i64 2, .int .i64 0, .int .i64 1, .slice none 0 0, .int .i64 0, .int .i64 0, .bool false, .int .i64 0, .slice none 0 0] 54))
  have hzX : (w5.alloc (.cells #[.int .i64 2, .int .i64 0, .int .i64 1, .slice none 0 0, .int .i64 0, .int .i64 0, .bool false, .int .i64 0, .slice none 0 0] 54)).heap.size = w5.heap.size + 1 := by simp
  have hB5 : Below w.heap.size w (w5.alloc (.cells #[.int .i64 2, .int .i64 0, .int .i64 1, .slice none 0 0, .int .i64 0, .int .i64 0, .bool false, .int .i64 0, .slice none 0 0] 54)) := bta ((bta (bt hB3 hb4 (Nat.le_refl _)) (Nat.le_refl _) _).trans (hk5.below (B := w.heap.size) (by have := hB3.size; have := hb4.size; simp; omega) (fun j hj e => by have := hB3.size; have := hb4.size; omega))) (Nat.le_refl _) _
  clear hq5 hq4' g5
  go_wp2_with fail
  refine HF2.out.mono ?_
  rintro r w6 ⟨rfl, hp6, hk6⟩
  rw [hz5'] at n5
  have n6 := hpKeeps n5 hk6 (fun h => by rcases h with h | h; exact h; omega)
  have m6 := hpKeeps m5 hk6 (fun h => by rcases h with h | h; exact h; omega)
  have x0 : w6.cell? ⟨w4.heap.size + 1, 0, none⟩ = some (.int .i64 2) := hpCell n6 0
  have x1 : w6.cell? ⟨w4.heap.size + 1, 1, none⟩ = some (.int .i64 0) := hpCell n6 1
  have x2 : w6.cell? ⟨w4.heap.size + 1, 2, none⟩ = some (.int .i64 1) := hpCell n6 2
  have x3 : w6.cell? ⟨w4.heap.size + 1, 3, none⟩ = some (.slice none 0 0) := hpCell n6 3
  have x4 : w6.cell? ⟨w4.heap.size + 1, 4, none⟩ = some (.int .i64 0) := hpCell n6 4
  have x5 : w6.cell? ⟨w4.heap.size + 1, 5, none⟩ = some (.int .i64 0) := hpCell n6 5
  have x6 : w6.cell? ⟨w4.heap.size + 1, 6, none⟩ = some (.bool false) := hpCell n6 6
  have x7 : w6.cell? ⟨w4.heap.size + 1, 7, none⟩ = some (.int .i64 0) := hpCell n6 7
  have x8 : w6.cell? ⟨w4.heap.size + 1, 8, none⟩ = some (.slice none 0 0) := hpCell n6 8
  have HF3 := hid (feed_lit win0_ok hp6 ⟨Idn.new_ok, rfl⟩ (by intro e; cases e) (by decide) (by decide) 2 1 stB2)
  have hB6 : Below w.heap.size w w6 := hB5.trans (hk6.below (B := w.heap.size) (by have := hB5.size; omega) (fun j hj e => by rcases e with e | e; exact e; omega))
  have hs6 := hk6.size
  have hs5b := hB5.size
  have hs6b := hB6.size
  clear hp6
  go_wp2_with fail
  refine HF3.out.mono ?_
  rintro r w7 ⟨rfl, hp7, hk7⟩
  have n7 := hpKeeps n6 hk7 (fun h => by rcases h with (h | h) | h; exact h; omega; omega)
  have m7 := hpKeeps m6 hk7 (fun h => by rcases h with (h | h) | h; exact h; omega; omega)
  have y0 : w7.cell? ⟨w4.heap.size + 1, 0, none⟩ = some (.int .i64 2) := hpCell n7 0
  have y1 : w7.cell? ⟨w4.heap.size + 1, 1, none⟩ = some (.int .i64 0) := hpCell n7 1
  have y2 : w7.cell? ⟨w4.heap.size + 1, 2, none⟩ = some (.int .i64 1) := hpCell n7 2
  have y3 : w7.cell? ⟨w4.heap.size + 1, 3, none⟩ = some (.slice none 0 0) := hpCell n7 3
  have y4 : w7.cell? ⟨w4.heap.size + 1, 4, none⟩ = some (.int .i64 0) := hpCell n7 4
  have y5 : w7.cell? ⟨w4.heap.size + 1, 5, none⟩ = some (.int .i64 0) := hpCell n7 5
  have y6 : w7.cell? ⟨w4.heap.size + 1, 6, none⟩ = some (.bool false) := hpCell n7 6
  have y7 : w7.cell? ⟨w4.heap.size + 1, 7, none⟩ = some (.int .i64 0) := hpCell n7 7
  have y8 : w7.cell? ⟨w4.heap.size + 1, 8, none⟩ = some (.slice none 0 0) := hpCell n7 8
  have HF4 := hid (feed_lit win0_ok hp7 trivial (by intro e; cases e) (by decide) (by decide) 2 1 stB3)
  have hB7 : Below w.heap.size w w7 := hB6.trans (hk7.below (B := w.heap.size) hB6.size (fun j hj e => by rcases e with (e | e) | e; exact e; omega; omega))
  have hs7 := hk7.size
  clear hp7
  go_wp2_with fail
  refine HF4.out.mono ?_
  rintro r w8 ⟨rfl, hp8, hk8⟩
  have m8 := hpKeeps m7 hk8 (fun h => by rcases h with ((h | h) | h) | h; exact h; omega; omega; omega)
  have hB8 : Below w.heap.size w w8 := hB7.trans (hk8.below (B := w.heap.size) hB7.size (fun j hj e => by rcases e with ((e | e) | e) | e; exact e; omega; omega; omega))
  have hs8 := hk8.size
  go_wp2_with fail
  refine (presult_any hp8 dB3_small dB3 true rfl rfl).mono ?_
  rintro r w9 ⟨ov9, sv9, mv9, rfl, hr9, hb9⟩
  have h19 := DvC_one (hr9 w9 (Agree.refl _ _))
  have hp9 := hp8.keep (F := fun _ => False) (Keeps.of_below (bta hb9 (Nat.le_refl _) (.cells #[.int .i64 0, .int .i64 0, .int .i64 0, .int .i64 0, .int .i64 0, .slice none 0 0, .int .i64 0, .slice none 0 0, .int .i64 0, .int .i64 0, .slice none 0 0, .int .i64 0, .int .i64 0, .slice none 0 0, .int .i64 0, .int .i64 0, .slice none 0 0, .int .i64 0, .int .i64 0, .slice none 0 0, .string ⟨#[]⟩] 61))) (fun _ _ e => e.elim)
  have m9 := hpKeep m8 (bta hb9 (Nat.le_refl _) (.cells #[.int .i64 0, .int .i64 0, .int .i64 0, .int .i64 0, .int .i64 0, .slice none 0 0, .int .i64 0, .slice none 0 0, .int .i64 0, .int .i64 0, .slice none 0 0, .int .i64 0, .int .i64 0, .slice none 0 0, .int .i64 0, .int .i64 0, .slice none 0 0, .int .i64 0, .int .i64 0, .slice none 0 0, .string ⟨#[]⟩] 61))
  clear hp8
  have h49 : w4.heap.size ≠ w9.heap.size := by have := hb9.size; omega
  have hB9 : Below w.heap.size w (w9.alloc (.cells #[.int .i64 0, .int .i64 0, .int .i64 0, .int .i64 0, .int .i64 0, .slice none 0 0, .int .i64 0, .slice none 0 0, .int .i64 0, .int .i64 0, .slice none 0 0, .int .i64 0, .int .i64 0, .slice none 0 0, .int .i64 0, .int .i64 0, .slice none 0 0, .int .i64 0, .int .i64 0, .slice none 0 0, .string ⟨#[]⟩] 61)) := bta (bt hB8 hb9 (Nat.le_refl _)) (Nat.le_refl _) _
  have hs9 := (bt hB8 hb9 (Nat.le_refl _)).size
  have hs89 := hb9.size
  have HP9 := hid hp9
  have HM9 := hid m9
  clear hp9 m9
  go_wp2_with (first
    | (refine wpList_storeW rfl 61 (.tmp 6) (.tmp 50) rfl w9.heap.size 0 _ 61 (DvC dB3 ov9 sv9 mv9) rfl rfl (hpNew w9 (.cells #[.int .i64 0, .int .i64 0, .int .i64 0, .int .i64 0, .int .i64 0, .slice none 0 0, .int .i64 0, .slice none 0 0, .int .i64 0, .int .i64 0, .slice none 0 0, .int .i64 0, .int .i64 0, .slice none 0 0, .int .i64 0, .int .i64 0, .slice none 0 0, .int .i64 0, .int .i64 0, .slice none 0 0, .string ⟨#[]⟩] 61)) (by simp [DvC]) info21 h19 ?_; intro w10 g10 hk10 hz10; have g10' : w10.heap[w9.heap.size]? = some (.cells (DvC dB3 ov9 sv9 mv9) 61) := (by rw [g10, List.drop_eq_nil_of_le (by simp [DvC])]; simp); have m10 := hpKeeps HM9.out hk10 h49; have e2 : w10.cell? ⟨w4.heap.size, 2, none⟩ = some (.int .i64 1) := hpCell m10 2; have q2 : w10.cell? ⟨w9.heap.size, 2, none⟩ = some (.int .i64 2) := (by rw [hpCell g10' 2]; show some (Value.int .i64 dB3.st) = _; rw [dB3_val.1]); have q3 : w10.cell? ⟨w9.heap.size, 3, none⟩ = some (.int .i64 5) := (by rw [hpCell g10' 3]; show some (Value.int .i64 dB3.idn) = _; rw [dB3_val.2.1]); have q6 : w10.cell? ⟨w9.heap.size, 6, none⟩ = some (.int .i64 5) := (by rw [hpCell g10' 6]; show some (Value.int .i64 dB3.srv) = _; rw [dB3_val.2.2.1]); have q17 : w10.cell? ⟨w9.heap.size, 17, none⟩ = some (.int .i64 6) := (by rw [hpCell g10' 17]; show some (Value.int .i64 (dB3.ts 3).st) = _; rw [dB3_val.2.2.2]); have HQ := hid (pqueries_any (HP9.out.keep hk10 (fun j _ e h => (by rcases h with ((h | h) | h) | h; rcases h with h | h; exact h; omega; omega; omega; omega))) 3 rfl); clear g10)
    | (go_at_call 17; refine HQ.out.mono ?_; rintro r w11 ⟨rfl, hb11⟩))
  go_ret
  exact ⟨rfl, bt (hB9.trans (hk10.below (B := w.heap.size) (by simp; omega) (fun j hj e => by omega))) hb11 (Nat.le_refl _)⟩

end Go.Proofs.YtliblgmpclefgaaGreat
