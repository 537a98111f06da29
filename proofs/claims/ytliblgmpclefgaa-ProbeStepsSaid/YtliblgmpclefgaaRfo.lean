/-
  The reference's probe: NewProbe, and Feed whole.
-/
import Derived.Test.YtliblgmpclefgaaRfn
import Derived.Test.YtliblgmpclefgaaPbq
import Derived.Test.YtliblgmpclefgaaPbs
namespace Go.Proofs.Ytliblgmpclefgaa
open Go.RowKit

set_option maxRecDepth 100000 in
set_option maxHeartbeats 6400000 in
theorem rpnew_ok (win : Nat → Int × Int) (hw : WinOk win) (W0 w : World) (hBW : Below W0.heap.size W0 w) :
    Calls Try.prog 10 #[.agg #[.int .i64 (win 0).1, .int .i64 (win 0).2, .int .i64 (win 1).1, .int .i64 (win 1).2, .int .i64 (win 2).1, .int .i64 (win 2).2, .int .i64 (win 3).1, .int .i64 (win 3).2]] w fun r w' => ∃ g : Nat, r = .returned (.pointer (some ⟨g, 0, none⟩)) ∧ w.heap.size ≤ g ∧ RqAt (fun j => j < W0.heap.size ∨ (w.heap.size ≤ j ∧ j < w'.heap.size)) W0 w' g win ⟨.test, Dv.zero, 0⟩ ∧ Below w.heap.size w w' := by
  obtain ⟨W1, hW1⟩ : ∃ W, w.alloc (.cells #[.int .i64 (win 0).1, .int .i64 (win 0).2, .int .i64 (win 1).1, .int .i64 (win 1).2, .int .i64 (win 2).1, .int .i64 (win 2).2, .int .i64 (win 3).1, .int .i64 (win 3).2] 24) = W := ⟨_, rfl⟩; have hb0 : Below w.heap.size w W1 := (by rw [← hW1]; exact bal' w _); have p0 : WgI W1 w.heap.size win := (by rw [← hW1]; exact hpNew w _); have HW1 := hid hW1; have HB0 := hid hb0; have P0 := hid p0; clear hW1 hb0 p0
  have HBW := hid hBW
  have HWO := hid hw
  clear hBW hw
  go_enter Try.func10, Try.ntmps10
  go_upto_region 1 with (fail)
  rw [HW1.out]
  go_wp2_with fail
  go_loopw [3] (fun iv wr => ∃ k : Nat, k ≤ 4 ∧ iv = .int .i64 k ∧ Below W1.heap.size W1 wr) (fun iv _ => 4 - (intOf iv).toNat)
  case atStart => exact ⟨0, by omega, rfl, Below.refl _ _⟩
  case round =>
    obtain ⟨k, hk, rfl, hbw⟩ := hrel
    by_cases hlt : k < 4
    · have hkl : (k : Int) < 4 := (by omega); have hki : (0 : Int) ≤ (k : Int) := Int.natCast_nonneg _; have y1 : wr.cell? ⟨w.heap.size, k * 2 + 1, none⟩ = some (.int .i64 (win k).2) := WgI.count (hpKeep P0.out hbw) hlt; have y0 : wr.cell? ⟨w.heap.size, k * 2, none⟩ = some (.int .i64 (win k).1) := WgI.first (hpKeep P0.out hbw) hlt
      obtain ⟨h1, h2, h3, h4⟩ := HWO.out k hlt
      have a1 : decide ((win k).2 < 0) = false := decide_eq_false (by omega)
      have a2 : decide (512 < (win k).2) = false := decide_eq_false (by omega)
      have a3 : decide ((win k).1 < 0) = false := decide_eq_false (by omega)
      obtain ⟨e, he⟩ : ∃ e, 65536 - (win k).2 = e := ⟨_, rfl⟩
      have a4 : decide (e < (win k).1) = false := decide_eq_false (by omega)
      have sw : IntKind.i64.wrap (65536 - (win k).2) = e := (IntWalk.i64_in _ (by omega)).trans he
      clear h1 h2 h3 h4 he
      go_upto_region 4 with (fail)
      go_quiet (fail)
      go_wp2
      go_roundw
      case rel => exact ⟨k + 1, by omega, by go_num, below_drewN hbw _⟩
      case measure => simp [intOf]; omega
    · obtain rfl : k = 4 := by omega
      have hp := hpKeep P0.out hbw
      have e0 : wr.cell? ⟨w.heap.size, 0, none⟩ = some (.int .i64 (win 0).1) := hpCell hp 0
      have e1 : wr.cell? ⟨w.heap.size, 1, none⟩ = some (.int .i64 (win 0).2) := hpCell hp 1
      have e2 : wr.cell? ⟨w.heap.size, 2, none⟩ = some (.int .i64 (win 1).1) := hpCell hp 2
      have e3 : wr.cell? ⟨w.heap.size, 3, none⟩ = some (.int .i64 (win 1).2) := hpCell hp 3
      have e4 : wr.cell? ⟨w.heap.size, 4, none⟩ = some (.int .i64 (win 2).1) := hpCell hp 4
      have e5 : wr.cell? ⟨w.heap.size, 5, none⟩ = some (.int .i64 (win 2).2) := hpCell hp 5
      have e6 : wr.cell? ⟨w.heap.size, 6, none⟩ = some (.int .i64 (win 3).1) := hpCell hp 6
      have e7 : wr.cell? ⟨w.heap.size, 7, none⟩ = some (.int .i64 (win 3).2) := hpCell hp 7
      have hbx := bt HB0.out hbw (Nat.le_refl _)
      have HBX := hid hbx
      clear hp hbx
      go_wp2
      go_ret
      have hz := HBX.out.size
      have hz0 := HBW.out.size
      have hi : RqI (wr.alloc (.cells (RqC win 0 (.pointer none) (.pointer none) (.pointer none) Dv.zero (.slice none 0 0) (.slice none 0 0) (fun _ => .slice none 0 0) 0) 52)) wr.heap.size win 0 (.pointer none) (.pointer none) (.pointer none) Dv.zero (.slice none 0 0) (.slice none 0 0) (fun _ => .slice none 0 0) 0 := hpNew _ _
      exact ⟨wr.heap.size, rfl, hz, ⟨⟨.inr ⟨hz, by simp⟩, by omega, fun j hj => .inl hj⟩, bt HBW.out (bta HBX.out (Nat.le_refl _) _) (Nat.le_refl _), fun _ => False, 0, _, _, _, _, _, _, fun j e => e.elim, hi, fun W' _ => ⟨Obs.nil _, Bs.nil _, fun _ _ => Spn.nil _ _⟩, rfl⟩, bta HBX.out (Nat.le_refl _) _⟩

set_option maxRecDepth 100000 in
set_option maxHeartbeats 6400000 in
theorem rpnew_bad (win : Nat → Int × Int) (hw : ¬ WinOk win) (w : World) :
    Calls Try.prog 10 #[.agg #[.int .i64 (win 0).1, .int .i64 (win 0).2, .int .i64 (win 1).1, .int .i64 (win 1).2, .int .i64 (win 2).1, .int .i64 (win 2).2, .int .i64 (win 3).1, .int .i64 (win 3).2]] w fun r w' => r = .returned (.pointer none) ∧ Below w.heap.size w w' := by
  have hw' : Hid (¬ ∀ k, k < 4 → okW (win k)) := hw
  obtain ⟨W1, hW1⟩ : ∃ W, w.alloc (.cells #[.int .i64 (win 0).1, .int .i64 (win 0).2, .int .i64 (win 1).1, .int .i64 (win 1).2, .int .i64 (win 2).1, .int .i64 (win 2).2, .int .i64 (win 3).1, .int .i64 (win 3).2] 24) = W := ⟨_, rfl⟩; have hb0 : Below w.heap.size w W1 := (by rw [← hW1]; exact bal' w _); have p0 : WgI W1 w.heap.size win := (by rw [← hW1]; exact hpNew w _); have HW1 := hid hW1; have HB0 := hid hb0; have P0 := hid p0; clear hW1 hb0 p0
  clear hw
  go_enter Try.func10, Try.ntmps10
  go_upto_region 1 with (fail)
  rw [HW1.out]
  go_wp2_with fail
  go_loopw [3] (fun iv wr => ∃ k : Nat, k ≤ 4 ∧ iv = .int .i64 k ∧ Hid (∀ j, j < k → okW (win j)) ∧ Below W1.heap.size W1 wr) (fun iv _ => 4 - (intOf iv).toNat)
  case atStart => exact ⟨0, by omega, rfl, fun j hj => by omega, Below.refl _ _⟩
  case round =>
    obtain ⟨k, hk, rfl, hall, hbw⟩ := hrel
    by_cases hlt : k < 4
    · have hkl : (k : Int) < 4 := (by omega); have hki : (0 : Int) ≤ (k : Int) := Int.natCast_nonneg _; have y1 : wr.cell? ⟨w.heap.size, k * 2 + 1, none⟩ = some (.int .i64 (win k).2) := WgI.count (hpKeep P0.out hbw) hlt; have y0 : wr.cell? ⟨w.heap.size, k * 2, none⟩ = some (.int .i64 (win k).1) := WgI.first (hpKeep P0.out hbw) hlt
      by_cases hg : okW (win k)
      · have HA2 : Hid (∀ j, j < k + 1 → okW (win j)) := fun j hj => by
          by_cases e : j = k
          · subst e; exact hg
          · exact hall.out j (by omega)
        obtain ⟨h1, h2, h3, h4⟩ := hg
        have a1 : decide ((win k).2 < 0) = false := decide_eq_false (by omega)
        have a2 : decide (512 < (win k).2) = false := decide_eq_false (by omega)
        have a3 : decide ((win k).1 < 0) = false := decide_eq_false (by omega)
        obtain ⟨e, he⟩ : ∃ e, 65536 - (win k).2 = e := ⟨_, rfl⟩
        have a4 : decide (e < (win k).1) = false := decide_eq_false (by omega)
        have sw : IntKind.i64.wrap (65536 - (win k).2) = e := (IntWalk.i64_in _ (by omega)).trans he
        clear h1 h2 h3 h4 he
        go_upto_region 4 with (fail)
        go_quiet (fail)
        go_wp2
        go_roundw
        case rel => exact ⟨k + 1, by omega, by go_num, HA2.out, below_drewN hbw _⟩
        case measure => simp [intOf]; omega
      · have hb := badW hg
        clear hg
        rcases hb with a1 | ⟨a1, a2⟩ | ⟨a1, a2, a3⟩ | ⟨a1, a2, a3, a4⟩
        · have b1 : decide ((win k).2 < 0) = true := decide_eq_true a1
          clear a1
          go_upto_region 4 with (fail)
          go_quiet (fail)
          go_wp2
          go_ret
          exact ⟨rfl, bt HB0.out (below_drewN hbw _) (Nat.le_refl _)⟩
        · have b1 : decide ((win k).2 < 0) = false := decide_eq_false a1
          have b2 : decide (512 < (win k).2) = true := decide_eq_true a2
          clear a1 a2
          go_upto_region 4 with (fail)
          go_quiet (fail)
          go_wp2
          go_ret
          exact ⟨rfl, bt HB0.out (below_drewN hbw _) (Nat.le_refl _)⟩
        · have b1 : decide ((win k).2 < 0) = false := decide_eq_false a1
          have b2 : decide (512 < (win k).2) = false := decide_eq_false a2
          have b3 : decide ((win k).1 < 0) = true := decide_eq_true a3
          clear a1 a2 a3
          go_upto_region 4 with (fail)
          go_quiet (fail)
          go_wp2
          go_ret
          exact ⟨rfl, bt HB0.out (below_drewN hbw _) (Nat.le_refl _)⟩
        · have b1 : decide ((win k).2 < 0) = false := decide_eq_false a1
          have b2 : decide (512 < (win k).2) = false := decide_eq_false a2
          have b3 : decide ((win k).1 < 0) = false := decide_eq_false a3
          obtain ⟨e, he⟩ : ∃ e, 65536 - (win k).2 = e := ⟨_, rfl⟩
          have b4 : decide (e < (win k).1) = true := decide_eq_true (by omega)
          have sw : IntKind.i64.wrap (65536 - (win k).2) = e := (IntWalk.i64_in _ (by omega)).trans he
          clear a1 a2 a3 a4 he
          go_upto_region 4 with (fail)
          go_quiet (fail)
          go_wp2
          go_ret
          exact ⟨rfl, bt HB0.out (below_drewN hbw _) (Nat.le_refl _)⟩
    · obtain rfl : k = 4 := by omega
      exact absurd hall.out hw'.out

def RqFed (P : Nat → Prop) (W0 w : World) (g : Nat) (win : Nat → Int × Int) (p' : Pb) (E : Int) (r : Ending) (w' : World) : Prop :=
  r = .returned (.int .i64 E) ∧ RqAt (Grw P w w') W0 w' g win p' ∧ Keeps (fun j => P j ∧ W0.heap.size ≤ j) w w'
set_option maxRecDepth 100000 in
set_option maxHeartbeats 3200000 in
theorem rpf_done {P Q : Nat → Prop} {W0 w : World} {g : Nat} {win : Nat → Int × Int} {d : Dv} {q st : Int} {iV sV mV ov sv : Value} {mv : Nat → Value} (hb : P g ∧ W0.heap.size ≤ g ∧ ∀ j, j < W0.heap.size → P j) (hBW : Below W0.heap.size W0 w) (hs : RqSt P Q W0 w g win ⟨.done, d, q⟩ st iV sV mV ov sv mv)
    (O : Oc) (da : Option Addr) (dc : Nat) (oa : Option Addr) (oc : Nat) (p' : Pb) (hp' : Hid (p' = ⟨.done, d, q⟩)) :
    Calls Try.prog 17 #[.pointer (some ⟨g, 0, none⟩), .agg #[.int .i64 O.verdict, .int .i64 O.reply.fn, .int .i64 O.reply.exc, .slice da O.reply.data.length dc, .int .i64 O.reply.code, .int .i64 O.reply.level, .bool O.reply.more, .int .i64 O.reply.next, .slice oa O.reply.objs.length oc]] w (RqFed P W0 w g win p' 12) := by
  have HEN : Hid (∀ w', Below w.heap.size w w' → RqFed P W0 w g win p' 12 (.returned (.int .i64 12)) w') := fun w' hb' => by
    have hk : Keeps (fun j => Q j ∨ j = g) w w' := Keeps.of_below hb'
    have hz := hk.size
    rw [hp'.out]
    exact ⟨rfl, (RqSt.fed hb hBW hs hk (p' := ⟨.done, d, q⟩) Q (fun j e => ⟨.inl e, by have := (hs.1 j e).2.2.2; omega⟩) (hs.2.1.keep hb') (hs.2.2.1.go hk (fun j e => .inl e)) hs.2.2.2).2⟩
  have hst : st = 11 := hs.2.2.2
  obtain ⟨WB, hWB⟩ : ∃ W, w.alloc (.cells #[.int .i64 O.verdict, .int .i64 O.reply.fn, .int .i64 O.reply.exc, .slice da O.reply.data.length dc, .int .i64 O.reply.code, .int .i64 O.reply.level, .bool O.reply.more, .int .i64 O.reply.next, .slice oa O.reply.objs.length oc] 59) = W := ⟨_, rfl⟩
  have hbB : Below w.heap.size w WB := by rw [← hWB]; exact bal' w _
  have c8 := (hs.2.1.keep hbB).step
  have HWB := hid hWB
  have HBB := hid hbB
  subst hst
  clear hb hBW hs hp' hWB hbB
  go_enter Try.func17, Try.ntmps17
  go_upto_region 1 with (fail)
  rw [HWB.out]
  go_wp2
  go_ret
  exact HEN.out _ HBB.out

theorem rpfed_any {P : Nat → Prop} {W0 w : World} {g : Nat} {win : Nat → Int × Int} {p : Pb} (hwo : WinOk win) (h : RqAt P W0 w g win p) (hok : p.ph.ok win) (hti : p.tidy) (q0 : 0 ≤ p.q) (q1 : p.q ≤ 1000000)
    (O : Oc) (da : Option Addr) (dc : Nat) (oa : Option Addr) (oc : Nat) (HI : RpIs W0 O.reply da dc oa oc) (hO : O.fit) (p' : Pb) (E : Int) (hp' : Hid (p' = if p.ph.isDone then p else p.feed win O)) (hE : Hid (E = if p.ph.isDone then 12 else 0)) :
    Calls Try.prog 17 #[.pointer (some ⟨g, 0, none⟩), .agg #[.int .i64 O.verdict, .int .i64 O.reply.fn, .int .i64 O.reply.exc, .slice da O.reply.data.length dc, .int .i64 O.reply.code, .int .i64 O.reply.level, .bool O.reply.more, .int .i64 O.reply.next, .slice oa O.reply.objs.length oc]] w (RqFed P W0 w g win p' E) := by
  obtain ⟨hb, hBW, Q, st, iV, sV, mV, ov, sv, mv, hs⟩ := h
  obtain ⟨ph, d, q⟩ := p
  have hpp := hp'.out
  have hee := hE.out
  cases ph with
  | done =>
    obtain rfl : E = 12 := hee
    exact rpf_done hb hBW hs O da dc oa oc p' hpp
  | test =>
    obtain rfl : E = 0 := hee
    exact rpf_test hb hBW hs q0 q1 O da dc oa oc p' hpp
  | ident x =>
    obtain rfl : E = 0 := hee
    exact rpf_ident hb hBW hs q0 q1 hok O da dc oa oc hO HI p' hpp
  | server =>
    obtain rfl : E = 0 := hee
    exact rpf_server hb hBW hs q0 q1 hwo O da dc oa oc hO.data HI.d p' hpp
  | seek k s =>
    obtain rfl : E = 0 := hee
    exact rpf_seek hb hBW hs q0 q1 hwo hok hti O da dc oa oc p' hpp
  | map k m =>
    obtain rfl : E = 0 := hee
    exact rpf_map hb hBW hs q0 q1 hwo hok O da dc oa oc p' hpp

end Go.Proofs.Ytliblgmpclefgaa
