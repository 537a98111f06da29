/-
  Texts 21 of the claim.
-/
import Derived.Test.YtipnamoocemeeaaGreatC18
/-
  A probe of the program: the contract of New.
-/
namespace Go.Proofs.YtipnamoocemeeaaGreat
open Go.RowKit
theorem win_index0 (win : Nat → Int × Int) (W : World) : (Instr.index 25 (.agg #[.int .i64 (win 0).1, .int .i64 (win 0).2, .int .i64 (win 1).1, .int .i64 (win 1).2, .int .i64 (win 2).1, .int .i64 (win 2).2, .int .i64 (win 3).1, .int .i64 (win 3).2]) (.int .i64 0)).run Tryz.prog W = .ok (.agg #[.int .i64 (win 0).1, .int .i64 (win 0).2]) W := by kernel_rfl
theorem win_index1 (win : Nat → Int × Int) (W : World) : (Instr.index 25 (.agg #[.int .i64 (win 0).1, .int .i64 (win 0).2, .int .i64 (win 1).1, .int .i64 (win 1).2, .int .i64 (win 2).1, .int .i64 (win 2).2, .int .i64 (win 3).1, .int .i64 (win 3).2]) (.int .i64 1)).run Tryz.prog W = .ok (.agg #[.int .i64 (win 1).1, .int .i64 (win 1).2]) W := by kernel_rfl
theorem win_index2 (win : Nat → Int × Int) (W : World) : (Instr.index 25 (.agg #[.int .i64 (win 0).1, .int .i64 (win 0).2, .int .i64 (win 1).1, .int .i64 (win 1).2, .int .i64 (win 2).1, .int .i64 (win 2).2, .int .i64 (win 3).1, .int .i64 (win 3).2]) (.int .i64 2)).run Tryz.prog W = .ok (.agg #[.int .i64 (win 2).1, .int .i64 (win 2).2]) W := by kernel_rfl
theorem win_index3 (win : Nat → Int × Int) (W : World) : (Instr.index 25 (.agg #[.int .i64 (win 0).1, .int .i64 (win 0).2, .int .i64 (win 1).1, .int .i64 (win 1).2, .int .i64 (win 2).1, .int .i64 (win 2).2, .int .i64 (win 3).1, .int .i64 (win 3).2]) (.int .i64 3)).run Tryz.prog W = .ok (.agg #[.int .i64 (win 3).1, .int .i64 (win 3).2]) W := by kernel_rfl
theorem win_index (win : Nat → Int × Int) (k : Nat) (hk : k < 4) (W : World) : (Instr.index 25 (.agg #[.int .i64 (win 0).1, .int .i64 (win 0).2, .int .i64 (win 1).1, .int .i64 (win 1).2, .int .i64 (win 2).1, .int .i64 (win 2).2, .int .i64 (win 3).1, .int .i64 (win 3).2]) (.int .i64 (k : Int))).run Tryz.prog W = .ok (.agg #[.int .i64 (win k).1, .int .i64 (win k).2]) W := by
  match k, hk with
  | 0, _ => exact win_index0 win W
  | 1, _ => exact win_index1 win W
  | 2, _ => exact win_index2 win W
  | 3, _ => exact win_index3 win W

set_option maxRecDepth 100000 in
set_option maxHeartbeats 6400000 in
theorem pnew_ok (win : Nat → Int × Int) (hw : WinOk win) (w : World) :
    Calls Tryz.prog 43 #[.agg #[.int .i64 (win 0).1, .int .i64 (win 0).2, .int .i64 (win 1).1, .int .i64 (win 1).2, .int .i64 (win 2).1, .int .i64 (win 2).2, .int .i64 (win 3).1, .int .i64 (win 3).2]] w fun r w' => ∃ g : Nat, r = .returned (.pointer (some ⟨g, 0, none⟩)) ∧ w.heap.size ≤ g ∧ PbAt (Grw (fun _ => False) w w') w' g win ⟨.test, Dv.zero, 0⟩ ∧ Below w.heap.size w w' := by
  have hmf : ∀ (fn : Fn) (first cap : Array Value) (w : World), (Instr.makeFunc fn first cap).run Tryz.prog w = .ok (.func fn first cap) w := fun _ _ _ _ => rfl
  obtain ⟨W0, hW0⟩ : ∃ W, w.alloc (.cells #[.int .i64 (win 0).1, .int .i64 (win 0).2, .int .i64 (win 1).1, .int .i64 (win 1).2, .int .i64 (win 2).1, .int .i64 (win 2).2, .int .i64 (win 3).1, .int .i64 (win 3).2] 25) = W := ⟨_, rfl⟩
  have hb0 : Below w.heap.size w W0 := by rw [← hW0]; exact bal' w _
  have hz0 : W0.heap.size = w.heap.size + 1 := by rw [← hW0]; simp
  have p0 : W0.heap[w.heap.size]? = some (.cells #[.int .i64 (win 0).1, .int .i64 (win 0).2, .int .i64 (win 1).1, .int .i64 (win 1).2, .int .i64 (win 2).1, .int .i64 (win 2).2, .int .i64 (win 3).1, .int .i64 (win 3).2] 25) := by rw [← hW0]; exact hpNew w _
  have x : ∀ X, Below W0.heap.size W0 X → ∀ i, X.cell? ⟨w.heap.size, i, none⟩ = (#[.int .i64 (win 0).1, .int .i64 (win 0).2, .int .i64 (win 1).1, .int .i64 (win 1).2, .int .i64 (win 2).1, .int .i64 (win 2).2, .int .i64 (win 3).1, .int .i64 (win 3).2] : Array Value)[i]? := fun X k i => hpCell (hpKeep p0 k) i
  have HX := hid x
  have HW0 := hid hW0
  have HB0 := hid hb0
  have HZ0 := hid hz0
  have x0 : W0.cell? ⟨w.heap.size, 0, none⟩ = some (.int .i64 (win 0).1) := x W0 (Below.refl _ _) 0
  have x1 : W0.cell? ⟨w.heap.size, 1, none⟩ = some (.int .i64 (win 0).2) := x W0 (Below.refl _ _) 1
  have x2 : W0.cell? ⟨w.heap.size, 2, none⟩ = some (.int .i64 (win 1).1) := x W0 (Below.refl _ _) 2
  have x3 : W0.cell? ⟨w.heap.size, 3, none⟩ = some (.int .i64 (win 1).2) := x W0 (Below.refl _ _) 3
  have x4 : W0.cell? ⟨w.heap.size, 4, none⟩ = some (.int .i64 (win 2).1) := x W0 (Below.refl _ _) 4
  have x5 : W0.cell? ⟨w.heap.size, 5, none⟩ = some (.int .i64 (win 2).2) := x W0 (Below.refl _ _) 5
  have x6 : W0.cell? ⟨w.heap.size, 6, none⟩ = some (.int .i64 (win 3).1) := x W0 (Below.refl _ _) 6
  have x7 : W0.cell? ⟨w.heap.size, 7, none⟩ = some (.int .i64 (win 3).2) := x W0 (Below.refl _ _) 7
  clear hW0 hb0 hz0 p0 x
  go_enter Tryz.func43, Tryz.ntmps43
  go_upto_region 1 with (fail)
  rw [HW0.out]
  go_wp2
  go_loopw [7] (fun iv wr => ∃ k : Nat, k ≤ 4 ∧ iv = .int .i64 k ∧ Below W0.heap.size W0 wr) (fun iv _ => 4 - (intOf iv).toNat)
  case atStart => exact ⟨0, by omega, rfl, Below.refl _ _⟩
  case round =>
    obtain ⟨k, hk, rfl, hbw⟩ := hrel
    clear x0 x1 x2 x3 x4 x5 x6 x7
    by_cases hlt : k < 4
    · have hkl : (k : Int) < 4 := by omega
      have hki : (0 : Int) ≤ (k : Int) := Int.natCast_nonneg _
      have hix := win_index win k hlt
      obtain ⟨a1, a2, a3, a4⟩ : ¬ (win k).2 < 0 ∧ ¬ 512 < (win k).2 ∧ ¬ (win k).1 < 0 ∧ ¬ 65536 - (win k).2 < (win k).1 := by
        obtain ⟨h1, h2, h3, h4⟩ := hw k hlt
        exact ⟨by omega, by omega, by omega, by omega⟩
      have sw : IntKind.i64.wrap (65536 - (win k).2) = 65536 - (win k).2 := IntWalk.i64_in _ (by omega)
      go_wp2
      go_roundw
      case rel => exact ⟨k + 1, by omega, by go_num, bta hbw (Nat.le_refl _) _⟩
      case measure => simp [intOf]; omega
    · obtain rfl : k = 4 := by omega
      have e0 : wr.cell? ⟨w.heap.size, 0, none⟩ = some (.int .i64 (win 0).1) := HX.out wr hbw 0
      have e1 : wr.cell? ⟨w.heap.size, 1, none⟩ = some (.int .i64 (win 0).2) := HX.out wr hbw 1
      have e2 : wr.cell? ⟨w.heap.size, 2, none⟩ = some (.int .i64 (win 1).1) := HX.out wr hbw 2
      have e3 : wr.cell? ⟨w.heap.size, 3, none⟩ = some (.int .i64 (win 1).2) := HX.out wr hbw 3
      have e4 : wr.cell? ⟨w.heap.size, 4, none⟩ = some (.int .i64 (win 2).1) := HX.out wr hbw 4
      have e5 : wr.cell? ⟨w.heap.size, 5, none⟩ = some (.int .i64 (win 2).2) := HX.out wr hbw 5
      have e6 : wr.cell? ⟨w.heap.size, 6, none⟩ = some (.int .i64 (win 3).1) := HX.out wr hbw 6
      have e7 : wr.cell? ⟨w.heap.size, 7, none⟩ = some (.int .i64 (win 3).2) := HX.out wr hbw 7
      go_wp2
      obtain ⟨W1, hW1⟩ : ∃ W, wr.alloc (.cells (PbC win .nilIface .nilFunc Dv.zero (.slice none 0 0) (.slice none 0 0) (fun _ => .slice none 0 0) 0) 143) = W := ⟨_, rfl⟩
      have hb1 : Below wr.heap.size wr W1 := by rw [← hW1]; exact bal' _ _
      have hz1 : W1.heap.size = wr.heap.size + 1 := by rw [← hW1]; simp
      have p1 : PbI W1 wr.heap.size win .nilIface .nilFunc Dv.zero (.slice none 0 0) (.slice none 0 0) (fun _ => .slice none 0 0) 0 := by rw [← hW1]; exact hpNew _ _
      have hb2 : Below W1.heap.size W1 (W1.alloc (.cells #[.pointer (some ⟨wr.heap.size, 0, none⟩)] 93)) := bal' _ _
      have p2 : (W1.alloc (.cells #[.pointer (some ⟨wr.heap.size, 0, none⟩)] 93)).heap[wr.heap.size + 1]? = some (.cells #[.pointer (some ⟨wr.heap.size, 0, none⟩)] 93) := by rw [← hz1]; exact hpNew _ _
      have hz2 : (W1.alloc (.cells #[.pointer (some ⟨wr.heap.size, 0, none⟩)] 93)).heap.size = wr.heap.size + 2 := by simp [hz1]
      have p3 : PbI (W1.alloc (.cells #[.pointer (some ⟨wr.heap.size, 0, none⟩)] 93)) wr.heap.size win .nilIface .nilFunc Dv.zero (.slice none 0 0) (.slice none 0 0) (fun _ => .slice none 0 0) 0 := p1.keep hb2
      have hb3 : Below w.heap.size w (W1.alloc (.cells #[.pointer (some ⟨wr.heap.size, 0, none⟩)] 93)) := bt (bt HB0.out hbw (Nat.le_refl _)) (bt hb1 hb2 (Nat.le_refl _)) (Nat.le_refl _)
      obtain ⟨Wp, hWp⟩ : ∃ W, W1.alloc (.cells #[.pointer (some ⟨wr.heap.size, 0, none⟩)] 93) = W := ⟨_, rfl⟩
      have HWW : Hid ((wr.alloc (.cells (PbC win .nilIface .nilFunc Dv.zero (.slice none 0 0) (.slice none 0 0) (fun _ => .slice none 0 0) 0) 143)).alloc (.cells #[.pointer (some ⟨wr.heap.size, 0, none⟩)] 93) = Wp) := by show _ = _; rw [hW1, hWp]
      rw [hWp] at p2 hz2 p3 hb3
      have hgw : w.heap.size ≤ wr.heap.size := (bt HB0.out hbw (Nat.le_refl _)).size
      generalize hgg : wr.heap.size = g at *
      have hne : g + 1 ≠ g := by omega
      have y0 : ∀ X, Keeps (· = g) Wp X → X.cell? ⟨g + 1, 0, none⟩ = some (.pointer (some ⟨g, 0, none⟩)) := fun X k => hpCell (hpKeeps p2 k hne) 0
      have k0 : Keeps (· = g) Wp Wp := Keeps.refl _ _
      have kD : Keeps (· = g) Wp Wp.drew := Keeps.of_below (Below.refl _ _).drew
      have kA : ∀ X o, Below Wp.heap.size Wp X → Keeps (· = g) Wp (X.alloc o) := fun X o h => Keeps.of_below (bta h (Nat.le_refl _) o)
      have kS : ∀ X a b, Keeps (· = g) Wp X → Keeps (· = g) Wp ((X.setCell ⟨g, 8, none⟩ a).setCell ⟨g, 9, none⟩ b) := fun X a b h => ks1 (ks1 h _ _) _ _
      have HP2 := hid p2
      have HP3 := hid p3
      have HZ2 := hid hz2
      have HB3 := hid hb3
      clear hW1 hb1 hz1 p1 hb2 p2 hz2 p3 hb3 hWp hbw e0 e1 e2 e3 e4 e5 e6 e7 HX HB0 HZ0
      show Code.wp _ _ _ _ ((wr.alloc (.cells (PbC win .nilIface .nilFunc Dv.zero (.slice none 0 0) (.slice none 0 0) (fun _ => .slice none 0 0) 0) 143)).alloc (.cells #[.pointer (some ⟨g, 0, none⟩)] 93))
      rw [HWW.out]
      clear HWW
      go_region_held3 (fun X => Keeps (· = g) Wp X) ((with_reducible (first | exact kD | assumption | exact k0 | exact kA _ _ hB2 | exact kS _ _ _ (kA _ _ hB2)))) (first
        | (go_at_call 81; (with_reducible refine (prequest_any Wp.drew).mono ?_); rintro r w2 ⟨rfl, hb2⟩; have hB2 : Below Wp.heap.size Wp w2 := bt (Below.refl _ _).drew hb2 (Nat.le_refl _); have hK2 : Keeps (· = g) Wp w2 := Keeps.of_below hB2; have hp2 := (fun o => (HP3.out.keep hB2).keep (bal' w2 o)))
        | (go_at_call 80; (with_reducible refine (begin_pb (hp2 _) _ _ _ _ _).mono ?_); rintro r w6 ⟨rfl, rfl⟩))
      all_goals
        have hz := HZ2.out
        have hs2 := hB2.size
        have hKF : Keeps (· = g) Wp (((w2.alloc (.cells #[.int .i64 3, .int .i64 0, .int .i64 1, .int .i64 0, .int .i64 0, .func (.func 82) #[] #[.pointer (some ⟨g + 1, 0, none⟩)], .bool false] 150)).setCell ⟨g, 8, none⟩ (.iface 145 (.pointer (some ⟨w2.heap.size, 0, none⟩)))).setCell ⟨g, 9, none⟩ (.func (.func 84) #[.pointer (some ⟨g, 0, none⟩)] #[])) := kS _ _ _ (kA _ _ hB2)
        have hPF : PbI (((w2.alloc (.cells #[.int .i64 3, .int .i64 0, .int .i64 1, .int .i64 0, .int .i64 0, .func (.func 82) #[] #[.pointer (some ⟨g + 1, 0, none⟩)], .bool false] 150)).setCell ⟨g, 8, none⟩ (.iface 145 (.pointer (some ⟨w2.heap.size, 0, none⟩)))).setCell ⟨g, 9, none⟩ (.func (.func 84) #[.pointer (some ⟨g, 0, none⟩)] #[])) g win _ _ _ _ _ _ _ := (hp2 _).begun _ _
        have hOF : (((w2.alloc (.cells #[.int .i64 3, .int .i64 0, .int .i64 1, .int .i64 0, .int .i64 0, .func (.func 82) #[] #[.pointer (some ⟨g + 1, 0, none⟩)], .bool false] 150)).setCell ⟨g, 8, none⟩ (.iface 145 (.pointer (some ⟨w2.heap.size, 0, none⟩)))).setCell ⟨g, 9, none⟩ (.func (.func 84) #[.pointer (some ⟨g, 0, none⟩)] #[])).heap[w2.heap.size]? = some (.cells #[.int .i64 3, .int .i64 0, .int .i64 1, .int .i64 0, .int .i64 0, .func (.func 82) #[] #[.pointer (some ⟨g + 1, 0, none⟩)], .bool false] 150) := (hpOther (by omega)).trans ((hpOther (by omega)).trans (hpNew _ _))
        generalize ((w2.alloc (.cells #[.int .i64 3, .int .i64 0, .int .i64 1, .int .i64 0, .int .i64 0, .func (.func 82) #[] #[.pointer (some ⟨g + 1, 0, none⟩)], .bool false] 150)).setCell ⟨g, 8, none⟩ (.iface 145 (.pointer (some ⟨w2.heap.size, 0, none⟩)))).setCell ⟨g, 9, none⟩ (.func (.func 84) #[.pointer (some ⟨g, 0, none⟩)] #[]) = WF at *
        have hBF : Below w.heap.size w WF := HB3.out.trans (hKF.below (B := w.heap.size) (by omega) (fun _ _ e => by omega))
        have e9 := y0 WF hKF
        have HKF := hid hKF
        have HPF := hid hPF
        have HOF := hid hOF
        clear y0 k0 kD kA kS hKF hPF hOF hp2 hK2
        go_wp2
        go_ret
        have hz := HZ2.out
        have hs2 := hB2.size
        have hsF := HKF.out.size
        have hlF := hpLt HOF.out
        refine ⟨g, rfl, hgw, ⟨(· = w2.heap.size), _, _, _, _, _, .inr ⟨hgw, hpLt HPF.out⟩, fun j hj => by subst hj; exact ⟨.inr ⟨by omega, hlF⟩, by omega, hlF⟩, HPF.out, fun W' _ => ⟨Obs.nil _, Bs.nil _, fun _ _ => Spn.nil _ _⟩, ⟨w2.heap.size, g + 1, rfl, rfl, rfl, HOF.out, St.of (hpKeeps HP2.out HKF.out hne) (FQ.new (by omega) (by omega) (by omega) (by omega))⟩⟩, hBF⟩

end Go.Proofs.YtipnamoocemeeaaGreat
