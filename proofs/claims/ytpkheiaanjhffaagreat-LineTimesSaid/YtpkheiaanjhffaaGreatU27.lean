/-
  Texts 27 of the claim.
-/
import Derived.Test.YtpkheiaanjhffaaGreatU05
import Derived.Test.YtpkheiaanjhffaaGreatU10
namespace Go.Proofs.YtpkheiaanjhffaaGreat
open Go.RowKit
structure At where
  lat : Int
  fault : Int
  pos : Int
  mask : Int
  ticks : Int
  value : Int
def At.C (a : At) : Array Value := #[.int .i64 a.lat, .int .i64 a.fault, .int .i64 a.pos, .int .i64 a.mask, .int .i64 a.ticks, .int .i64 a.value]
def At.zero : At := ⟨0, 0, 0, 0, 0, 0⟩
def At.ok (a : At) : Prop := 0 ≤ a.lat ∧ a.lat ≤ 5000000 ∧ 0 ≤ a.value ∧ a.value ≤ 65535 ∧ 0 ≤ a.ticks ∧ a.ticks ≤ 5000000 ∧
  ((a.fault = 0 ∨ a.fault = 1 ∨ a.fault = 2 ∨ a.fault = 5) ∧ a.pos = 0 ∧ a.mask = 0 ∧ a.ticks = 0 ∨
   a.fault = 3 ∧ 0 ≤ a.pos ∧ a.pos ≤ 255 ∧ 1 ≤ a.mask ∧ a.mask ≤ 65535 ∧ a.mask % 256 ≠ 0 ∧ a.ticks = 0 ∨
   a.fault = 4 ∧ a.pos = 0 ∧ a.mask = 0 ∨
   a.fault = 6 ∧ 1 ≤ a.pos ∧ a.pos ≤ 255 ∧ a.mask = 0)
theorem At.ok_mk (lat fault pos mask ticks value : Int) : (At.mk lat fault pos mask ticks value).ok ↔ (0 ≤ lat ∧ lat ≤ 5000000 ∧ 0 ≤ value ∧ value ≤ 65535 ∧ 0 ≤ ticks ∧ ticks ≤ 5000000 ∧
  ((fault = 0 ∨ fault = 1 ∨ fault = 2 ∨ fault = 5) ∧ pos = 0 ∧ mask = 0 ∧ ticks = 0 ∨
   fault = 3 ∧ 0 ≤ pos ∧ pos ≤ 255 ∧ 1 ≤ mask ∧ mask ≤ 65535 ∧ mask % 256 ≠ 0 ∧ ticks = 0 ∨
   fault = 4 ∧ pos = 0 ∧ mask = 0 ∨
   fault = 6 ∧ 1 ≤ pos ∧ pos ≤ 255 ∧ mask = 0)) := Iff.rfl
def AtPost (w : World) (a : At) (r : Ending) (w' : World) : Prop := ∃ V : Bool, r = .returned (.bool V) ∧ Hid (V = true ↔ a.ok) ∧ Below w.heap.size w w'
theorem AtPost.no {w w' : World} {a : At} (h : ¬ a.ok) (hb : Below w.heap.size w w') : AtPost w a (.returned (.bool false)) w' := ⟨false, rfl, ⟨fun e => (by cases e), fun e => absurd e h⟩, hb⟩
theorem AtPost.yes {w w' : World} {a : At} (h : a.ok) (hb : Below w.heap.size w w') : AtPost w a (.returned (.bool true)) w' := ⟨true, rfl, ⟨fun _ => h, fun _ => rfl⟩, hb⟩
theorem infoAT : (Tryz.prog.info? 24).map (·.size) = some 6 := by kernel_rfl
set_option maxRecDepth 100000 in
set_option maxHeartbeats 12800000 in
theorem ratt_any (a : At) (w : World) : Calls Tryz.prog 9 #[.agg a.C] w (AtPost w a) := by
  obtain ⟨lat, fault, pos, mask, ticks, value⟩ := a
  obtain ⟨C, hC⟩ : ∃ C, (At.mk lat fault pos mask ticks value).C = C := ⟨_, rfl⟩
  rw [hC]
  obtain ⟨W1, hW1⟩ : ∃ W, w.alloc (.cells C 24) = W := ⟨_, rfl⟩
  have hb1 : Below w.heap.size w W1 := by rw [← hW1]; exact bal' w _
  have pS : W1.heap[w.heap.size]? = some (.cells C 24) := by rw [← hW1]; exact hpNew w _
  have t0 : W1.cell? ⟨w.heap.size, 0, none⟩ = some (.int .i64 lat) := by rw [hpCell pS 0, ← hC]; rfl
  have t1 : W1.cell? ⟨w.heap.size, 1, none⟩ = some (.int .i64 fault) := by rw [hpCell pS 1, ← hC]; rfl
  have t2 : W1.cell? ⟨w.heap.size, 2, none⟩ = some (.int .i64 pos) := by rw [hpCell pS 2, ← hC]; rfl
  have t3 : W1.cell? ⟨w.heap.size, 3, none⟩ = some (.int .i64 mask) := by rw [hpCell pS 3, ← hC]; rfl
  have t4 : W1.cell? ⟨w.heap.size, 4, none⟩ = some (.int .i64 ticks) := by rw [hpCell pS 4, ← hC]; rfl
  have t5 : W1.cell? ⟨w.heap.size, 5, none⟩ = some (.int .i64 value) := by rw [hpCell pS 5, ← hC]; rfl
  have HW1 := hid hW1
  have HB1 := hid hb1
  clear hW1 hb1 pS hC
  by_cases c1 : (lat : Int) < 0
  · skip
    have HV : Hid (¬ (At.mk lat fault pos mask ticks value).ok) := by
      show ¬ _
      rw [At.ok_mk]
      omega
    go_enter Tryz.func9, Tryz.ntmps9
    go_upto_region 1 with (fail)
    rw [HW1.out]
    go_wp2
    go_ret
    exact AtPost.no HV.out HB1.out
  · skip
    by_cases c2 : (5000000 : Int) < lat
    · skip
      have HV : Hid (¬ (At.mk lat fault pos mask ticks value).ok) := by
        show ¬ _
        rw [At.ok_mk]
        omega
      go_enter Tryz.func9, Tryz.ntmps9
      go_upto_region 1 with (fail)
      rw [HW1.out]
      go_wp2
      go_ret
      exact AtPost.no HV.out HB1.out
    · skip
      by_cases c3 : (value : Int) < 0
      · skip
        have HV : Hid (¬ (At.mk lat fault pos mask ticks value).ok) := by
          show ¬ _
          rw [At.ok_mk]
          omega
        go_enter Tryz.func9, Tryz.ntmps9
        go_upto_region 1 with (fail)
        rw [HW1.out]
        go_wp2
        go_ret
        exact AtPost.no HV.out HB1.out
      · skip
        by_cases c4 : (65535 : Int) < value
        · skip
          have HV : Hid (¬ (At.mk lat fault pos mask ticks value).ok) := by
            show ¬ _
            rw [At.ok_mk]
            omega
          go_enter Tryz.func9, Tryz.ntmps9
          go_upto_region 1 with (fail)
          rw [HW1.out]
          go_wp2
          go_ret
          exact AtPost.no HV.out HB1.out
        · skip
          by_cases c5 : (ticks : Int) < 0
          · skip
            have HV : Hid (¬ (At.mk lat fault pos mask ticks value).ok) := by
              show ¬ _
              rw [At.ok_mk]
              omega
            go_enter Tryz.func9, Tryz.ntmps9
            go_upto_region 1 with (fail)
            rw [HW1.out]
            go_wp2
            go_ret
            exact AtPost.no HV.out HB1.out
          · skip
            by_cases c6 : (5000000 : Int) < ticks
            · skip
              have HV : Hid (¬ (At.mk lat fault pos mask ticks value).ok) := by
                show ¬ _
                rw [At.ok_mk]
                omega
              go_enter Tryz.func9, Tryz.ntmps9
              go_upto_region 1 with (fail)
              rw [HW1.out]
              go_wp2
              go_ret
              exact AtPost.no HV.out HB1.out
            · skip
              by_cases hf : 0 ≤ fault ∧ fault ≤ 6
              · rcases (show fault = 0 ∨ fault = 1 ∨ fault = 2 ∨ fault = 3 ∨ fault = 4 ∨ fault = 5 ∨ fault = 6 by omega) with hk | hk | hk | hk | hk | hk | hk
                · subst hk
                  by_cases c7 : pos = 0
                  · have ec7 : (pos == 0) = true := b1 c7
                    by_cases c8 : mask = 0
                    · have ec8 : (mask == 0) = true := b1 c8
                      by_cases c9 : ticks = 0
                      · have ec9 : (ticks == 0) = true := b1 c9
                        have HV : Hid ((At.mk lat 0 pos mask ticks value).ok) := by
                          show _
                          rw [At.ok_mk]
                          refine ⟨by omega, by omega, by omega, by omega, by omega, by omega, ?_⟩
                          first
                            | exact .inl ⟨by omega, by omega, by omega, by omega⟩
                            | exact .inr (.inl ⟨rfl, by omega, by omega, by omega, by omega, by omega, by omega⟩)
                            | exact .inr (.inr (.inl ⟨rfl, by omega, by omega⟩))
                            | exact .inr (.inr (.inr ⟨rfl, by omega, by omega, by omega⟩))
                        clear c7 c8 c9
                        go_enter Tryz.func9, Tryz.ntmps9
                        go_upto_region 1 with (fail)
                        rw [HW1.out]
                        go_wp2
                        go_ret
                        exact AtPost.yes HV.out HB1.out
                      · have ec9 : (ticks == 0) = false := b0 c9
                        have HV : Hid (¬ (At.mk lat 0 pos mask ticks value).ok) := by
                          show ¬ _
                          rw [At.ok_mk]
                          omega
                        clear c7 c8 c9
                        go_enter Tryz.func9, Tryz.ntmps9
                        go_upto_region 1 with (fail)
                        rw [HW1.out]
                        go_wp2
                        go_ret
                        exact AtPost.no HV.out HB1.out
                    · have ec8 : (mask == 0) = false := b0 c8
                      have HV : Hid (¬ (At.mk lat 0 pos mask ticks value).ok) := by
                        show ¬ _
                        rw [At.ok_mk]
                        omega
                      clear c7 c8
                      go_enter Tryz.func9, Tryz.ntmps9
                      go_upto_region 1 with (fail)
                      rw [HW1.out]
                      go_wp2
                      go_ret
                      exact AtPost.no HV.out HB1.out
                  · have ec7 : (pos == 0) = false := b0 c7
                    have HV : Hid (¬ (At.mk lat 0 pos mask ticks value).ok) := by
                      show ¬ _
                      rw [At.ok_mk]
                      omega
                    clear c7
                    go_enter Tryz.func9, Tryz.ntmps9
                    go_upto_region 1 with (fail)
                    rw [HW1.out]
                    go_wp2
                    go_ret
                    exact AtPost.no HV.out HB1.out
                · subst hk
                  by_cases c10 : pos = 0
                  · have ec10 : (pos == 0) = true := b1 c10
                    by_cases c11 : mask = 0
                    · have ec11 : (mask == 0) = true := b1 c11
                      by_cases c12 : ticks = 0
                      · have ec12 : (ticks == 0) = true := b1 c12
                        have HV : Hid ((At.mk lat 1 pos mask ticks value).ok) := by
                          show _
                          rw [At.ok_mk]
                          refine ⟨by omega, by omega, by omega, by omega, by omega, by omega, ?_⟩
                          first
                            | exact .inl ⟨by omega, by omega, by omega, by omega⟩
                            | exact .inr (.inl ⟨rfl, by omega, by omega, by omega, by omega, by omega, by omega⟩)
                            | exact .inr (.inr (.inl ⟨rfl, by omega, by omega⟩))
                            | exact .inr (.inr (.inr ⟨rfl, by omega, by omega, by omega⟩))
                        clear c10 c11 c12
                        go_enter Tryz.func9, Tryz.ntmps9
                        go_upto_region 1 with (fail)
                        rw [HW1.out]
                        go_wp2
                        go_ret
                        exact AtPost.yes HV.out HB1.out
                      · have ec12 : (ticks == 0) = false := b0 c12
                        have HV : Hid (¬ (At.mk lat 1 pos mask ticks value).ok) := by
                          show ¬ _
                          rw [At.ok_mk]
                          omega
                        clear c10 c11 c12
                        go_enter Tryz.func9, Tryz.ntmps9
                        go_upto_region 1 with (fail)
                        rw [HW1.out]
                        go_wp2
                        go_ret
                        exact AtPost.no HV.out HB1.out
                    · have ec11 : (mask == 0) = false := b0 c11
                      have HV : Hid (¬ (At.mk lat 1 pos mask ticks value).ok) := by
                        show ¬ _
                        rw [At.ok_mk]
                        omega
                      clear c10 c11
                      go_enter Tryz.func9, Tryz.ntmps9
                      go_upto_region 1 with (fail)
                      rw [HW1.out]
                      go_wp2
                      go_ret
                      exact AtPost.no HV.out HB1.out
                  · have ec10 : (pos == 0) = false := b0 c10
                    have HV : Hid (¬ (At.mk lat 1 pos mask ticks value).ok) := by
                      show ¬ _
                      rw [At.ok_mk]
                      omega
                    clear c10
                    go_enter Tryz.func9, Tryz.ntmps9
                    go_upto_region 1 with (fail)
                    rw [HW1.out]
                    go_wp2
                    go_ret
                    exact AtPost.no HV.out HB1.out
                · subst hk
                  by_cases c13 : pos = 0
                  · have ec13 : (pos == 0) = true := b1 c13
                    by_cases c14 : mask = 0
                    · have ec14 : (mask == 0) = true := b1 c14
                      by_cases c15 : ticks = 0
                      · have ec15 : (ticks == 0) = true := b1 c15
                        have HV : Hid ((At.mk lat 2 pos mask ticks value).ok) := by
                          show _
                          rw [At.ok_mk]
                          refine ⟨by omega, by omega, by omega, by omega, by omega, by omega, ?_⟩
                          first
                            | exact .inl ⟨by omega, by omega, by omega, by omega⟩
                            | exact .inr (.inl ⟨rfl, by omega, by omega, by omega, by omega, by omega, by omega⟩)
                            | exact .inr (.inr (.inl ⟨rfl, by omega, by omega⟩))
                            | exact .inr (.inr (.inr ⟨rfl, by omega, by omega, by omega⟩))
                        clear c13 c14 c15
                        go_enter Tryz.func9, Tryz.ntmps9
                        go_upto_region 1 with (fail)
                        rw [HW1.out]
                        go_wp2
                        go_ret
                        exact AtPost.yes HV.out HB1.out
                      · have ec15 : (ticks == 0) = false := b0 c15
                        have HV : Hid (¬ (At.mk lat 2 pos mask ticks value).ok) := by
                          show ¬ _
                          rw [At.ok_mk]
                          omega
                        clear c13 c14 c15
                        go_enter Tryz.func9, Tryz.ntmps9
                        go_upto_region 1 with (fail)
                        rw [HW1.out]
                        go_wp2
                        go_ret
                        exact AtPost.no HV.out HB1.out
                    · have ec14 : (mask == 0) = false := b0 c14
                      have HV : Hid (¬ (At.mk lat 2 pos mask ticks value).ok) := by
                        show ¬ _
                        rw [At.ok_mk]
                        omega
                      clear c13 c14
                      go_enter Tryz.func9, Tryz.ntmps9
                      go_upto_region 1 with (fail)
                      rw [HW1.out]
                      go_wp2
                      go_ret
                      exact AtPost.no HV.out HB1.out
                  · have ec13 : (pos == 0) = false := b0 c13
                    have HV : Hid (¬ (At.mk lat 2 pos mask ticks value).ok) := by
                      show ¬ _
                      rw [At.ok_mk]
                      omega
                    clear c13
                    go_enter Tryz.func9, Tryz.ntmps9
                    go_upto_region 1 with (fail)
                    rw [HW1.out]
                    go_wp2
                    go_ret
                    exact AtPost.no HV.out HB1.out
                · subst hk
                  by_cases c16 : (0 : Int) ≤ pos
                  · skip
                    by_cases c17 : (pos : Int) ≤ 255
                    · skip
                      by_cases c18 : (1 : Int) ≤ mask
                      · skip
                        by_cases c19 : (mask : Int) ≤ 65535
                        · skip
                          by_cases c20 : mask % 256 = 0
                          · have ec20 : (mask % 256 != 0) = false := by rw [c20]; rfl
                            have HV : Hid (¬ (At.mk lat 3 pos mask ticks value).ok) := by
                              show ¬ _
                              rw [At.ok_mk]
                              omega
                            clear c20
                            go_enter Tryz.func9, Tryz.ntmps9
                            go_upto_region 1 with (fail)
                            rw [HW1.out]
                            go_wp2
                            go_ret
                            exact AtPost.no HV.out HB1.out
                          · have ec20 : (mask % 256 != 0) = true := by rw [bne_iff_ne]; exact c20
                            by_cases c21 : ticks = 0
                            · have ec21 : (ticks == 0) = true := b1 c21
                              have HV : Hid ((At.mk lat 3 pos mask ticks value).ok) := by
                                show _
                                rw [At.ok_mk]
                                refine ⟨by omega, by omega, by omega, by omega, by omega, by omega, ?_⟩
                                first
                                  | exact .inl ⟨by omega, by omega, by omega, by omega⟩
                                  | exact .inr (.inl ⟨rfl, by omega, by omega, by omega, by omega, by omega, by omega⟩)
                                  | exact .inr (.inr (.inl ⟨rfl, by omega, by omega⟩))
                                  | exact .inr (.inr (.inr ⟨rfl, by omega, by omega, by omega⟩))
                              clear c20 c21
                              go_enter Tryz.func9, Tryz.ntmps9
                              go_upto_region 1 with (fail)
                              rw [HW1.out]
                              go_wp2
                              go_ret
                              exact AtPost.yes HV.out HB1.out
                            · have ec21 : (ticks == 0) = false := b0 c21
                              have HV : Hid (¬ (At.mk lat 3 pos mask ticks value).ok) := by
                                show ¬ _
                                rw [At.ok_mk]
                                omega
                              clear c20 c21
                              go_enter Tryz.func9, Tryz.ntmps9
                              go_upto_region 1 with (fail)
                              rw [HW1.out]
                              go_wp2
                              go_ret
                              exact AtPost.no HV.out HB1.out
                        · skip
                          have HV : Hid (¬ (At.mk lat 3 pos mask ticks value).ok) := by
                            show ¬ _
                            rw [At.ok_mk]
                            omega
                          go_enter Tryz.func9, Tryz.ntmps9
                          go_upto_region 1 with (fail)
                          rw [HW1.out]
                          go_wp2
                          go_ret
                          exact AtPost.no HV.out HB1.out
                      · skip
                        have HV : Hid (¬ (At.mk lat 3 pos mask ticks value).ok) := by
                          show ¬ _
                          rw [At.ok_mk]
                          omega
                        go_enter Tryz.func9, Tryz.ntmps9
                        go_upto_region 1 with (fail)
                        rw [HW1.out]
                        go_wp2
                        go_ret
                        exact AtPost.no HV.out HB1.out
                    · skip
                      have HV : Hid (¬ (At.mk lat 3 pos mask ticks value).ok) := by
                        show ¬ _
                        rw [At.ok_mk]
                        omega
                      go_enter Tryz.func9, Tryz.ntmps9
                      go_upto_region 1 with (fail)
                      rw [HW1.out]
                      go_wp2
                      go_ret
                      exact AtPost.no HV.out HB1.out
                  · skip
                    have HV : Hid (¬ (At.mk lat 3 pos mask ticks value).ok) := by
                      show ¬ _
                      rw [At.ok_mk]
                      omega
                    go_enter Tryz.func9, Tryz.ntmps9
                    go_upto_region 1 with (fail)
                    rw [HW1.out]
                    go_wp2
                    go_ret
                    exact AtPost.no HV.out HB1.out
                · subst hk
                  by_cases c22 : pos = 0
                  · have ec22 : (pos == 0) = true := b1 c22
                    by_cases c23 : mask = 0
                    · have ec23 : (mask == 0) = true := b1 c23
                      have HV : Hid ((At.mk lat 4 pos mask ticks value).ok) := by
                        show _
                        rw [At.ok_mk]
                        refine ⟨by omega, by omega, by omega, by omega, by omega, by omega, ?_⟩
                        first
                          | exact .inl ⟨by omega, by omega, by omega, by omega⟩
                          | exact .inr (.inl ⟨rfl, by omega, by omega, by omega, by omega, by omega, by omega⟩)
                          | exact .inr (.inr (.inl ⟨rfl, by omega, by omega⟩))
                          | exact .inr (.inr (.inr ⟨rfl, by omega, by omega, by omega⟩))
                      clear c22 c23
                      go_enter Tryz.func9, Tryz.ntmps9
                      go_upto_region 1 with (fail)
                      rw [HW1.out]
                      go_wp2
                      go_ret
                      exact AtPost.yes HV.out HB1.out
                    · have ec23 : (mask == 0) = false := b0 c23
                      have HV : Hid (¬ (At.mk lat 4 pos mask ticks value).ok) := by
                        show ¬ _
                        rw [At.ok_mk]
                        omega
                      clear c22 c23
                      go_enter Tryz.func9, Tryz.ntmps9
                      go_upto_region 1 with (fail)
                      rw [HW1.out]
                      go_wp2
                      go_ret
                      exact AtPost.no HV.out HB1.out
                  · have ec22 : (pos == 0) = false := b0 c22
                    have HV : Hid (¬ (At.mk lat 4 pos mask ticks value).ok) := by
                      show ¬ _
                      rw [At.ok_mk]
                      omega
                    clear c22
                    go_enter Tryz.func9, Tryz.ntmps9
                    go_upto_region 1 with (fail)
                    rw [HW1.out]
                    go_wp2
                    go_ret
                    exact AtPost.no HV.out HB1.out
                · subst hk
                  by_cases c24 : pos = 0
                  · have ec24 : (pos == 0) = true := b1 c24
                    by_cases c25 : mask = 0
                    · have ec25 : (mask == 0) = true := b1 c25
                      by_cases c26 : ticks = 0
                      · have ec26 : (ticks == 0) = true := b1 c26
                        have HV : Hid ((At.mk lat 5 pos mask ticks value).ok) := by
                          show _
                          rw [At.ok_mk]
                          refine ⟨by omega, by omega, by omega, by omega, by omega, by omega, ?_⟩
                          first
                            | exact .inl ⟨by omega, by omega, by omega, by omega⟩
                            | exact .inr (.inl ⟨rfl, by omega, by omega, by omega, by omega, by omega, by omega⟩)
                            | exact .inr (.inr (.inl ⟨rfl, by omega, by omega⟩))
                            | exact .inr (.inr (.inr ⟨rfl, by omega, by omega, by omega⟩))
                        clear c24 c25 c26
                        go_enter Tryz.func9, Tryz.ntmps9
                        go_upto_region 1 with (fail)
                        rw [HW1.out]
                        go_wp2
                        go_ret
                        exact AtPost.yes HV.out HB1.out
                      · have ec26 : (ticks == 0) = false := b0 c26
                        have HV : Hid (¬ (At.mk lat 5 pos mask ticks value).ok) := by
                          show ¬ _
                          rw [At.ok_mk]
                          omega
                        clear c24 c25 c26
                        go_enter Tryz.func9, Tryz.ntmps9
                        go_upto_region 1 with (fail)
                        rw [HW1.out]
                        go_wp2
                        go_ret
                        exact AtPost.no HV.out HB1.out
                    · have ec25 : (mask == 0) = false := b0 c25
                      have HV : Hid (¬ (At.mk lat 5 pos mask ticks value).ok) := by
                        show ¬ _
                        rw [At.ok_mk]
                        omega
                      clear c24 c25
                      go_enter Tryz.func9, Tryz.ntmps9
                      go_upto_region 1 with (fail)
                      rw [HW1.out]
                      go_wp2
                      go_ret
                      exact AtPost.no HV.out HB1.out
                  · have ec24 : (pos == 0) = false := b0 c24
                    have HV : Hid (¬ (At.mk lat 5 pos mask ticks value).ok) := by
                      show ¬ _
                      rw [At.ok_mk]
                      omega
                    clear c24
                    go_enter Tryz.func9, Tryz.ntmps9
                    go_upto_region 1 with (fail)
                    rw [HW1.out]
                    go_wp2
                    go_ret
                    exact AtPost.no HV.out HB1.out
                · subst hk
                  by_cases c27 : (1 : Int) ≤ pos
                  · skip
                    by_cases c28 : (pos : Int) ≤ 255
                    · skip
                      by_cases c29 : mask = 0
                      · have ec29 : (mask == 0) = true := b1 c29
                        have HV : Hid ((At.mk lat 6 pos mask ticks value).ok) := by
                          show _
                          rw [At.ok_mk]
                          refine ⟨by omega, by omega, by omega, by omega, by omega, by omega, ?_⟩
                          first
                            | exact .inl ⟨by omega, by omega, by omega, by omega⟩
                            | exact .inr (.inl ⟨rfl, by omega, by omega, by omega, by omega, by omega, by omega⟩)
                            | exact .inr (.inr (.inl ⟨rfl, by omega, by omega⟩))
                            | exact .inr (.inr (.inr ⟨rfl, by omega, by omega, by omega⟩))
                        clear c29
                        go_enter Tryz.func9, Tryz.ntmps9
                        go_upto_region 1 with (fail)
                        rw [HW1.out]
                        go_wp2
                        go_ret
                        exact AtPost.yes HV.out HB1.out
                      · have ec29 : (mask == 0) = false := b0 c29
                        have HV : Hid (¬ (At.mk lat 6 pos mask ticks value).ok) := by
                          show ¬ _
                          rw [At.ok_mk]
                          omega
                        clear c29
                        go_enter Tryz.func9, Tryz.ntmps9
                        go_upto_region 1 with (fail)
                        rw [HW1.out]
                        go_wp2
                        go_ret
                        exact AtPost.no HV.out HB1.out
                    · skip
                      have HV : Hid (¬ (At.mk lat 6 pos mask ticks value).ok) := by
                        show ¬ _
                        rw [At.ok_mk]
                        omega
                      go_enter Tryz.func9, Tryz.ntmps9
                      go_upto_region 1 with (fail)
                      rw [HW1.out]
                      go_wp2
                      go_ret
                      exact AtPost.no HV.out HB1.out
                  · skip
                    have HV : Hid (¬ (At.mk lat 6 pos mask ticks value).ok) := by
                      show ¬ _
                      rw [At.ok_mk]
                      omega
                    go_enter Tryz.func9, Tryz.ntmps9
                    go_upto_region 1 with (fail)
                    rw [HW1.out]
                    go_wp2
                    go_ret
                    exact AtPost.no HV.out HB1.out
              · have ef0 : (fault == 0) = false := b0 (by omega)
                have ef1 : (fault == 1) = false := b0 (by omega)
                have ef2 : (fault == 2) = false := b0 (by omega)
                have ef3 : (fault == 3) = false := b0 (by omega)
                have ef4 : (fault == 4) = false := b0 (by omega)
                have ef5 : (fault == 5) = false := b0 (by omega)
                have ef6 : (fault == 6) = false := b0 (by omega)
                have HV : Hid (¬ (At.mk lat fault pos mask ticks value).ok) := by
                  show ¬ _
                  rw [At.ok_mk]
                  omega
                go_enter Tryz.func9, Tryz.ntmps9
                go_upto_region 1 with (fail)
                rw [HW1.out]
                go_wp2
                go_ret
                exact AtPost.no HV.out HB1.out
end Go.Proofs.YtpkheiaanjhffaaGreat
