/-
  Texts 46 of the claim.
-/
import Derived.Test.YtipnamoocemeeaaGreatB44
import Derived.Test.YtipnamoocemeeaaGreatB45
import Derived.Deep.RegionHeld3
/-
  The contract of modscanref10.DecodeReply at device identifications, and at all bytes.
-/
namespace Go.Proofs.YtipnamoocemeeaaGreat
open Go.RowKit

theorem devTail_none {b : List UInt8} {o : Option (List Ob × List UInt8)} (h : ∀ l, o ≠ some (l, [])) : devTail b o = none := by
  match o, h with
  | none, _ => rfl
  | some (l, []), h => exact absurd rfl (h l)
  | some (l, _ :: _), _ => rfl

/-- The same contract with one form of result. -/
def RobOne (w : World) (o : Option (List Ob × List UInt8)) (r : Ending) (w' : World) : Prop :=
  ∃ (oa : Option Addr) (on oc : Nat) (ok : Bool), r = .returned (.tuple #[.slice oa on oc, .bool ok]) ∧ Below w.heap.size w w' ∧
    Hid ((ok = true ∧ ∃ l, l.length = on ∧ o = some (l, []) ∧ ∀ W, Agree w.heap.size w' W → Obs W (.slice oa on oc) l) ∨ (ok = false ∧ ∀ l, o ≠ some (l, [])))
theorem RobPost.one {w : World} {o : Option (List Ob × List UInt8)} {r : Ending} {w' : World} (h : RobPost w o r w') : RobOne w o r w' := by
  rcases h with ⟨l, oa, oc, h1, h2, h3, h4⟩ | ⟨oa, n, oc, h1, h2, h3⟩
  · exact ⟨oa, l.length, oc, true, h2, h4, .inl ⟨rfl, l, rfl, h1, h3⟩⟩
  · exact ⟨oa, n, oc, false, h2, h3, .inr ⟨rfl, h1⟩⟩

set_option maxRecDepth 100000 in
set_option maxHeartbeats 12800000 in
theorem xdecE (a : Option Addr) (n c : Nat) (b : List UInt8) (w : World) (hb : Bs w (.slice a n c) b) (h2 : 2 ≤ n) (h3 : n ≤ 253) (h43 : bAt b 0 = 43) :
    Calls Tryz.prog 106 #[.slice a n c] w (DecPost w (Rp.dec b)) := by
  obtain ⟨i5, hi, hz0, hz1, hz2⟩ := info_parts infoB
  obtain ⟨hbn, hnc, hcm⟩ := hb.capOf
  unfold maxLen at hcm
  have hDV := dec_dev (b := b) (by omega) h43
  have hby : ∀ i, i < n → ∃ blk off, a = some ⟨blk, off, none⟩ ∧ w.cell? ⟨blk, off + i, none⟩ = some (.int .u8 (bAt b i)) := fun i hi => hb.byte hi
  obtain ⟨blk, off, rfl, y0⟩ := hby 0 (by omega)
  have hby' : ∀ i, i < n → w.cell? ⟨blk, off + i, none⟩ = some (.int .u8 (bAt b i)) := fun i hi => by
    obtain ⟨b', o', ha, hc⟩ := hby i hi
    cases ha; exact hc
  have c0 : ∀ W, Below w.heap.size w W → W.cell? ⟨blk, off, none⟩ = some (.int .u8 43) := fun W h => by rw [← h43]; exact cell_keep h y0
  have c1 : ∀ W, Below w.heap.size w W → W.cell? ⟨blk, off + 1, none⟩ = some (.int .u8 (bAt b 1)) := fun W h => cell_keep h (hby' 1 (by omega))
  have kA : ∀ X, Below w.heap.size w (w.alloc X) := fun X => bal'' w X
  have kB : ∀ X Y, Below w.heap.size w ((w.alloc X).alloc Y) := fun X Y => bta (bal'' w X) (Nat.le_refl _) Y
  obtain ⟨a1, a1'⟩ := bAt_bd b 1
  have HK : Hid (∀ W, Calls Tryz.prog 102 #[.int .i64 43] W fun r w' => r = .returned (.bool true) ∧ W = w') := fun W => function_any 43 W
  have hn2 : ¬ n < 2 := by omega
  have hn3 : ¬ 253 < n := by omega
  have HH := hid (heap2 w (.cells #[.int .i64 0, .int .i64 0, .slice none 0 0, .int .i64 0, .int .i64 0, .bool false, .int .i64 0, .slice none 0 0] 53) (.cells #[.int .i64 43, .int .i64 0, .slice none 0 0, .int .i64 0, .int .i64 0, .bool false, .int .i64 0, .slice none 0 0] 53))
  by_cases h7 : n < 7
  · have HN : Hid (Rp.dec b = none) := by show _ = _; rw [hDV]; unfold decDev; rw [if_pos (.inl (by omega))]
    clear hb hbn hDV h43 hby hby' y0
    generalize bAt b 1 = z1 at *
    go_enter Tryz.func106, Tryz.ntmps106
    go_wp2_with fail
    refine (HK.out _).mono ?_
    rintro r w1 ⟨rfl, rfl⟩
    go_wp2
    refine bodyPost_ret (v := .tuple #[.agg #[.int .i64 0, .int .i64 0, .slice none 0 0, .int .i64 0, .int .i64 0, .bool false, .int .i64 0, .slice none 0 0], .int .i64 4]) (by simp [results, Tryz.results106, go_sem]) rfl ?_
    exact DecPost.err HN.out 4 (by decide) (by decide) (kB _ _)
  · by_cases h14 : bAt b 1 = 14
    · have HDD := hid (hDV.trans (decDev_eq (b := b) (by omega) h14))
      have HOKB := hid (show ∀ l, Rp.devOf b l = ⟨43, 0, [], bAt b 2, bAt b 3, bAt b 4 == 255, bAt b 5, l⟩ from fun l => by
        unfold Rp.devOf
        congr 1
        unfold bAt
        cases hh : (b.getD 4 0 == 255) with
        | true => rw [beq_iff_eq] at hh; rw [hh]; rfl
        | false =>
          rw [beq_eq_false_iff_ne] at hh
          symm
          rw [beq_eq_false_iff_ne]
          intro h
          exact hh (UInt8.toNat_inj.1 (by show (b.getD 4 0).toNat = 255; omega)))
      have HTL := hid (show ∀ l, devTail b (some (l, [])) = if (Rp.devOf b l).ok = true ∧ (bAt b 4 = 0 ∨ bAt b 4 = 255) then some (Rp.devOf b l) else none from fun o => rfl)
      have d2 : ∀ W, Below w.heap.size w W → W.cell? ⟨blk, off + 2, none⟩ = some (.int .u8 (bAt b 2)) := fun W h => cell_keep h (hby' 2 (by omega))
      have d3 : ∀ W, Below w.heap.size w W → W.cell? ⟨blk, off + 3, none⟩ = some (.int .u8 (bAt b 3)) := fun W h => cell_keep h (hby' 3 (by omega))
      have d4 : ∀ W, Below w.heap.size w W → W.cell? ⟨blk, off + 4, none⟩ = some (.int .u8 (bAt b 4)) := fun W h => cell_keep h (hby' 4 (by omega))
      have d5 : ∀ W, Below w.heap.size w W → W.cell? ⟨blk, off + 5, none⟩ = some (.int .u8 (bAt b 5)) := fun W h => cell_keep h (hby' 5 (by omega))
      have d6 : ∀ W, Below w.heap.size w W → W.cell? ⟨blk, off + 6, none⟩ = some (.int .u8 (bAt b 6)) := fun W h => cell_keep h (hby' 6 (by omega))
      obtain ⟨s2, s2'⟩ := bAt_bd b 2
      obtain ⟨s3, s3'⟩ := bAt_bd b 3
      obtain ⟨s4, s4'⟩ := bAt_bd b 4
      obtain ⟨s5, s5'⟩ := bAt_bd b 5
      obtain ⟨s6, s6'⟩ := bAt_bd b 6
      obtain ⟨R7, hR7⟩ : ∃ x, cutA (some ⟨blk, off, none⟩) c 7 = x := ⟨_, rfl⟩
      have hd7 : ∀ W, (Instr.slice 50 (.slice (some ⟨blk, off, none⟩) n c) (some (.int .i64 7)) none none).run Tryz.prog W = .ok (.slice R7 (n - 7) (c - 7)) W := fun W => by rw [← hR7]; exact run_drop Tryz.underlying50 hi hz1 _ n c 7 (by omega) W
      have HR := hid (show Bs w (.slice R7 (n - 7) (c - 7)) (b.drop 7) by rw [← hR7]; exact hb.dropS (by omega))
      have c1' : ∀ W, Below w.heap.size w W → W.cell? ⟨blk, off + 1, none⟩ = some (.int .u8 14) := fun W h => by rw [← h14]; exact c1 W h
      obtain ⟨B7, hB7⟩ : ∃ B7, b.drop 7 = B7 := ⟨_, rfl⟩
      rw [hB7] at HR HDD
      obtain ⟨q, hq⟩ := Int.eq_ofNat_of_zero_le s6
      have hi2 : (2 : Int) < (n : Int) := by omega
      have hi3 : (3 : Int) < (n : Int) := by omega
      have hi4 : (4 : Int) < (n : Int) := by omega
      have hi5' : (5 : Int) < (n : Int) := by omega
      have hi6 : (6 : Int) < (n : Int) := by omega
      have hj2 : 2 < n := by omega
      have hj3 : 3 < n := by omega
      have hj4 : 4 < n := by omega
      have hj5 : 5 < n := by omega
      have hj6 : 6 < n := by omega
      rw [hq] at d6 HDD s6 s6'
      rw [Int.toNat_natCast] at HDD
      have HOBJ : Hid (∀ W, Below w.heap.size w W → Calls Tryz.prog 137 #[.slice R7 (n - 7) (c - 7), .int .i64 q] W (RobOne W (decObs q B7))) := fun W hW => (robjects_any _ _ _ B7 q W (HR.out.keep hW) (by omega) (by omega)).mono fun _ _ h => h.one
      have kD : Below w.heap.size w ((w.alloc (.cells #[.int .i64 0, .int .i64 0, .slice none 0 0, .int .i64 0, .int .i64 0, .bool false, .int .i64 0, .slice none 0 0] 53)).alloc (.cells #[.int .i64 43, .int .i64 0, .slice none 0 0, .int .i64 0, .int .i64 0, .bool false, .int .i64 0, .slice none 0 0] 53)).drew := (kB _ _).drew
      clear c1 a1 a1' hDV hR7 hB7 hb hbn h43 hby hby' y0 h14 h7 hq
      generalize bAt b 2 = z2 at *
      generalize bAt b 3 = z3 at *
      generalize bAt b 4 = z4 at *
      generalize bAt b 5 = z5 at *
      have u2 : IntKind.i64.wrap z2 = z2 := IntWalk.i64_in _ (by omega)
      have u3 : IntKind.i64.wrap z3 = z3 := IntWalk.i64_in _ (by omega)
      have u5 : IntKind.i64.wrap z5 = z5 := IntWalk.i64_in _ (by omega)
      have u6 : IntKind.i64.wrap (q : Int) = (q : Int) := IntWalk.i64_in _ (by omega)
      go_enter Tryz.func106, Tryz.ntmps106
      go_wp2_with fail
      refine (HK.out _).mono ?_
      rintro r w1 ⟨rfl, rfl⟩
      go_wp2_with fail
      go_region_held3 (fun W => Below w.heap.size w W) ((first | exact kD | exact bt (by assumption) (by assumption) (Nat.le_refl _))) (first | (go_at_call 137; (with_reducible refine (HOBJ.out _ (by assumption)).mono ?_); rintro r w6 ⟨oa, on, oc, ok, rfl, hb6, hob⟩))
      have hb6' : Below ((w.alloc (.cells #[.int .i64 0, .int .i64 0, .slice none 0 0, .int .i64 0, .int .i64 0, .bool false, .int .i64 0, .slice none 0 0] 53)).alloc (.cells #[.int .i64 43, .int .i64 0, .slice none 0 0, .int .i64 0, .int .i64 0, .bool false, .int .i64 0, .slice none 0 0] 53)).heap.size ((w.alloc (.cells #[.int .i64 0, .int .i64 0, .slice none 0 0, .int .i64 0, .int .i64 0, .bool false, .int .i64 0, .slice none 0 0] 53)).alloc (.cells #[.int .i64 43, .int .i64 0, .slice none 0 0, .int .i64 0, .int .i64 0, .bool false, .int .i64 0, .slice none 0 0] 53)) w6 := bt (Below.refl _ _).drew hb6 (Nat.le_refl _)
      have gZ6 : w6.heap[w.heap.size]? = some (.cells #[.int .i64 0, .int .i64 0, .slice none 0 0, .int .i64 0, .int .i64 0, .bool false, .int .i64 0, .slice none 0 0] 53) := hpKeep HH.out.1 hb6'
      have gR6 : w6.heap[(w.heap.size + 1)]? = some (.cells #[.int .i64 43, .int .i64 0, .slice none 0 0, .int .i64 0, .int .i64 0, .bool false, .int .i64 0, .slice none 0 0] 53) := hpKeep HH.out.2 hb6'
      have hbw6 : Below w.heap.size w w6 := bt kD hb6 (Nat.le_refl _)
      have hsz6 : w.heap.size + 1 + 1 ≤ w6.heap.size := by have := hb6.size; simp at this; omega
      cases ok with
      | false =>
        have HN : Hid (Rp.dec b = none) := by
          show _ = _
          rcases hob.out with ⟨h, _⟩ | ⟨_, h⟩
          · cases h
          · rw [HDD.out]; exact devTail_none h
        clear hob hb6 hb6'
        go_wp2_with (refine wpList_storeW rfl 53 (.tmp 2) (.tmp 70) rfl w.heap.size 0 _ _ (#[.int .i64 0, .int .i64 0, .slice none 0 0, .int .i64 0, .int .i64 0, .bool false, .int .i64 0, .slice none 0 0]) rfl rfl gZ6 (by simp) (by kernel_rfl) (by rfl) ?_; intro w4 g4 hk4 hz4')
        obtain ⟨q0, q1, q2, q3, q4, q5, q6, q7⟩ : w4.cell? ⟨w.heap.size, 0, none⟩ = some (.int .i64 0) ∧ w4.cell? ⟨w.heap.size, 1, none⟩ = some (.int .i64 0) ∧ w4.cell? ⟨w.heap.size, 2, none⟩ = some (.slice none 0 0) ∧ w4.cell? ⟨w.heap.size, 3, none⟩ = some (.int .i64 0) ∧ w4.cell? ⟨w.heap.size, 4, none⟩ = some (.int .i64 0) ∧ w4.cell? ⟨w.heap.size, 5, none⟩ = some (.bool false) ∧ w4.cell? ⟨w.heap.size, 6, none⟩ = some (.int .i64 0) ∧ w4.cell? ⟨w.heap.size, 7, none⟩ = some (.slice none 0 0) := ⟨hpCell g4 0, hpCell g4 1, hpCell g4 2, hpCell g4 3, hpCell g4 4, hpCell g4 5, hpCell g4 6, hpCell g4 7⟩
        refine bodyPost_ret (v := .tuple #[.agg #[.int .i64 0, .int .i64 0, .slice none 0 0, .int .i64 0, .int .i64 0, .bool false, .int .i64 0, .slice none 0 0], .int .i64 17]) (by simp [results, Tryz.results106, go_sem, q0, q1, q2, q3, q4, q5, q6, q7]) rfl ?_
        exact DecPost.err HN.out 17 (by decide) (by decide) (hbw6.trans (hk4.below hbw6.size (fun k hk e => by omega)))
      | true =>
        obtain ⟨l, hln, hdl, HOb⟩ : ∃ l : List Ob, l.length = on ∧ decObs q B7 = some (l, []) ∧ Hid (∀ W, Agree (w.heap.size + 1 + 1) w6 W → Obs W (.slice oa on oc) l) := by
          rcases hob.out with ⟨_, l, h1, h2, h3⟩ | ⟨h, _⟩
          · exact ⟨l, h1, h2, fun W hW => h3 W (hW.mono (by simp))⟩
          · cases h
        have hD := HDD.out
        rw [hdl, HTL.out, HOKB.out] at hD
        obtain ⟨V, hV⟩ : ∃ V, Rp.ok ⟨43, 0, [], z2, z3, z4 == 255, z5, l⟩ = V := ⟨_, rfl⟩
        rw [hV] at hD
        have HD := hid hD
        have HV0 := hid hV
        have HLN := hid hln
        have kw : Below w.heap.size w w6.drew := hbw6.drew
        have f3 : w6.cell? ⟨(w.heap.size + 1), 3, none⟩ = some (.int .i64 0) := hpCell gR6 3
        have y3 : w6.frozen? ⟨(w.heap.size + 1), 3, none⟩ = false := hpFree gR6 3
        have gR6d : w6.heap[(w.heap.size + 1)]? = some (.cells #[.int .i64 43, .int .i64 0, .slice none 0 0, .int .i64 0, .int .i64 0, .bool false, .int .i64 0, .slice none 0 0] 53) := gR6
        have m1 := hpSet gR6d 3 (.int .i64 z2)
        have m2 := hpSet m1 4 (.int .i64 z3)
        have m3 := hpSet m2 5 (.bool (z4 == 255))
        have m4 := hpSet m3 6 (.int .i64 z5)
        have f4 : (w6.setCell ⟨(w.heap.size + 1), 3, none⟩ (.int .i64 z2)).cell? ⟨(w.heap.size + 1), 4, none⟩ = some (.int .i64 0) := hpCell m1 4
        have y4 : (w6.setCell ⟨(w.heap.size + 1), 3, none⟩ (.int .i64 z2)).frozen? ⟨(w.heap.size + 1), 4, none⟩ = false := hpFree m1 4
        have f5 : ((w6.setCell ⟨(w.heap.size + 1), 3, none⟩ (.int .i64 z2)).setCell ⟨(w.heap.size + 1), 4, none⟩ (.int .i64 z3)).cell? ⟨(w.heap.size + 1), 5, none⟩ = some (.bool false) := hpCell m2 5
        have y5 : ((w6.setCell ⟨(w.heap.size + 1), 3, none⟩ (.int .i64 z2)).setCell ⟨(w.heap.size + 1), 4, none⟩ (.int .i64 z3)).frozen? ⟨(w.heap.size + 1), 5, none⟩ = false := hpFree m2 5
        have f6 : (((w6.setCell ⟨(w.heap.size + 1), 3, none⟩ (.int .i64 z2)).setCell ⟨(w.heap.size + 1), 4, none⟩ (.int .i64 z3)).setCell ⟨(w.heap.size + 1), 5, none⟩ (.bool (z4 == 255))).cell? ⟨(w.heap.size + 1), 6, none⟩ = some (.int .i64 0) := hpCell m3 6
        have y6 : (((w6.setCell ⟨(w.heap.size + 1), 3, none⟩ (.int .i64 z2)).setCell ⟨(w.heap.size + 1), 4, none⟩ (.int .i64 z3)).setCell ⟨(w.heap.size + 1), 5, none⟩ (.bool (z4 == 255))).frozen? ⟨(w.heap.size + 1), 6, none⟩ = false := hpFree m3 6
        have f7 : ((((w6.setCell ⟨(w.heap.size + 1), 3, none⟩ (.int .i64 z2)).setCell ⟨(w.heap.size + 1), 4, none⟩ (.int .i64 z3)).setCell ⟨(w.heap.size + 1), 5, none⟩ (.bool (z4 == 255))).setCell ⟨(w.heap.size + 1), 6, none⟩ (.int .i64 z5)).cell? ⟨(w.heap.size + 1), 7, none⟩ = some (.slice none 0 0) := hpCell m4 7
        have y7 : ((((w6.setCell ⟨(w.heap.size + 1), 3, none⟩ (.int .i64 z2)).setCell ⟨(w.heap.size + 1), 4, none⟩ (.int .i64 z3)).setCell ⟨(w.heap.size + 1), 5, none⟩ (.bool (z4 == 255))).setCell ⟨(w.heap.size + 1), 6, none⟩ (.int .i64 z5)).frozen? ⟨(w.heap.size + 1), 7, none⟩ = false := hpFree m4 7
        clear m1 m2 m3 m4 gR6d
        clear hD hdl hob hb6 hb6' hV hln
        go_wp2_with fail
        go_region_held3 (fun W => Below w.heap.size w W) ((first | exact kw | ((try refine btd ?_); repeat (first | exact hbw6 | (refine Below.setCell ?_ (show w.heap.size ≤ w.heap.size + 1 from Nat.le_succ _) _))))) (fail)
        obtain ⟨X, hX⟩ : ∃ X, X = (((((w6.setCell ⟨(w.heap.size + 1), 3, none⟩ (.int .i64 z2)).setCell ⟨(w.heap.size + 1), 4, none⟩ (.int .i64 z3)).setCell ⟨(w.heap.size + 1), 5, none⟩ (.bool (z4 == 255))).setCell ⟨(w.heap.size + 1), 6, none⟩ (.int .i64 z5)).setCell ⟨(w.heap.size + 1), 7, none⟩ (.slice oa on oc)).drew := ⟨_, rfl⟩
        rw [← hX]
        have hkX : Keeps (· = (w.heap.size + 1)) w6 X := by
          rw [hX]
          refine Keeps.trans (G := (· = (w.heap.size + 1))) ?_ (Keeps.of_below (Below.refl _ _).drew) (fun _ _ h => h)
          repeat (refine Keeps.set ?_ _ _ rfl)
          exact Keeps.refl _ _
        have gZX : X.heap[w.heap.size]? = some (.cells #[.int .i64 0, .int .i64 0, .slice none 0 0, .int .i64 0, .int .i64 0, .bool false, .int .i64 0, .slice none 0 0] 53) := hpKeeps gZ6 hkX (by omega)
        have gRX : X.heap[(w.heap.size + 1)]? = some (.cells #[.int .i64 43, .int .i64 0, .slice none 0 0, .int .i64 z2, .int .i64 z3, .bool (z4 == 255), .int .i64 z5, .slice oa on oc] 53) := by
          rw [hX]
          show (((((w6.setCell ⟨(w.heap.size + 1), 3, none⟩ (.int .i64 z2)).setCell ⟨(w.heap.size + 1), 4, none⟩ (.int .i64 z3)).setCell ⟨(w.heap.size + 1), 5, none⟩ (.bool (z4 == 255))).setCell ⟨(w.heap.size + 1), 6, none⟩ (.int .i64 z5)).setCell ⟨(w.heap.size + 1), 7, none⟩ (.slice oa on oc)).heap[(w.heap.size + 1)]? = _
          rw [hpSet (hpSet (hpSet (hpSet (hpSet gR6 3 _) 4 _) 5 _) 6 _) 7 _]
          rfl
        have hbX : Below w.heap.size w X := hbw6.trans (hkX.below hbw6.size (fun k hk e => by omega))
        have HOX : Hid (∀ W, Agree (w.heap.size + 1 + 1) X W → Obs W (.slice oa on oc) l) := fun W hW => HOb.out W ((Agree.of_keeps hkX (fun k e => by omega)).trans hW)
        have hx4 := d4 X hbX
        have HV : Hid (Calls Tryz.prog 60 #[.agg #[.int .i64 43, .int .i64 0, .slice none 0 0, .int .i64 z2, .int .i64 z3, .bool (z4 == 255), .int .i64 z5, .slice oa on oc]] X fun r w' => r = .returned (.bool V) ∧ Below X.heap.size X w') := vreply_any 43 0 (.slice none 0 0) z2 z3 (z4 == 255) z5 (.slice oa on oc) [] l X (Bs.nil _) (HOX.out X (Agree.refl _ _)) V HV0.out
        clear hX hkX gZ6 gR6 hbw6 kw f3 f4 f5 f6 f7 y3 y4 y5 y6 y7
        by_cases hz : z4 = 0 ∨ z4 = 255
        · obtain ⟨e0, e1, e2, e3, e4, e5, e6, e7⟩ : X.cell? ⟨(w.heap.size + 1), 0, none⟩ = some (.int .i64 43) ∧ X.cell? ⟨(w.heap.size + 1), 1, none⟩ = some (.int .i64 0) ∧ X.cell? ⟨(w.heap.size + 1), 2, none⟩ = some (.slice none 0 0) ∧ X.cell? ⟨(w.heap.size + 1), 3, none⟩ = some (.int .i64 z2) ∧ X.cell? ⟨(w.heap.size + 1), 4, none⟩ = some (.int .i64 z3) ∧ X.cell? ⟨(w.heap.size + 1), 5, none⟩ = some (.bool (z4 == 255)) ∧ X.cell? ⟨(w.heap.size + 1), 6, none⟩ = some (.int .i64 z5) ∧ X.cell? ⟨(w.heap.size + 1), 7, none⟩ = some (.slice oa on oc) := ⟨hpCell gRX 0, hpCell gRX 1, hpCell gRX 2, hpCell gRX 3, hpCell gRX 4, hpCell gRX 5, hpCell gRX 6, hpCell gRX 7⟩
          have HSN : Hid ((V = true ∧ Rp.dec b = some ⟨43, 0, [], z2, z3, z4 == 255, z5, l⟩) ∨ (V = false ∧ Rp.dec b = none)) := by
            cases V with
            | true => exact .inl ⟨rfl, by rw [HD.out, if_pos ⟨rfl, hz⟩]⟩
            | false => exact .inr ⟨rfl, by rw [HD.out, if_neg (fun h => by cases h.1)]⟩
          clear HD
          obtain ⟨zb, hzb⟩ : ∃ zb, (z4 == 255) = zb := ⟨_, rfl⟩
          have hz0 : (z4 != 0) = zb := by
            rcases hz with rfl | rfl
            · rw [← hzb]; rfl
            · rw [← hzb]; rfl
          have hz1 : (z4 != 255) = !zb := by
            rcases hz with rfl | rfl
            · rw [← hzb]; rfl
            · rw [← hzb]; rfl
          rw [hzb] at HV gRX e5 HSN
          replace hzb := hid hzb
          clear hz
          cases zb with
          | false =>
            rw [Bool.not_false] at hz1
            go_wp2_with fail
            refine HV.out.mono ?_
            rintro r w7 ⟨rfl, hb7⟩
            have gZ7 := hpKeep gZX hb7
            have gR7 := hpKeep gRX hb7
            have hbw7 := bt hbX hb7 (Nat.le_refl _)
            clear e0 e1 e2 e3 e4 e5 e6 e7
            cases V with
            | false =>
              have HN : Hid (Rp.dec b = none) := by
                rcases HSN.out with h | h
                · cases h.1
                · exact h.2
              clear gR7
              go_wp2_with (refine wpList_storeW rfl 53 (.tmp 2) (.tmp 108) rfl w.heap.size 0 _ _ (#[.int .i64 0, .int .i64 0, .slice none 0 0, .int .i64 0, .int .i64 0, .bool false, .int .i64 0, .slice none 0 0]) rfl rfl gZ7 (by simp) (by kernel_rfl) (by rfl) ?_; intro w4 g4 hk4 hz4')
              obtain ⟨q0, q1, q2, q3, q4, q5, q6, q7⟩ : w4.cell? ⟨w.heap.size, 0, none⟩ = some (.int .i64 0) ∧ w4.cell? ⟨w.heap.size, 1, none⟩ = some (.int .i64 0) ∧ w4.cell? ⟨w.heap.size, 2, none⟩ = some (.slice none 0 0) ∧ w4.cell? ⟨w.heap.size, 3, none⟩ = some (.int .i64 0) ∧ w4.cell? ⟨w.heap.size, 4, none⟩ = some (.int .i64 0) ∧ w4.cell? ⟨w.heap.size, 5, none⟩ = some (.bool false) ∧ w4.cell? ⟨w.heap.size, 6, none⟩ = some (.int .i64 0) ∧ w4.cell? ⟨w.heap.size, 7, none⟩ = some (.slice none 0 0) := ⟨hpCell g4 0, hpCell g4 1, hpCell g4 2, hpCell g4 3, hpCell g4 4, hpCell g4 5, hpCell g4 6, hpCell g4 7⟩
              refine bodyPost_ret (v := .tuple #[.agg #[.int .i64 0, .int .i64 0, .slice none 0 0, .int .i64 0, .int .i64 0, .bool false, .int .i64 0, .slice none 0 0], .int .i64 5]) (by simp [results, Tryz.results106, go_sem, q0, q1, q2, q3, q4, q5, q6, q7]) rfl ?_
              exact DecPost.err HN.out 5 (by decide) (by decide) (hbw7.trans (hk4.below hbw7.size (fun k hk e => by omega)))
            | true =>
              have HS : Hid (Rp.dec b = some ⟨43, 0, [], z2, z3, false, z5, l⟩) := by
                rcases HSN.out with h | h
                · exact h.2
                · cases h.1
              obtain ⟨e0, e1, e2, e3, e4, e5, e6, e7⟩ : w7.cell? ⟨(w.heap.size + 1), 0, none⟩ = some (.int .i64 43) ∧ w7.cell? ⟨(w.heap.size + 1), 1, none⟩ = some (.int .i64 0) ∧ w7.cell? ⟨(w.heap.size + 1), 2, none⟩ = some (.slice none 0 0) ∧ w7.cell? ⟨(w.heap.size + 1), 3, none⟩ = some (.int .i64 z2) ∧ w7.cell? ⟨(w.heap.size + 1), 4, none⟩ = some (.int .i64 z3) ∧ w7.cell? ⟨(w.heap.size + 1), 5, none⟩ = some (.bool false) ∧ w7.cell? ⟨(w.heap.size + 1), 6, none⟩ = some (.int .i64 z5) ∧ w7.cell? ⟨(w.heap.size + 1), 7, none⟩ = some (.slice oa on oc) := ⟨hpCell gR7 0, hpCell gR7 1, hpCell gR7 2, hpCell gR7 3, hpCell gR7 4, hpCell gR7 5, hpCell gR7 6, hpCell gR7 7⟩
              go_wp2_with (refine wpList_storeW rfl 53 (.tmp 2) (.tmp 109) rfl w.heap.size 0 _ _ (#[.int .i64 43, .int .i64 0, .slice none 0 0, .int .i64 z2, .int .i64 z3, .bool false, .int .i64 z5, .slice oa on oc]) rfl rfl gZ7 (by simp) (by kernel_rfl) (by rfl) ?_; intro w4 g4 hk4 hz4')
              obtain ⟨q0, q1, q2, q3, q4, q5, q6, q7⟩ : w4.cell? ⟨w.heap.size, 0, none⟩ = some (.int .i64 43) ∧ w4.cell? ⟨w.heap.size, 1, none⟩ = some (.int .i64 0) ∧ w4.cell? ⟨w.heap.size, 2, none⟩ = some (.slice none 0 0) ∧ w4.cell? ⟨w.heap.size, 3, none⟩ = some (.int .i64 z2) ∧ w4.cell? ⟨w.heap.size, 4, none⟩ = some (.int .i64 z3) ∧ w4.cell? ⟨w.heap.size, 5, none⟩ = some (.bool false) ∧ w4.cell? ⟨w.heap.size, 6, none⟩ = some (.int .i64 z5) ∧ w4.cell? ⟨w.heap.size, 7, none⟩ = some (.slice oa on oc) := ⟨hpCell g4 0, hpCell g4 1, hpCell g4 2, hpCell g4 3, hpCell g4 4, hpCell g4 5, hpCell g4 6, hpCell g4 7⟩
              refine bodyPost_ret (v := .tuple #[.agg #[.int .i64 43, .int .i64 0, .slice none 0 0, .int .i64 z2, .int .i64 z3, .bool false, .int .i64 z5, .slice oa on oc], .int .i64 0]) (by simp [results, Tryz.results106, go_sem, q0, q1, q2, q3, q4, q5, q6, q7]) rfl ?_
              have hob : ∀ W, Agree w.heap.size w4 W → Obs W (.slice oa on oc) l := fun W hW => HOX.out W (((Agree.of_below hb7).trans (Agree.of_keeps hk4 (fun k e => by omega))).trans (hW.mono (by omega)))
              rw [← HLN.out] at hob ⊢
              exact DecPost.is (x := ⟨43, 0, [], z2, z3, false, z5, l⟩) (oa := oa) (oc := oc) (da := none) (dc := 0) HS.out (fun W hW => ⟨Bs.nil _, hob W hW, by show z3 ≤ _; omega, by show _ ≤ z3; omega⟩) (hbw7.trans (hk4.below hbw7.size (fun k hk e => by omega)))
          | true =>
            rw [Bool.not_true] at hz1
            go_wp2_with fail
            refine HV.out.mono ?_
            rintro r w7 ⟨rfl, hb7⟩
            have gZ7 := hpKeep gZX hb7
            have gR7 := hpKeep gRX hb7
            have hbw7 := bt hbX hb7 (Nat.le_refl _)
            clear e0 e1 e2 e3 e4 e5 e6 e7
            cases V with
            | false =>
              have HN : Hid (Rp.dec b = none) := by
                rcases HSN.out with h | h
                · cases h.1
                · exact h.2
              clear gR7
              go_wp2_with (refine wpList_storeW rfl 53 (.tmp 2) (.tmp 108) rfl w.heap.size 0 _ _ (#[.int .i64 0, .int .i64 0, .slice none 0 0, .int .i64 0, .int .i64 0, .bool false, .int .i64 0, .slice none 0 0]) rfl rfl gZ7 (by simp) (by kernel_rfl) (by rfl) ?_; intro w4 g4 hk4 hz4')
              obtain ⟨q0, q1, q2, q3, q4, q5, q6, q7⟩ : w4.cell? ⟨w.heap.size, 0, none⟩ = some (.int .i64 0) ∧ w4.cell? ⟨w.heap.size, 1, none⟩ = some (.int .i64 0) ∧ w4.cell? ⟨w.heap.size, 2, none⟩ = some (.slice none 0 0) ∧ w4.cell? ⟨w.heap.size, 3, none⟩ = some (.int .i64 0) ∧ w4.cell? ⟨w.heap.size, 4, none⟩ = some (.int .i64 0) ∧ w4.cell? ⟨w.heap.size, 5, none⟩ = some (.bool false) ∧ w4.cell? ⟨w.heap.size, 6, none⟩ = some (.int .i64 0) ∧ w4.cell? ⟨w.heap.size, 7, none⟩ = some (.slice none 0 0) := ⟨hpCell g4 0, hpCell g4 1, hpCell g4 2, hpCell g4 3, hpCell g4 4, hpCell g4 5, hpCell g4 6, hpCell g4 7⟩
              refine bodyPost_ret (v := .tuple #[.agg #[.int .i64 0, .int .i64 0, .slice none 0 0, .int .i64 0, .int .i64 0, .bool false, .int .i64 0, .slice none 0 0], .int .i64 5]) (by simp [results, Tryz.results106, go_sem, q0, q1, q2, q3, q4, q5, q6, q7]) rfl ?_
              exact DecPost.err HN.out 5 (by decide) (by decide) (hbw7.trans (hk4.below hbw7.size (fun k hk e => by omega)))
            | true =>
              have HS : Hid (Rp.dec b = some ⟨43, 0, [], z2, z3, true, z5, l⟩) := by
                rcases HSN.out with h | h
                · exact h.2
                · cases h.1
              obtain ⟨e0, e1, e2, e3, e4, e5, e6, e7⟩ : w7.cell? ⟨(w.heap.size + 1), 0, none⟩ = some (.int .i64 43) ∧ w7.cell? ⟨(w.heap.size + 1), 1, none⟩ = some (.int .i64 0) ∧ w7.cell? ⟨(w.heap.size + 1), 2, none⟩ = some (.slice none 0 0) ∧ w7.cell? ⟨(w.heap.size + 1), 3, none⟩ = some (.int .i64 z2) ∧ w7.cell? ⟨(w.heap.size + 1), 4, none⟩ = some (.int .i64 z3) ∧ w7.cell? ⟨(w.heap.size + 1), 5, none⟩ = some (.bool true) ∧ w7.cell? ⟨(w.heap.size + 1), 6, none⟩ = some (.int .i64 z5) ∧ w7.cell? ⟨(w.heap.size + 1), 7, none⟩ = some (.slice oa on oc) := ⟨hpCell gR7 0, hpCell gR7 1, hpCell gR7 2, hpCell gR7 3, hpCell gR7 4, hpCell gR7 5, hpCell gR7 6, hpCell gR7 7⟩
              go_wp2_with (refine wpList_storeW rfl 53 (.tmp 2) (.tmp 109) rfl w.heap.size 0 _ _ (#[.int .i64 43, .int .i64 0, .slice none 0 0, .int .i64 z2, .int .i64 z3, .bool true, .int .i64 z5, .slice oa on oc]) rfl rfl gZ7 (by simp) (by kernel_rfl) (by rfl) ?_; intro w4 g4 hk4 hz4')
              obtain ⟨q0, q1, q2, q3, q4, q5, q6, q7⟩ : w4.cell? ⟨w.heap.size, 0, none⟩ = some (.int .i64 43) ∧ w4.cell? ⟨w.heap.size, 1, none⟩ = some (.int .i64 0) ∧ w4.cell? ⟨w.heap.size, 2, none⟩ = some (.slice none 0 0) ∧ w4.cell? ⟨w.heap.size, 3, none⟩ = some (.int .i64 z2) ∧ w4.cell? ⟨w.heap.size, 4, none⟩ = some (.int .i64 z3) ∧ w4.cell? ⟨w.heap.size, 5, none⟩ = some (.bool true) ∧ w4.cell? ⟨w.heap.size, 6, none⟩ = some (.int .i64 z5) ∧ w4.cell? ⟨w.heap.size, 7, none⟩ = some (.slice oa on oc) := ⟨hpCell g4 0, hpCell g4 1, hpCell g4 2, hpCell g4 3, hpCell g4 4, hpCell g4 5, hpCell g4 6, hpCell g4 7⟩
              refine bodyPost_ret (v := .tuple #[.agg #[.int .i64 43, .int .i64 0, .slice none 0 0, .int .i64 z2, .int .i64 z3, .bool true, .int .i64 z5, .slice oa on oc], .int .i64 0]) (by simp [results, Tryz.results106, go_sem, q0, q1, q2, q3, q4, q5, q6, q7]) rfl ?_
              have hob : ∀ W, Agree w.heap.size w4 W → Obs W (.slice oa on oc) l := fun W hW => HOX.out W (((Agree.of_below hb7).trans (Agree.of_keeps hk4 (fun k e => by omega))).trans (hW.mono (by omega)))
              rw [← HLN.out] at hob ⊢
              exact DecPost.is (x := ⟨43, 0, [], z2, z3, true, z5, l⟩) (oa := oa) (oc := oc) (da := none) (dc := 0) HS.out (fun W hW => ⟨Bs.nil _, hob W hW, by show z3 ≤ _; omega, by show _ ≤ z3; omega⟩) (hbw7.trans (hk4.below hbw7.size (fun k hk e => by omega)))
        · have HN : Hid (Rp.dec b = none) := by show _ = _; rw [HD.out, if_neg (fun h => hz h.2)]
          have hz0 : (z4 != 0) = true := by rw [bne_iff_ne]; omega
          have hz1 : (z4 != 255) = true := by rw [bne_iff_ne]; omega
          clear HD hz HV gRX
          go_wp2_with (refine wpList_storeW rfl 53 (.tmp 2) (.tmp 108) rfl w.heap.size 0 _ _ (#[.int .i64 0, .int .i64 0, .slice none 0 0, .int .i64 0, .int .i64 0, .bool false, .int .i64 0, .slice none 0 0]) rfl rfl gZX (by simp) (by kernel_rfl) (by rfl) ?_; intro w4 g4 hk4 hz4')
          obtain ⟨q0, q1, q2, q3, q4, q5, q6, q7⟩ : w4.cell? ⟨w.heap.size, 0, none⟩ = some (.int .i64 0) ∧ w4.cell? ⟨w.heap.size, 1, none⟩ = some (.int .i64 0) ∧ w4.cell? ⟨w.heap.size, 2, none⟩ = some (.slice none 0 0) ∧ w4.cell? ⟨w.heap.size, 3, none⟩ = some (.int .i64 0) ∧ w4.cell? ⟨w.heap.size, 4, none⟩ = some (.int .i64 0) ∧ w4.cell? ⟨w.heap.size, 5, none⟩ = some (.bool false) ∧ w4.cell? ⟨w.heap.size, 6, none⟩ = some (.int .i64 0) ∧ w4.cell? ⟨w.heap.size, 7, none⟩ = some (.slice none 0 0) := ⟨hpCell g4 0, hpCell g4 1, hpCell g4 2, hpCell g4 3, hpCell g4 4, hpCell g4 5, hpCell g4 6, hpCell g4 7⟩
          refine bodyPost_ret (v := .tuple #[.agg #[.int .i64 0, .int .i64 0, .slice none 0 0, .int .i64 0, .int .i64 0, .bool false, .int .i64 0, .slice none 0 0], .int .i64 5]) (by simp [results, Tryz.results106, go_sem, q0, q1, q2, q3, q4, q5, q6, q7]) rfl ?_
          exact DecPost.err HN.out 5 (by decide) (by decide) (hbX.trans (hk4.below hbX.size (fun k hk e => by omega)))
    · have HN : Hid (Rp.dec b = none) := by show _ = _; rw [hDV]; unfold decDev; rw [if_pos (.inr h14)]
      have hn7 : ¬ n < 7 := h7
      have h14' : (bAt b 1 != 14) = true := by rw [bne_iff_ne]; exact h14
      clear hb hbn hDV h43 hby hby' y0 h14
      generalize bAt b 1 = z1 at *
      go_enter Tryz.func106, Tryz.ntmps106
      go_wp2_with fail
      refine (HK.out _).mono ?_
      rintro r w1 ⟨rfl, rfl⟩
      go_wp2
      refine bodyPost_ret (v := .tuple #[.agg #[.int .i64 0, .int .i64 0, .slice none 0 0, .int .i64 0, .int .i64 0, .bool false, .int .i64 0, .slice none 0 0], .int .i64 6]) (by simp [results, Tryz.results106, go_sem]) rfl ?_
      exact DecPost.err HN.out 6 (by decide) (by decide) (kB _ _)

theorem xdec_any (a : Option Addr) (n c : Nat) (b : List UInt8) (w : World) (hb : Bs w (.slice a n c) b) :
    Calls Tryz.prog 106 #[.slice a n c] w (DecPost w (Rp.dec b)) := by
  by_cases h : n < 2 ∨ 253 < n
  · exact xdecA a n c b w hb h
  · cases hk : knownB (bAt b 0 - 128) with
    | true => exact xdecC a n c b w hb (by omega) (by omega) hk
    | false =>
      cases hk2 : knownB (bAt b 0) with
      | false => exact xdecB a n c b w hb (by omega) (by omega) hk hk2
      | true =>
        by_cases h43 : bAt b 0 = 43
        · exact xdecE a n c b w hb (by omega) (by omega) h43
        · exact xdecD a n c b w hb (by omega) (by omega) hk2 h43

end Go.Proofs.YtipnamoocemeeaaGreat
