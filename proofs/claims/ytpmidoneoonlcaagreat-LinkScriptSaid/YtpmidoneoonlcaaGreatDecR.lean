/-
  The contract of reply.Decode, but for device identifications (DecDev).
-/
import Derived.Test.YtpmidoneoonlcaaGreatDecA
import Derived.Test.YtpmidoneoonlcaaGreatRecB
import Derived.Test.YtpmidoneoonlcaaGreatMbase
namespace Go.Proofs.YtpmidoneoonlcaaGreat
open Go.RowKit

theorem dec_len {b : List UInt8} (h : b.length < 2 ∨ 253 < b.length) : Rp.dec b = none := by unfold Rp.dec; rw [if_pos h]
theorem dec_exc {b : List UInt8} (h : ¬ (b.length < 2 ∨ 253 < b.length)) (hk : knownB (bAt b 0 - 128) = true) : Rp.dec b = if b.length = 2 ∧ bAt b 1 ≠ 0 then some (Rp.shortOf (bAt b 0 - 128) (bAt b 1)) else none := by
  unfold Rp.dec; rw [if_neg h, if_pos hk]
theorem dec_dev {b : List UInt8} (h : ¬ (b.length < 2 ∨ 253 < b.length)) (hk : bAt b 0 = 43) : Rp.dec b = decDev b := by
  unfold Rp.dec; rw [if_neg h, hk, if_neg (by decide), if_pos rfl]
theorem dec_not {b : List UInt8} (h : ¬ (b.length < 2 ∨ 253 < b.length)) (hk1 : knownB (bAt b 0 - 128) = false) (hk : knownB (bAt b 0) = false) : Rp.dec b = none := by
  unfold Rp.dec; rw [if_neg h, if_neg (by rw [hk1]; decide), if_neg (fun h => by rw [h] at hk; exact absurd hk (by decide)), if_neg (fun h => by rw [h.1] at hk; cases hk)]
theorem dec_data {b : List UInt8} (h : ¬ (b.length < 2 ∨ 253 < b.length)) (hk : knownB (bAt b 0) = true) (h43 : bAt b 0 ≠ 43) :
    Rp.dec b = if bAt b 1 = (b.length : Int) - 2 then (if (Rp.dataOf (bAt b 0) (b.drop 2)).ok = true then some (Rp.dataOf (bAt b 0) (b.drop 2)) else none) else none := by
  have hk1 : knownB (bAt b 0 - 128) = false := not_knownB (by have := known_bd hk; omega)
  unfold Rp.dec
  rw [if_neg h, if_neg (by rw [hk1]; decide), if_neg h43]
  by_cases h1 : bAt b 1 = (b.length : Int) - 2
  · rw [if_pos ⟨hk, h1⟩, if_pos h1]
  · rw [if_neg (fun h => h1 h.2), if_neg h1]

set_option maxRecDepth 100000 in
set_option maxHeartbeats 3200000 in
theorem rdecA (a : Option Addr) (n c : Nat) (b : List UInt8) (w : World) (hb : Bs w (.slice a n c) b) (h : n < 2 ∨ 253 < n) :
    Calls Tryz.prog 80 #[.slice a n c] w (DecPost w (Rp.dec b)) := by
  obtain ⟨hbn, hnc, hcm⟩ := hb.capOf
  unfold maxLen at hcm
  have HN := hid (dec_len (b := b) (by omega))
  clear hb hbn
  rcases h with h | h
  · go_enter Tryz.func80, Tryz.ntmps80
    go_wp2
    refine bodyPost_ret (v := .tuple #[.agg #[.int .i64 0, .int .i64 0, .slice none 0 0, .int .i64 0, .int .i64 0, .bool false, .int .i64 0, .slice none 0 0], .int .i64 4]) (by simp [results, Tryz.results80, go_sem]) rfl ?_
    exact DecPost.err HN.out 4 (by decide) (by decide) (bal'' w _)
  · have h2 : ¬ n < 2 := by omega
    go_enter Tryz.func80, Tryz.ntmps80
    go_wp2
    refine bodyPost_ret (v := .tuple #[.agg #[.int .i64 0, .int .i64 0, .slice none 0 0, .int .i64 0, .int .i64 0, .bool false, .int .i64 0, .slice none 0 0], .int .i64 4]) (by simp [results, Tryz.results80, go_sem]) rfl ?_
    exact DecPost.err HN.out 4 (by decide) (by decide) (bal'' w _)

set_option maxRecDepth 100000 in
set_option maxHeartbeats 3200000 in
theorem rdecB (a : Option Addr) (n c : Nat) (b : List UInt8) (w : World) (hb : Bs w (.slice a n c) b) (h2 : 2 ≤ n) (h3 : n ≤ 253) (hk : knownB (bAt b 0 - 128) = true) :
    Calls Tryz.prog 80 #[.slice a n c] w (DecPost w (Rp.dec b)) := by
  obtain ⟨hbn, hnc, hcm⟩ := hb.capOf
  unfold maxLen at hcm
  have hD := dec_exc (b := b) (by omega) hk
  rw [hbn] at hD
  obtain ⟨blk, off, rfl, y0⟩ := hb.byte (i := 0) (by omega)
  obtain ⟨blk', off', ha', y1⟩ := hb.byte (i := 1) (by omega)
  cases ha'
  have c0 : ∀ W, Below w.heap.size w W → W.cell? ⟨blk, off, none⟩ = some (.int .u8 (bAt b 0)) := fun W h => cell_keep h y0
  have c1 : ∀ W, Below w.heap.size w W → W.cell? ⟨blk, off + 1, none⟩ = some (.int .u8 (bAt b 1)) := fun W h => cell_keep h y1
  have kA : ∀ X, Below w.heap.size w (w.alloc X) := fun X => bal'' w X
  obtain ⟨a0, a0'⟩ := bAt_bd b 0
  obtain ⟨a1, a1'⟩ := bAt_bd b 1
  have HK : Hid (∀ W, Calls Tryz.prog 91 #[.int .i64 (bAt b 0 - 128)] W fun r w' => r = .returned (.bool true) ∧ W = w') := fun W => by rw [← hk]; exact known_any _ W
  have hn2 : ¬ n < 2 := by omega
  have hn3 : ¬ 253 < n := by omega
  clear hb hbn y0 y1 hk
  generalize bAt b 0 = z0 at *
  generalize bAt b 1 = z1 at *
  have u0 : IntKind.i64.wrap z0 = z0 := IntWalk.i64_in _ (by omega)
  have u1 : IntKind.i64.wrap z1 = z1 := IntWalk.i64_in _ (by omega)
  by_cases h22 : n = 2
  · subst h22
    by_cases hz : z1 = 0
    · have HN : Hid (Rp.dec b = none) := by show _ = _; rw [hD, if_neg (fun h => h.2 hz)]
      clear hD
      subst hz
      go_enter Tryz.func80, Tryz.ntmps80
      go_wp2_with (go_at_call 91; (with_reducible refine (HK.out _).mono ?_); rintro r w1 ⟨rfl, rfl⟩)
      refine bodyPost_ret (v := .tuple #[.agg #[.int .i64 0, .int .i64 0, .slice none 0 0, .int .i64 0, .int .i64 0, .bool false, .int .i64 0, .slice none 0 0], .int .i64 3]) (by simp [results, Tryz.results80, go_sem]) rfl ?_
      exact DecPost.err HN.out 3 (by decide) (by decide) (bal'' w _)
    · have HS : Hid (Rp.dec b = some (Rp.shortOf (z0 - 128) z1)) := by show _ = _; rw [hD, if_pos ⟨rfl, hz⟩]
      have hz' : (z1 == 0) = false := by rw [beq_eq_false_iff_ne]; exact hz
      clear hD hz
      go_enter Tryz.func80, Tryz.ntmps80
      go_wp2_with (go_at_call 91; (with_reducible refine (HK.out _).mono ?_); rintro r w1 ⟨rfl, rfl⟩)
      refine bodyPost_ret (v := .tuple #[.agg #[.int .i64 (z0 - 128), .int .i64 z1, .slice none 0 0, .int .i64 0, .int .i64 0, .bool false, .int .i64 0, .slice none 0 0], .int .i64 0]) (by simp [results, Tryz.results80, go_sem]) rfl ?_
      exact DecPost.is (da := none) (dc := 0) (oa := none) (oc := 0) HS.out (fun W _ => ⟨Bs.nil _, Obs.nil _, by show (0 : Int) ≤ _; decide, by show _ ≤ (0 : Int); decide⟩) (bal'' w _)
  · have HN : Hid (Rp.dec b = none) := by show _ = _; rw [hD, if_neg (fun h => h22 h.1)]
    clear hD
    go_enter Tryz.func80, Tryz.ntmps80
    go_wp2_with (go_at_call 91; (with_reducible refine (HK.out _).mono ?_); rintro r w1 ⟨rfl, rfl⟩)
    refine bodyPost_ret (v := .tuple #[.agg #[.int .i64 0, .int .i64 0, .slice none 0 0, .int .i64 0, .int .i64 0, .bool false, .int .i64 0, .slice none 0 0], .int .i64 4]) (by simp [results, Tryz.results80, go_sem]) rfl ?_
    exact DecPost.err HN.out 4 (by decide) (by decide) (bal'' w _)

set_option maxRecDepth 100000 in
set_option maxHeartbeats 3200000 in
theorem rdecC (a : Option Addr) (n c : Nat) (b : List UInt8) (w : World) (hb : Bs w (.slice a n c) b) (h2 : 2 ≤ n) (h3 : n ≤ 253) (hk : knownB (bAt b 0 - 128) = false) (hk2 : knownB (bAt b 0) = false) :
    Calls Tryz.prog 80 #[.slice a n c] w (DecPost w (Rp.dec b)) := by
  obtain ⟨hbn, hnc, hcm⟩ := hb.capOf
  unfold maxLen at hcm
  have HN := hid (dec_not (b := b) (by omega) hk hk2)
  obtain ⟨blk, off, rfl, y0⟩ := hb.byte (i := 0) (by omega)
  have c0 : ∀ W, Below w.heap.size w W → W.cell? ⟨blk, off, none⟩ = some (.int .u8 (bAt b 0)) := fun W h => cell_keep h y0
  have kA : ∀ X, Below w.heap.size w (w.alloc X) := fun X => bal'' w X
  obtain ⟨a0, a0'⟩ := bAt_bd b 0
  have HK : Hid (∀ W, Calls Tryz.prog 91 #[.int .i64 (bAt b 0 - 128)] W fun r w' => r = .returned (.bool false) ∧ W = w') := fun W => by rw [← hk]; exact known_any _ W
  have HK2 : Hid (∀ W, Calls Tryz.prog 91 #[.int .i64 (bAt b 0)] W fun r w' => r = .returned (.bool false) ∧ W = w') := fun W => by rw [← hk2]; exact known_any _ W
  have hn2 : ¬ n < 2 := by omega
  have hn3 : ¬ 253 < n := by omega
  clear hb hbn y0 hk hk2
  generalize bAt b 0 = z0 at *
  have u0 : IntKind.i64.wrap z0 = z0 := IntWalk.i64_in _ (by omega)
  go_enter Tryz.func80, Tryz.ntmps80
  go_wp2_with fail
  refine (HK.out _).mono ?_
  rintro r w1 ⟨rfl, rfl⟩
  go_wp2_with fail
  refine (HK2.out _).mono ?_
  rintro r w1 ⟨rfl, rfl⟩
  go_wp2
  refine bodyPost_ret (v := .tuple #[.agg #[.int .i64 0, .int .i64 0, .slice none 0 0, .int .i64 0, .int .i64 0, .bool false, .int .i64 0, .slice none 0 0], .int .i64 16]) (by simp [results, Tryz.results80, go_sem]) rfl ?_
  exact DecPost.err HN.out 16 (by decide) (by decide) (bal'' w _)

set_option maxRecDepth 100000 in
set_option maxHeartbeats 3200000 in
theorem rdecE (a : Option Addr) (n c : Nat) (b : List UInt8) (w : World) (hb : Bs w (.slice a n c) b) (h2 : 2 ≤ n) (h3 : n ≤ 253) (hk2 : knownB (bAt b 0) = true) (h43 : bAt b 0 ≠ 43) :
    Calls Tryz.prog 80 #[.slice a n c] w (DecPost w (Rp.dec b)) := by
  obtain ⟨i5, hi, hz0, hz1, hz2⟩ := info_parts infoB
  obtain ⟨hbn, hnc, hcm⟩ := hb.capOf
  unfold maxLen at hcm
  have hD := dec_data (b := b) (by omega) hk2 h43
  rw [hbn] at hD
  obtain ⟨blk, off, rfl, y0⟩ := hb.byte (i := 0) (by omega)
  obtain ⟨blk', off', ha', y1⟩ := hb.byte (i := 1) (by omega)
  cases ha'
  have c0 : ∀ W, Below w.heap.size w W → W.cell? ⟨blk, off, none⟩ = some (.int .u8 (bAt b 0)) := fun W h => cell_keep h y0
  have c1 : ∀ W, Below w.heap.size w W → W.cell? ⟨blk, off + 1, none⟩ = some (.int .u8 (bAt b 1)) := fun W h => cell_keep h y1
  have kA : ∀ X, Below w.heap.size w (w.alloc X) := fun X => bal'' w X
  obtain ⟨a0, a0'⟩ := bAt_bd b 0
  obtain ⟨a1, a1'⟩ := bAt_bd b 1
  have hkb := known_bd hk2
  have HK : Hid (∀ W, Calls Tryz.prog 91 #[.int .i64 (bAt b 0 - 128)] W fun r w' => r = .returned (.bool false) ∧ W = w') := fun W => by rw [← not_knownB (f := bAt b 0 - 128) (by omega)]; exact known_any _ W
  have HK2 : Hid (∀ W, Calls Tryz.prog 91 #[.int .i64 (bAt b 0)] W fun r w' => r = .returned (.bool true) ∧ W = w') := fun W => by rw [← hk2]; exact known_any _ W
  have hn2 : ¬ n < 2 := by omega
  have hn3 : ¬ 253 < n := by omega
  obtain ⟨R2, hR2⟩ : ∃ x, cutA (some ⟨blk, off, none⟩) c 2 = x := ⟨_, rfl⟩
  have hd2 : ∀ W, (Instr.slice 45 (.slice (some ⟨blk, off, none⟩) n c) (some (.int .i64 2)) none none).run Tryz.prog W = .ok (.slice R2 (n - 2) (c - 2)) W := fun W => by rw [← hR2]; exact run_drop Tryz.underlying45 hi hz1 _ n c 2 h2 W
  have hB2 : Bs w (.slice R2 (n - 2) (c - 2)) (b.drop 2) := by rw [← hR2]; exact hb.dropS h2
  obtain ⟨Y, hY⟩ : ∃ Y, b.drop 2 = Y := ⟨_, rfl⟩
  have hYl : Y.length = n - 2 := by rw [← hY]; simp [hbn]
  rw [hY] at hB2 hD
  have HB2 := hid hB2
  have HYL := hid hYl
  have HCL : Hid (∀ W, Below w.heap.size w W → Calls Tryz.prog 55 #[.slice R2 (n - 2) (c - 2)] W fun r w' => ∃ v', r = .returned v' ∧ w'.ownsRow W.heap.size 5 1 v' (n - 2) (u8s Y) ∧ Below W.heap.size W w') := fun W hW => by
    have h := clone_any _ Y W (HB2.out.keep hW) (by omega)
    rw [hYl] at h
    exact h
  have h43' : (bAt b 0 == 43) = false := by rw [beq_eq_false_iff_ne]; exact h43
  clear hb hbn y0 y1 hk2 h43 hR2 hB2 hYl hY
  generalize bAt b 0 = z0 at *
  generalize bAt b 1 = z1 at *
  have u0 : IntKind.i64.wrap z0 = z0 := IntWalk.i64_in _ (by omega)
  have u1 : IntKind.i64.wrap z1 = z1 := IntWalk.i64_in _ (by omega)
  by_cases h1 : z1 = (n : Int) - 2
  · rw [if_pos h1] at hD
    have h1' : (z1 != (n : Int) - 2) = false := by rw [bne_eq_false_iff_eq]; exact h1
    replace h1 := hid h1
    obtain ⟨V, hV⟩ : ∃ V, Rp.ok (Rp.dataOf z0 Y) = V := ⟨_, rfl⟩
    rw [hV] at hD
    have HD := hid hD
    clear hD
    go_enter Tryz.func80, Tryz.ntmps80
    go_wp2_with fail
    refine (HK.out _).mono ?_
    rintro r w1 ⟨rfl, rfl⟩
    go_wp2_with fail
    refine (HK2.out _).mono ?_
    rintro r w1 ⟨rfl, rfl⟩
    go_wp2_with fail
    refine (HCL.out _ (kA _)).mono ?_
    rintro r w5 ⟨v5, rfl, hown5, hb5⟩
    obtain ⟨a5, c5, rfl⟩ := own_slice hown5
    have gZ5 : w5.heap[w.heap.size]? = some (.cells #[.int .i64 0, .int .i64 0, .slice none 0 0, .int .i64 0, .int .i64 0, .bool false, .int .i64 0, .slice none 0 0] 48) := hpKeep (hpNew w _) hb5
    have hbw5 := bt (kA _) hb5 (Nat.le_refl _)
    have hsz5 := hbw5.size
    have hb55 : Bs w5 (.slice a5 (n - 2) c5) Y := by
      have := HYL.out
      rw [← this] at hown5 ⊢
      exact Bs.own hown5
    have HB5 := hid hb55
    have HL5 := hid hown5.lt
    have HV : Hid (∀ X, Calls Tryz.prog 93 #[.agg #[.int .i64 z0, .int .i64 0, .slice a5 (n - 2) c5, .int .i64 0, .int .i64 0, .bool false, .int .i64 0, .slice none 0 0]] (w5.alloc X) fun r w' => r = .returned (.bool V) ∧ Below (w5.alloc X).heap.size (w5.alloc X) w') := fun X => by
      have h := rvalid_any z0 0 (.slice a5 (n - 2) c5) 0 0 false 0 (.slice none 0 0) Y [] (w5.alloc X) (HB5.out.keep (bal'' w5 X)) (Obs.nil _) (by decide) (by decide)
      rw [show Rp.ok ⟨z0, 0, Y, 0, 0, false, 0, []⟩ = V from hV] at h
      exact h
    clear hown5 hb5 hb55 hV
    go_wp2_with fail
    refine (HV.out _).mono ?_
    rintro r w6 ⟨rfl, hb6⟩
    have gZ6 : w6.heap[w.heap.size]? = some (.cells #[.int .i64 0, .int .i64 0, .slice none 0 0, .int .i64 0, .int .i64 0, .bool false, .int .i64 0, .slice none 0 0] 48) := hpKeep (hpKeep gZ5 (bal'' w5 _)) hb6
    have gR6 := hpKeep (hpNew w5 (.cells #[.int .i64 z0, .int .i64 0, .slice a5 (n - 2) c5, .int .i64 0, .int .i64 0, .bool false, .int .i64 0, .slice none 0 0] 48)) hb6
    have hbw6 := bt (bta hbw5 (Nat.le_refl _) _) hb6 (Nat.le_refl _)
    have hb56 := bt (bal'' w5 _) hb6 (Nat.le_refl _)
    clear gZ5
    cases V with
    | false =>
      have HN : Hid (Rp.dec b = none) := by show _ = _; rw [HD.out, if_neg (by decide)]
      go_wp2_with (refine wpList_storeW rfl 48 (.tmp 2) (.tmp 69) rfl w.heap.size 0 _ _ (#[.int .i64 0, .int .i64 0, .slice none 0 0, .int .i64 0, .int .i64 0, .bool false, .int .i64 0, .slice none 0 0]) rfl rfl gZ6 (by simp) (by kernel_rfl) (by rfl) ?_; intro w4 g4 hk4 hz4)
      obtain ⟨q0, q1, q2, q3, q4, q5, q6, q7⟩ : w4.cell? ⟨w.heap.size, 0, none⟩ = some (.int .i64 0) ∧ w4.cell? ⟨w.heap.size, 1, none⟩ = some (.int .i64 0) ∧ w4.cell? ⟨w.heap.size, 2, none⟩ = some (.slice none 0 0) ∧ w4.cell? ⟨w.heap.size, 3, none⟩ = some (.int .i64 0) ∧ w4.cell? ⟨w.heap.size, 4, none⟩ = some (.int .i64 0) ∧ w4.cell? ⟨w.heap.size, 5, none⟩ = some (.bool false) ∧ w4.cell? ⟨w.heap.size, 6, none⟩ = some (.int .i64 0) ∧ w4.cell? ⟨w.heap.size, 7, none⟩ = some (.slice none 0 0) := ⟨hpCell g4 0, hpCell g4 1, hpCell g4 2, hpCell g4 3, hpCell g4 4, hpCell g4 5, hpCell g4 6, hpCell g4 7⟩
      refine bodyPost_ret (v := .tuple #[.agg #[.int .i64 0, .int .i64 0, .slice none 0 0, .int .i64 0, .int .i64 0, .bool false, .int .i64 0, .slice none 0 0], .int .i64 5]) (by simp [results, Tryz.results80, go_sem, q0, q1, q2, q3, q4, q5, q6, q7]) rfl ?_
      exact DecPost.err HN.out 5 (by decide) (by decide) (hbw6.trans (hk4.below hbw6.size (fun k hk e => by omega)))
    | true =>
      have HS : Hid (Rp.dec b = some (Rp.dataOf z0 Y)) := by show _ = _; rw [HD.out, if_pos rfl]
      have r0 : w6.cell? ⟨w5.heap.size, 0, none⟩ = some (.int .i64 z0) := hpCell gR6 0
      have r1 : w6.cell? ⟨w5.heap.size, 1, none⟩ = some (.int .i64 0) := hpCell gR6 1
      have r2 : w6.cell? ⟨w5.heap.size, 2, none⟩ = some (.slice a5 (n - 2) c5) := hpCell gR6 2
      have r3 : w6.cell? ⟨w5.heap.size, 3, none⟩ = some (.int .i64 0) := hpCell gR6 3
      have r4 : w6.cell? ⟨w5.heap.size, 4, none⟩ = some (.int .i64 0) := hpCell gR6 4
      have r5 : w6.cell? ⟨w5.heap.size, 5, none⟩ = some (.bool false) := hpCell gR6 5
      have r6 : w6.cell? ⟨w5.heap.size, 6, none⟩ = some (.int .i64 0) := hpCell gR6 6
      have r7 : w6.cell? ⟨w5.heap.size, 7, none⟩ = some (.slice none 0 0) := hpCell gR6 7
      go_wp2_with (refine wpList_storeW rfl 48 (.tmp 2) (.tmp 70) rfl w.heap.size 0 _ _ (#[.int .i64 z0, .int .i64 0, .slice a5 (n - 2) c5, .int .i64 0, .int .i64 0, .bool false, .int .i64 0, .slice none 0 0]) rfl rfl gZ6 (by simp) (by kernel_rfl) (by rfl) ?_; intro w4 g4 hk4 hz4)
      obtain ⟨q0, q1, q2, q3, q4, q5, q6, q7⟩ : w4.cell? ⟨w.heap.size, 0, none⟩ = some (.int .i64 z0) ∧ w4.cell? ⟨w.heap.size, 1, none⟩ = some (.int .i64 0) ∧ w4.cell? ⟨w.heap.size, 2, none⟩ = some (.slice a5 (n - 2) c5) ∧ w4.cell? ⟨w.heap.size, 3, none⟩ = some (.int .i64 0) ∧ w4.cell? ⟨w.heap.size, 4, none⟩ = some (.int .i64 0) ∧ w4.cell? ⟨w.heap.size, 5, none⟩ = some (.bool false) ∧ w4.cell? ⟨w.heap.size, 6, none⟩ = some (.int .i64 0) ∧ w4.cell? ⟨w.heap.size, 7, none⟩ = some (.slice none 0 0) := ⟨hpCell g4 0, hpCell g4 1, hpCell g4 2, hpCell g4 3, hpCell g4 4, hpCell g4 5, hpCell g4 6, hpCell g4 7⟩
      refine bodyPost_ret (v := .tuple #[.agg #[.int .i64 z0, .int .i64 0, .slice a5 (n - 2) c5, .int .i64 0, .int .i64 0, .bool false, .int .i64 0, .slice none 0 0], .int .i64 0]) (by simp [results, Tryz.results80, go_sem, q0, q1, q2, q3, q4, q5, q6, q7]) rfl ?_
      have hblk : ∀ ad, a5 = some ad → w.heap.size + 1 ≤ ad.block := fun ad had => by
        have := (HL5.out ad.block (by rw [had]; rfl)).1
        simp at this
        omega
      have hfin : ∀ W, Agree w.heap.size w4 W → Bs W (.slice a5 (n - 2) c5) Y := fun W hW =>
        ((HB5.out.keep hb56).keepF hk4 (fun ad had e => by have := hblk ad had; omega)).agree (fun ad had => by have := hblk ad had; omega) hW
      rw [← HYL.out] at hfin ⊢
      exact DecPost.is (x := Rp.dataOf z0 Y) (oa := none) (oc := 0) HS.out (fun W hW => ⟨hfin W hW, Obs.nil _, by show (0 : Int) ≤ _; decide, by show _ ≤ (0 : Int); decide⟩) (hbw6.trans (hk4.below hbw6.size (fun k hk e => by omega)))
  · have HN : Hid (Rp.dec b = none) := by show _ = _; rw [hD, if_neg h1]
    have h1' : (z1 != (n : Int) - 2) = true := by rw [bne_iff_ne]; exact h1
    clear hD h1
    go_enter Tryz.func80, Tryz.ntmps80
    go_wp2_with fail
    refine (HK.out _).mono ?_
    rintro r w1 ⟨rfl, rfl⟩
    go_wp2_with fail
    refine (HK2.out _).mono ?_
    rintro r w1 ⟨rfl, rfl⟩
    go_wp2
    refine bodyPost_ret (v := .tuple #[.agg #[.int .i64 0, .int .i64 0, .slice none 0 0, .int .i64 0, .int .i64 0, .bool false, .int .i64 0, .slice none 0 0], .int .i64 17]) (by simp [results, Tryz.results80, go_sem]) rfl ?_
    exact DecPost.err HN.out 17 (by decide) (by decide) (bal'' w _)

end Go.Proofs.YtpmidoneoonlcaaGreat
