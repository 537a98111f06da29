/-
  Texts 44 of the claim.
-/
import Derived.Test.YtipnamoocemeeaaGreatB43
import Derived.Test.YtipnamoocemeeaaGreatB22
/-
  Several texts of this claim in one file.
-/
/-
The contract of modscanref10.DecodeReply, but for device identifications.
-/
namespace Go.Proofs.YtipnamoocemeeaaGreat
open Go.RowKit

set_option maxRecDepth 100000 in
set_option maxHeartbeats 3200000 in
theorem xdecA (a : Option Addr) (n c : Nat) (b : List UInt8) (w : World) (hb : Bs w (.slice a n c) b) (h : n < 2 ∨ 253 < n) :
    Calls Tryz.prog 106 #[.slice a n c] w (DecPost w (Rp.dec b)) := by
  obtain ⟨hbn, hnc, hcm⟩ := hb.capOf
  unfold maxLen at hcm
  have HN := hid (dec_len (b := b) (by omega))
  clear hb hbn
  rcases h with h | h
  · go_enter Tryz.func106, Tryz.ntmps106
    go_wp2
    refine bodyPost_ret (v := .tuple #[.agg #[.int .i64 0, .int .i64 0, .slice none 0 0, .int .i64 0, .int .i64 0, .bool false, .int .i64 0, .slice none 0 0], .int .i64 4]) (by simp [results, Tryz.results106, go_sem]) rfl ?_
    exact DecPost.err HN.out 4 (by decide) (by decide) (bal'' w _)
  · have h2 : ¬ n < 2 := by omega
    go_enter Tryz.func106, Tryz.ntmps106
    go_wp2
    refine bodyPost_ret (v := .tuple #[.agg #[.int .i64 0, .int .i64 0, .slice none 0 0, .int .i64 0, .int .i64 0, .bool false, .int .i64 0, .slice none 0 0], .int .i64 4]) (by simp [results, Tryz.results106, go_sem]) rfl ?_
    exact DecPost.err HN.out 4 (by decide) (by decide) (bal'' w _)

/-- What the function is. -/
theorem fmod (z : Int) (h0 : 0 ≤ z) (h1 : z ≤ 255) : ∃ F, z % 128 = F ∧ z.tmod 128 = F ∧ ((z < 128 ∧ F = z) ∨ (128 ≤ z ∧ F = z - 128)) := by
  refine ⟨z % 128, rfl, ?_, by omega⟩
  exact Int.tmod_eq_emod_of_nonneg h0

set_option maxRecDepth 100000 in
set_option maxHeartbeats 3200000 in
theorem xdecB (a : Option Addr) (n c : Nat) (b : List UInt8) (w : World) (hb : Bs w (.slice a n c) b) (h2 : 2 ≤ n) (h3 : n ≤ 253) (hk : knownB (bAt b 0 - 128) = false) (hk2 : knownB (bAt b 0) = false) :
    Calls Tryz.prog 106 #[.slice a n c] w (DecPost w (Rp.dec b)) := by
  obtain ⟨hbn, hnc, hcm⟩ := hb.capOf
  unfold maxLen at hcm
  have HN := hid (dec_not (b := b) (by omega) hk hk2)
  obtain ⟨blk, off, rfl, y0⟩ := hb.byte (i := 0) (by omega)
  have c0 : ∀ W, Below w.heap.size w W → W.cell? ⟨blk, off, none⟩ = some (.int .u8 (bAt b 0)) := fun W h => cell_keep h y0
  have kA : ∀ X, Below w.heap.size w (w.alloc X) := fun X => bal'' w X
  obtain ⟨a0, a0'⟩ := bAt_bd b 0
  obtain ⟨F, f1, f2, f3⟩ := fmod (bAt b 0) a0 a0'
  have HK : Hid (∀ W, Calls Tryz.prog 102 #[.int .i64 F] W fun r w' => r = .returned (.bool false) ∧ W = w') := fun W => by
    have hF : knownB F = false := by rcases f3 with ⟨_, rfl⟩ | ⟨_, rfl⟩ <;> assumption
    rw [← hF]; exact function_any _ W
  have hn2 : ¬ n < 2 := by omega
  have hn3 : ¬ 253 < n := by omega
  have u0 : IntKind.i64.wrap (bAt b 0) = bAt b 0 := IntWalk.i64_in _ (by omega)
  clear hb hbn y0 hk hk2 f3
  generalize bAt b 0 = z0 at *
  go_enter Tryz.func106, Tryz.ntmps106
  go_wp2_with fail
  refine (HK.out _).mono ?_
  rintro r w1 ⟨rfl, rfl⟩
  go_wp2
  refine bodyPost_ret (v := .tuple #[.agg #[.int .i64 0, .int .i64 0, .slice none 0 0, .int .i64 0, .int .i64 0, .bool false, .int .i64 0, .slice none 0 0], .int .i64 16]) (by simp [results, Tryz.results106, go_sem]) rfl ?_
  exact DecPost.err HN.out 16 (by decide) (by decide) (bal'' w _)

set_option maxRecDepth 100000 in
set_option maxHeartbeats 3200000 in
theorem xdecC (a : Option Addr) (n c : Nat) (b : List UInt8) (w : World) (hb : Bs w (.slice a n c) b) (h2 : 2 ≤ n) (h3 : n ≤ 253) (hk : knownB (bAt b 0 - 128) = true) :
    Calls Tryz.prog 106 #[.slice a n c] w (DecPost w (Rp.dec b)) := by
  obtain ⟨hbn, hnc, hcm⟩ := hb.capOf
  unfold maxLen at hcm
  have hD := dec_exc (b := b) (by omega) hk
  rw [hbn] at hD
  obtain ⟨blk, off, rfl, y0⟩ := hb.byte (i := 0) (by omega)
  obtain ⟨blk', off', ha', y1⟩ := hb.byte (i := 1) (by omega)
  cases ha'
  have c0 : ∀ W, Below w.heap.size w W → W.cell? ⟨blk, off, none⟩ = some (.int .u8 (bAt b 0)) := fun W h => cell_keep h y0
  have c1 : ∀ W, Below w.heap.size w W → W.cell? ⟨blk, off + 1, none⟩ = some (.int .u8 (bAt b 1)) := fun W h => cell_keep h y1
  have kA : ∀ X, Below w.heap.size w (w.alloc X) := fun X => bal'' w X
  have kB : ∀ X Y, Below w.heap.size w ((w.alloc X).alloc Y) := fun X Y => bta (bal'' w X) (Nat.le_refl _) Y
  obtain ⟨a0, a0'⟩ := bAt_bd b 0
  obtain ⟨a1, a1'⟩ := bAt_bd b 1
  have hkb := known_bd hk
  obtain ⟨F, f1, f2, f3⟩ := fmod (bAt b 0) a0 a0'
  have hFe : F = bAt b 0 - 128 := by omega
  have HK : Hid (∀ W, Calls Tryz.prog 102 #[.int .i64 F] W fun r w' => r = .returned (.bool true) ∧ W = w') := fun W => by rw [← hk, hFe]; exact function_any _ W
  have h128 : 128 ≤ bAt b 0 := by omega
  have hn2 : ¬ n < 2 := by omega
  have hn3 : ¬ 253 < n := by omega
  rw [← hFe] at hD
  replace hFe := hid hFe
  clear hb hbn y0 y1 hk f3
  generalize bAt b 0 = z0 at *
  generalize bAt b 1 = z1 at *
  have u0 : IntKind.i64.wrap z0 = z0 := IntWalk.i64_in _ (by omega)
  have u1 : IntKind.i64.wrap z1 = z1 := IntWalk.i64_in _ (by omega)
  by_cases h22 : n = 2
  · subst h22
    by_cases hz : z1 = 0
    · have HN : Hid (Rp.dec b = none) := by show _ = _; rw [hD, if_neg (fun h => h.2 hz)]
      clear hD
      subst hz
      go_enter Tryz.func106, Tryz.ntmps106
      go_wp2_with fail
      refine (HK.out _).mono ?_
      rintro r w1 ⟨rfl, rfl⟩
      go_wp2
      refine bodyPost_ret (v := .tuple #[.agg #[.int .i64 0, .int .i64 0, .slice none 0 0, .int .i64 0, .int .i64 0, .bool false, .int .i64 0, .slice none 0 0], .int .i64 3]) (by simp [results, Tryz.results106, go_sem]) rfl ?_
      exact DecPost.err HN.out 3 (by decide) (by decide) (bta (bal'' w _) (Nat.le_refl _) _)
    · have HS : Hid (Rp.dec b = some (Rp.shortOf F z1)) := by show _ = _; rw [hD, if_pos ⟨rfl, hz⟩]
      have hz' : (z1 == 0) = false := by rw [beq_eq_false_iff_ne]; exact hz
      clear hD hz
      go_enter Tryz.func106, Tryz.ntmps106
      go_wp2_with fail
      refine (HK.out _).mono ?_
      rintro r w1 ⟨rfl, rfl⟩
      go_wp2
      refine bodyPost_ret (v := .tuple #[.agg #[.int .i64 F, .int .i64 z1, .slice none 0 0, .int .i64 0, .int .i64 0, .bool false, .int .i64 0, .slice none 0 0], .int .i64 0]) (by simp [results, Tryz.results106, go_sem]) rfl ?_
      exact DecPost.is (x := Rp.shortOf F z1) (da := none) (dc := 0) (oa := none) (oc := 0) HS.out (fun W _ => ⟨Bs.nil _, Obs.nil _, by show (0 : Int) ≤ _; decide, by show _ ≤ (0 : Int); decide⟩) (bta (bal'' w _) (Nat.le_refl _) _)
  · have HN : Hid (Rp.dec b = none) := by show _ = _; rw [hD, if_neg (fun h => h22 h.1)]
    clear hD
    have h22' : ((n : Int) != 2) = true := by rw [bne_iff_ne]; omega
    go_enter Tryz.func106, Tryz.ntmps106
    go_wp2_with fail
    refine (HK.out _).mono ?_
    rintro r w1 ⟨rfl, rfl⟩
    go_wp2
    refine bodyPost_ret (v := .tuple #[.agg #[.int .i64 0, .int .i64 0, .slice none 0 0, .int .i64 0, .int .i64 0, .bool false, .int .i64 0, .slice none 0 0], .int .i64 4]) (by simp [results, Tryz.results106, go_sem]) rfl ?_
    exact DecPost.err HN.out 4 (by decide) (by decide) (bta (bal'' w _) (Nat.le_refl _) _)

end Go.Proofs.YtipnamoocemeeaaGreat

/-
The contract of modscanref10.DecodeReply at replies with data.
-/
namespace Go.Proofs.YtipnamoocemeeaaGreat
open Go.RowKit

theorem heap2 (w : World) (A B : Obj) : ((w.alloc A).alloc B).heap[w.heap.size]? = some A ∧ ((w.alloc A).alloc B).heap[w.heap.size + 1]? = some B := by
  refine ⟨?_, ?_⟩
  · rw [Below.heap_alloc _ _ _ (by simp)]; exact hpNew _ _
  · have := hpNew (w.alloc A) B
    rwa [show (w.alloc A).heap.size = w.heap.size + 1 by simp] at this

set_option maxRecDepth 100000 in
set_option maxHeartbeats 6400000 in
theorem xdecD (a : Option Addr) (n c : Nat) (b : List UInt8) (w : World) (hb : Bs w (.slice a n c) b) (h2 : 2 ≤ n) (h3 : n ≤ 253) (hk2 : knownB (bAt b 0) = true) (h43 : bAt b 0 ≠ 43) :
    Calls Tryz.prog 106 #[.slice a n c] w (DecPost w (Rp.dec b)) := by
  obtain ⟨i5, hi, hz0, hz1, hz2⟩ := info_parts infoB
  obtain ⟨hbn, hnc, hcm⟩ := hb.capOf
  unfold maxLen at hcm
  have hD := dec_data (b := b) (by omega) hk2 h43
  rw [hbn] at hD
  obtain ⟨blk, off, rfl, y0⟩ := hb.byte (i := 0) (by omega)
  obtain ⟨blk', off', ha', y1⟩ := hb.byte (i := 1) (by omega)
  cases ha'
  have c0 : ∀ W, Below w.heap.size w W → W.cell? ⟨blk, off, none⟩ = some (.int .u8 (bAt b 0)) := fun W h => cell_keep h y0
  have c1 : ∀ W, Below w.heap.size w W → W.cell? ⟨blk, off + 1, none⟩ = some (.int .u8 (bAt b 1)) := fun W h => cell_keep h y1
  have kA : ∀ X, Below w.heap.size w (w.alloc X) := fun X => bal'' w X
  have kB : ∀ X Y, Below w.heap.size w ((w.alloc X).alloc Y) := fun X Y => bta (bal'' w X) (Nat.le_refl _) Y
  obtain ⟨a0, a0'⟩ := bAt_bd b 0
  obtain ⟨a1, a1'⟩ := bAt_bd b 1
  have hkb := known_bd hk2
  obtain ⟨F, f1, f2, f3⟩ := fmod (bAt b 0) a0 a0'
  have hFe : F = bAt b 0 := by omega
  have h128 : ¬ 128 ≤ bAt b 0 := by omega
  have HK : Hid (∀ W, Calls Tryz.prog 102 #[.int .i64 (bAt b 0)] W fun r w' => r = .returned (.bool true) ∧ W = w') := fun W => by rw [← hk2]; exact function_any _ W
  rw [hFe] at f1 f2
  have hn2 : ¬ n < 2 := by omega
  have hn3 : ¬ 253 < n := by omega
  obtain ⟨R2, hR2⟩ : ∃ x, cutA (some ⟨blk, off, none⟩) c 2 = x := ⟨_, rfl⟩
  have hd2 : ∀ W, (Instr.slice 50 (.slice (some ⟨blk, off, none⟩) n c) (some (.int .i64 2)) none none).run Tryz.prog W = .ok (.slice R2 (n - 2) (c - 2)) W := fun W => by rw [← hR2]; exact run_drop Tryz.underlying50 hi hz1 _ n c 2 h2 W
  have hB2 : Bs w (.slice R2 (n - 2) (c - 2)) (b.drop 2) := by rw [← hR2]; exact hb.dropS h2
  obtain ⟨Y, hY⟩ : ∃ Y, b.drop 2 = Y := ⟨_, rfl⟩
  have hYl : Y.length = n - 2 := by rw [← hY]; simp [hbn]
  rw [hY] at hB2 hD
  have HB2 := hid hB2
  have HYL := hid hYl
  have h43' : (bAt b 0 == 43) = false := by rw [beq_eq_false_iff_ne]; exact h43
  clear hb hbn y0 y1 hk2 h43 hR2 hB2 hYl hY f3 hFe
  generalize bAt b 0 = z0 at *
  generalize bAt b 1 = z1 at *
  have u0 : IntKind.i64.wrap z0 = z0 := IntWalk.i64_in _ (by omega)
  have u1 : IntKind.i64.wrap z1 = z1 := IntWalk.i64_in _ (by omega)
  by_cases h1 : z1 = (n : Int) - 2
  · rw [if_pos h1] at hD
    have h1' : (z1 != (n : Int) - 2) = false := by rw [bne_eq_false_iff_eq]; exact h1
    replace h1 := hid h1
    obtain ⟨V, hV⟩ : ∃ V, Rp.ok (Rp.dataOf z0 Y) = V := ⟨_, rfl⟩
    rw [hV] at hD
    have HD := hid hD
    have HYB := hid (HB2.out.keep (kB (.cells #[.int .i64 0, .int .i64 0, .slice none 0 0, .int .i64 0, .int .i64 0, .bool false, .int .i64 0, .slice none 0 0] 53) (.cells #[.int .i64 z0, .int .i64 0, .slice none 0 0, .int .i64 0, .int .i64 0, .bool false, .int .i64 0, .slice none 0 0] 53)))
    have HYS := hid (show ([] : List UInt8).length + Y.length ≤ 140737488355328 by rw [HYL.out]; simp; omega)
    have HH := hid (heap2 w (.cells #[.int .i64 0, .int .i64 0, .slice none 0 0, .int .i64 0, .int .i64 0, .bool false, .int .i64 0, .slice none 0 0] 53) (.cells #[.int .i64 z0, .int .i64 0, .slice none 0 0, .int .i64 0, .int .i64 0, .bool false, .int .i64 0, .slice none 0 0] 53))
    have hKB := hid (kB (.cells #[.int .i64 0, .int .i64 0, .slice none 0 0, .int .i64 0, .int .i64 0, .bool false, .int .i64 0, .slice none 0 0] 53) (.cells #[.int .i64 z0, .int .i64 0, .slice none 0 0, .int .i64 0, .int .i64 0, .bool false, .int .i64 0, .slice none 0 0] 53))
    clear hD
    go_enter Tryz.func106, Tryz.ntmps106
    go_wp2_with fail
    refine (HK.out _).mono ?_
    rintro r w1 ⟨rfl, rfl⟩
    go_wp2_with (at_builtin; refine wpList_app rfl (.const (.slice none 0 0)) (.tmp 120) 50 rfl ((w.alloc (.cells #[.int .i64 0, .int .i64 0, .slice none 0 0, .int .i64 0, .int .i64 0, .bool false, .int .i64 0, .slice none 0 0] 53)).alloc (.cells #[.int .i64 z0, .int .i64 0, .slice none 0 0, .int .i64 0, .int .i64 0, .bool false, .int .i64 0, .slice none 0 0] 53)).heap.size 5 i5 Tryz.underlying50 hi hz0 hz1 hz2 (.slice none 0 0) [] rfl (World.ownsRow_nil _ _ _ _) (.slice R2 (n - 2) (c - 2)) Y rfl HYB.out HYS.out (Nat.le_refl _) ?c3)
    case c3 =>
      intro v5 w5 hown5 hgr5
      have hb5 : Below ((w.alloc (.cells #[.int .i64 0, .int .i64 0, .slice none 0 0, .int .i64 0, .int .i64 0, .bool false, .int .i64 0, .slice none 0 0] 53)).alloc (.cells #[.int .i64 z0, .int .i64 0, .slice none 0 0, .int .i64 0, .int .i64 0, .bool false, .int .i64 0, .slice none 0 0] 53)).heap.size ((w.alloc (.cells #[.int .i64 0, .int .i64 0, .slice none 0 0, .int .i64 0, .int .i64 0, .bool false, .int .i64 0, .slice none 0 0] 53)).alloc (.cells #[.int .i64 z0, .int .i64 0, .slice none 0 0, .int .i64 0, .int .i64 0, .bool false, .int .i64 0, .slice none 0 0] 53)) w5 := (Below.refl _ _).grown hgr5 (Nat.le_refl _) (fun k hk => by cases hk)
      replace hown5 : w5.ownsRow ((w.alloc (.cells #[.int .i64 0, .int .i64 0, .slice none 0 0, .int .i64 0, .int .i64 0, .bool false, .int .i64 0, .slice none 0 0] 53)).alloc (.cells #[.int .i64 z0, .int .i64 0, .slice none 0 0, .int .i64 0, .int .i64 0, .bool false, .int .i64 0, .slice none 0 0] 53)).heap.size 5 1 v5 (n - 2) (u8s Y) := by
        rw [← HYL.out]; simpa using hown5
      obtain ⟨a5, c5, rfl⟩ := own_slice hown5
      have gZ5 : w5.heap[w.heap.size]? = some (.cells #[.int .i64 0, .int .i64 0, .slice none 0 0, .int .i64 0, .int .i64 0, .bool false, .int .i64 0, .slice none 0 0] 53) := hpKeep HH.out.1 hb5
      have gR5 : w5.heap[w.heap.size + 1]? = some (.cells #[.int .i64 z0, .int .i64 0, .slice none 0 0, .int .i64 0, .int .i64 0, .bool false, .int .i64 0, .slice none 0 0] 53) := hpKeep HH.out.2 hb5
      have hbw5 := bt hKB.out hb5 (Nat.le_refl _)
      have hblk : ∀ ad, a5 = some ad → w.heap.size + 1 + 1 ≤ ad.block := fun ad had => by
        have := (hown5.lt ad.block (by rw [had]; rfl)).1
        simp at this
        omega
      have hb55 : Bs w5 (.slice a5 (n - 2) c5) Y := by
        have := HYL.out
        rw [← this] at hown5 ⊢
        exact Bs.own hown5
      have e2 : w5.cell? ⟨w.heap.size + 1, 2, none⟩ = some (.slice none 0 0) := hpCell gR5 2
      have y2 : w5.frozen? ⟨w.heap.size + 1, 2, none⟩ = false := hpFree gR5 2
      have gZ6 : (w5.setCell ⟨w.heap.size + 1, 2, none⟩ (.slice a5 (n - 2) c5)).heap[w.heap.size]? = some (.cells #[.int .i64 0, .int .i64 0, .slice none 0 0, .int .i64 0, .int .i64 0, .bool false, .int .i64 0, .slice none 0 0] 53) := by rw [hpOther (by omega)]; exact gZ5
      have gR6 : (w5.setCell ⟨w.heap.size + 1, 2, none⟩ (.slice a5 (n - 2) c5)).heap[w.heap.size + 1]? = some (.cells #[.int .i64 z0, .int .i64 0, .slice a5 (n - 2) c5, .int .i64 0, .int .i64 0, .bool false, .int .i64 0, .slice none 0 0] 53) := by rw [hpSet gR5 2 _]; rfl
      have hbw6 : Below w.heap.size w (w5.setCell ⟨w.heap.size + 1, 2, none⟩ (.slice a5 (n - 2) c5)) := hbw5.setCell (by show w.heap.size ≤ w.heap.size + 1; omega) _
      have hb66 : Bs (w5.setCell ⟨w.heap.size + 1, 2, none⟩ (.slice a5 (n - 2) c5)) (.slice a5 (n - 2) c5) Y := hb55.keepF (F := (· = w.heap.size + 1)) ((Keeps.refl _ _).set _ _ rfl) (fun ad had e => by have := hblk ad had; omega)
      have HV := hid (vreply_any z0 0 (.slice a5 (n - 2) c5) 0 0 false 0 (.slice none 0 0) Y [] (w5.setCell ⟨w.heap.size + 1, 2, none⟩ (.slice a5 (n - 2) c5)) hb66 (Obs.nil _) V hV)
      have HB6 := hid hb66
      obtain ⟨e0, e1, e2, e3, e4, e5, e6, e7⟩ : (w5.setCell ⟨w.heap.size + 1, 2, none⟩ (.slice a5 (n - 2) c5)).cell? ⟨(w.heap.size + 1), 0, none⟩ = some (.int .i64 z0) ∧ (w5.setCell ⟨w.heap.size + 1, 2, none⟩ (.slice a5 (n - 2) c5)).cell? ⟨(w.heap.size + 1), 1, none⟩ = some (.int .i64 0) ∧ (w5.setCell ⟨w.heap.size + 1, 2, none⟩ (.slice a5 (n - 2) c5)).cell? ⟨(w.heap.size + 1), 2, none⟩ = some (.slice a5 (n - 2) c5) ∧ (w5.setCell ⟨w.heap.size + 1, 2, none⟩ (.slice a5 (n - 2) c5)).cell? ⟨(w.heap.size + 1), 3, none⟩ = some (.int .i64 0) ∧ (w5.setCell ⟨w.heap.size + 1, 2, none⟩ (.slice a5 (n - 2) c5)).cell? ⟨(w.heap.size + 1), 4, none⟩ = some (.int .i64 0) ∧ (w5.setCell ⟨w.heap.size + 1, 2, none⟩ (.slice a5 (n - 2) c5)).cell? ⟨(w.heap.size + 1), 5, none⟩ = some (.bool false) ∧ (w5.setCell ⟨w.heap.size + 1, 2, none⟩ (.slice a5 (n - 2) c5)).cell? ⟨(w.heap.size + 1), 6, none⟩ = some (.int .i64 0) ∧ (w5.setCell ⟨w.heap.size + 1, 2, none⟩ (.slice a5 (n - 2) c5)).cell? ⟨(w.heap.size + 1), 7, none⟩ = some (.slice none 0 0) := ⟨hpCell gR6 0, hpCell gR6 1, hpCell gR6 2, hpCell gR6 3, hpCell gR6 4, hpCell gR6 5, hpCell gR6 6, hpCell gR6 7⟩
      clear hown5 hgr5 hb5 hb55 hb66 hV gZ5 gR5
      go_wp2_with fail
      refine HV.out.mono ?_
      rintro r w7 ⟨rfl, hb7⟩
      have gZ7 := hpKeep gZ6 hb7
      have gR7 := hpKeep gR6 hb7
      have hbw7 := bt hbw6 hb7 (Nat.le_refl _)
      have HB7 := hid (HB6.out.keep hb7)
      clear e0 e1 e3 e4 e5 e6 e7 gZ6 gR6 hb7
      cases V with
      | false =>
        have HN : Hid (Rp.dec b = none) := by show _ = _; rw [HD.out, if_neg (by decide)]
        go_wp2_with (refine wpList_storeW rfl 53 (.tmp 2) (.tmp 126) rfl w.heap.size 0 _ _ (#[.int .i64 0, .int .i64 0, .slice none 0 0, .int .i64 0, .int .i64 0, .bool false, .int .i64 0, .slice none 0 0]) rfl rfl gZ7 (by simp) (by kernel_rfl) (by rfl) ?_; intro w4 g4 hk4 hz4)
        obtain ⟨q0, q1, q2, q3, q4, q5, q6, q7⟩ : w4.cell? ⟨w.heap.size, 0, none⟩ = some (.int .i64 0) ∧ w4.cell? ⟨w.heap.size, 1, none⟩ = some (.int .i64 0) ∧ w4.cell? ⟨w.heap.size, 2, none⟩ = some (.slice none 0 0) ∧ w4.cell? ⟨w.heap.size, 3, none⟩ = some (.int .i64 0) ∧ w4.cell? ⟨w.heap.size, 4, none⟩ = some (.int .i64 0) ∧ w4.cell? ⟨w.heap.size, 5, none⟩ = some (.bool false) ∧ w4.cell? ⟨w.heap.size, 6, none⟩ = some (.int .i64 0) ∧ w4.cell? ⟨w.heap.size, 7, none⟩ = some (.slice none 0 0) := ⟨hpCell g4 0, hpCell g4 1, hpCell g4 2, hpCell g4 3, hpCell g4 4, hpCell g4 5, hpCell g4 6, hpCell g4 7⟩
        refine bodyPost_ret (v := .tuple #[.agg #[.int .i64 0, .int .i64 0, .slice none 0 0, .int .i64 0, .int .i64 0, .bool false, .int .i64 0, .slice none 0 0], .int .i64 5]) (by simp [results, Tryz.results106, go_sem, q0, q1, q2, q3, q4, q5, q6, q7]) rfl ?_
        exact DecPost.err HN.out 5 (by decide) (by decide) (hbw7.trans (hk4.below hbw7.size (fun k hk e => by omega)))
      | true =>
        have HS : Hid (Rp.dec b = some (Rp.dataOf z0 Y)) := by show _ = _; rw [HD.out, if_pos rfl]
        obtain ⟨e0, e1, e2, e3, e4, e5, e6, e7⟩ : w7.cell? ⟨(w.heap.size + 1), 0, none⟩ = some (.int .i64 z0) ∧ w7.cell? ⟨(w.heap.size + 1), 1, none⟩ = some (.int .i64 0) ∧ w7.cell? ⟨(w.heap.size + 1), 2, none⟩ = some (.slice a5 (n - 2) c5) ∧ w7.cell? ⟨(w.heap.size + 1), 3, none⟩ = some (.int .i64 0) ∧ w7.cell? ⟨(w.heap.size + 1), 4, none⟩ = some (.int .i64 0) ∧ w7.cell? ⟨(w.heap.size + 1), 5, none⟩ = some (.bool false) ∧ w7.cell? ⟨(w.heap.size + 1), 6, none⟩ = some (.int .i64 0) ∧ w7.cell? ⟨(w.heap.size + 1), 7, none⟩ = some (.slice none 0 0) := ⟨hpCell gR7 0, hpCell gR7 1, hpCell gR7 2, hpCell gR7 3, hpCell gR7 4, hpCell gR7 5, hpCell gR7 6, hpCell gR7 7⟩
        go_wp2_with (refine wpList_storeW rfl 53 (.tmp 2) (.tmp 127) rfl w.heap.size 0 _ _ (#[.int .i64 z0, .int .i64 0, .slice a5 (n - 2) c5, .int .i64 0, .int .i64 0, .bool false, .int .i64 0, .slice none 0 0]) rfl rfl gZ7 (by simp) (by kernel_rfl) (by rfl) ?_; intro w4 g4 hk4 hz4)
        obtain ⟨q0, q1, q2, q3, q4, q5, q6, q7⟩ : w4.cell? ⟨w.heap.size, 0, none⟩ = some (.int .i64 z0) ∧ w4.cell? ⟨w.heap.size, 1, none⟩ = some (.int .i64 0) ∧ w4.cell? ⟨w.heap.size, 2, none⟩ = some (.slice a5 (n - 2) c5) ∧ w4.cell? ⟨w.heap.size, 3, none⟩ = some (.int .i64 0) ∧ w4.cell? ⟨w.heap.size, 4, none⟩ = some (.int .i64 0) ∧ w4.cell? ⟨w.heap.size, 5, none⟩ = some (.bool false) ∧ w4.cell? ⟨w.heap.size, 6, none⟩ = some (.int .i64 0) ∧ w4.cell? ⟨w.heap.size, 7, none⟩ = some (.slice none 0 0) := ⟨hpCell g4 0, hpCell g4 1, hpCell g4 2, hpCell g4 3, hpCell g4 4, hpCell g4 5, hpCell g4 6, hpCell g4 7⟩
        refine bodyPost_ret (v := .tuple #[.agg #[.int .i64 z0, .int .i64 0, .slice a5 (n - 2) c5, .int .i64 0, .int .i64 0, .bool false, .int .i64 0, .slice none 0 0], .int .i64 0]) (by simp [results, Tryz.results106, go_sem, q0, q1, q2, q3, q4, q5, q6, q7]) rfl ?_
        have hfin : ∀ W, Agree w.heap.size w4 W → Bs W (.slice a5 (n - 2) c5) Y := fun W hW =>
          (HB7.out.keepF hk4 (fun ad had e => by have := hblk ad had; omega)).agree (fun ad had => by have := hblk ad had; omega) hW
        rw [← HYL.out] at hfin ⊢
        exact DecPost.is (x := Rp.dataOf z0 Y) (oa := none) (oc := 0) HS.out (fun W hW => ⟨hfin W hW, Obs.nil _, by show (0 : Int) ≤ _; decide, by show _ ≤ (0 : Int); decide⟩) (hbw7.trans (hk4.below hbw7.size (fun k hk e => by omega)))
  · have HN : Hid (Rp.dec b = none) := by show _ = _; rw [hD, if_neg h1]
    have h1' : (z1 != (n : Int) - 2) = true := by rw [bne_iff_ne]; exact h1
    clear hD h1
    go_enter Tryz.func106, Tryz.ntmps106
    go_wp2_with fail
    refine (HK.out _).mono ?_
    rintro r w1 ⟨rfl, rfl⟩
    go_wp2
    refine bodyPost_ret (v := .tuple #[.agg #[.int .i64 0, .int .i64 0, .slice none 0 0, .int .i64 0, .int .i64 0, .bool false, .int .i64 0, .slice none 0 0], .int .i64 17]) (by simp [results, Tryz.results106, go_sem]) rfl ?_
    exact DecPost.err HN.out 17 (by decide) (by decide) (kB _ _)

end Go.Proofs.YtipnamoocemeeaaGreat
