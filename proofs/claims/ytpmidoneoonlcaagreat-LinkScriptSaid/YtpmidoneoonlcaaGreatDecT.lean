/-
  The contract of reply.Decode at all bytes.
-/
import Derived.Test.YtpmidoneoonlcaaGreatDecR
import Derived.Test.YtpmidoneoonlcaaGreatDecDev
namespace Go.Proofs.YtpmidoneoonlcaaGreat
open Go.RowKit

set_option maxRecDepth 100000 in
set_option maxHeartbeats 3200000 in
theorem rdecD (a : Option Addr) (n c : Nat) (b : List UInt8) (w : World) (hb : Bs w (.slice a n c) b) (h2 : 2 ≤ n) (h3 : n ≤ 253) (h43 : bAt b 0 = 43) :
    Calls Tryz.prog 80 #[.slice a n c] w (DecPost w (Rp.dec b)) := by
  obtain ⟨hbn, hnc, hcm⟩ := hb.capOf
  unfold maxLen at hcm
  have HD := hid (dec_dev (b := b) (by omega) h43)
  have HB := hid hb
  obtain ⟨blk, off, rfl, y0⟩ := hb.byte (i := 0) (by omega)
  have y0' : w.cell? ⟨blk, off, none⟩ = some (.int .u8 (bAt b 0)) := y0
  have c0 : ∀ W, Below w.heap.size w W → W.cell? ⟨blk, off, none⟩ = some (.int .u8 43) := fun W h => by rw [← h43]; exact cell_keep h y0'
  have kA : ∀ X, Below w.heap.size w (w.alloc X) := fun X => bal'' w X
  have HK : Hid (∀ W, Calls Tryz.prog 91 #[.int .i64 (-85)] W fun r w' => r = .returned (.bool false) ∧ W = w') := fun W => known_any (-85) W
  have HK2 : Hid (∀ W, Calls Tryz.prog 91 #[.int .i64 43] W fun r w' => r = .returned (.bool true) ∧ W = w') := fun W => known_any 43 W
  have hn2 : ¬ n < 2 := by omega
  have hn3 : ¬ 253 < n := by omega
  have HV : Hid (∀ X, Calls Tryz.prog 92 #[.slice (some ⟨blk, off, none⟩) n c] (w.alloc X) (DecPost (w.alloc X) (decDev b))) := fun X => dev_any _ n c b _ (HB.out.keep (bal'' w X)) h2 h3
  clear hb hbn y0 y0' h43
  go_enter Tryz.func80, Tryz.ntmps80
  go_wp2_with fail
  refine (HK.out _).mono ?_
  rintro r w1 ⟨rfl, rfl⟩
  go_wp2_with fail
  refine (HK2.out _).mono ?_
  rintro r w1 ⟨rfl, rfl⟩
  go_wp2_with fail
  refine (HV.out _).mono ?_
  rintro r w5 hp
  rcases hp with ⟨x, da, dc, oa, oc, ho, rfl, hx, hb5⟩ | ⟨e, he1, he2, ho, rfl, hb5⟩
  · have HS : Hid (Rp.dec b = some x) := HD.out.trans ho
    have HX := hid hx
    have gZ5 : w5.heap[w.heap.size]? = some (.cells #[.int .i64 0, .int .i64 0, .slice none 0 0, .int .i64 0, .int .i64 0, .bool false, .int .i64 0, .slice none 0 0] 48) := hpKeep (hpNew w _) hb5
    have hbw5 := bt (kA _) hb5 (Nat.le_refl _)
    clear ho hx
    go_wp2_with (refine wpList_storeW rfl 48 (.tmp 2) (.tmp 49) rfl w.heap.size 0 _ _ (#[.int .i64 x.fn, .int .i64 x.exc, .slice da x.data.length dc, .int .i64 x.code, .int .i64 x.level, .bool x.more, .int .i64 x.next, .slice oa x.objs.length oc]) rfl rfl gZ5 (by simp) (by kernel_rfl) (by rfl) ?_; intro w4 g4 hk4 hz4)
    obtain ⟨q0, q1, q2, q3, q4, q5, q6, q7⟩ : w4.cell? ⟨w.heap.size, 0, none⟩ = some (.int .i64 x.fn) ∧ w4.cell? ⟨w.heap.size, 1, none⟩ = some (.int .i64 x.exc) ∧ w4.cell? ⟨w.heap.size, 2, none⟩ = some (.slice da x.data.length dc) ∧ w4.cell? ⟨w.heap.size, 3, none⟩ = some (.int .i64 x.code) ∧ w4.cell? ⟨w.heap.size, 4, none⟩ = some (.int .i64 x.level) ∧ w4.cell? ⟨w.heap.size, 5, none⟩ = some (.bool x.more) ∧ w4.cell? ⟨w.heap.size, 6, none⟩ = some (.int .i64 x.next) ∧ w4.cell? ⟨w.heap.size, 7, none⟩ = some (.slice oa x.objs.length oc) := ⟨hpCell g4 0, hpCell g4 1, hpCell g4 2, hpCell g4 3, hpCell g4 4, hpCell g4 5, hpCell g4 6, hpCell g4 7⟩
    refine bodyPost_ret (v := .tuple #[.agg #[.int .i64 x.fn, .int .i64 x.exc, .slice da x.data.length dc, .int .i64 x.code, .int .i64 x.level, .bool x.more, .int .i64 x.next, .slice oa x.objs.length oc], .int .i64 0]) (by simp [results, Tryz.results80, go_sem, q0, q1, q2, q3, q4, q5, q6, q7]) rfl ?_
    refine DecPost.is HS.out (fun W hW => HX.out W ?_) (hbw5.trans (hk4.below hbw5.size (fun k hk e => by omega)))
    exact (Agree.of_keeps (B := (w.alloc (.cells #[.int .i64 0, .int .i64 0, .slice none 0 0, .int .i64 0, .int .i64 0, .bool false, .int .i64 0, .slice none 0 0] 48)).heap.size) hk4 (fun k e => by simp; omega)).trans (hW.mono (by simp))
  · have HN : Hid (Rp.dec b = none) := HD.out.trans ho
    have gZ5 : w5.heap[w.heap.size]? = some (.cells #[.int .i64 0, .int .i64 0, .slice none 0 0, .int .i64 0, .int .i64 0, .bool false, .int .i64 0, .slice none 0 0] 48) := hpKeep (hpNew w _) hb5
    have hbw5 := bt (kA _) hb5 (Nat.le_refl _)
    clear ho
    go_wp2_with (refine wpList_storeW rfl 48 (.tmp 2) (.tmp 49) rfl w.heap.size 0 _ _ (#[.int .i64 0, .int .i64 0, .slice none 0 0, .int .i64 0, .int .i64 0, .bool false, .int .i64 0, .slice none 0 0]) rfl rfl gZ5 (by simp) (by kernel_rfl) (by rfl) ?_; intro w4 g4 hk4 hz4)
    obtain ⟨q0, q1, q2, q3, q4, q5, q6, q7⟩ : w4.cell? ⟨w.heap.size, 0, none⟩ = some (.int .i64 0) ∧ w4.cell? ⟨w.heap.size, 1, none⟩ = some (.int .i64 0) ∧ w4.cell? ⟨w.heap.size, 2, none⟩ = some (.slice none 0 0) ∧ w4.cell? ⟨w.heap.size, 3, none⟩ = some (.int .i64 0) ∧ w4.cell? ⟨w.heap.size, 4, none⟩ = some (.int .i64 0) ∧ w4.cell? ⟨w.heap.size, 5, none⟩ = some (.bool false) ∧ w4.cell? ⟨w.heap.size, 6, none⟩ = some (.int .i64 0) ∧ w4.cell? ⟨w.heap.size, 7, none⟩ = some (.slice none 0 0) := ⟨hpCell g4 0, hpCell g4 1, hpCell g4 2, hpCell g4 3, hpCell g4 4, hpCell g4 5, hpCell g4 6, hpCell g4 7⟩
    refine bodyPost_ret (v := .tuple #[.agg #[.int .i64 0, .int .i64 0, .slice none 0 0, .int .i64 0, .int .i64 0, .bool false, .int .i64 0, .slice none 0 0], .int .i64 e]) (by simp [results, Tryz.results80, go_sem, q0, q1, q2, q3, q4, q5, q6, q7]) rfl ?_
    exact DecPost.err HN.out e he1 he2 (hbw5.trans (hk4.below hbw5.size (fun k hk e => by omega)))

theorem rdec_any (a : Option Addr) (n c : Nat) (b : List UInt8) (w : World) (hb : Bs w (.slice a n c) b) :
    Calls Tryz.prog 80 #[.slice a n c] w (DecPost w (Rp.dec b)) := by
  by_cases h : n < 2 ∨ 253 < n
  · exact rdecA a n c b w hb h
  · cases hk : knownB (bAt b 0 - 128) with
    | true => exact rdecB a n c b w hb (by omega) (by omega) hk
    | false =>
      cases hk2 : knownB (bAt b 0) with
      | false => exact rdecC a n c b w hb (by omega) (by omega) hk hk2
      | true =>
        by_cases h43 : bAt b 0 = 43
        · exact rdecD a n c b w hb (by omega) (by omega) h43
        · exact rdecE a n c b w hb (by omega) (by omega) hk2 h43

end Go.Proofs.YtpmidoneoonlcaaGreat
