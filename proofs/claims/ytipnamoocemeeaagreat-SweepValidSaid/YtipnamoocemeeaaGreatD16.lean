/-
  Texts 16 of the claim.
-/
import Derived.Test.YtipnamoocemeeaaGreatD15
namespace Go.Proofs.YtipnamoocemeeaaGreat
open Go.RowKit
set_option maxRecDepth 100000 in
set_option maxHeartbeats 3200000 in
theorem pnext_once_go (g b : Nat) (A : Array Value) (w : World) (h : w.heap[g]? = some (.cells A 143)) (h8 : A[8]? = some (.iface 145 (.pointer (some ⟨b, 0, none⟩)))) (q : Rq) (V : Bool)
    (HN : Hid (∀ X, Below w.heap.size w X → Calls Tryz.prog 193 #[.pointer (some ⟨b, 0, none⟩)] X (AskPost X q V))) :
    Calls Tryz.prog 49 #[.pointer (some ⟨g, 0, none⟩)] w (AskPost w q V) := by
  have hm2 : ∀ (a : Addr) (w : World), (method 361 145 (.pointer (some a)) "Next").run Tryz.prog w = .ok (193, .pointer (some a)) w := fun _ _ => by kernel_rfl
  have hm4 : ∀ (a : Addr) (w : World), (nilAhead 361 145 (.pointer (some a)) "Next").run Tryz.prog w = .ok (some false) w := fun _ _ => by kernel_rfl
  obtain ⟨W0, hW0⟩ : ∃ W, w.alloc (.cells #[.int .i64 0, .int .i64 0, .int .i64 0, .int .i64 0, .int .i64 0] 39) = W := ⟨_, rfl⟩; have hgl : g < w.heap.size := hpLt h; have hgn : g ≠ w.heap.size := (by omega); have hb0 : Below w.heap.size w W0 := (by rw [← hW0]; exact bal' w _); have p0 : W0.heap[w.heap.size]? = some (.cells #[.int .i64 0, .int .i64 0, .int .i64 0, .int .i64 0, .int .i64 0] 39) := (by rw [← hW0]; exact hpNew w _); have h0 := hpKeep h hb0
  have c8 : W0.cell? ⟨g, 8, none⟩ = some (.iface 145 (.pointer (some ⟨b, 0, none⟩))) := by rw [hpCell h0 8]; exact h8
  have z : ∀ X, Below W0.heap.size W0 X → ∀ i, X.cell? ⟨w.heap.size, i, none⟩ = (#[.int .i64 0, .int .i64 0, .int .i64 0, .int .i64 0, .int .i64 0] : Array Value)[i]? := fun X k i => hpCell (hpKeep p0 k) i
  have y : ∀ X, Below W0.heap.size W0 X → ∀ i, X.frozen? ⟨w.heap.size, i, none⟩ = false := fun X k i => hpFree (hpKeep p0 k) i
  have HW0 := hid hW0
  have HB0 := hid hb0
  have HN1 := hid (HN.out W0 hb0)
  have Z := hid z
  have Y := hid y
  clear hW0 hb0 p0 h h0 h8 HN z y
  go_enter Tryz.func49, Tryz.ntmps49
  go_upto_region 1 with (fail)
  rw [HW0.out]
  go_wp2_with (go_at_call 193; (with_reducible refine HN1.out.mono ?_); rintro r w2 ⟨rfl, hb2⟩; have z0 : w2.cell? ⟨w.heap.size, 0, none⟩ = some (.int .i64 0) := Z.out _ hb2 0; have z1 : w2.cell? ⟨w.heap.size, 1, none⟩ = some (.int .i64 0) := Z.out _ hb2 1; have z2 : w2.cell? ⟨w.heap.size, 2, none⟩ = some (.int .i64 0) := Z.out _ hb2 2; have z3 : w2.cell? ⟨w.heap.size, 3, none⟩ = some (.int .i64 0) := Z.out _ hb2 3; have z4 : w2.cell? ⟨w.heap.size, 4, none⟩ = some (.int .i64 0) := Z.out _ hb2 4; have y0 := Y.out _ hb2 0; have y1 := Y.out _ hb2 1; have y2 := Y.out _ hb2 2; have y3 := Y.out _ hb2 3; have y4 := Y.out _ hb2 4)
  refine bodyPost_ret (v := .tuple #[.agg #[.int .i64 q.fn, .int .i64 q.addr, .int .i64 q.qty, .int .i64 q.code, .int .i64 q.obj], .bool V]) (by simp [results, Tryz.results49, go_sem, z0, z1, z2, z3, z4]) rfl ⟨rfl, ?_⟩
  exact (((((bt HB0.out hb2 (Nat.le_refl _)).setCell (p := ⟨w.heap.size, 0, none⟩) (Nat.le_refl _) _).setCell (p := ⟨w.heap.size, 1, none⟩) (Nat.le_refl _) _).setCell (p := ⟨w.heap.size, 2, none⟩) (Nat.le_refl _) _).setCell (p := ⟨w.heap.size, 3, none⟩) (Nat.le_refl _) _).setCell (p := ⟨w.heap.size, 4, none⟩) (Nat.le_refl _) _
set_option maxRecDepth 100000 in
set_option maxHeartbeats 3200000 in
theorem pnext_ident_go (g b : Nat) (A : Array Value) (w : World) (h : w.heap[g]? = some (.cells A 143)) (h8 : A[8]? = some (.iface 188 (.pointer (some ⟨b, 0, none⟩)))) (q : Rq) (V : Bool)
    (HN : Hid (∀ X, Below w.heap.size w X → Calls Tryz.prog 195 #[.pointer (some ⟨b, 0, none⟩)] X (AskPost X q V))) :
    Calls Tryz.prog 49 #[.pointer (some ⟨g, 0, none⟩)] w (AskPost w q V) := by
  have hm2 : ∀ (a : Addr) (w : World), (method 361 188 (.pointer (some a)) "Next").run Tryz.prog w = .ok (195, .pointer (some a)) w := fun _ _ => by kernel_rfl
  have hm4 : ∀ (a : Addr) (w : World), (nilAhead 361 188 (.pointer (some a)) "Next").run Tryz.prog w = .ok (some false) w := fun _ _ => by kernel_rfl
  obtain ⟨W0, hW0⟩ : ∃ W, w.alloc (.cells #[.int .i64 0, .int .i64 0, .int .i64 0, .int .i64 0, .int .i64 0] 39) = W := ⟨_, rfl⟩; have hgl : g < w.heap.size := hpLt h; have hgn : g ≠ w.heap.size := (by omega); have hb0 : Below w.heap.size w W0 := (by rw [← hW0]; exact bal' w _); have p0 : W0.heap[w.heap.size]? = some (.cells #[.int .i64 0, .int .i64 0, .int .i64 0, .int .i64 0, .int .i64 0] 39) := (by rw [← hW0]; exact hpNew w _); have h0 := hpKeep h hb0
  have c8 : W0.cell? ⟨g, 8, none⟩ = some (.iface 188 (.pointer (some ⟨b, 0, none⟩))) := by rw [hpCell h0 8]; exact h8
  have z : ∀ X, Below W0.heap.size W0 X → ∀ i, X.cell? ⟨w.heap.size, i, none⟩ = (#[.int .i64 0, .int .i64 0, .int .i64 0, .int .i64 0, .int .i64 0] : Array Value)[i]? := fun X k i => hpCell (hpKeep p0 k) i
  have y : ∀ X, Below W0.heap.size W0 X → ∀ i, X.frozen? ⟨w.heap.size, i, none⟩ = false := fun X k i => hpFree (hpKeep p0 k) i
  have HW0 := hid hW0
  have HB0 := hid hb0
  have HN1 := hid (HN.out W0 hb0)
  have Z := hid z
  have Y := hid y
  clear hW0 hb0 p0 h h0 h8 HN z y
  go_enter Tryz.func49, Tryz.ntmps49
  go_upto_region 1 with (fail)
  rw [HW0.out]
  go_wp2_with (go_at_call 195; (with_reducible refine HN1.out.mono ?_); rintro r w2 ⟨rfl, hb2⟩; have z0 : w2.cell? ⟨w.heap.size, 0, none⟩ = some (.int .i64 0) := Z.out _ hb2 0; have z1 : w2.cell? ⟨w.heap.size, 1, none⟩ = some (.int .i64 0) := Z.out _ hb2 1; have z2 : w2.cell? ⟨w.heap.size, 2, none⟩ = some (.int .i64 0) := Z.out _ hb2 2; have z3 : w2.cell? ⟨w.heap.size, 3, none⟩ = some (.int .i64 0) := Z.out _ hb2 3; have z4 : w2.cell? ⟨w.heap.size, 4, none⟩ = some (.int .i64 0) := Z.out _ hb2 4; have y0 := Y.out _ hb2 0; have y1 := Y.out _ hb2 1; have y2 := Y.out _ hb2 2; have y3 := Y.out _ hb2 3; have y4 := Y.out _ hb2 4)
  refine bodyPost_ret (v := .tuple #[.agg #[.int .i64 q.fn, .int .i64 q.addr, .int .i64 q.qty, .int .i64 q.code, .int .i64 q.obj], .bool V]) (by simp [results, Tryz.results49, go_sem, z0, z1, z2, z3, z4]) rfl ⟨rfl, ?_⟩
  exact (((((bt HB0.out hb2 (Nat.le_refl _)).setCell (p := ⟨w.heap.size, 0, none⟩) (Nat.le_refl _) _).setCell (p := ⟨w.heap.size, 1, none⟩) (Nat.le_refl _) _).setCell (p := ⟨w.heap.size, 2, none⟩) (Nat.le_refl _) _).setCell (p := ⟨w.heap.size, 3, none⟩) (Nat.le_refl _) _).setCell (p := ⟨w.heap.size, 4, none⟩) (Nat.le_refl _) _
set_option maxRecDepth 100000 in
set_option maxHeartbeats 3200000 in
theorem pnext_seek_go (g b : Nat) (A : Array Value) (w : World) (h : w.heap[g]? = some (.cells A 143)) (h8 : A[8]? = some (.iface 221 (.pointer (some ⟨b, 0, none⟩)))) (q : Rq) (V : Bool)
    (HN : Hid (∀ X, Below w.heap.size w X → Calls Tryz.prog 198 #[.pointer (some ⟨b, 0, none⟩)] X (AskPost X q V))) :
    Calls Tryz.prog 49 #[.pointer (some ⟨g, 0, none⟩)] w (AskPost w q V) := by
  have hm2 : ∀ (a : Addr) (w : World), (method 361 221 (.pointer (some a)) "Next").run Tryz.prog w = .ok (198, .pointer (some a)) w := fun _ _ => by kernel_rfl
  have hm4 : ∀ (a : Addr) (w : World), (nilAhead 361 221 (.pointer (some a)) "Next").run Tryz.prog w = .ok (some false) w := fun _ _ => by kernel_rfl
  obtain ⟨W0, hW0⟩ : ∃ W, w.alloc (.cells #[.int .i64 0, .int .i64 0, .int .i64 0, .int .i64 0, .int .i64 0] 39) = W := ⟨_, rfl⟩; have hgl : g < w.heap.size := hpLt h; have hgn : g ≠ w.heap.size := (by omega); have hb0 : Below w.heap.size w W0 := (by rw [← hW0]; exact bal' w _); have p0 : W0.heap[w.heap.size]? = some (.cells #[.int .i64 0, .int .i64 0, .int .i64 0, .int .i64 0, .int .i64 0] 39) := (by rw [← hW0]; exact hpNew w _); have h0 := hpKeep h hb0
  have c8 : W0.cell? ⟨g, 8, none⟩ = some (.iface 221 (.pointer (some ⟨b, 0, none⟩))) := by rw [hpCell h0 8]; exact h8
  have z : ∀ X, Below W0.heap.size W0 X → ∀ i, X.cell? ⟨w.heap.size, i, none⟩ = (#[.int .i64 0, .int .i64 0, .int .i64 0, .int .i64 0, .int .i64 0] : Array Value)[i]? := fun X k i => hpCell (hpKeep p0 k) i
  have y : ∀ X, Below W0.heap.size W0 X → ∀ i, X.frozen? ⟨w.heap.size, i, none⟩ = false := fun X k i => hpFree (hpKeep p0 k) i
  have HW0 := hid hW0
  have HB0 := hid hb0
  have HN1 := hid (HN.out W0 hb0)
  have Z := hid z
  have Y := hid y
  clear hW0 hb0 p0 h h0 h8 HN z y
  go_enter Tryz.func49, Tryz.ntmps49
  go_upto_region 1 with (fail)
  rw [HW0.out]
  go_wp2_with (go_at_call 198; (with_reducible refine HN1.out.mono ?_); rintro r w2 ⟨rfl, hb2⟩; have z0 : w2.cell? ⟨w.heap.size, 0, none⟩ = some (.int .i64 0) := Z.out _ hb2 0; have z1 : w2.cell? ⟨w.heap.size, 1, none⟩ = some (.int .i64 0) := Z.out _ hb2 1; have z2 : w2.cell? ⟨w.heap.size, 2, none⟩ = some (.int .i64 0) := Z.out _ hb2 2; have z3 : w2.cell? ⟨w.heap.size, 3, none⟩ = some (.int .i64 0) := Z.out _ hb2 3; have z4 : w2.cell? ⟨w.heap.size, 4, none⟩ = some (.int .i64 0) := Z.out _ hb2 4; have y0 := Y.out _ hb2 0; have y1 := Y.out _ hb2 1; have y2 := Y.out _ hb2 2; have y3 := Y.out _ hb2 3; have y4 := Y.out _ hb2 4)
  refine bodyPost_ret (v := .tuple #[.agg #[.int .i64 q.fn, .int .i64 q.addr, .int .i64 q.qty, .int .i64 q.code, .int .i64 q.obj], .bool V]) (by simp [results, Tryz.results49, go_sem, z0, z1, z2, z3, z4]) rfl ⟨rfl, ?_⟩
  exact (((((bt HB0.out hb2 (Nat.le_refl _)).setCell (p := ⟨w.heap.size, 0, none⟩) (Nat.le_refl _) _).setCell (p := ⟨w.heap.size, 1, none⟩) (Nat.le_refl _) _).setCell (p := ⟨w.heap.size, 2, none⟩) (Nat.le_refl _) _).setCell (p := ⟨w.heap.size, 3, none⟩) (Nat.le_refl _) _).setCell (p := ⟨w.heap.size, 4, none⟩) (Nat.le_refl _) _
set_option maxRecDepth 100000 in
set_option maxHeartbeats 3200000 in
theorem pnext_map_go (g b : Nat) (A : Array Value) (w : World) (h : w.heap[g]? = some (.cells A 143)) (h8 : A[8]? = some (.iface 226 (.pointer (some ⟨b, 0, none⟩)))) (q : Rq) (V : Bool)
    (HN : Hid (∀ X, Below w.heap.size w X → Calls Tryz.prog 202 #[.pointer (some ⟨b, 0, none⟩)] X (AskPost X q V))) :
    Calls Tryz.prog 49 #[.pointer (some ⟨g, 0, none⟩)] w (AskPost w q V) := by
  have hm2 : ∀ (a : Addr) (w : World), (method 361 226 (.pointer (some a)) "Next").run Tryz.prog w = .ok (202, .pointer (some a)) w := fun _ _ => by kernel_rfl
  have hm4 : ∀ (a : Addr) (w : World), (nilAhead 361 226 (.pointer (some a)) "Next").run Tryz.prog w = .ok (some false) w := fun _ _ => by kernel_rfl
  obtain ⟨W0, hW0⟩ : ∃ W, w.alloc (.cells #[.int .i64 0, .int .i64 0, .int .i64 0, .int .i64 0, .int .i64 0] 39) = W := ⟨_, rfl⟩; have hgl : g < w.heap.size := hpLt h; have hgn : g ≠ w.heap.size := (by omega); have hb0 : Below w.heap.size w W0 := (by rw [← hW0]; exact bal' w _); have p0 : W0.heap[w.heap.size]? = some (.cells #[.int .i64 0, .int .i64 0, .int .i64 0, .int .i64 0, .int .i64 0] 39) := (by rw [← hW0]; exact hpNew w _); have h0 := hpKeep h hb0
  have c8 : W0.cell? ⟨g, 8, none⟩ = some (.iface 226 (.pointer (some ⟨b, 0, none⟩))) := by rw [hpCell h0 8]; exact h8
  have z : ∀ X, Below W0.heap.size W0 X → ∀ i, X.cell? ⟨w.heap.size, i, none⟩ = (#[.int .i64 0, .int .i64 0, .int .i64 0, .int .i64 0, .int .i64 0] : Array Value)[i]? := fun X k i => hpCell (hpKeep p0 k) i
  have y : ∀ X, Below W0.heap.size W0 X → ∀ i, X.frozen? ⟨w.heap.size, i, none⟩ = false := fun X k i => hpFree (hpKeep p0 k) i
  have HW0 := hid hW0
  have HB0 := hid hb0
  have HN1 := hid (HN.out W0 hb0)
  have Z := hid z
  have Y := hid y
  clear hW0 hb0 p0 h h0 h8 HN z y
  go_enter Tryz.func49, Tryz.ntmps49
  go_upto_region 1 with (fail)
  rw [HW0.out]
  go_wp2_with (go_at_call 202; (with_reducible refine HN1.out.mono ?_); rintro r w2 ⟨rfl, hb2⟩; have z0 : w2.cell? ⟨w.heap.size, 0, none⟩ = some (.int .i64 0) := Z.out _ hb2 0; have z1 : w2.cell? ⟨w.heap.size, 1, none⟩ = some (.int .i64 0) := Z.out _ hb2 1; have z2 : w2.cell? ⟨w.heap.size, 2, none⟩ = some (.int .i64 0) := Z.out _ hb2 2; have z3 : w2.cell? ⟨w.heap.size, 3, none⟩ = some (.int .i64 0) := Z.out _ hb2 3; have z4 : w2.cell? ⟨w.heap.size, 4, none⟩ = some (.int .i64 0) := Z.out _ hb2 4; have y0 := Y.out _ hb2 0; have y1 := Y.out _ hb2 1; have y2 := Y.out _ hb2 2; have y3 := Y.out _ hb2 3; have y4 := Y.out _ hb2 4)
  refine bodyPost_ret (v := .tuple #[.agg #[.int .i64 q.fn, .int .i64 q.addr, .int .i64 q.qty, .int .i64 q.code, .int .i64 q.obj], .bool V]) (by simp [results, Tryz.results49, go_sem, z0, z1, z2, z3, z4]) rfl ⟨rfl, ?_⟩
  exact (((((bt HB0.out hb2 (Nat.le_refl _)).setCell (p := ⟨w.heap.size, 0, none⟩) (Nat.le_refl _) _).setCell (p := ⟨w.heap.size, 1, none⟩) (Nat.le_refl _) _).setCell (p := ⟨w.heap.size, 2, none⟩) (Nat.le_refl _) _).setCell (p := ⟨w.heap.size, 3, none⟩) (Nat.le_refl _) _).setCell (p := ⟨w.heap.size, 4, none⟩) (Nat.le_refl _) _
set_option maxRecDepth 100000 in
set_option maxHeartbeats 3200000 in
theorem pnext_done_go (g : Nat) (A : Array Value) (w : World) (h : w.heap[g]? = some (.cells A 143)) (h8 : A[8]? = some .nilIface) :
    Calls Tryz.prog 49 #[.pointer (some ⟨g, 0, none⟩)] w (AskPost w ⟨0, 0, 0, 0, 0⟩ false) := by
  obtain ⟨W0, hW0⟩ : ∃ W, w.alloc (.cells #[.int .i64 0, .int .i64 0, .int .i64 0, .int .i64 0, .int .i64 0] 39) = W := ⟨_, rfl⟩; have hgl : g < w.heap.size := hpLt h; have hgn : g ≠ w.heap.size := (by omega); have hb0 : Below w.heap.size w W0 := (by rw [← hW0]; exact bal' w _); have p0 : W0.heap[w.heap.size]? = some (.cells #[.int .i64 0, .int .i64 0, .int .i64 0, .int .i64 0, .int .i64 0] 39) := (by rw [← hW0]; exact hpNew w _); have h0 := hpKeep h hb0
  have c8 : W0.cell? ⟨g, 8, none⟩ = some .nilIface := by rw [hpCell h0 8]; exact h8
  have z0 : W0.cell? ⟨w.heap.size, 0, none⟩ = some (.int .i64 0) := hpCell p0 0
  have z1 : W0.cell? ⟨w.heap.size, 1, none⟩ = some (.int .i64 0) := hpCell p0 1
  have z2 : W0.cell? ⟨w.heap.size, 2, none⟩ = some (.int .i64 0) := hpCell p0 2
  have z3 : W0.cell? ⟨w.heap.size, 3, none⟩ = some (.int .i64 0) := hpCell p0 3
  have z4 : W0.cell? ⟨w.heap.size, 4, none⟩ = some (.int .i64 0) := hpCell p0 4
  have y0 : W0.frozen? ⟨w.heap.size, 0, none⟩ = false := hpFree p0 0
  have y1 : W0.frozen? ⟨w.heap.size, 1, none⟩ = false := hpFree p0 1
  have y2 : W0.frozen? ⟨w.heap.size, 2, none⟩ = false := hpFree p0 2
  have y3 : W0.frozen? ⟨w.heap.size, 3, none⟩ = false := hpFree p0 3
  have y4 : W0.frozen? ⟨w.heap.size, 4, none⟩ = false := hpFree p0 4
  have HW0 := hid hW0
  have HB0 := hid hb0
  clear hW0 hb0 p0 h h0 h8
  go_enter Tryz.func49, Tryz.ntmps49
  go_upto_region 1 with (fail)
  rw [HW0.out]
  go_wp2
  refine bodyPost_ret (v := .tuple #[.agg #[.int .i64 0, .int .i64 0, .int .i64 0, .int .i64 0, .int .i64 0], .bool false]) (by simp [results, Tryz.results49, go_sem, z0, z1, z2, z3, z4]) rfl ⟨rfl, ?_⟩
  exact ((((HB0.out.setCell (p := ⟨w.heap.size, 0, none⟩) (Nat.le_refl _) _).setCell (p := ⟨w.heap.size, 1, none⟩) (Nat.le_refl _) _).setCell (p := ⟨w.heap.size, 2, none⟩) (Nat.le_refl _) _).setCell (p := ⟨w.heap.size, 3, none⟩) (Nat.le_refl _) _).setCell (p := ⟨w.heap.size, 4, none⟩) (Nat.le_refl _) _
def Ph.isDone : Ph → Bool
  | .done => true
  | _ => false
theorem IdAt.cell {P : Nat → Prop} {W : World} {g : Nat} {x : Idn} {v : Value} {cs : List Value} (h : IdAt P W g x v cs) : W.heap[g]? = some (.cells #[.int .i64 x.st, .int .i64 x.level, v, .int .i64 x.next, .int .i64 x.cnt] 213) := h.at_
theorem pnext_any {P : Nat → Prop} {w : World} {g : Nat} {win : Nat → Int × Int} {p : Pb} (h : PbAt P w g win p) (hok : p.ph.ok win) (q : Rq) (V : Bool) (hq : p.ph.ask = q) (hV : (!p.ph.isDone) = V) :
    Calls Tryz.prog 49 #[.pointer (some ⟨g, 0, none⟩)] w (AskPost w q V) := by
  obtain ⟨Q, pr, af, ov, sv, mv, hP, hQ, hpb, hrd, hpr⟩ := h
  subst hq hV
  match p.ph, hpr, hok with
  | .done, hpr, _ =>
    obtain ⟨rfl, rfl⟩ := hpr
    exact pnext_done_go g _ w hpb rfl
  | .test, hpr, _ =>
    obtain ⟨b, bp, rfl, rfl, hQb, ho, hbp⟩ := hpr
    exact pnext_once_go g b _ w hpb rfl _ _ (fun X hX => once_next b _ _ false X (hpKeep ho hX) true rfl)
  | .server, hpr, _ =>
    obtain ⟨b, bp, bq, rfl, rfl, hQb, ho, hbp, hbq⟩ := hpr
    exact pnext_once_go g b _ w hpb rfl _ _ (fun X hX => once_next b _ _ false X (hpKeep ho hX) true rfl)
  | .ident x, hpr, hok =>
    obtain ⟨b, v, cs, bi, bp, rfl, rfl, hI, hbp, hbi⟩ := hpr
    exact pnext_ident_go g b _ w hpb rfl _ _ (fun X hX => inext_any b x v X (hpKeep hI.at_ hX) _ _ (decide_eq_true hok.2).symm (if_pos hok.2).symm)
  | .seek k s, hpr, hok =>
    obtain ⟨b, bp, bk, bs, rfl, rfl, hk4, hQb, hS, hbp, hbk, hbs⟩ := hpr
    refine pnext_seek_go g b _ w hpb rfl _ _ (fun X hX => ?_)
    have := snext_any b s hok.2.2.1.ok X (hS.keep hX)
    rw [decide_eq_true hok.2.2.2.1] at this
    exact this
  | .map k m, hpr, hok =>
    obtain ⟨b, v, qq, bm, bp, bk, rfl, rfl, hk4, hM, hbp, hbk, hbm⟩ := hpr
    exact pnext_map_go g b _ w hpb rfl _ _ (fun X hX => mnext_any (hM.grow hX Q (fun _ e => e)) hok.2.1 _ _ rfl (by show _ = _; rw [decide_eq_false hok.2.2]; rfl))
theorem PbAt.keep {P : Nat → Prop} {w w' : World} {g : Nat} {win : Nat → Int × Int} {p : Pb} {F : Nat → Prop} (h : PbAt P w g win p) (hk : Keeps F w w') (hF : ∀ j, j < w.heap.size → F j → ¬ P j) : PbAt P w' g win p := by
  obtain ⟨Q, pr, af, ov, sv, mv, hP, hQ, hpb, hrd, hpr⟩ := h
  have hgl : g < w.heap.size := hpLt hpb
  have hk' : Keeps (FQ P Q g) w w' := hk.mono (fun j hj e => .inl (hF j hj e))
  have hst : ∀ {b o}, St (FQ P Q g) w b o → St (FQ P Q g) w' b o := fun h W hW => h W (hk'.trans hW (fun _ _ e => e))
  have hkQ : Keeps (fun j => ¬ P j) w w' := hk.mono hF
  refine ⟨Q, pr, af, ov, sv, mv, hP, fun j hj => ⟨(hQ j hj).1, (hQ j hj).2.1, by have := (hQ j hj).2.2; have := hk.size; omega⟩, hpKeeps hpb hkQ (fun e => e hP), hrd.keeps hk' (fun _ _ e => e) (fun _ _ e => e), ?_⟩
  match p.ph, hpr with
  | .done, hpr => exact hpr
  | .test, hpr =>
    obtain ⟨b, bp, h1, h2, hQb, ho, hbp⟩ := hpr
    exact ⟨b, bp, h1, h2, hQb, hpKeeps ho hkQ (fun e => e (hQ b hQb).1), hst hbp⟩
  | .server, hpr =>
    obtain ⟨b, bp, bq, h1, h2, hQb, ho, hbp, hbq⟩ := hpr
    exact ⟨b, bp, bq, h1, h2, hQb, hpKeeps ho hkQ (fun e => e (hQ b hQb).1), hst hbp, hst hbq⟩
  | .ident x, hpr =>
    obtain ⟨b, v, cs, bi, bp, h1, h2, hI, hbp, hbi⟩ := hpr
    exact ⟨b, v, cs, bi, bp, h1, h2, hI.stay hkQ (fun j hj e => e (hQ j hj).1), hst hbp, hst hbi⟩
  | .seek k s, hpr =>
    obtain ⟨b, bp, bk, bs, h1, h2, hk4, hQb, hS, hbp, hbk, hbs⟩ := hpr
    exact ⟨b, bp, bk, bs, h1, h2, hk4, hQb, hpKeeps hS hkQ (fun e => e (hQ b hQb).1), hst hbp, hst hbk, hst hbs⟩
  | .map k m, hpr =>
    obtain ⟨b, v, qq, bm, bp, bk, h1, h2, hk4, hM, hbp, hbk, hbm⟩ := hpr
    exact ⟨b, v, qq, bm, bp, bk, h1, h2, hk4, ⟨hpKeeps hM.at_ hkQ (fun e => e (hQ b hM.pg).1), hM.own.keeps hkQ (fun j hj e => e (hQ j (hM.pv j hj).1).1), hM.pg, hM.pv⟩, hst hbp, hst hbk, hst hbm⟩
end Go.Proofs.YtipnamoocemeeaaGreat
