/-
  Several texts of this claim in one file.
-/
import Derived.Test.YtliblgmpclefgaaGreatPbh
/-
A probe of the program: the walk of Feed (test, ident).
-/
namespace Go.Proofs.YtliblgmpclefgaaGreat
open Go.RowKit

set_option maxRecDepth 100000 in
set_option maxHeartbeats 3200000 in
theorem pfeed_test_go (g b : Nat) (A : Array Value) (w : World) (h : w.heap[g]? = some (.cells A 82)) (h8 : A[8]? = some (.iface 84 (.pointer (some ⟨b, 0, none⟩)))) (q : Int) (h31 : A[31]? = some (.int .i64 q)) (q' : Int) (sw : IntKind.i64.wrap (q + 1) = q')
    (O : Oc) (da : Option Addr) (dc : Nat) (oa : Option Addr) (oc : Nat) (R1 R2 : World → Prop)
    (HFD : Hid (Calls Tryz.prog 106 #[.pointer (some ⟨b, 0, none⟩), .agg #[.int .i64 O.verdict, .int .i64 O.reply.fn, .int .i64 O.reply.exc, .slice da O.reply.data.length dc, .int .i64 O.reply.code, .int .i64 O.reply.level, .bool O.reply.more, .int .i64 O.reply.next, .slice oa O.reply.objs.length oc]] ((w.alloc (.cells #[.int .i64 O.verdict, .int .i64 O.reply.fn, .int .i64 O.reply.exc, .slice da O.reply.data.length dc, .int .i64 O.reply.code, .int .i64 O.reply.level, .bool O.reply.more, .int .i64 O.reply.next, .slice oa O.reply.objs.length oc] 54)).setCell ⟨g, 31, none⟩ (.int .i64 q')).drew (FeedEnd R1)))
    (HPR : Hid (∀ X, R1 X → X.cell? ⟨g, 8, none⟩ = some (.iface 84 (.pointer (some ⟨b, 0, none⟩))) ∧ X.cell? ⟨g, 9, none⟩ = some (.func (.func 29) #[.pointer (some ⟨g, 0, none⟩)] #[])))
    (qq : Rq) (V : Bool) (HNX : Hid (∀ X, R1 X → Calls Tryz.prog 107 #[.pointer (some ⟨b, 0, none⟩)] X (AskPost X qq V)))
    (HGO : Hid (V = true → ∀ X X', R1 X → Below X.heap.size X X' → R2 X'))
    (HAF : Hid (V = false → ∀ X X', R1 X → Below X.heap.size X X' → Calls Tryz.prog 29 #[.pointer (some ⟨g, 0, none⟩)] X' fun r w' => r = .returned (.tuple #[]) ∧ R2 w')) :
    Calls Tryz.prog 12 #[.pointer (some ⟨g, 0, none⟩), .agg #[.int .i64 O.verdict, .int .i64 O.reply.fn, .int .i64 O.reply.exc, .slice da O.reply.data.length dc, .int .i64 O.reply.code, .int .i64 O.reply.level, .bool O.reply.more, .int .i64 O.reply.next, .slice oa O.reply.objs.length oc]] w (FeedEnd R2) := by
  have hm1 : ∀ (a : Addr) (w : World), (method 274 84 (.pointer (some a)) "Feed").run Tryz.prog w = .ok (106, .pointer (some a)) w := fun _ _ => by kernel_rfl
  have hm2 : ∀ (a : Addr) (w : World), (method 274 84 (.pointer (some a)) "Next").run Tryz.prog w = .ok (107, .pointer (some a)) w := fun _ _ => by kernel_rfl
  have hm3 : ∀ (a : Addr) (w : World), (nilAhead 274 84 (.pointer (some a)) "Feed").run Tryz.prog w = .ok (some false) w := fun _ _ => by kernel_rfl
  have hm4 : ∀ (a : Addr) (w : World), (nilAhead 274 84 (.pointer (some a)) "Next").run Tryz.prog w = .ok (some false) w := fun _ _ => by kernel_rfl
  obtain ⟨W0, hW0⟩ : ∃ W, w.alloc (.cells #[.int .i64 O.verdict, .int .i64 O.reply.fn, .int .i64 O.reply.exc, .slice da O.reply.data.length dc, .int .i64 O.reply.code, .int .i64 O.reply.level, .bool O.reply.more, .int .i64 O.reply.next, .slice oa O.reply.objs.length oc] 54) = W := ⟨_, rfl⟩
  have hgl : g < w.heap.size := hpLt h
  have hgn : g ≠ w.heap.size := by omega
  have hb0 : Below w.heap.size w W0 := by rw [← hW0]; exact bal' w _
  have p0 : W0.heap[w.heap.size]? = some (.cells #[.int .i64 O.verdict, .int .i64 O.reply.fn, .int .i64 O.reply.exc, .slice da O.reply.data.length dc, .int .i64 O.reply.code, .int .i64 O.reply.level, .bool O.reply.more, .int .i64 O.reply.next, .slice oa O.reply.objs.length oc] 54) := by rw [← hW0]; exact hpNew w _
  have h0 := hpKeep h hb0
  have c8 : W0.cell? ⟨g, 8, none⟩ = some (.iface 84 (.pointer (some ⟨b, 0, none⟩))) := by rw [hpCell h0 8]; exact h8
  have c31 : W0.cell? ⟨g, 31, none⟩ = some (.int .i64 q) := by rw [hpCell h0 31]; exact h31
  have f31 : W0.frozen? ⟨g, 31, none⟩ = false := hpFree h0 31
  have o0 : W0.cell? ⟨w.heap.size, 0, none⟩ = some (.int .i64 O.verdict) := hpCell p0 0
  have o1 : W0.cell? ⟨w.heap.size, 1, none⟩ = some (.int .i64 O.reply.fn) := hpCell p0 1
  have o2 : W0.cell? ⟨w.heap.size, 2, none⟩ = some (.int .i64 O.reply.exc) := hpCell p0 2
  have o3 : W0.cell? ⟨w.heap.size, 3, none⟩ = some (.slice da O.reply.data.length dc) := hpCell p0 3
  have o4 : W0.cell? ⟨w.heap.size, 4, none⟩ = some (.int .i64 O.reply.code) := hpCell p0 4
  have o5 : W0.cell? ⟨w.heap.size, 5, none⟩ = some (.int .i64 O.reply.level) := hpCell p0 5
  have o6 : W0.cell? ⟨w.heap.size, 6, none⟩ = some (.bool O.reply.more) := hpCell p0 6
  have o7 : W0.cell? ⟨w.heap.size, 7, none⟩ = some (.int .i64 O.reply.next) := hpCell p0 7
  have o8 : W0.cell? ⟨w.heap.size, 8, none⟩ = some (.slice oa O.reply.objs.length oc) := hpCell p0 8
  rw [hW0] at HFD
  have HW0 := hid hW0
  clear hW0 hb0 p0 h0 h h8 h31
  go_enter Tryz.func12, Tryz.ntmps12
  go_upto_region 1 with (fail)
  rw [HW0.out]
  go_wp2
  go_region_with (go_at_call 106; (with_reducible refine HFD.out.mono ?_); rintro r w1 ⟨rfl, hr1⟩)
  all_goals
    obtain ⟨y8, y9⟩ := HPR.out w1 hr1
    have HR1 := hid hr1
    clear hr1 c8 c31 f31 o0 o1 o2 o3 o4 o5 o6 o7 o8
    cases V
    · have HAF1 := hid (HAF.out rfl)
      clear HAF HGO
      go_wp2_with (first
        | (go_at_call 107; (with_reducible refine (HNX.out w1 HR1.out).mono ?_); rintro r w2 ⟨rfl, hb2⟩; have z9 := (fun o => cell_keep (bta hb2 (Nat.le_refl _) o) y9))
        | (go_at_call 29; (with_reducible refine (HAF1.out w1 _ HR1.out (bta hb2 (Nat.le_refl _) _)).mono ?_); rintro r w3 ⟨rfl, hr3⟩))
      go_ret
      exact ⟨rfl, hr3⟩
    · have HGO1 := hid (HGO.out rfl)
      clear HAF HGO
      go_wp2_with (go_at_call 107; (with_reducible refine (HNX.out w1 HR1.out).mono ?_); rintro r w2 ⟨rfl, hb2⟩)
      go_ret
      exact ⟨rfl, HGO1.out w1 _ HR1.out (bta hb2 (Nat.le_refl _) _)⟩

set_option maxRecDepth 100000 in
set_option maxHeartbeats 3200000 in
theorem pfeed_ident_go (g b bi bp : Nat) (A : Array Value) (w : World) (h : w.heap[g]? = some (.cells A 82)) (h8 : A[8]? = some (.iface 100 (.pointer (some ⟨b, 0, none⟩)))) (q : Int) (h31 : A[31]? = some (.int .i64 q)) (q' : Int) (sw : IntKind.i64.wrap (q + 1) = q')
    (O : Oc) (da : Option Addr) (dc : Nat) (oa : Option Addr) (oc : Nat) (R1 R2 : World → Prop)
    (HFD : Hid (Calls Tryz.prog 108 #[.pointer (some ⟨b, 0, none⟩), .agg #[.int .i64 O.verdict, .int .i64 O.reply.fn, .int .i64 O.reply.exc, .slice da O.reply.data.length dc, .int .i64 O.reply.code, .int .i64 O.reply.level, .bool O.reply.more, .int .i64 O.reply.next, .slice oa O.reply.objs.length oc]] ((w.alloc (.cells #[.int .i64 O.verdict, .int .i64 O.reply.fn, .int .i64 O.reply.exc, .slice da O.reply.data.length dc, .int .i64 O.reply.code, .int .i64 O.reply.level, .bool O.reply.more, .int .i64 O.reply.next, .slice oa O.reply.objs.length oc] 54)).setCell ⟨g, 31, none⟩ (.int .i64 q')).drew (FeedEnd R1)))
    (HPR : Hid (∀ X, R1 X → X.cell? ⟨g, 8, none⟩ = some (.iface 100 (.pointer (some ⟨b, 0, none⟩))) ∧ X.cell? ⟨g, 9, none⟩ = some (.func (.func 46) #[] #[.pointer (some ⟨bi, 0, none⟩), .pointer (some ⟨bp, 0, none⟩)])))
    (qq : Rq) (V : Bool) (HNX : Hid (∀ X, R1 X → Calls Tryz.prog 109 #[.pointer (some ⟨b, 0, none⟩)] X (AskPost X qq V)))
    (HGO : Hid (V = true → ∀ X X', R1 X → Below X.heap.size X X' → R2 X'))
    (HAF : Hid (V = false → ∀ X X', R1 X → Below X.heap.size X X' → Calls Tryz.prog 46 #[.pointer (some ⟨bi, 0, none⟩), .pointer (some ⟨bp, 0, none⟩)] X' fun r w' => r = .returned (.tuple #[]) ∧ R2 w')) :
    Calls Tryz.prog 12 #[.pointer (some ⟨g, 0, none⟩), .agg #[.int .i64 O.verdict, .int .i64 O.reply.fn, .int .i64 O.reply.exc, .slice da O.reply.data.length dc, .int .i64 O.reply.code, .int .i64 O.reply.level, .bool O.reply.more, .int .i64 O.reply.next, .slice oa O.reply.objs.length oc]] w (FeedEnd R2) := by
  have hm1 : ∀ (a : Addr) (w : World), (method 274 100 (.pointer (some a)) "Feed").run Tryz.prog w = .ok (108, .pointer (some a)) w := fun _ _ => by kernel_rfl
  have hm2 : ∀ (a : Addr) (w : World), (method 274 100 (.pointer (some a)) "Next").run Tryz.prog w = .ok (109, .pointer (some a)) w := fun _ _ => by kernel_rfl
  have hm3 : ∀ (a : Addr) (w : World), (nilAhead 274 100 (.pointer (some a)) "Feed").run Tryz.prog w = .ok (some false) w := fun _ _ => by kernel_rfl
  have hm4 : ∀ (a : Addr) (w : World), (nilAhead 274 100 (.pointer (some a)) "Next").run Tryz.prog w = .ok (some false) w := fun _ _ => by kernel_rfl
  obtain ⟨W0, hW0⟩ : ∃ W, w.alloc (.cells #[.int .i64 O.verdict, .int .i64 O.reply.fn, .int .i64 O.reply.exc, .slice da O.reply.data.length dc, .int .i64 O.reply.code, .int .i64 O.reply.level, .bool O.reply.more, .int .i64 O.reply.next, .slice oa O.reply.objs.length oc] 54) = W := ⟨_, rfl⟩
  have hgl : g < w.heap.size := hpLt h
  have hgn : g ≠ w.heap.size := by omega
  have hb0 : Below w.heap.size w W0 := by rw [← hW0]; exact bal' w _
  have p0 : W0.heap[w.heap.size]? = some (.cells #[.int .i64 O.verdict, .int .i64 O.reply.fn, .int .i64 O.reply.exc, .slice da O.reply.data.length dc, .int .i64 O.reply.code, .int .i64 O.reply.level, .bool O.reply.more, .int .i64 O.reply.next, .slice oa O.reply.objs.length oc] 54) := by rw [← hW0]; exact hpNew w _
  have h0 := hpKeep h hb0
  have c8 : W0.cell? ⟨g, 8, none⟩ = some (.iface 100 (.pointer (some ⟨b, 0, none⟩))) := by rw [hpCell h0 8]; exact h8
  have c31 : W0.cell? ⟨g, 31, none⟩ = some (.int .i64 q) := by rw [hpCell h0 31]; exact h31
  have f31 : W0.frozen? ⟨g, 31, none⟩ = false := hpFree h0 31
  have o0 : W0.cell? ⟨w.heap.size, 0, none⟩ = some (.int .i64 O.verdict) := hpCell p0 0
  have o1 : W0.cell? ⟨w.heap.size, 1, none⟩ = some (.int .i64 O.reply.fn) := hpCell p0 1
  have o2 : W0.cell? ⟨w.heap.size, 2, none⟩ = some (.int .i64 O.reply.exc) := hpCell p0 2
  have o3 : W0.cell? ⟨w.heap.size, 3, none⟩ = some (.slice da O.reply.data.length dc) := hpCell p0 3
  have o4 : W0.cell? ⟨w.heap.size, 4, none⟩ = some (.int .i64 O.reply.code) := hpCell p0 4
  have o5 : W0.cell? ⟨w.heap.size, 5, none⟩ = some (.int .i64 O.reply.level) := hpCell p0 5
  have o6 : W0.cell? ⟨w.heap.size, 6, none⟩ = some (.bool O.reply.more) := hpCell p0 6
  have o7 : W0.cell? ⟨w.heap.size, 7, none⟩ = some (.int .i64 O.reply.next) := hpCell p0 7
  have o8 : W0.cell? ⟨w.heap.size, 8, none⟩ = some (.slice oa O.reply.objs.length oc) := hpCell p0 8
  rw [hW0] at HFD
  have HW0 := hid hW0
  clear hW0 hb0 p0 h0 h h8 h31
  go_enter Tryz.func12, Tryz.ntmps12
  go_upto_region 1 with (fail)
  rw [HW0.out]
  go_wp2
  go_region_with (go_at_call 108; (with_reducible refine HFD.out.mono ?_); rintro r w1 ⟨rfl, hr1⟩)
  all_goals
    obtain ⟨y8, y9⟩ := HPR.out w1 hr1
    have HR1 := hid hr1
    clear hr1 c8 c31 f31 o0 o1 o2 o3 o4 o5 o6 o7 o8
    cases V
    · have HAF1 := hid (HAF.out rfl)
      clear HAF HGO
      go_wp2_with (first
        | (go_at_call 109; (with_reducible refine (HNX.out w1 HR1.out).mono ?_); rintro r w2 ⟨rfl, hb2⟩; have z9 := (fun o => cell_keep (bta hb2 (Nat.le_refl _) o) y9))
        | (go_at_call 46; (with_reducible refine (HAF1.out w1 _ HR1.out (bta hb2 (Nat.le_refl _) _)).mono ?_); rintro r w3 ⟨rfl, hr3⟩))
      go_ret
      exact ⟨rfl, hr3⟩
    · have HGO1 := hid (HGO.out rfl)
      clear HAF HGO
      go_wp2_with (go_at_call 109; (with_reducible refine (HNX.out w1 HR1.out).mono ?_); rintro r w2 ⟨rfl, hb2⟩)
      go_ret
      exact ⟨rfl, HGO1.out w1 _ HR1.out (bta hb2 (Nat.le_refl _) _)⟩

end Go.Proofs.YtliblgmpclefgaaGreat

/-
A probe of the program: the walk of Feed (server, seek).
-/
namespace Go.Proofs.YtliblgmpclefgaaGreat
open Go.RowKit

set_option maxRecDepth 100000 in
set_option maxHeartbeats 3200000 in
theorem pfeed_server_go (g b bq : Nat) (A : Array Value) (w : World) (h : w.heap[g]? = some (.cells A 82)) (h8 : A[8]? = some (.iface 84 (.pointer (some ⟨b, 0, none⟩)))) (q : Int) (h31 : A[31]? = some (.int .i64 q)) (q' : Int) (sw : IntKind.i64.wrap (q + 1) = q')
    (O : Oc) (da : Option Addr) (dc : Nat) (oa : Option Addr) (oc : Nat) (R1 R2 : World → Prop)
    (HFD : Hid (Calls Tryz.prog 106 #[.pointer (some ⟨b, 0, none⟩), .agg #[.int .i64 O.verdict, .int .i64 O.reply.fn, .int .i64 O.reply.exc, .slice da O.reply.data.length dc, .int .i64 O.reply.code, .int .i64 O.reply.level, .bool O.reply.more, .int .i64 O.reply.next, .slice oa O.reply.objs.length oc]] ((w.alloc (.cells #[.int .i64 O.verdict, .int .i64 O.reply.fn, .int .i64 O.reply.exc, .slice da O.reply.data.length dc, .int .i64 O.reply.code, .int .i64 O.reply.level, .bool O.reply.more, .int .i64 O.reply.next, .slice oa O.reply.objs.length oc] 54)).setCell ⟨g, 31, none⟩ (.int .i64 q')).drew (FeedEnd R1)))
    (HPR : Hid (∀ X, R1 X → X.cell? ⟨g, 8, none⟩ = some (.iface 84 (.pointer (some ⟨b, 0, none⟩))) ∧ X.cell? ⟨g, 9, none⟩ = some (.func (.func 63) #[] #[.pointer (some ⟨bq, 0, none⟩)])))
    (qq : Rq) (V : Bool) (HNX : Hid (∀ X, R1 X → Calls Tryz.prog 107 #[.pointer (some ⟨b, 0, none⟩)] X (AskPost X qq V)))
    (HGO : Hid (V = true → ∀ X X', R1 X → Below X.heap.size X X' → R2 X'))
    (HAF : Hid (V = false → ∀ X X', R1 X → Below X.heap.size X X' → Calls Tryz.prog 63 #[.pointer (some ⟨bq, 0, none⟩)] X' fun r w' => r = .returned (.tuple #[]) ∧ R2 w')) :
    Calls Tryz.prog 12 #[.pointer (some ⟨g, 0, none⟩), .agg #[.int .i64 O.verdict, .int .i64 O.reply.fn, .int .i64 O.reply.exc, .slice da O.reply.data.length dc, .int .i64 O.reply.code, .int .i64 O.reply.level, .bool O.reply.more, .int .i64 O.reply.next, .slice oa O.reply.objs.length oc]] w (FeedEnd R2) := by
  have hm1 : ∀ (a : Addr) (w : World), (method 274 84 (.pointer (some a)) "Feed").run Tryz.prog w = .ok (106, .pointer (some a)) w := fun _ _ => by kernel_rfl
  have hm2 : ∀ (a : Addr) (w : World), (method 274 84 (.pointer (some a)) "Next").run Tryz.prog w = .ok (107, .pointer (some a)) w := fun _ _ => by kernel_rfl
  have hm3 : ∀ (a : Addr) (w : World), (nilAhead 274 84 (.pointer (some a)) "Feed").run Tryz.prog w = .ok (some false) w := fun _ _ => by kernel_rfl
  have hm4 : ∀ (a : Addr) (w : World), (nilAhead 274 84 (.pointer (some a)) "Next").run Tryz.prog w = .ok (some false) w := fun _ _ => by kernel_rfl
  obtain ⟨W0, hW0⟩ : ∃ W, w.alloc (.cells #[.int .i64 O.verdict, .int .i64 O.reply.fn, .int .i64 O.reply.exc, .slice da O.reply.data.length dc, .int .i64 O.reply.code, .int .i64 O.reply.level, .bool O.reply.more, .int .i64 O.reply.next, .slice oa O.reply.objs.length oc] 54) = W := ⟨_, rfl⟩
  have hgl : g < w.heap.size := hpLt h
  have hgn : g ≠ w.heap.size := by omega
  have hb0 : Below w.heap.size w W0 := by rw [← hW0]; exact bal' w _
  have p0 : W0.heap[w.heap.size]? = some (.cells #[.int .i64 O.verdict, .int .i64 O.reply.fn, .int .i64 O.reply.exc, .slice da O.reply.data.length dc, .int .i64 O.reply.code, .int .i64 O.reply.level, .bool O.reply.more, .int .i64 O.reply.next, .slice oa O.reply.objs.length oc] 54) := by rw [← hW0]; exact hpNew w _
  have h0 := hpKeep h hb0
  have c8 : W0.cell? ⟨g, 8, none⟩ = some (.iface 84 (.pointer (some ⟨b, 0, none⟩))) := by rw [hpCell h0 8]; exact h8
  have c31 : W0.cell? ⟨g, 31, none⟩ = some (.int .i64 q) := by rw [hpCell h0 31]; exact h31
  have f31 : W0.frozen? ⟨g, 31, none⟩ = false := hpFree h0 31
  have o0 : W0.cell? ⟨w.heap.size, 0, none⟩ = some (.int .i64 O.verdict) := hpCell p0 0
  have o1 : W0.cell? ⟨w.heap.size, 1, none⟩ = some (.int .i64 O.reply.fn) := hpCell p0 1
  have o2 : W0.cell? ⟨w.heap.size, 2, none⟩ = some (.int .i64 O.reply.exc) := hpCell p0 2
  have o3 : W0.cell? ⟨w.heap.size, 3, none⟩ = some (.slice da O.reply.data.length dc) := hpCell p0 3
  have o4 : W0.cell? ⟨w.heap.size, 4, none⟩ = some (.int .i64 O.reply.code) := hpCell p0 4
  have o5 : W0.cell? ⟨w.heap.size, 5, none⟩ = some (.int .i64 O.reply.level) := hpCell p0 5
  have o6 : W0.cell? ⟨w.heap.size, 6, none⟩ = some (.bool O.reply.more) := hpCell p0 6
  have o7 : W0.cell? ⟨w.heap.size, 7, none⟩ = some (.int .i64 O.reply.next) := hpCell p0 7
  have o8 : W0.cell? ⟨w.heap.size, 8, none⟩ = some (.slice oa O.reply.objs.length oc) := hpCell p0 8
  rw [hW0] at HFD
  have HW0 := hid hW0
  clear hW0 hb0 p0 h0 h h8 h31
  go_enter Tryz.func12, Tryz.ntmps12
  go_upto_region 1 with (fail)
  rw [HW0.out]
  go_wp2
  go_region_with (go_at_call 106; (with_reducible refine HFD.out.mono ?_); rintro r w1 ⟨rfl, hr1⟩)
  all_goals
    obtain ⟨y8, y9⟩ := HPR.out w1 hr1
    have HR1 := hid hr1
    clear hr1 c8 c31 f31 o0 o1 o2 o3 o4 o5 o6 o7 o8
    cases V
    · have HAF1 := hid (HAF.out rfl)
      clear HAF HGO
      go_wp2_with (first
        | (go_at_call 107; (with_reducible refine (HNX.out w1 HR1.out).mono ?_); rintro r w2 ⟨rfl, hb2⟩; have z9 := (fun o => cell_keep (bta hb2 (Nat.le_refl _) o) y9))
        | (go_at_call 63; (with_reducible refine (HAF1.out w1 _ HR1.out (bta hb2 (Nat.le_refl _) _)).mono ?_); rintro r w3 ⟨rfl, hr3⟩))
      go_ret
      exact ⟨rfl, hr3⟩
    · have HGO1 := hid (HGO.out rfl)
      clear HAF HGO
      go_wp2_with (go_at_call 107; (with_reducible refine (HNX.out w1 HR1.out).mono ?_); rintro r w2 ⟨rfl, hb2⟩)
      go_ret
      exact ⟨rfl, HGO1.out w1 _ HR1.out (bta hb2 (Nat.le_refl _) _)⟩

set_option maxRecDepth 100000 in
set_option maxHeartbeats 3200000 in
theorem pfeed_seek_go (g b bp bk bs : Nat) (A : Array Value) (w : World) (h : w.heap[g]? = some (.cells A 82)) (h8 : A[8]? = some (.iface 124 (.pointer (some ⟨b, 0, none⟩)))) (q : Int) (h31 : A[31]? = some (.int .i64 q)) (q' : Int) (sw : IntKind.i64.wrap (q + 1) = q')
    (O : Oc) (da : Option Addr) (dc : Nat) (oa : Option Addr) (oc : Nat) (R1 R2 : World → Prop)
    (HFD : Hid (Calls Tryz.prog 111 #[.pointer (some ⟨b, 0, none⟩), .agg #[.int .i64 O.verdict, .int .i64 O.reply.fn, .int .i64 O.reply.exc, .slice da O.reply.data.length dc, .int .i64 O.reply.code, .int .i64 O.reply.level, .bool O.reply.more, .int .i64 O.reply.next, .slice oa O.reply.objs.length oc]] ((w.alloc (.cells #[.int .i64 O.verdict, .int .i64 O.reply.fn, .int .i64 O.reply.exc, .slice da O.reply.data.length dc, .int .i64 O.reply.code, .int .i64 O.reply.level, .bool O.reply.more, .int .i64 O.reply.next, .slice oa O.reply.objs.length oc] 54)).setCell ⟨g, 31, none⟩ (.int .i64 q')).drew (FeedEnd R1)))
    (HPR : Hid (∀ X, R1 X → X.cell? ⟨g, 8, none⟩ = some (.iface 124 (.pointer (some ⟨b, 0, none⟩))) ∧ X.cell? ⟨g, 9, none⟩ = some (.func (.func 72) #[] #[.pointer (some ⟨bp, 0, none⟩), .pointer (some ⟨bk, 0, none⟩), .pointer (some ⟨bs, 0, none⟩)])))
    (qq : Rq) (V : Bool) (HNX : Hid (∀ X, R1 X → Calls Tryz.prog 112 #[.pointer (some ⟨b, 0, none⟩)] X (AskPost X qq V)))
    (HGO : Hid (V = true → ∀ X X', R1 X → Below X.heap.size X X' → R2 X'))
    (HAF : Hid (V = false → ∀ X X', R1 X → Below X.heap.size X X' → Calls Tryz.prog 72 #[.pointer (some ⟨bp, 0, none⟩), .pointer (some ⟨bk, 0, none⟩), .pointer (some ⟨bs, 0, none⟩)] X' fun r w' => r = .returned (.tuple #[]) ∧ R2 w')) :
    Calls Tryz.prog 12 #[.pointer (some ⟨g, 0, none⟩), .agg #[.int .i64 O.verdict, .int .i64 O.reply.fn, .int .i64 O.reply.exc, .slice da O.reply.data.length dc, .int .i64 O.reply.code, .int .i64 O.reply.level, .bool O.reply.more, .int .i64 O.reply.next, .slice oa O.reply.objs.length oc]] w (FeedEnd R2) := by
  have hm1 : ∀ (a : Addr) (w : World), (method 274 124 (.pointer (some a)) "Feed").run Tryz.prog w = .ok (111, .pointer (some a)) w := fun _ _ => by kernel_rfl
  have hm2 : ∀ (a : Addr) (w : World), (method 274 124 (.pointer (some a)) "Next").run Tryz.prog w = .ok (112, .pointer (some a)) w := fun _ _ => by kernel_rfl
  have hm3 : ∀ (a : Addr) (w : World), (nilAhead 274 124 (.pointer (some a)) "Feed").run Tryz.prog w = .ok (some false) w := fun _ _ => by kernel_rfl
  have hm4 : ∀ (a : Addr) (w : World), (nilAhead 274 124 (.pointer (some a)) "Next").run Tryz.prog w = .ok (some false) w := fun _ _ => by kernel_rfl
  obtain ⟨W0, hW0⟩ : ∃ W, w.alloc (.cells #[.int .i64 O.verdict, .int .i64 O.reply.fn, .int .i64 O.reply.exc, .slice da O.reply.data.length dc, .int .i64 O.reply.code, .int .i64 O.reply.level, .bool O.reply.more, .int .i64 O.reply.next, .slice oa O.reply.objs.length oc] 54) = W := ⟨_, rfl⟩
  have hgl : g < w.heap.size := hpLt h
  have hgn : g ≠ w.heap.size := by omega
  have hb0 : Below w.heap.size w W0 := by rw [← hW0]; exact bal' w _
  have p0 : W0.heap[w.heap.size]? = some (.cells #[.int .i64 O.verdict, .int .i64 O.reply.fn, .int .i64 O.reply.exc, .slice da O.reply.data.length dc, .int .i64 O.reply.code, .int .i64 O.reply.level, .bool O.reply.more, .int .i64 O.reply.next, .slice oa O.reply.objs.length oc] 54) := by rw [← hW0]; exact hpNew w _
  have h0 := hpKeep h hb0
  have c8 : W0.cell? ⟨g, 8, none⟩ = some (.iface 124 (.pointer (some ⟨b, 0, none⟩))) := by rw [hpCell h0 8]; exact h8
  have c31 : W0.cell? ⟨g, 31, none⟩ = some (.int .i64 q) := by rw [hpCell h0 31]; exact h31
  have f31 : W0.frozen? ⟨g, 31, none⟩ = false := hpFree h0 31
  have o0 : W0.cell? ⟨w.heap.size, 0, none⟩ = some (.int .i64 O.verdict) := hpCell p0 0
  have o1 : W0.cell? ⟨w.heap.size, 1, none⟩ = some (.int .i64 O.reply.fn) := hpCell p0 1
  have o2 : W0.cell? ⟨w.heap.size, 2, none⟩ = some (.int .i64 O.reply.exc) := hpCell p0 2
  have o3 : W0.cell? ⟨w.heap.size, 3, none⟩ = some (.slice da O.reply.data.length dc) := hpCell p0 3
  have o4 : W0.cell? ⟨w.heap.size, 4, none⟩ = some (.int .i64 O.reply.code) := hpCell p0 4
  have o5 : W0.cell? ⟨w.heap.size, 5, none⟩ = some (.int .i64 O.reply.level) := hpCell p0 5
  have o6 : W0.cell? ⟨w.heap.size, 6, none⟩ = some (.bool O.reply.more) := hpCell p0 6
  have o7 : W0.cell? ⟨w.heap.size, 7, none⟩ = some (.int .i64 O.reply.next) := hpCell p0 7
  have o8 : W0.cell? ⟨w.heap.size, 8, none⟩ = some (.slice oa O.reply.objs.length oc) := hpCell p0 8
  rw [hW0] at HFD
  have HW0 := hid hW0
  clear hW0 hb0 p0 h0 h h8 h31
  go_enter Tryz.func12, Tryz.ntmps12
  go_upto_region 1 with (fail)
  rw [HW0.out]
  go_wp2
  go_region_with (go_at_call 111; (with_reducible refine HFD.out.mono ?_); rintro r w1 ⟨rfl, hr1⟩)
  all_goals
    obtain ⟨y8, y9⟩ := HPR.out w1 hr1
    have HR1 := hid hr1
    clear hr1 c8 c31 f31 o0 o1 o2 o3 o4 o5 o6 o7 o8
    cases V
    · have HAF1 := hid (HAF.out rfl)
      clear HAF HGO
      go_wp2_with (first
        | (go_at_call 112; (with_reducible refine (HNX.out w1 HR1.out).mono ?_); rintro r w2 ⟨rfl, hb2⟩; have z9 := (fun o => cell_keep (bta hb2 (Nat.le_refl _) o) y9))
        | (go_at_call 72; (with_reducible refine (HAF1.out w1 _ HR1.out (bta hb2 (Nat.le_refl _) _)).mono ?_); rintro r w3 ⟨rfl, hr3⟩))
      go_ret
      exact ⟨rfl, hr3⟩
    · have HGO1 := hid (HGO.out rfl)
      clear HAF HGO
      go_wp2_with (go_at_call 112; (with_reducible refine (HNX.out w1 HR1.out).mono ?_); rintro r w2 ⟨rfl, hb2⟩)
      go_ret
      exact ⟨rfl, HGO1.out w1 _ HR1.out (bta hb2 (Nat.le_refl _) _)⟩

end Go.Proofs.YtliblgmpclefgaaGreat

/-
A probe of the program: the walk of Feed (map).
-/
namespace Go.Proofs.YtliblgmpclefgaaGreat
open Go.RowKit

set_option maxRecDepth 100000 in
set_option maxHeartbeats 3200000 in
theorem pfeed_map_go (g b bm bp bk : Nat) (A : Array Value) (w : World) (h : w.heap[g]? = some (.cells A 82)) (h8 : A[8]? = some (.iface 138 (.pointer (some ⟨b, 0, none⟩)))) (q : Int) (h31 : A[31]? = some (.int .i64 q)) (q' : Int) (sw : IntKind.i64.wrap (q + 1) = q')
    (O : Oc) (da : Option Addr) (dc : Nat) (oa : Option Addr) (oc : Nat) (R1 R2 : World → Prop)
    (HFD : Hid (Calls Tryz.prog 115 #[.pointer (some ⟨b, 0, none⟩), .agg #[.int .i64 O.verdict, .int .i64 O.reply.fn, .int .i64 O.reply.exc, .slice da O.reply.data.length dc, .int .i64 O.reply.code, .int .i64 O.reply.level, .bool O.reply.more, .int .i64 O.reply.next, .slice oa O.reply.objs.length oc]] ((w.alloc (.cells #[.int .i64 O.verdict, .int .i64 O.reply.fn, .int .i64 O.reply.exc, .slice da O.reply.data.length dc, .int .i64 O.reply.code, .int .i64 O.reply.level, .bool O.reply.more, .int .i64 O.reply.next, .slice oa O.reply.objs.length oc] 54)).setCell ⟨g, 31, none⟩ (.int .i64 q')).drew (FeedEnd R1)))
    (HPR : Hid (∀ X, R1 X → X.cell? ⟨g, 8, none⟩ = some (.iface 138 (.pointer (some ⟨b, 0, none⟩))) ∧ X.cell? ⟨g, 9, none⟩ = some (.func (.func 83) #[] #[.pointer (some ⟨bm, 0, none⟩), .pointer (some ⟨bp, 0, none⟩), .pointer (some ⟨bk, 0, none⟩)])))
    (qq : Rq) (V : Bool) (HNX : Hid (∀ X, R1 X → Calls Tryz.prog 116 #[.pointer (some ⟨b, 0, none⟩)] X (AskPost X qq V)))
    (HGO : Hid (V = true → ∀ X X', R1 X → Below X.heap.size X X' → R2 X'))
    (HAF : Hid (V = false → ∀ X X', R1 X → Below X.heap.size X X' → Calls Tryz.prog 83 #[.pointer (some ⟨bm, 0, none⟩), .pointer (some ⟨bp, 0, none⟩), .pointer (some ⟨bk, 0, none⟩)] X' fun r w' => r = .returned (.tuple #[]) ∧ R2 w')) :
    Calls Tryz.prog 12 #[.pointer (some ⟨g, 0, none⟩), .agg #[.int .i64 O.verdict, .int .i64 O.reply.fn, .int .i64 O.reply.exc, .slice da O.reply.data.length dc, .int .i64 O.reply.code, .int .i64 O.reply.level, .bool O.reply.more, .int .i64 O.reply.next, .slice oa O.reply.objs.length oc]] w (FeedEnd R2) := by
  have hm1 : ∀ (a : Addr) (w : World), (method 274 138 (.pointer (some a)) "Feed").run Tryz.prog w = .ok (115, .pointer (some a)) w := fun _ _ => by kernel_rfl
  have hm2 : ∀ (a : Addr) (w : World), (method 274 138 (.pointer (some a)) "Next").run Tryz.prog w = .ok (116, .pointer (some a)) w := fun _ _ => by kernel_rfl
  have hm3 : ∀ (a : Addr) (w : World), (nilAhead 274 138 (.pointer (some a)) "Feed").run Tryz.prog w = .ok (some false) w := fun _ _ => by kernel_rfl
  have hm4 : ∀ (a : Addr) (w : World), (nilAhead 274 138 (.pointer (some a)) "Next").run Tryz.prog w = .ok (some false) w := fun _ _ => by kernel_rfl
  obtain ⟨W0, hW0⟩ : ∃ W, w.alloc (.cells #[.int .i64 O.verdict, .int .i64 O.reply.fn, .int .i64 O.reply.exc, .slice da O.reply.data.length dc, .int .i64 O.reply.code, .int .i64 O.reply.level, .bool O.reply.more, .int .i64 O.reply.next, .slice oa O.reply.objs.length oc] 54) = W := ⟨_, rfl⟩
  have hgl : g < w.heap.size := hpLt h
  have hgn : g ≠ w.heap.size := by omega
  have hb0 : Below w.heap.size w W0 := by rw [← hW0]; exact bal' w _
  have p0 : W0.heap[w.heap.size]? = some (.cells #[.int .i64 O.verdict, .int .i64 O.reply.fn, .int .i64 O.reply.exc, .slice da O.reply.data.length dc, .int .i64 O.reply.code, .int .i64 O.reply.level, .bool O.reply.more, .int .i64 O.reply.next, .slice oa O.reply.objs.length oc] 54) := by rw [← hW0]; exact hpNew w _
  have h0 := hpKeep h hb0
  have c8 : W0.cell? ⟨g, 8, none⟩ = some (.iface 138 (.pointer (some ⟨b, 0, none⟩))) := by rw [hpCell h0 8]; exact h8
  have c31 : W0.cell? ⟨g, 31, none⟩ = some (.int .i64 q) := by rw [hpCell h0 31]; exact h31
  have f31 : W0.frozen? ⟨g, 31, none⟩ = false := hpFree h0 31
  have o0 : W0.cell? ⟨w.heap.size, 0, none⟩ = some (.int .i64 O.verdict) := hpCell p0 0
  have o1 : W0.cell? ⟨w.heap.size, 1, none⟩ = some (.int .i64 O.reply.fn) := hpCell p0 1
  have o2 : W0.cell? ⟨w.heap.size, 2, none⟩ = some (.int .i64 O.reply.exc) := hpCell p0 2
  have o3 : W0.cell? ⟨w.heap.size, 3, none⟩ = some (.slice da O.reply.data.length dc) := hpCell p0 3
  have o4 : W0.cell? ⟨w.heap.size, 4, none⟩ = some (.int .i64 O.reply.code) := hpCell p0 4
  have o5 : W0.cell? ⟨w.heap.size, 5, none⟩ = some (.int .i64 O.reply.level) := hpCell p0 5
  have o6 : W0.cell? ⟨w.heap.size, 6, none⟩ = some (.bool O.reply.more) := hpCell p0 6
  have o7 : W0.cell? ⟨w.heap.size, 7, none⟩ = some (.int .i64 O.reply.next) := hpCell p0 7
  have o8 : W0.cell? ⟨w.heap.size, 8, none⟩ = some (.slice oa O.reply.objs.length oc) := hpCell p0 8
  rw [hW0] at HFD
  have HW0 := hid hW0
  clear hW0 hb0 p0 h0 h h8 h31
  go_enter Tryz.func12, Tryz.ntmps12
  go_upto_region 1 with (fail)
  rw [HW0.out]
  go_wp2
  go_region_with (go_at_call 115; (with_reducible refine HFD.out.mono ?_); rintro r w1 ⟨rfl, hr1⟩)
  all_goals
    obtain ⟨y8, y9⟩ := HPR.out w1 hr1
    have HR1 := hid hr1
    clear hr1 c8 c31 f31 o0 o1 o2 o3 o4 o5 o6 o7 o8
    cases V
    · have HAF1 := hid (HAF.out rfl)
      clear HAF HGO
      go_wp2_with (first
        | (go_at_call 116; (with_reducible refine (HNX.out w1 HR1.out).mono ?_); rintro r w2 ⟨rfl, hb2⟩; have z9 := (fun o => cell_keep (bta hb2 (Nat.le_refl _) o) y9))
        | (go_at_call 83; (with_reducible refine (HAF1.out w1 _ HR1.out (bta hb2 (Nat.le_refl _) _)).mono ?_); rintro r w3 ⟨rfl, hr3⟩))
      go_ret
      exact ⟨rfl, hr3⟩
    · have HGO1 := hid (HGO.out rfl)
      clear HAF HGO
      go_wp2_with (go_at_call 116; (with_reducible refine (HNX.out w1 HR1.out).mono ?_); rintro r w2 ⟨rfl, hb2⟩)
      go_ret
      exact ⟨rfl, HGO1.out w1 _ HR1.out (bta hb2 (Nat.le_refl _) _)⟩

end Go.Proofs.YtliblgmpclefgaaGreat
