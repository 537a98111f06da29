/-
  Texts 24 of the claim.
-/
import Derived.Test.YtipnamoocemeeaaGreatD14
namespace Go.Proofs.YtipnamoocemeeaaGreat
open Go.RowKit
set_option maxRecDepth 100000 in
set_option maxHeartbeats 3200000 in
theorem pfeed_test_go (g b : Nat) (A : Array Value) (w : World) (h : w.heap[g]? = some (.cells A 143)) (h8 : A[8]? = some (.iface 145 (.pointer (some ⟨b, 0, none⟩)))) (q : Int) (h31 : A[31]? = some (.int .i64 q)) (q' : Int) (sw : IntKind.i64.wrap (q + 1) = q')
    (O : Oc) (da : Option Addr) (dc : Nat) (oa : Option Addr) (oc : Nat) (R1 R2 : World → Prop)
    (HFD : Hid (Calls Tryz.prog 192 #[.pointer (some ⟨b, 0, none⟩), .agg #[.int .i64 O.verdict, .int .i64 O.reply.fn, .int .i64 O.reply.exc, .slice da O.reply.data.length dc, .int .i64 O.reply.code, .int .i64 O.reply.level, .bool O.reply.more, .int .i64 O.reply.next, .slice oa O.reply.objs.length oc]] ((w.alloc (.cells #[.int .i64 O.verdict, .int .i64 O.reply.fn, .int .i64 O.reply.exc, .slice da O.reply.data.length dc, .int .i64 O.reply.code, .int .i64 O.reply.level, .bool O.reply.more, .int .i64 O.reply.next, .slice oa O.reply.objs.length oc] 55)).setCell ⟨g, 31, none⟩ (.int .i64 q')).drew (FeedEnd R1)))
    (HPR : Hid (∀ X, R1 X → X.cell? ⟨g, 8, none⟩ = some (.iface 145 (.pointer (some ⟨b, 0, none⟩))) ∧ X.cell? ⟨g, 9, none⟩ = some (.func (.func 84) #[.pointer (some ⟨g, 0, none⟩)] #[])))
    (qq : Rq) (V : Bool) (HNX : Hid (∀ X, R1 X → Calls Tryz.prog 193 #[.pointer (some ⟨b, 0, none⟩)] X (AskPost X qq V)))
    (HGO : Hid (V = true → ∀ X X', R1 X → Below X.heap.size X X' → R2 X'))
    (HAF : Hid (V = false → ∀ X X', R1 X → Below X.heap.size X X' → Calls Tryz.prog 84 #[.pointer (some ⟨g, 0, none⟩)] X' fun r w' => r = .returned (.tuple #[]) ∧ R2 w')) :
    Calls Tryz.prog 54 #[.pointer (some ⟨g, 0, none⟩), .agg #[.int .i64 O.verdict, .int .i64 O.reply.fn, .int .i64 O.reply.exc, .slice da O.reply.data.length dc, .int .i64 O.reply.code, .int .i64 O.reply.level, .bool O.reply.more, .int .i64 O.reply.next, .slice oa O.reply.objs.length oc]] w (FeedEnd R2) := by
  have hm1 : ∀ (a : Addr) (w : World), (method 361 145 (.pointer (some a)) "Feed").run Tryz.prog w = .ok (192, .pointer (some a)) w := fun _ _ => by kernel_rfl
  have hm2 : ∀ (a : Addr) (w : World), (method 361 145 (.pointer (some a)) "Next").run Tryz.prog w = .ok (193, .pointer (some a)) w := fun _ _ => by kernel_rfl
  have hm3 : ∀ (a : Addr) (w : World), (nilAhead 361 145 (.pointer (some a)) "Feed").run Tryz.prog w = .ok (some false) w := fun _ _ => by kernel_rfl
  have hm4 : ∀ (a : Addr) (w : World), (nilAhead 361 145 (.pointer (some a)) "Next").run Tryz.prog w = .ok (some false) w := fun _ _ => by kernel_rfl
  obtain ⟨W0, hW0⟩ : ∃ W, w.alloc (.cells #[.int .i64 O.verdict, .int .i64 O.reply.fn, .int .i64 O.reply.exc, .slice da O.reply.data.length dc, .int .i64 O.reply.code, .int .i64 O.reply.level, .bool O.reply.more, .int .i64 O.reply.next, .slice oa O.reply.objs.length oc] 55) = W := ⟨_, rfl⟩
  have hgl : g < w.heap.size := hpLt h
  have hgn : g ≠ w.heap.size := by omega
  have hb0 : Below w.heap.size w W0 := by rw [← hW0]; exact bal' w _
  have p0 : W0.heap[w.heap.size]? = some (.cells #[.int .i64 O.verdict, .int .i64 O.reply.fn, .int .i64 O.reply.exc, .slice da O.reply.data.length dc, .int .i64 O.reply.code, .int .i64 O.reply.level, .bool O.reply.more, .int .i64 O.reply.next, .slice oa O.reply.objs.length oc] 55) := by rw [← hW0]; exact hpNew w _
  have h0 := hpKeep h hb0
  have c8 : W0.cell? ⟨g, 8, none⟩ = some (.iface 145 (.pointer (some ⟨b, 0, none⟩))) := by rw [hpCell h0 8]; exact h8
  have c31 : W0.cell? ⟨g, 31, none⟩ = some (.int .i64 q) := by rw [hpCell h0 31]; exact h31
  have f31 : W0.frozen? ⟨g, 31, none⟩ = false := hpFree h0 31
  have o0 : W0.cell? ⟨w.heap.size, 0, none⟩ = some (.int .i64 O.verdict) := hpCell p0 0
  have o1 : W0.cell? ⟨w.heap.size, 1, none⟩ = some (.int .i64 O.reply.fn) := hpCell p0 1
  have o2 : W0.cell? ⟨w.heap.size, 2, none⟩ = some (.int .i64 O.reply.exc) := hpCell p0 2
  have o3 : W0.cell? ⟨w.heap.size, 3, none⟩ = some (.slice da O.reply.data.length dc) := hpCell p0 3
  have o4 : W0.cell? ⟨w.heap.size, 4, none⟩ = some (.int .i64 O.reply.code) := hpCell p0 4
  have o5 : W0.cell? ⟨w.heap.size, 5, none⟩ = some (.int .i64 O.reply.level) := hpCell p0 5
  have o6 : W0.cell? ⟨w.heap.size, 6, none⟩ = some (.bool O.reply.more) := hpCell p0 6
  have o7 : W0.cell? ⟨w.heap.size, 7, none⟩ = some (.int .i64 O.reply.next) := hpCell p0 7
  have o8 : W0.cell? ⟨w.heap.size, 8, none⟩ = some (.slice oa O.reply.objs.length oc) := hpCell p0 8
  rw [hW0] at HFD
  have HW0 := hid hW0
  clear hW0 hb0 p0 h0 h h8 h31
  go_enter Tryz.func54, Tryz.ntmps54
  go_upto_region 1 with (fail)
  rw [HW0.out]
  go_wp2
  go_region_with (go_at_call 192; (with_reducible refine HFD.out.mono ?_); rintro r w1 ⟨rfl, hr1⟩)
  all_goals
    obtain ⟨y8, y9⟩ := HPR.out w1 hr1
    have HR1 := hid hr1
    clear hr1 c8 c31 f31 o0 o1 o2 o3 o4 o5 o6 o7 o8
    cases V
    · have HAF1 := hid (HAF.out rfl)
      clear HAF HGO
      go_wp2_with (first
        | (go_at_call 193; (with_reducible refine (HNX.out w1 HR1.out).mono ?_); rintro r w2 ⟨rfl, hb2⟩; have z9 := (fun o => cell_keep (bta hb2 (Nat.le_refl _) o) y9))
        | (go_at_call 84; (with_reducible refine (HAF1.out w1 _ HR1.out (bta hb2 (Nat.le_refl _) _)).mono ?_); rintro r w3 ⟨rfl, hr3⟩))
      go_ret
      exact ⟨rfl, hr3⟩
    · have HGO1 := hid (HGO.out rfl)
      clear HAF HGO
      go_wp2_with (go_at_call 193; (with_reducible refine (HNX.out w1 HR1.out).mono ?_); rintro r w2 ⟨rfl, hb2⟩)
      go_ret
      exact ⟨rfl, HGO1.out w1 _ HR1.out (bta hb2 (Nat.le_refl _) _)⟩
set_option maxRecDepth 100000 in
set_option maxHeartbeats 3200000 in
theorem pfeed_ident_go (g b bi bp : Nat) (A : Array Value) (w : World) (h : w.heap[g]? = some (.cells A 143)) (h8 : A[8]? = some (.iface 188 (.pointer (some ⟨b, 0, none⟩)))) (q : Int) (h31 : A[31]? = some (.int .i64 q)) (q' : Int) (sw : IntKind.i64.wrap (q + 1) = q')
    (O : Oc) (da : Option Addr) (dc : Nat) (oa : Option Addr) (oc : Nat) (R1 R2 : World → Prop)
    (HFD : Hid (Calls Tryz.prog 194 #[.pointer (some ⟨b, 0, none⟩), .agg #[.int .i64 O.verdict, .int .i64 O.reply.fn, .int .i64 O.reply.exc, .slice da O.reply.data.length dc, .int .i64 O.reply.code, .int .i64 O.reply.level, .bool O.reply.more, .int .i64 O.reply.next, .slice oa O.reply.objs.length oc]] ((w.alloc (.cells #[.int .i64 O.verdict, .int .i64 O.reply.fn, .int .i64 O.reply.exc, .slice da O.reply.data.length dc, .int .i64 O.reply.code, .int .i64 O.reply.level, .bool O.reply.more, .int .i64 O.reply.next, .slice oa O.reply.objs.length oc] 55)).setCell ⟨g, 31, none⟩ (.int .i64 q')).drew (FeedEnd R1)))
    (HPR : Hid (∀ X, R1 X → X.cell? ⟨g, 8, none⟩ = some (.iface 188 (.pointer (some ⟨b, 0, none⟩))) ∧ X.cell? ⟨g, 9, none⟩ = some (.func (.func 129) #[] #[.pointer (some ⟨bi, 0, none⟩), .pointer (some ⟨bp, 0, none⟩)])))
    (qq : Rq) (V : Bool) (HNX : Hid (∀ X, R1 X → Calls Tryz.prog 195 #[.pointer (some ⟨b, 0, none⟩)] X (AskPost X qq V)))
    (HGO : Hid (V = true → ∀ X X', R1 X → Below X.heap.size X X' → R2 X'))
    (HAF : Hid (V = false → ∀ X X', R1 X → Below X.heap.size X X' → Calls Tryz.prog 129 #[.pointer (some ⟨bi, 0, none⟩), .pointer (some ⟨bp, 0, none⟩)] X' fun r w' => r = .returned (.tuple #[]) ∧ R2 w')) :
    Calls Tryz.prog 54 #[.pointer (some ⟨g, 0, none⟩), .agg #[.int .i64 O.verdict, .int .i64 O.reply.fn, .int .i64 O.reply.exc, .slice da O.reply.data.length dc, .int .i64 O.reply.code, .int .i64 O.reply.level, .bool O.reply.more, .int .i64 O.reply.next, .slice oa O.reply.objs.length oc]] w (FeedEnd R2) := by
  have hm1 : ∀ (a : Addr) (w : World), (method 361 188 (.pointer (some a)) "Feed").run Tryz.prog w = .ok (194, .pointer (some a)) w := fun _ _ => by kernel_rfl
  have hm2 : ∀ (a : Addr) (w : World), (method 361 188 (.pointer (some a)) "Next").run Tryz.prog w = .ok (195, .pointer (some a)) w := fun _ _ => by kernel_rfl
  have hm3 : ∀ (a : Addr) (w : World), (nilAhead 361 188 (.pointer (some a)) "Feed").run Tryz.prog w = .ok (some false) w := fun _ _ => by kernel_rfl
  have hm4 : ∀ (a : Addr) (w : World), (nilAhead 361 188 (.pointer (some a)) "Next").run Tryz.prog w = .ok (some false) w := fun _ _ => by kernel_rfl
  obtain ⟨W0, hW0⟩ : ∃ W, w.alloc (.cells #[.int .i64 O.verdict, .int .i64 O.reply.fn, .int .i64 O.reply.exc, .slice da O.reply.data.length dc, .int .i64 O.reply.code, .int .i64 O.reply.level, .bool O.reply.more, .int .i64 O.reply.next, .slice oa O.reply.objs.length oc] 55) = W := ⟨_, rfl⟩
  have hgl : g < w.heap.size := hpLt h
  have hgn : g ≠ w.heap.size := by omega
  have hb0 : Below w.heap.size w W0 := by rw [← hW0]; exact bal' w _
  have p0 : W0.heap[w.heap.size]? = some (.cells #[.int .i64 O.verdict, .int .i64 O.reply.fn, .int .i64 O.reply.exc, .slice da O.reply.data.length dc, .int .i64 O.reply.code, .int .i64 O.reply.level, .bool O.reply.more, .int .i64 O.reply.next, .slice oa O.reply.objs.length oc] 55) := by rw [← hW0]; exact hpNew w _
  have h0 := hpKeep h hb0
  have c8 : W0.cell? ⟨g, 8, none⟩ = some (.iface 188 (.pointer (some ⟨b, 0, none⟩))) := by rw [hpCell h0 8]; exact h8
  have c31 : W0.cell? ⟨g, 31, none⟩ = some (.int .i64 q) := by rw [hpCell h0 31]; exact h31
  have f31 : W0.frozen? ⟨g, 31, none⟩ = false := hpFree h0 31
  have o0 : W0.cell? ⟨w.heap.size, 0, none⟩ = some (.int .i64 O.verdict) := hpCell p0 0
  have o1 : W0.cell? ⟨w.heap.size, 1, none⟩ = some (.int .i64 O.reply.fn) := hpCell p0 1
  have o2 : W0.cell? ⟨w.heap.size, 2, none⟩ = some (.int .i64 O.reply.exc) := hpCell p0 2
  have o3 : W0.cell? ⟨w.heap.size, 3, none⟩ = some (.slice da O.reply.data.length dc) := hpCell p0 3
  have o4 : W0.cell? ⟨w.heap.size, 4, none⟩ = some (.int .i64 O.reply.code) := hpCell p0 4
  have o5 : W0.cell? ⟨w.heap.size, 5, none⟩ = some (.int .i64 O.reply.level) := hpCell p0 5
  have o6 : W0.cell? ⟨w.heap.size, 6, none⟩ = some (.bool O.reply.more) := hpCell p0 6
  have o7 : W0.cell? ⟨w.heap.size, 7, none⟩ = some (.int .i64 O.reply.next) := hpCell p0 7
  have o8 : W0.cell? ⟨w.heap.size, 8, none⟩ = some (.slice oa O.reply.objs.length oc) := hpCell p0 8
  rw [hW0] at HFD
  have HW0 := hid hW0
  clear hW0 hb0 p0 h0 h h8 h31
  go_enter Tryz.func54, Tryz.ntmps54
  go_upto_region 1 with (fail)
  rw [HW0.out]
  go_wp2
  go_region_with (go_at_call 194; (with_reducible refine HFD.out.mono ?_); rintro r w1 ⟨rfl, hr1⟩)
  all_goals
    obtain ⟨y8, y9⟩ := HPR.out w1 hr1
    have HR1 := hid hr1
    clear hr1 c8 c31 f31 o0 o1 o2 o3 o4 o5 o6 o7 o8
    cases V
    · have HAF1 := hid (HAF.out rfl)
      clear HAF HGO
      go_wp2_with (first
        | (go_at_call 195; (with_reducible refine (HNX.out w1 HR1.out).mono ?_); rintro r w2 ⟨rfl, hb2⟩; have z9 := (fun o => cell_keep (bta hb2 (Nat.le_refl _) o) y9))
        | (go_at_call 129; (with_reducible refine (HAF1.out w1 _ HR1.out (bta hb2 (Nat.le_refl _) _)).mono ?_); rintro r w3 ⟨rfl, hr3⟩))
      go_ret
      exact ⟨rfl, hr3⟩
    · have HGO1 := hid (HGO.out rfl)
      clear HAF HGO
      go_wp2_with (go_at_call 195; (with_reducible refine (HNX.out w1 HR1.out).mono ?_); rintro r w2 ⟨rfl, hb2⟩)
      go_ret
      exact ⟨rfl, HGO1.out w1 _ HR1.out (bta hb2 (Nat.le_refl _) _)⟩
end Go.Proofs.YtipnamoocemeeaaGreat
namespace Go.Proofs.YtipnamoocemeeaaGreat
open Go.RowKit
set_option maxRecDepth 100000 in
set_option maxHeartbeats 3200000 in
theorem pfeed_server_go (g b bq : Nat) (A : Array Value) (w : World) (h : w.heap[g]? = some (.cells A 143)) (h8 : A[8]? = some (.iface 145 (.pointer (some ⟨b, 0, none⟩)))) (q : Int) (h31 : A[31]? = some (.int .i64 q)) (q' : Int) (sw : IntKind.i64.wrap (q + 1) = q')
    (O : Oc) (da : Option Addr) (dc : Nat) (oa : Option Addr) (oc : Nat) (R1 R2 : World → Prop)
    (HFD : Hid (Calls Tryz.prog 192 #[.pointer (some ⟨b, 0, none⟩), .agg #[.int .i64 O.verdict, .int .i64 O.reply.fn, .int .i64 O.reply.exc, .slice da O.reply.data.length dc, .int .i64 O.reply.code, .int .i64 O.reply.level, .bool O.reply.more, .int .i64 O.reply.next, .slice oa O.reply.objs.length oc]] ((w.alloc (.cells #[.int .i64 O.verdict, .int .i64 O.reply.fn, .int .i64 O.reply.exc, .slice da O.reply.data.length dc, .int .i64 O.reply.code, .int .i64 O.reply.level, .bool O.reply.more, .int .i64 O.reply.next, .slice oa O.reply.objs.length oc] 55)).setCell ⟨g, 31, none⟩ (.int .i64 q')).drew (FeedEnd R1)))
    (HPR : Hid (∀ X, R1 X → X.cell? ⟨g, 8, none⟩ = some (.iface 145 (.pointer (some ⟨b, 0, none⟩))) ∧ X.cell? ⟨g, 9, none⟩ = some (.func (.func 158) #[] #[.pointer (some ⟨bq, 0, none⟩)])))
    (qq : Rq) (V : Bool) (HNX : Hid (∀ X, R1 X → Calls Tryz.prog 193 #[.pointer (some ⟨b, 0, none⟩)] X (AskPost X qq V)))
    (HGO : Hid (V = true → ∀ X X', R1 X → Below X.heap.size X X' → R2 X'))
    (HAF : Hid (V = false → ∀ X X', R1 X → Below X.heap.size X X' → Calls Tryz.prog 158 #[.pointer (some ⟨bq, 0, none⟩)] X' fun r w' => r = .returned (.tuple #[]) ∧ R2 w')) :
    Calls Tryz.prog 54 #[.pointer (some ⟨g, 0, none⟩), .agg #[.int .i64 O.verdict, .int .i64 O.reply.fn, .int .i64 O.reply.exc, .slice da O.reply.data.length dc, .int .i64 O.reply.code, .int .i64 O.reply.level, .bool O.reply.more, .int .i64 O.reply.next, .slice oa O.reply.objs.length oc]] w (FeedEnd R2) := by
  have hm1 : ∀ (a : Addr) (w : World), (method 361 145 (.pointer (some a)) "Feed").run Tryz.prog w = .ok (192, .pointer (some a)) w := fun _ _ => by kernel_rfl
  have hm2 : ∀ (a : Addr) (w : World), (method 361 145 (.pointer (some a)) "Next").run Tryz.prog w = .ok (193, .pointer (some a)) w := fun _ _ => by kernel_rfl
  have hm3 : ∀ (a : Addr) (w : World), (nilAhead 361 145 (.pointer (some a)) "Feed").run Tryz.prog w = .ok (some false) w := fun _ _ => by kernel_rfl
  have hm4 : ∀ (a : Addr) (w : World), (nilAhead 361 145 (.pointer (some a)) "Next").run Tryz.prog w = .ok (some false) w := fun _ _ => by kernel_rfl
  obtain ⟨W0, hW0⟩ : ∃ W, w.alloc (.cells #[.int .i64 O.verdict, .int .i64 O.reply.fn, .int .i64 O.reply.exc, .slice da O.reply.data.length dc, .int .i64 O.reply.code, .int .i64 O.reply.level, .bool O.reply.more, .int .i64 O.reply.next, .slice oa O.reply.objs.length oc] 55) = W := ⟨_, rfl⟩
  have hgl : g < w.heap.size := hpLt h
  have hgn : g ≠ w.heap.size := by omega
  have hb0 : Below w.heap.size w W0 := by rw [← hW0]; exact bal' w _
  have p0 : W0.heap[w.heap.size]? = some (.cells #[.int .i64 O.verdict, .int .i64 O.reply.fn, .int .i64 O.reply.exc, .slice da O.reply.data.length dc, .int .i64 O.reply.code, .int .i64 O.reply.level, .bool O.reply.more, .int .i64 O.reply.next, .slice oa O.reply.objs.length oc] 55) := by rw [← hW0]; exact hpNew w _
  have h0 := hpKeep h hb0
  have c8 : W0.cell? ⟨g, 8, none⟩ = some (.iface 145 (.pointer (some ⟨b, 0, none⟩))) := by rw [hpCell h0 8]; exact h8
  have c31 : W0.cell? ⟨g, 31, none⟩ = some (.int .i64 q) := by rw [hpCell h0 31]; exact h31
  have f31 : W0.frozen? ⟨g, 31, none⟩ = false := hpFree h0 31
  have o0 : W0.cell? ⟨w.heap.size, 0, none⟩ = some (.int .i64 O.verdict) := hpCell p0 0
  have o1 : W0.cell? ⟨w.heap.size, 1, none⟩ = some (.int .i64 O.reply.fn) := hpCell p0 1
  have o2 : W0.cell? ⟨w.heap.size, 2, none⟩ = some (.int .i64 O.reply.exc) := hpCell p0 2
  have o3 : W0.cell? ⟨w.heap.size, 3, none⟩ = some (.slice da O.reply.data.length dc) := hpCell p0 3
  have o4 : W0.cell? ⟨w.heap.size, 4, none⟩ = some (.int .i64 O.reply.code) := hpCell p0 4
  have o5 : W0.cell? ⟨w.heap.size, 5, none⟩ = some (.int .i64 O.reply.level) := hpCell p0 5
  have o6 : W0.cell? ⟨w.heap.size, 6, none⟩ = some (.bool O.reply.more) := hpCell p0 6
  have o7 : W0.cell? ⟨w.heap.size, 7, none⟩ = some (.int .i64 O.reply.next) := hpCell p0 7
  have o8 : W0.cell? ⟨w.heap.size, 8, none⟩ = some (.slice oa O.reply.objs.length oc) := hpCell p0 8
  rw [hW0] at HFD
  have HW0 := hid hW0
  clear hW0 hb0 p0 h0 h h8 h31
  go_enter Tryz.func54, Tryz.ntmps54
  go_upto_region 1 with (fail)
  rw [HW0.out]
  go_wp2
  go_region_with (go_at_call 192; (with_reducible refine HFD.out.mono ?_); rintro r w1 ⟨rfl, hr1⟩)
  all_goals
    obtain ⟨y8, y9⟩ := HPR.out w1 hr1
    have HR1 := hid hr1
    clear hr1 c8 c31 f31 o0 o1 o2 o3 o4 o5 o6 o7 o8
    cases V
    · have HAF1 := hid (HAF.out rfl)
      clear HAF HGO
      go_wp2_with (first
        | (go_at_call 193; (with_reducible refine (HNX.out w1 HR1.out).mono ?_); rintro r w2 ⟨rfl, hb2⟩; have z9 := (fun o => cell_keep (bta hb2 (Nat.le_refl _) o) y9))
        | (go_at_call 158; (with_reducible refine (HAF1.out w1 _ HR1.out (bta hb2 (Nat.le_refl _) _)).mono ?_); rintro r w3 ⟨rfl, hr3⟩))
      go_ret
      exact ⟨rfl, hr3⟩
    · have HGO1 := hid (HGO.out rfl)
      clear HAF HGO
      go_wp2_with (go_at_call 193; (with_reducible refine (HNX.out w1 HR1.out).mono ?_); rintro r w2 ⟨rfl, hb2⟩)
      go_ret
      exact ⟨rfl, HGO1.out w1 _ HR1.out (bta hb2 (Nat.le_refl _) _)⟩
set_option maxRecDepth 100000 in
set_option maxHeartbeats 3200000 in
theorem pfeed_seek_go (g b bp bk bs : Nat) (A : Array Value) (w : World) (h : w.heap[g]? = some (.cells A 143)) (h8 : A[8]? = some (.iface 221 (.pointer (some ⟨b, 0, none⟩)))) (q : Int) (h31 : A[31]? = some (.int .i64 q)) (q' : Int) (sw : IntKind.i64.wrap (q + 1) = q')
    (O : Oc) (da : Option Addr) (dc : Nat) (oa : Option Addr) (oc : Nat) (R1 R2 : World → Prop)
    (HFD : Hid (Calls Tryz.prog 197 #[.pointer (some ⟨b, 0, none⟩), .agg #[.int .i64 O.verdict, .int .i64 O.reply.fn, .int .i64 O.reply.exc, .slice da O.reply.data.length dc, .int .i64 O.reply.code, .int .i64 O.reply.level, .bool O.reply.more, .int .i64 O.reply.next, .slice oa O.reply.objs.length oc]] ((w.alloc (.cells #[.int .i64 O.verdict, .int .i64 O.reply.fn, .int .i64 O.reply.exc, .slice da O.reply.data.length dc, .int .i64 O.reply.code, .int .i64 O.reply.level, .bool O.reply.more, .int .i64 O.reply.next, .slice oa O.reply.objs.length oc] 55)).setCell ⟨g, 31, none⟩ (.int .i64 q')).drew (FeedEnd R1)))
    (HPR : Hid (∀ X, R1 X → X.cell? ⟨g, 8, none⟩ = some (.iface 221 (.pointer (some ⟨b, 0, none⟩))) ∧ X.cell? ⟨g, 9, none⟩ = some (.func (.func 167) #[] #[.pointer (some ⟨bp, 0, none⟩), .pointer (some ⟨bk, 0, none⟩), .pointer (some ⟨bs, 0, none⟩)])))
    (qq : Rq) (V : Bool) (HNX : Hid (∀ X, R1 X → Calls Tryz.prog 198 #[.pointer (some ⟨b, 0, none⟩)] X (AskPost X qq V)))
    (HGO : Hid (V = true → ∀ X X', R1 X → Below X.heap.size X X' → R2 X'))
    (HAF : Hid (V = false → ∀ X X', R1 X → Below X.heap.size X X' → Calls Tryz.prog 167 #[.pointer (some ⟨bp, 0, none⟩), .pointer (some ⟨bk, 0, none⟩), .pointer (some ⟨bs, 0, none⟩)] X' fun r w' => r = .returned (.tuple #[]) ∧ R2 w')) :
    Calls Tryz.prog 54 #[.pointer (some ⟨g, 0, none⟩), .agg #[.int .i64 O.verdict, .int .i64 O.reply.fn, .int .i64 O.reply.exc, .slice da O.reply.data.length dc, .int .i64 O.reply.code, .int .i64 O.reply.level, .bool O.reply.more, .int .i64 O.reply.next, .slice oa O.reply.objs.length oc]] w (FeedEnd R2) := by
  have hm1 : ∀ (a : Addr) (w : World), (method 361 221 (.pointer (some a)) "Feed").run Tryz.prog w = .ok (197, .pointer (some a)) w := fun _ _ => by kernel_rfl
  have hm2 : ∀ (a : Addr) (w : World), (method 361 221 (.pointer (some a)) "Next").run Tryz.prog w = .ok (198, .pointer (some a)) w := fun _ _ => by kernel_rfl
  have hm3 : ∀ (a : Addr) (w : World), (nilAhead 361 221 (.pointer (some a)) "Feed").run Tryz.prog w = .ok (some false) w := fun _ _ => by kernel_rfl
  have hm4 : ∀ (a : Addr) (w : World), (nilAhead 361 221 (.pointer (some a)) "Next").run Tryz.prog w = .ok (some false) w := fun _ _ => by kernel_rfl
  obtain ⟨W0, hW0⟩ : ∃ W, w.alloc (.cells #[.int .i64 O.verdict, .int .i64 O.reply.fn, .int .i64 O.reply.exc, .slice da O.reply.data.length dc, .int .i64 O.reply.code, .int .i64 O.reply.level, .bool O.reply.more, .int .i64 O.reply.next, .slice oa O.reply.objs.length oc] 55) = W := ⟨_, rfl⟩
  have hgl : g < w.heap.size := hpLt h
  have hgn : g ≠ w.heap.size := by omega
  have hb0 : Below w.heap.size w W0 := by rw [← hW0]; exact bal' w _
  have p0 : W0.heap[w.heap.size]? = some (.cells #[.int .i64 O.verdict, .int .i64 O.reply.fn, .int .i64 O.reply.exc, .slice da O.reply.data.length dc, .int .i64 O.reply.code, .int .i64 O.reply.level, .bool O.reply.more, .int .i64 O.reply.next, .slice oa O.reply.objs.length oc] 55) := by rw [← hW0]; exact hpNew w _
  have h0 := hpKeep h hb0
  have c8 : W0.cell? ⟨g, 8, none⟩ = some (.iface 221 (.pointer (some ⟨b, 0, none⟩))) := by rw [hpCell h0 8]; exact h8
  have c31 : W0.cell? ⟨g, 31, none⟩ = some (.int .i64 q) := by rw [hpCell h0 31]; exact h31
  have f31 : W0.frozen? ⟨g, 31, none⟩ = false := hpFree h0 31
  have o0 : W0.cell? ⟨w.heap.size, 0, none⟩ = some (.int .i64 O.verdict) := hpCell p0 0
  have o1 : W0.cell? ⟨w.heap.size, 1, none⟩ = some (.int .i64 O.reply.fn) := hpCell p0 1
  have o2 : W0.cell? ⟨w.heap.size, 2, none⟩ = some (.int .i64 O.reply.exc) := hpCell p0 2
  have o3 : W0.cell? ⟨w.heap.size, 3, none⟩ = some (.slice da O.reply.data.length dc) := hpCell p0 3
  have o4 : W0.cell? ⟨w.heap.size, 4, none⟩ = some (.int .i64 O.reply.code) := hpCell p0 4
  have o5 : W0.cell? ⟨w.heap.size, 5, none⟩ = some (.int .i64 O.reply.level) := hpCell p0 5
  have o6 : W0.cell? ⟨w.heap.size, 6, none⟩ = some (.bool O.reply.more) := hpCell p0 6
  have o7 : W0.cell? ⟨w.heap.size, 7, none⟩ = some (.int .i64 O.reply.next) := hpCell p0 7
  have o8 : W0.cell? ⟨w.heap.size, 8, none⟩ = some (.slice oa O.reply.objs.length oc) := hpCell p0 8
  rw [hW0] at HFD
  have HW0 := hid hW0
  clear hW0 hb0 p0 h0 h h8 h31
  go_enter Tryz.func54, Tryz.ntmps54
  go_upto_region 1 with (fail)
  rw [HW0.out]
  go_wp2
  go_region_with (go_at_call 197; (with_reducible refine HFD.out.mono ?_); rintro r w1 ⟨rfl, hr1⟩)
  all_goals
    obtain ⟨y8, y9⟩ := HPR.out w1 hr1
    have HR1 := hid hr1
    clear hr1 c8 c31 f31 o0 o1 o2 o3 o4 o5 o6 o7 o8
    cases V
    · have HAF1 := hid (HAF.out rfl)
      clear HAF HGO
      go_wp2_with (first
        | (go_at_call 198; (with_reducible refine (HNX.out w1 HR1.out).mono ?_); rintro r w2 ⟨rfl, hb2⟩; have z9 := (fun o => cell_keep (bta hb2 (Nat.le_refl _) o) y9))
        | (go_at_call 167; (with_reducible refine (HAF1.out w1 _ HR1.out (bta hb2 (Nat.le_refl _) _)).mono ?_); rintro r w3 ⟨rfl, hr3⟩))
      go_ret
      exact ⟨rfl, hr3⟩
    · have HGO1 := hid (HGO.out rfl)
      clear HAF HGO
      go_wp2_with (go_at_call 198; (with_reducible refine (HNX.out w1 HR1.out).mono ?_); rintro r w2 ⟨rfl, hb2⟩)
      go_ret
      exact ⟨rfl, HGO1.out w1 _ HR1.out (bta hb2 (Nat.le_refl _) _)⟩
end Go.Proofs.YtipnamoocemeeaaGreat
namespace Go.Proofs.YtipnamoocemeeaaGreat
open Go.RowKit
set_option maxRecDepth 100000 in
set_option maxHeartbeats 3200000 in
theorem pfeed_map_go (g b bm bp bk : Nat) (A : Array Value) (w : World) (h : w.heap[g]? = some (.cells A 143)) (h8 : A[8]? = some (.iface 226 (.pointer (some ⟨b, 0, none⟩)))) (q : Int) (h31 : A[31]? = some (.int .i64 q)) (q' : Int) (sw : IntKind.i64.wrap (q + 1) = q')
    (O : Oc) (da : Option Addr) (dc : Nat) (oa : Option Addr) (oc : Nat) (R1 R2 : World → Prop)
    (HFD : Hid (Calls Tryz.prog 201 #[.pointer (some ⟨b, 0, none⟩), .agg #[.int .i64 O.verdict, .int .i64 O.reply.fn, .int .i64 O.reply.exc, .slice da O.reply.data.length dc, .int .i64 O.reply.code, .int .i64 O.reply.level, .bool O.reply.more, .int .i64 O.reply.next, .slice oa O.reply.objs.length oc]] ((w.alloc (.cells #[.int .i64 O.verdict, .int .i64 O.reply.fn, .int .i64 O.reply.exc, .slice da O.reply.data.length dc, .int .i64 O.reply.code, .int .i64 O.reply.level, .bool O.reply.more, .int .i64 O.reply.next, .slice oa O.reply.objs.length oc] 55)).setCell ⟨g, 31, none⟩ (.int .i64 q')).drew (FeedEnd R1)))
    (HPR : Hid (∀ X, R1 X → X.cell? ⟨g, 8, none⟩ = some (.iface 226 (.pointer (some ⟨b, 0, none⟩))) ∧ X.cell? ⟨g, 9, none⟩ = some (.func (.func 171) #[] #[.pointer (some ⟨bm, 0, none⟩), .pointer (some ⟨bp, 0, none⟩), .pointer (some ⟨bk, 0, none⟩)])))
    (qq : Rq) (V : Bool) (HNX : Hid (∀ X, R1 X → Calls Tryz.prog 202 #[.pointer (some ⟨b, 0, none⟩)] X (AskPost X qq V)))
    (HGO : Hid (V = true → ∀ X X', R1 X → Below X.heap.size X X' → R2 X'))
    (HAF : Hid (V = false → ∀ X X', R1 X → Below X.heap.size X X' → Calls Tryz.prog 171 #[.pointer (some ⟨bm, 0, none⟩), .pointer (some ⟨bp, 0, none⟩), .pointer (some ⟨bk, 0, none⟩)] X' fun r w' => r = .returned (.tuple #[]) ∧ R2 w')) :
    Calls Tryz.prog 54 #[.pointer (some ⟨g, 0, none⟩), .agg #[.int .i64 O.verdict, .int .i64 O.reply.fn, .int .i64 O.reply.exc, .slice da O.reply.data.length dc, .int .i64 O.reply.code, .int .i64 O.reply.level, .bool O.reply.more, .int .i64 O.reply.next, .slice oa O.reply.objs.length oc]] w (FeedEnd R2) := by
  have hm1 : ∀ (a : Addr) (w : World), (method 361 226 (.pointer (some a)) "Feed").run Tryz.prog w = .ok (201, .pointer (some a)) w := fun _ _ => by kernel_rfl
  have hm2 : ∀ (a : Addr) (w : World), (method 361 226 (.pointer (some a)) "Next").run Tryz.prog w = .ok (202, .pointer (some a)) w := fun _ _ => by kernel_rfl
  have hm3 : ∀ (a : Addr) (w : World), (nilAhead 361 226 (.pointer (some a)) "Feed").run Tryz.prog w = .ok (some false) w := fun _ _ => by kernel_rfl
  have hm4 : ∀ (a : Addr) (w : World), (nilAhead 361 226 (.pointer (some a)) "Next").run Tryz.prog w = .ok (some false) w := fun _ _ => by kernel_rfl
  obtain ⟨W0, hW0⟩ : ∃ W, w.alloc (.cells #[.int .i64 O.verdict, .int .i64 O.reply.fn, .int .i64 O.reply.exc, .slice da O.reply.data.length dc, .int .i64 O.reply.code, .int .i64 O.reply.level, .bool O.reply.more, .int .i64 O.reply.next, .slice oa O.reply.objs.length oc] 55) = W := ⟨_, rfl⟩
  have hgl : g < w.heap.size := hpLt h
  have hgn : g ≠ w.heap.size := by omega
  have hb0 : Below w.heap.size w W0 := by rw [← hW0]; exact bal' w _
  have p0 : W0.heap[w.heap.size]? = some (.cells #[.int .i64 O.verdict, .int .i64 O.reply.fn, .int .i64 O.reply.exc, .slice da O.reply.data.length dc, .int .i64 O.reply.code, .int .i64 O.reply.level, .bool O.reply.more, .int .i64 O.reply.next, .slice oa O.reply.objs.length oc] 55) := by rw [← hW0]; exact hpNew w _
  have h0 := hpKeep h hb0
  have c8 : W0.cell? ⟨g, 8, none⟩ = some (.iface 226 (.pointer (some ⟨b, 0, none⟩))) := by rw [hpCell h0 8]; exact h8
  have c31 : W0.cell? ⟨g, 31, none⟩ = some (.int .i64 q) := by rw [hpCell h0 31]; exact h31
  have f31 : W0.frozen? ⟨g, 31, none⟩ = false := hpFree h0 31
  have o0 : W0.cell? ⟨w.heap.size, 0, none⟩ = some (.int .i64 O.verdict) := hpCell p0 0
  have o1 : W0.cell? ⟨w.heap.size, 1, none⟩ = some (.int .i64 O.reply.fn) := hpCell p0 1
  have o2 : W0.cell? ⟨w.heap.size, 2, none⟩ = some (.int .i64 O.reply.exc) := hpCell p0 2
  have o3 : W0.cell? ⟨w.heap.size, 3, none⟩ = some (.slice da O.reply.data.length dc) := hpCell p0 3
  have o4 : W0.cell? ⟨w.heap.size, 4, none⟩ = some (.int .i64 O.reply.code) := hpCell p0 4
  have o5 : W0.cell? ⟨w.heap.size, 5, none⟩ = some (.int .i64 O.reply.level) := hpCell p0 5
  have o6 : W0.cell? ⟨w.heap.size, 6, none⟩ = some (.bool O.reply.more) := hpCell p0 6
  have o7 : W0.cell? ⟨w.heap.size, 7, none⟩ = some (.int .i64 O.reply.next) := hpCell p0 7
  have o8 : W0.cell? ⟨w.heap.size, 8, none⟩ = some (.slice oa O.reply.objs.length oc) := hpCell p0 8
  rw [hW0] at HFD
  have HW0 := hid hW0
  clear hW0 hb0 p0 h0 h h8 h31
  go_enter Tryz.func54, Tryz.ntmps54
  go_upto_region 1 with (fail)
  rw [HW0.out]
  go_wp2
  go_region_with (go_at_call 201; (with_reducible refine HFD.out.mono ?_); rintro r w1 ⟨rfl, hr1⟩)
  all_goals
    obtain ⟨y8, y9⟩ := HPR.out w1 hr1
    have HR1 := hid hr1
    clear hr1 c8 c31 f31 o0 o1 o2 o3 o4 o5 o6 o7 o8
    cases V
    · have HAF1 := hid (HAF.out rfl)
      clear HAF HGO
      go_wp2_with (first
        | (go_at_call 202; (with_reducible refine (HNX.out w1 HR1.out).mono ?_); rintro r w2 ⟨rfl, hb2⟩; have z9 := (fun o => cell_keep (bta hb2 (Nat.le_refl _) o) y9))
        | (go_at_call 171; (with_reducible refine (HAF1.out w1 _ HR1.out (bta hb2 (Nat.le_refl _) _)).mono ?_); rintro r w3 ⟨rfl, hr3⟩))
      go_ret
      exact ⟨rfl, hr3⟩
    · have HGO1 := hid (HGO.out rfl)
      clear HAF HGO
      go_wp2_with (go_at_call 202; (with_reducible refine (HNX.out w1 HR1.out).mono ?_); rintro r w2 ⟨rfl, hb2⟩)
      go_ret
      exact ⟨rfl, HGO1.out w1 _ HR1.out (bta hb2 (Nat.le_refl _) _)⟩
end Go.Proofs.YtipnamoocemeeaaGreat
