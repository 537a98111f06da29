/-
  Several texts of this claim in one file.
-/
import Derived.Test.YtlaaoifjiogogaaMrecm
/-
The PDU of a reply, and the contract of reply.Encode but for its loop.
-/
namespace Go.Proofs.Ytlaaoifjiogogaa
open Go.RowKit

theorem own2 (w : World) (base : Nat) (x y : Int) (h1 : 0 ≤ x) (h2 : x ≤ 255) (h3 : 0 ≤ y) (h4 : y ≤ 255) (hb : base ≤ w.heap.size) :
    (w.alloc (.cells #[.int .u8 x, .int .u8 y] 5)).ownsRow base 5 1 (.slice (some ⟨w.heap.size, 0, none⟩) 2 2) [byteI x, byteI y].length (u8s [byteI x, byteI y]) := by
  refine ⟨rfl, .inr ⟨w.heap.size, 2, _, rfl, hb, heap_alloc_new _ _, Nat.le_refl _, by decide, rfl, ?_⟩⟩
  show [Value.int .u8 x, .int .u8 y] = [.int .u8 ((byteI x).toNat : Int), .int .u8 ((byteI y).toNat : Int)]
  rw [byteI_val h1 h2, byteI_val h3 h4]

theorem own7 (w : World) (base : Nat) (a b c d e : Int) (ha : 0 ≤ a ∧ a ≤ 255) (hb' : 0 ≤ b ∧ b ≤ 255) (hc : 0 ≤ c ∧ c ≤ 255) (hd : 0 ≤ d ∧ d ≤ 255) (he : 0 ≤ e ∧ e ≤ 255) (hb : base ≤ w.heap.size) :
    (w.alloc (.cells #[.int .u8 43, .int .u8 14, .int .u8 a, .int .u8 b, .int .u8 c, .int .u8 d, .int .u8 e] 5)).ownsRow base 5 1 (.slice (some ⟨w.heap.size, 0, none⟩) 7 7) 7 (u8s [43, 14, byteI a, byteI b, byteI c, byteI d, byteI e]) := by
  refine ⟨rfl, .inr ⟨w.heap.size, 7, _, rfl, hb, heap_alloc_new _ _, Nat.le_refl _, by decide, rfl, ?_⟩⟩
  show [Value.int .u8 43, .int .u8 14, .int .u8 a, .int .u8 b, .int .u8 c, .int .u8 d, .int .u8 e] = [.int .u8 43, .int .u8 14, .int .u8 ((byteI a).toNat : Int), .int .u8 ((byteI b).toNat : Int), .int .u8 ((byteI c).toNat : Int), .int .u8 ((byteI d).toNat : Int), .int .u8 ((byteI e).toNat : Int)]
  rw [byteI_val ha.1 ha.2, byteI_val hb'.1 hb'.2, byteI_val hc.1 hc.2, byteI_val hd.1 hd.2, byteI_val he.1 he.2]

end Go.Proofs.Ytlaaoifjiogogaa

/-
The contracts of reply.Encode and of the reference's EncodeReply, but for device identifications.
-/
namespace Go.Proofs.Ytlaaoifjiogogaa
open Go.RowKit

theorem ne_box {W : World} {v v5 : Value} {b : Nat} (hn : NewOr W v v5) (h1 : ∀ k, v.ownBlock = some k → k < b) (h2 : b < W.heap.size) : ∀ j, v5.ownBlock = some j → j ≠ b := by
  intro j hj
  rcases hn with h | ⟨j2, h, hj2⟩
  · rw [hj] at h
    have := h1 _ h.symm
    omega
  · rw [hj] at h
    cases h
    omega

set_option maxRecDepth 100000 in
set_option maxHeartbeats 3200000 in
theorem enc_no (fn exc : Int) (code level : Int) (more : Bool) (next : Int) (data : List UInt8) (objs : List Ob) (da oa : Option Addr) (dc oc : Nat) (w : World) (hd : Bs w (.slice da data.length dc) data) (ho : Obs w (.slice oa objs.length oc) objs) (hl : level ≤ 9223372036854775807) (hl2 : -9223372036854775808 ≤ level) (hk : Rp.ok ⟨fn, exc, data, code, level, more, next, objs⟩ = false) :
    Calls Try.prog 89 #[.agg #[.int .i64 fn, .int .i64 exc, .slice da data.length dc, .int .i64 code, .int .i64 level, .bool more, .int .i64 next, .slice oa objs.length oc]] w fun r w' => r = .returned (.tuple #[.slice none 0 0, .int .i64 5]) ∧ Below w.heap.size w w' := by
  have HV : Hid (∀ X, Calls Try.prog 46 #[.agg #[.int .i64 fn, .int .i64 exc, .slice da data.length dc, .int .i64 code, .int .i64 level, .bool more, .int .i64 next, .slice oa objs.length oc]] (w.alloc X) fun r w' => r = .returned (.bool false) ∧ Below (w.alloc X).heap.size (w.alloc X) w') := fun X => by rw [← hk]; exact rvalid_any _ _ _ _ _ _ _ _ data objs _ (hd.keep (bal' w X)) (ho.keep (bal' w X)) hl hl2
  clear hd ho hk
  go_enter Try.func89, Try.ntmps89
  go_wp2_with (first | (go_at_call 46; (with_reducible refine (HV.out _).mono ?_); rintro r w1 ⟨rfl, hb1⟩))
  go_ret2
  exact ⟨rfl, bt (bal' w _) hb1 (Nat.le_refl _)⟩

set_option maxRecDepth 100000 in
set_option maxHeartbeats 3200000 in
theorem enc_exc (fn exc : Int) (code level : Int) (more : Bool) (next : Int) (data : List UInt8) (objs : List Ob) (da oa : Option Addr) (dc oc : Nat) (w : World) (hd : Bs w (.slice da data.length dc) data) (ho : Obs w (.slice oa objs.length oc) objs) (hl : level ≤ 9223372036854775807) (hl2 : -9223372036854775808 ≤ level) (hk : Rp.ok ⟨fn, exc, data, code, level, more, next, objs⟩ = true)
    (hf : 1 ≤ fn ∧ fn ≤ 43) (hx : 1 ≤ exc ∧ exc ≤ 255) :
    Calls Try.prog 89 #[.agg #[.int .i64 fn, .int .i64 exc, .slice da data.length dc, .int .i64 code, .int .i64 level, .bool more, .int .i64 next, .slice oa objs.length oc]] w (EncPost w [byteI (fn + 128), byteI exc]) := by
  have HV : Hid (∀ X, Calls Try.prog 46 #[.agg #[.int .i64 fn, .int .i64 exc, .slice da data.length dc, .int .i64 code, .int .i64 level, .bool more, .int .i64 next, .slice oa objs.length oc]] (w.alloc X) fun r w' => r = .returned (.bool true) ∧ Below (w.alloc X).heap.size (w.alloc X) w') := fun X => by rw [← hk]; exact rvalid_any _ _ _ _ _ _ _ _ data objs _ (hd.keep (bal' w X)) (ho.keep (bal' w X)) hl hl2
  clear hd ho hk
  obtain ⟨f1, f2⟩ := hf
  obtain ⟨x1, x2⟩ := hx
  have t1 : (exc != 0) = true := by rw [bne_iff_ne]; omega
  have u1 : IntKind.u8.wrap (fn + 128) = fn + 128 := by show (fn + 128) % 256 = fn + 128; omega
  have u2 : IntKind.u8.wrap exc = exc := by show exc % 256 = exc; omega
  go_enter Try.func89, Try.ntmps89
  go_wp2_with fail
  refine (HV.out _).mono ?_
  rintro r w1 ⟨rfl, hb1⟩
  have gB : w1.heap[w.heap.size]? = some (.cells #[.int .i64 fn, .int .i64 exc, .slice da data.length dc, .int .i64 code, .int .i64 level, .bool more, .int .i64 next, .slice oa objs.length oc] 25 (0, 0)) := by rw [hb1.block _ (by simp)]; exact heap_alloc_new _ _
  have p0 : w1.cell? ⟨w.heap.size, 0, none⟩ = some (.int .i64 fn) := cell_heap gB 0
  have p1 : w1.cell? ⟨w.heap.size, 1, none⟩ = some (.int .i64 exc) := cell_heap gB 1
  have hbw := bt (bal' w _) hb1 (Nat.le_refl _)
  have HB := hid (bs2 w1 w1.heap.size (fn + 128) exc (by omega) (by omega) (by omega) x2 rfl)
  clear gB hb1
  go_wp2
  go_ret2
  exact ⟨_, _, rfl, HB.out, bta hbw (Nat.le_refl _) _, fun ad h => by cases h; exact hbw.size⟩

set_option maxRecDepth 100000 in
set_option maxHeartbeats 3200000 in
theorem enc_data (fn : Int) (code level : Int) (more : Bool) (next : Int) (data : List UInt8) (objs : List Ob) (da oa : Option Addr) (dc oc : Nat) (w : World) (hd : Bs w (.slice da data.length dc) data) (ho : Obs w (.slice oa objs.length oc) objs) (hl : level ≤ 9223372036854775807) (hl2 : -9223372036854775808 ≤ level) (hk : Rp.ok ⟨fn, 0, data, code, level, more, next, objs⟩ = true)
    (hf : 1 ≤ fn ∧ fn ≤ 42) (hx : data.length ≤ 251) :
    Calls Try.prog 89 #[.agg #[.int .i64 fn, .int .i64 0, .slice da data.length dc, .int .i64 code, .int .i64 level, .bool more, .int .i64 next, .slice oa objs.length oc]] w (EncPost w (byteI fn :: byteI data.length :: data)) := by
  obtain ⟨i5, hi, hz0, hz1, hz2⟩ := info_parts infoB
  have HV : Hid (∀ X, Calls Try.prog 46 #[.agg #[.int .i64 fn, .int .i64 0, .slice da data.length dc, .int .i64 code, .int .i64 level, .bool more, .int .i64 next, .slice oa objs.length oc]] (w.alloc X) fun r w' => r = .returned (.bool true) ∧ Below (w.alloc X).heap.size (w.alloc X) w') := fun X => by rw [← hk]; exact rvalid_any _ _ _ _ _ _ _ _ data objs _ (hd.keep (bal' w X)) (ho.keep (bal' w X)) hl hl2
  have HD := hid hd
  clear hd ho hk
  obtain ⟨f1, f2⟩ := hf
  have t1 : (fn != 43) = true := by rw [bne_iff_ne]; omega
  have u1 : IntKind.u8.wrap fn = fn := by show fn % 256 = fn; omega
  have u2 : IntKind.u8.wrap (data.length : Int) = data.length := by show (data.length : Int) % 256 = data.length; omega
  go_enter Try.func89, Try.ntmps89
  go_wp2_with fail
  refine (HV.out _).mono ?_
  rintro r w1 ⟨rfl, hb1⟩
  have gB : w1.heap[w.heap.size]? = some (.cells #[.int .i64 fn, .int .i64 0, .slice da data.length dc, .int .i64 code, .int .i64 level, .bool more, .int .i64 next, .slice oa objs.length oc] 25 (0, 0)) := by rw [hb1.block _ (by simp)]; exact heap_alloc_new _ _
  have p0 : w1.cell? ⟨w.heap.size, 0, none⟩ = some (.int .i64 fn) := cell_heap gB 0
  have p1 : w1.cell? ⟨w.heap.size, 1, none⟩ = some (.int .i64 0) := cell_heap gB 1
  have p2 : w1.cell? ⟨w.heap.size, 2, none⟩ = some (.slice da data.length dc) := cell_heap gB 2
  have p2' := cell_keep (bal' w1 (.cells #[.int .u8 fn, .int .u8 data.length] 5)) p2
  have hbw := bt (bal' w _) hb1 (Nat.le_refl _)
  have HO := hid (own2 w1 w1.heap.size fn data.length (by omega) (by omega) (by omega) (by omega) (Nat.le_refl _))
  have HD1 := hid ((HD.out.keep hbw).keep (bal' w1 (.cells #[.int .u8 fn, .int .u8 data.length] 5)))
  clear gB hb1
  go_wp2_with (at_builtin; refine wpList_app rfl _ _ 22 rfl w1.heap.size 5 i5 Try.underlying22 hi hz0 hz1 hz2 (.slice (some ⟨w1.heap.size, 0, none⟩) 2 2) [byteI fn, byteI data.length] rfl HO.out _ data rfl HD1.out ?c1 ?c2 ?c3)
  case c1 => simp; omega
  case c2 => simp
  case c3 =>
    intro v2 w2 hown2 hgr2
    have hb2 : Below w1.heap.size w1 w2 := (bal' w1 (.cells #[.int .u8 fn, .int .u8 data.length] 5)).grown hgr2 (bal' w1 (.cells #[.int .u8 fn, .int .u8 data.length] 5)).size (by intro k hk; simp [Value.ownBlock] at hk; omega)
    obtain ⟨a2, c2, rfl⟩ := own_slice hown2
    have hll := hid (show (byteI fn :: byteI data.length :: data).length = 2 + data.length by simp; omega)
    have HX := hid (show Bs w2 (.slice a2 (2 + data.length) c2) (byteI fn :: byteI data.length :: data) from Bs.own hown2)
    have HY := hid (bt hbw hb2 (Nat.le_refl _))
    have HLO := hid hown2.lt
    clear hown2 hgr2 hb2
    go_wp2
    go_ret2
    exact ⟨a2, c2, by rw [hll.out]; rfl, by rw [hll.out]; exact HX.out, HY.out, fun ad h => Nat.le_trans hbw.size (HLO.out ad.block (by rw [h]; rfl)).1⟩

set_option maxRecDepth 100000 in
set_option maxHeartbeats 3200000 in
theorem renc_no (fn exc : Int) (code level : Int) (more : Bool) (next : Int) (data : List UInt8) (objs : List Ob) (da oa : Option Addr) (dc oc : Nat) (w : World) (hd : Bs w (.slice da data.length dc) data) (ho : Obs w (.slice oa objs.length oc) objs) (hk : Rp.ok ⟨fn, exc, data, code, level, more, next, objs⟩ = false) :
    Calls Try.prog 90 #[.agg #[.int .i64 fn, .int .i64 exc, .slice da data.length dc, .int .i64 code, .int .i64 level, .bool more, .int .i64 next, .slice oa objs.length oc]] w fun r w' => r = .returned (.tuple #[.slice none 0 0, .int .i64 5]) ∧ Below w.heap.size w w' := by
  have HV : Hid (∀ X, Calls Try.prog 47 #[.agg #[.int .i64 fn, .int .i64 exc, .slice da data.length dc, .int .i64 code, .int .i64 level, .bool more, .int .i64 next, .slice oa objs.length oc]] (w.alloc X) fun r w' => r = .returned (.bool false) ∧ Below (w.alloc X).heap.size (w.alloc X) w') := fun X => vreply_any _ _ _ _ _ _ _ _ data objs _ (hd.keep (bal' w X)) (ho.keep (bal' w X)) _ hk
  clear hd ho hk
  go_enter Try.func90, Try.ntmps90
  go_wp2_with (first | (go_at_call 47; (with_reducible refine (HV.out _).mono ?_); rintro r w1 ⟨rfl, hb1⟩))
  go_ret2
  exact ⟨rfl, bt (bal' w _) hb1 (Nat.le_refl _)⟩

set_option maxRecDepth 100000 in
set_option maxHeartbeats 3200000 in
theorem renc_exc (fn exc : Int) (code level : Int) (more : Bool) (next : Int) (data : List UInt8) (objs : List Ob) (da oa : Option Addr) (dc oc : Nat) (w : World) (hd : Bs w (.slice da data.length dc) data) (ho : Obs w (.slice oa objs.length oc) objs) (hk : Rp.ok ⟨fn, exc, data, code, level, more, next, objs⟩ = true)
    (hf : 1 ≤ fn ∧ fn ≤ 43) (hx : 1 ≤ exc ∧ exc ≤ 255) :
    Calls Try.prog 90 #[.agg #[.int .i64 fn, .int .i64 exc, .slice da data.length dc, .int .i64 code, .int .i64 level, .bool more, .int .i64 next, .slice oa objs.length oc]] w (EncPost w [byteI (fn + 128), byteI exc]) := by
  have HV : Hid (∀ X, Calls Try.prog 47 #[.agg #[.int .i64 fn, .int .i64 exc, .slice da data.length dc, .int .i64 code, .int .i64 level, .bool more, .int .i64 next, .slice oa objs.length oc]] (w.alloc X) fun r w' => r = .returned (.bool true) ∧ Below (w.alloc X).heap.size (w.alloc X) w') := fun X => vreply_any _ _ _ _ _ _ _ _ data objs _ (hd.keep (bal' w X)) (ho.keep (bal' w X)) _ hk
  clear hd ho hk
  obtain ⟨f1, f2⟩ := hf
  obtain ⟨x1, x2⟩ := hx
  have t1 : (exc != 0) = true := by rw [bne_iff_ne]; omega
  have u1 : IntKind.u8.wrap (fn + 128) = fn + 128 := by show (fn + 128) % 256 = fn + 128; omega
  have u2 : IntKind.u8.wrap exc = exc := by show exc % 256 = exc; omega
  go_enter Try.func90, Try.ntmps90
  go_wp2_with fail
  refine (HV.out _).mono ?_
  rintro r w1 ⟨rfl, hb1⟩
  have gB : w1.heap[w.heap.size]? = some (.cells #[.int .i64 fn, .int .i64 exc, .slice da data.length dc, .int .i64 code, .int .i64 level, .bool more, .int .i64 next, .slice oa objs.length oc] 25 (0, 0)) := by rw [hb1.block _ (by simp)]; exact heap_alloc_new _ _
  have p0 : w1.cell? ⟨w.heap.size, 0, none⟩ = some (.int .i64 fn) := cell_heap gB 0
  have p1 : w1.cell? ⟨w.heap.size, 1, none⟩ = some (.int .i64 exc) := cell_heap gB 1
  have hbw := bt (bal' w _) hb1 (Nat.le_refl _)
  have HB := hid (bs2 w1 w1.heap.size (fn + 128) exc (by omega) (by omega) (by omega) x2 rfl)
  clear gB hb1
  go_wp2
  go_ret2
  exact ⟨_, _, rfl, HB.out, bta hbw (Nat.le_refl _) _, fun ad h => by cases h; exact hbw.size⟩

set_option maxRecDepth 100000 in
set_option maxHeartbeats 3200000 in
theorem renc_data (fn : Int) (code level : Int) (more : Bool) (next : Int) (data : List UInt8) (objs : List Ob) (da oa : Option Addr) (dc oc : Nat) (w : World) (hd : Bs w (.slice da data.length dc) data) (ho : Obs w (.slice oa objs.length oc) objs) (hk : Rp.ok ⟨fn, 0, data, code, level, more, next, objs⟩ = true)
    (hf : 1 ≤ fn ∧ fn ≤ 42) (hx : data.length ≤ 251) :
    Calls Try.prog 90 #[.agg #[.int .i64 fn, .int .i64 0, .slice da data.length dc, .int .i64 code, .int .i64 level, .bool more, .int .i64 next, .slice oa objs.length oc]] w (EncPost w (byteI fn :: byteI data.length :: data)) := by
  obtain ⟨i5, hi, hz0, hz1, hz2⟩ := info_parts infoB
  have HV : Hid (∀ X, Calls Try.prog 47 #[.agg #[.int .i64 fn, .int .i64 0, .slice da data.length dc, .int .i64 code, .int .i64 level, .bool more, .int .i64 next, .slice oa objs.length oc]] (w.alloc X) fun r w' => r = .returned (.bool true) ∧ Below (w.alloc X).heap.size (w.alloc X) w') := fun X => vreply_any _ _ _ _ _ _ _ _ data objs _ (hd.keep (bal' w X)) (ho.keep (bal' w X)) _ hk
  have HD := hid hd
  clear hd ho hk
  obtain ⟨f1, f2⟩ := hf
  have t1 : (fn != 43) = true := by rw [bne_iff_ne]; omega
  have u1 : IntKind.u8.wrap fn = fn := by show fn % 256 = fn; omega
  have u2 : IntKind.u8.wrap (data.length : Int) = data.length := by show (data.length : Int) % 256 = data.length; omega
  go_enter Try.func90, Try.ntmps90
  go_wp2_with fail
  refine (HV.out _).mono ?_
  rintro r w1 ⟨rfl, hb1⟩
  have gB : w1.heap[w.heap.size]? = some (.cells #[.int .i64 fn, .int .i64 0, .slice da data.length dc, .int .i64 code, .int .i64 level, .bool more, .int .i64 next, .slice oa objs.length oc] 25 (0, 0)) := by rw [hb1.block _ (by simp)]; exact heap_alloc_new _ _
  have p0 : w1.cell? ⟨w.heap.size, 0, none⟩ = some (.int .i64 fn) := cell_heap gB 0
  have p1 : w1.cell? ⟨w.heap.size, 1, none⟩ = some (.int .i64 0) := cell_heap gB 1
  have p2 : w1.cell? ⟨w.heap.size, 2, none⟩ = some (.slice da data.length dc) := cell_heap gB 2
  have p2' := cell_keep (bal' w1 (.cells #[.int .u8 fn, .int .u8 data.length] 5)) p2
  have hbw := bt (bal' w _) hb1 (Nat.le_refl _)
  have HO := hid (own2 w1 w1.heap.size fn data.length (by omega) (by omega) (by omega) (by omega) (Nat.le_refl _))
  have HD1 := hid ((HD.out.keep hbw).keep (bal' w1 (.cells #[.int .u8 fn, .int .u8 data.length] 5)))
  clear gB hb1
  go_wp2_with (at_builtin; refine wpList_app rfl _ _ 22 rfl w1.heap.size 5 i5 Try.underlying22 hi hz0 hz1 hz2 (.slice (some ⟨w1.heap.size, 0, none⟩) 2 2) [byteI fn, byteI data.length] rfl HO.out _ data rfl HD1.out ?c1 ?c2 ?c3)
  case c1 => simp; omega
  case c2 => simp
  case c3 =>
    intro v2 w2 hown2 hgr2
    have hb2 : Below w1.heap.size w1 w2 := (bal' w1 (.cells #[.int .u8 fn, .int .u8 data.length] 5)).grown hgr2 (bal' w1 (.cells #[.int .u8 fn, .int .u8 data.length] 5)).size (by intro k hk; simp [Value.ownBlock] at hk; omega)
    obtain ⟨a2, c2, rfl⟩ := own_slice hown2
    have hll := hid (show (byteI fn :: byteI data.length :: data).length = 2 + data.length by simp; omega)
    have HX := hid (show Bs w2 (.slice a2 (2 + data.length) c2) (byteI fn :: byteI data.length :: data) from Bs.own hown2)
    have HY := hid (bt hbw hb2 (Nat.le_refl _))
    have HLO := hid hown2.lt
    clear hown2 hgr2 hb2
    go_wp2
    go_ret2
    exact ⟨a2, c2, by rw [hll.out]; rfl, by rw [hll.out]; exact HX.out, HY.out, fun ad h => Nat.le_trans hbw.size (HLO.out ad.block (by rw [h]; rfl)).1⟩

end Go.Proofs.Ytlaaoifjiogogaa
