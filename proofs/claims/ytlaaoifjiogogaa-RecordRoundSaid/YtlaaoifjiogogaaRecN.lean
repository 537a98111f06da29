/-
  The contract of record.appendOutcome at short outcomes, and of record.Encode over any contract of appendOutcome.
-/
import Derived.Test.YtlaaoifjiogogaaRecM
import Derived.Test.YtlaaoifjiogogaaPduSpec
namespace Go.Proofs.Ytlaaoifjiogogaa
open Go.RowKit

/-- What a call that appends leaves. -/
def AppPost (base : Nat) (w : World) (l : List UInt8) (r : Ending) (w' : World) : Prop := ∃ a c, r = .returned (.slice a l.length c) ∧ w'.ownsRow base 5 1 (.slice a l.length c) l.length (u8s l) ∧ Below base w w'

theorem bs1 (W : World) (n : Nat) (x : Int) (h1 : 0 ≤ x) (h2 : x ≤ 255) (hn : n = W.heap.size) : Bs (W.alloc (.cells #[.int .u8 x] 5)) (.slice (some ⟨n, 0, none⟩) 1 1) [byteI x] := by
  subst hn
  refine Bs.mk (l := [byteI x]) (Nat.le_refl 1) (by unfold maxLen; decide) fun i hi => ?_
  have : i = 0 := by simp at hi; omega
  subst this
  rw [World.cell?_alloc_at _ _ _ _ rfl]
  show some (Value.int .u8 x) = some (.int .u8 ((byteI x).toNat : Int))
  rw [byteI_val h1 h2]
theorem bs2 (W : World) (n : Nat) (x y : Int) (h1 : 0 ≤ x) (h2 : x ≤ 255) (h3 : 0 ≤ y) (h4 : y ≤ 255) (hn : n = W.heap.size) : Bs (W.alloc (.cells #[.int .u8 x, .int .u8 y] 5)) (.slice (some ⟨n, 0, none⟩) 2 2) [byteI x, byteI y] := by
  subst hn
  refine Bs.mk (l := [byteI x, byteI y]) (Nat.le_refl 2) (by unfold maxLen; decide) fun i hi => ?_
  rw [World.cell?_alloc_at _ _ _ _ rfl]
  match i, hi with
  | 0, _ => show some (Value.int .u8 x) = some (.int .u8 ((byteI x).toNat : Int)); rw [byteI_val h1 h2]
  | 1, _ => show some (Value.int .u8 y) = some (.int .u8 ((byteI y).toNat : Int)); rw [byteI_val h3 h4]

set_option maxRecDepth 100000 in
set_option maxHeartbeats 3200000 in
theorem appOc_silent (v fn exc : Int) (code level : Int) (more : Bool) (next : Int) (da oa : Option Addr) (dn dc on oc : Nat) (ba : Option Addr) (bc : Nat) (bs : List UInt8) (base : Nat) (w : World) (hown : w.ownsRow base 5 1 (.slice ba bs.length bc) bs.length (u8s bs)) (hbase : base ≤ w.heap.size) (hlen : bs.length ≤ 1000000) (hv : v = 3 ∨ v = 4 ∨ v = 5) :
    Calls Try.prog 49 #[.slice ba bs.length bc, .agg #[.int .i64 v, .int .i64 fn, .int .i64 exc, .slice da dn dc, .int .i64 code, .int .i64 level, .bool more, .int .i64 next, .slice oa on oc]] w (AppPost base w (bs ++ [byteI v])) := by
  obtain ⟨i5, hi, hz0, hz1, hz2⟩ := info_parts infoB
  have hv1 : 0 ≤ v := by omega
  have hv2 : v ≤ 255 := by omega
  have t1 : (v == 2) = false := by rw [beq_eq_false_iff_ne]; omega
  have t2 : (v != 1) = true := by rw [bne_iff_ne]; omega
  have hw8 : IntKind.u8.wrap v = v := by rcases hv with rfl | rfl | rfl <;> rfl
  have HO := hid (((hown.alloc (.cells #[.int .i64 v, .int .i64 fn, .int .i64 exc, .slice da dn dc, .int .i64 code, .int .i64 level, .bool more, .int .i64 next, .slice oa on oc] 27)).alloc (.cells #[.int .u8 v] 5)))
  have HB := hid (bs1 (w.alloc (.cells #[.int .i64 v, .int .i64 fn, .int .i64 exc, .slice da dn dc, .int .i64 code, .int .i64 level, .bool more, .int .i64 next, .slice oa on oc] 27)) (w.heap.size + 1) v hv1 hv2 (by simp))
  have hbel : Below base w ((w.alloc (.cells #[.int .i64 v, .int .i64 fn, .int .i64 exc, .slice da dn dc, .int .i64 code, .int .i64 level, .bool more, .int .i64 next, .slice oa on oc] 27)).alloc (.cells #[.int .u8 v] 5)) := (b2 w _ _).mono hbase
  have HBE := hid hbel
  have HLT := hid hown.lt
  have hbox : ((w.alloc (.cells #[.int .i64 v, .int .i64 fn, .int .i64 exc, .slice da dn dc, .int .i64 code, .int .i64 level, .bool more, .int .i64 next, .slice oa on oc] 27)).alloc (.cells #[.int .u8 v] 5)).heap[w.heap.size]? = some (.cells #[.int .i64 v, .int .i64 fn, .int .i64 exc, .slice da dn dc, .int .i64 code, .int .i64 level, .bool more, .int .i64 next, .slice oa on oc] 27) := by
    rw [Below.heap_alloc _ _ _ (by simp)]; exact heap_alloc_new _ _
  have HBX := hid hbox
  clear hown hbel hv hbox
  go_enter Try.func49, Try.ntmps49
  go_wp2_with (at_builtin; refine wpList_app rfl _ _ 22 rfl base 5 i5 Try.underlying22 hi hz0 hz1 hz2 (.slice ba bs.length bc) bs rfl HO.out _ [byteI v] rfl HB.out ?c1 ?c2 ?c3)
  case c1 => simp; omega
  case c2 => simp; omega
  case c3 =>
    intro v1 w2 hown2 hgr2
    have hb2 := HBE.out.grown hgr2 (by simp; omega) (fun k hk => (HLT.out k hk).1)
    have hg0 : w2.heap[w.heap.size]? = some (.cells #[.int .i64 v, .int .i64 fn, .int .i64 exc, .slice da dn dc, .int .i64 code, .int .i64 level, .bool more, .int .i64 next, .slice oa on oc] 27) := by
      rw [hgr2.block _ (by simp; omega) (fun e => by have := (HLT.out _ e.symm).2; omega)]; exact HBX.out
    have p0 : w2.cell? ⟨w.heap.size, 0, none⟩ = some (.int .i64 v) := cell_heap hg0 0
    clear hg0
    obtain ⟨a1, c1, rfl⟩ := own_slice hown2
    have HX := hid hown2
    have HY := hid hb2
    have hll := hid (show (bs ++ [byteI v]).length = bs.length + 1 by simp)
    clear hown2 hgr2 hb2
    go_wp2
    go_ret
    exact ⟨a1, c1, by rw [hll.out]; rfl, by rw [hll.out]; exact HX.out, HY.out⟩

set_option maxRecDepth 100000 in
set_option maxHeartbeats 6400000 in
theorem appOc_exc (fn exc : Int) (code level : Int) (more : Bool) (next : Int) (da oa : Option Addr) (dn dc on oc : Nat) (ba : Option Addr) (bc : Nat) (bs : List UInt8) (base : Nat) (w : World) (hown : w.ownsRow base 5 1 (.slice ba bs.length bc) bs.length (u8s bs)) (hbase : base ≤ w.heap.size) (hlen : bs.length ≤ 1000000) (f1 : 0 ≤ fn) (f2 : fn ≤ 255) (e1 : 0 ≤ exc) (e2 : exc ≤ 255) :
    Calls Try.prog 49 #[.slice ba bs.length bc, .agg #[.int .i64 2, .int .i64 fn, .int .i64 exc, .slice da dn dc, .int .i64 code, .int .i64 level, .bool more, .int .i64 next, .slice oa on oc]] w (AppPost base w (bs ++ [byteI 2, byteI fn, byteI exc])) := by
  obtain ⟨i5, hi, hz0, hz1, hz2⟩ := info_parts infoB
  have HO := hid (((hown.alloc (.cells #[.int .i64 2, .int .i64 fn, .int .i64 exc, .slice da dn dc, .int .i64 code, .int .i64 level, .bool more, .int .i64 next, .slice oa on oc] 27)).alloc (.cells #[.int .u8 2] 5)))
  have HB := hid (bs1 (w.alloc (.cells #[.int .i64 2, .int .i64 fn, .int .i64 exc, .slice da dn dc, .int .i64 code, .int .i64 level, .bool more, .int .i64 next, .slice oa on oc] 27)) (w.heap.size + 1) 2 (by decide) (by decide) (by simp))
  have hbel : Below base w ((w.alloc (.cells #[.int .i64 2, .int .i64 fn, .int .i64 exc, .slice da dn dc, .int .i64 code, .int .i64 level, .bool more, .int .i64 next, .slice oa on oc] 27)).alloc (.cells #[.int .u8 2] 5)) := (b2 w _ _).mono hbase
  have HBE := hid hbel
  have HLT := hid hown.lt
  have hbox : ((w.alloc (.cells #[.int .i64 2, .int .i64 fn, .int .i64 exc, .slice da dn dc, .int .i64 code, .int .i64 level, .bool more, .int .i64 next, .slice oa on oc] 27)).alloc (.cells #[.int .u8 2] 5)).heap[w.heap.size]? = some (.cells #[.int .i64 2, .int .i64 fn, .int .i64 exc, .slice da dn dc, .int .i64 code, .int .i64 level, .bool more, .int .i64 next, .slice oa on oc] 27) := by
    rw [Below.heap_alloc _ _ _ (by simp)]; exact heap_alloc_new _ _
  have HBX := hid hbox
  clear hown hbel hbox
  go_enter Try.func49, Try.ntmps49
  go_wp2_with (at_builtin; refine wpList_app rfl (.tmp 7) (.tmp 11) 22 rfl base 5 i5 Try.underlying22 hi hz0 hz1 hz2 (.slice ba bs.length bc) bs rfl HO.out _ [byteI 2] rfl HB.out ?c1 ?c2 ?c3)
  case c1 => simp; omega
  case c2 => simp; omega
  case c3 =>
    intro v1 w2 hown2 hgr2
    have hb2 := HBE.out.grown hgr2 (by simp; omega) (fun k hk => (HLT.out k hk).1)
    have hg0 : w2.heap[w.heap.size]? = some (.cells #[.int .i64 2, .int .i64 fn, .int .i64 exc, .slice da dn dc, .int .i64 code, .int .i64 level, .bool more, .int .i64 next, .slice oa on oc] 27) := by
      rw [hgr2.block _ (by simp; omega) (fun e => by have := (HLT.out _ e.symm).2; omega)]; exact HBX.out
    have p0 : w2.cell? ⟨w.heap.size, 0, none⟩ = some (.int .i64 2) := cell_heap hg0 0
    have p1 : w2.cell? ⟨w.heap.size, 1, none⟩ = some (.int .i64 fn) := cell_heap hg0 1
    have p2 : w2.cell? ⟨w.heap.size, 2, none⟩ = some (.int .i64 exc) := cell_heap hg0 2
    obtain ⟨a1, c1, rfl⟩ := own_slice hown2
    have hsz2 := hb2.size
    have hw1 : IntKind.u8.wrap fn = fn := by show fn % 256 = fn; omega
    have hw2 : IntKind.u8.wrap exc = exc := by show exc % 256 = exc; omega
    have hown2' : w2.ownsRow base 5 1 (.slice a1 (bs.length + 1) c1) (bs ++ [byteI 2]).length (u8s (bs ++ [byteI 2])) := by
      rw [show (bs ++ [byteI 2]).length = bs.length + 1 by simp]; exact hown2
    have HO2 := hid (hown2'.alloc (.cells #[.int .u8 fn, .int .u8 exc] 5))
    have HL2 := hid hown2.lt
    have HB2 := hid (bs2 w2 w2.heap.size fn exc f1 f2 e1 e2 rfl)
    have HBE2 := hid (hb2.alloc (by omega) (.cells #[.int .u8 fn, .int .u8 exc] 5))
    have hll2 : (bs ++ [byteI 2]).length = bs.length + 1 := by simp
    have HLL := hid hll2
    clear hown2 hown2' hgr2 hb2 hg0 hll2
    go_wp2_with (at_builtin; refine wpList_app rfl (.tmp 17) (.tmp 26) 22 rfl base 5 i5 Try.underlying22 hi hz0 hz1 hz2 (.slice a1 (bs.length + 1) c1) (bs ++ [byteI 2]) rfl HO2.out _ [byteI fn, byteI exc] rfl HB2.out ?d1 ?d2 ?d3)
    case d1 => rw [HLL.out]; simp; omega
    case d2 => simp; omega
    case d3 =>
      intro v3 w3 hown3 hgr3
      have hb3 := HBE2.out.grown hgr3 (by simp; omega) (fun k hk => (HL2.out k hk).1)
      obtain ⟨a3, c3, rfl⟩ := own_slice hown3
      have HX := hid hown3
      have HY := hid hb3
      have hll := hid (show (bs ++ [byteI 2, byteI fn, byteI exc]).length = bs.length + 1 + 2 by simp)
      clear hown3 hgr3 hb3
      go_wp2
      go_ret
      exact ⟨a3, c3, by rw [hll.out]; rfl, by rw [hll.out]; exact HX.out, HY.out⟩

end Go.Proofs.Ytlaaoifjiogogaa
