/-
  The contract of record.appendOutcome at clean outcomes.
-/
import Derived.Test.YtlaaoifjiogogaaPduE
namespace Go.Proofs.Ytlaaoifjiogogaa
open Go.RowKit

theorem wrap8 {x : Int} (h1 : 0 ≤ x) (h2 : x ≤ 255) : IntKind.u8.wrap x = x := by show x % 256 = x; omega

set_option maxRecDepth 100000 in
set_option maxHeartbeats 6400000 in
theorem appOc_tab (fn exc : Int) (code level : Int) (more : Bool) (next : Int) (data : List UInt8) (objs : List Ob) (da oa : Option Addr) (dc oc : Nat) (ba : Option Addr) (bc : Nat) (bs : List UInt8) (base : Nat) (w : World) (hown : w.ownsRow base 5 1 (.slice ba bs.length bc) bs.length (u8s bs)) (hbase : base ≤ w.heap.size) (hlen : bs.length ≤ 1000000) (ht : tblB fn = true) :
    Calls Try.prog 49 #[.slice ba bs.length bc, .agg #[.int .i64 1, .int .i64 fn, .int .i64 exc, .slice da data.length dc, .int .i64 code, .int .i64 level, .bool more, .int .i64 next, .slice oa objs.length oc]] w (AppPost base w (bs ++ [byteI 1, byteI fn])) := by
  obtain ⟨i5, hi, hz0, hz1, hz2⟩ := info_parts infoB
  have hf : 1 ≤ fn ∧ fn ≤ 4 := by unfold tblB at ht; simpa using ht
  obtain ⟨f1, f2⟩ := hf
  have HT : Hid (∀ W, Calls Try.prog 41 #[.int .i64 fn] W fun r w' => r = .returned (.bool true) ∧ W = w') := fun W => by rw [← ht]; exact isTable_any _ _
  have HO := hid ((hown.alloc (.cells #[.int .i64 1, .int .i64 fn, .int .i64 exc, .slice da data.length dc, .int .i64 code, .int .i64 level, .bool more, .int .i64 next, .slice oa objs.length oc] 27)).alloc (.cells #[.int .u8 1] 5))
  have HB := hid (bs1 (w.alloc (.cells #[.int .i64 1, .int .i64 fn, .int .i64 exc, .slice da data.length dc, .int .i64 code, .int .i64 level, .bool more, .int .i64 next, .slice oa objs.length oc] 27)) (w.heap.size + 1) 1 (by decide) (by decide) (by simp))
  have HBE : Hid (Below base w ((w.alloc (.cells #[.int .i64 1, .int .i64 fn, .int .i64 exc, .slice da data.length dc, .int .i64 code, .int .i64 level, .bool more, .int .i64 next, .slice oa objs.length oc] 27)).alloc (.cells #[.int .u8 1] 5))) := (b2 w _ _).mono hbase
  have HLT := hid hown.lt
  have HBX : Hid (((w.alloc (.cells #[.int .i64 1, .int .i64 fn, .int .i64 exc, .slice da data.length dc, .int .i64 code, .int .i64 level, .bool more, .int .i64 next, .slice oa objs.length oc] 27)).alloc (.cells #[.int .u8 1] 5)).heap[w.heap.size]? = some (.cells #[.int .i64 1, .int .i64 fn, .int .i64 exc, .slice da data.length dc, .int .i64 code, .int .i64 level, .bool more, .int .i64 next, .slice oa objs.length oc] 27)) := by
    show ((w.alloc (.cells #[.int .i64 1, .int .i64 fn, .int .i64 exc, .slice da data.length dc, .int .i64 code, .int .i64 level, .bool more, .int .i64 next, .slice oa objs.length oc] 27)).alloc (.cells #[.int .u8 1] 5)).heap[w.heap.size]? = some (.cells #[.int .i64 1, .int .i64 fn, .int .i64 exc, .slice da data.length dc, .int .i64 code, .int .i64 level, .bool more, .int .i64 next, .slice oa objs.length oc] 27)
    rw [Below.heap_alloc _ _ _ (by simp)]; exact heap_alloc_new _ _
  clear hown ht
  go_enter Try.func49, Try.ntmps49
  go_wp2_with (at_builtin; refine wpList_appB rfl (.tmp 7) (.tmp 11) 22 rfl base 5 i5 Try.underlying22 hi hz0 hz1 hz2 (.slice ba bs.length bc) bs rfl HO.out _ [byteI 1] rfl HB.out ?c1 ?c2 ?c3)
  case c1 => simp; omega
  case c2 => simp; omega
  case c3 =>
    intro v1 w2 hown2 hgr2 hnew2
    have HNE := hid (ne_box hnew2 (fun k hk => (HLT.out k hk).2) (show w.heap.size < ((w.alloc (.cells #[.int .i64 1, .int .i64 fn, .int .i64 exc, .slice da data.length dc, .int .i64 code, .int .i64 level, .bool more, .int .i64 next, .slice oa objs.length oc] 27)).alloc (.cells #[.int .u8 1] 5)).heap.size by simp; omega))
    clear hnew2
    have hb2 := HBE.out.grown hgr2 (by simp; omega) (fun k hk => (HLT.out k hk).1)
    have hg0 : w2.heap[w.heap.size]? = some (.cells #[.int .i64 1, .int .i64 fn, .int .i64 exc, .slice da data.length dc, .int .i64 code, .int .i64 level, .bool more, .int .i64 next, .slice oa objs.length oc] 27) := by
      rw [hgr2.block _ (by simp; omega) (fun e => by have := (HLT.out _ e.symm).2; omega)]; exact HBX.out
    have p0 : w2.cell? ⟨w.heap.size, 0, none⟩ = some (.int .i64 1) := cell_heap hg0 0
    have p1 : w2.cell? ⟨w.heap.size, 1, none⟩ = some (.int .i64 fn) := cell_heap hg0 1
    obtain ⟨a1, c1, rfl⟩ := own_slice hown2
    have hsz2 := hb2.size
    have hne1 : ∀ k, (Value.slice a1 (bs.length + 1) c1).ownBlock = some k → k < w2.heap.size := fun k hk => (hown2.lt k hk).2
    have hown2' : w2.ownsRow base 5 1 (.slice a1 (bs.length + 1) c1) (bs ++ [byteI 1]).length (u8s (bs ++ [byteI 1])) := by
      rw [show (bs ++ [byteI 1]).length = bs.length + 1 by simp]; exact hown2
    have HO2 := hid (hown2'.alloc (.cells #[.int .u8 fn] 5))
    have HL2 := hid hown2.lt
    have HB2 := hid (bs1 w2 w2.heap.size fn (by omega) (by omega) rfl)
    have HBE2 := hid (hb2.alloc (by omega) (.cells #[.int .u8 fn] 5))
    have HLL : Hid ((bs ++ [byteI 1]).length = bs.length + 1) := by show _ = _; simp
    have HG := hid hg0
    clear hown2 hown2' hgr2 hb2 hg0 hne1
    go_wp2_with (at_builtin; refine wpList_app rfl (.tmp 33) (.tmp 38) 22 rfl base 5 i5 Try.underlying22 hi hz0 hz1 hz2 (.slice a1 (bs.length + 1) c1) (bs ++ [byteI 1]) rfl HO2.out _ [byteI fn] rfl HB2.out ?d1 ?d2 ?d3)
    case d1 => rw [HLL.out]; simp; omega
    case d2 => simp; omega
    case d3 =>
      intro v3 w3 hown3 hgr3
      have hb3 := HBE2.out.grown hgr3 (by simp; omega) (fun k hk => (HL2.out k hk).1)
      have hltb : w.heap.size < w2.heap.size := (Array.getElem?_eq_some_iff.1 HG.out).1
      have hg1 : w3.heap[w.heap.size]? = some (.cells #[.int .i64 1, .int .i64 fn, .int .i64 exc, .slice da data.length dc, .int .i64 code, .int .i64 level, .bool more, .int .i64 next, .slice oa objs.length oc] 27) := by
        rw [hgr3.block _ (by simp; omega) (fun e => HNE.out _ e.symm rfl), Below.heap_alloc _ _ _ hltb]; exact HG.out
      have q1 : w3.cell? ⟨w.heap.size, 1, none⟩ = some (.int .i64 fn) := cell_heap hg1 1
      obtain ⟨a3, c3, rfl⟩ := own_slice hown3
      have HX : Hid (w3.ownsRow base 5 1 (.slice a3 (bs.length + 1 + 1) c3) (bs.length + 1 + 1) (u8s (bs ++ [byteI 1, byteI fn]))) := hown3
      have HY := hid hb3
      have hll := hid (show (bs ++ [byteI 1, byteI fn]).length = bs.length + 1 + 1 by simp)
      clear hown3 hgr3 hb3 hg1 p0 p1
      go_wp2_with (go_at_call 41; (with_reducible refine (HT.out _).mono ?_); rintro r w4 ⟨rfl, rfl⟩)
      go_ret
      exact ⟨a3, c3, by rw [hll.out]; rfl, by rw [hll.out]; exact HX.out, HY.out⟩

end Go.Proofs.Ytlaaoifjiogogaa
