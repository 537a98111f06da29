/-
  Several texts of this claim in one file.
-/
import Derived.Test.YtlaaoifjiogogaaPduC
import Derived.Test.YtlaaoifjiogogaaPduD
/-
The contracts of reply.Encode and of the reference's EncodeReply at every valid reply.
-/
namespace Go.Proofs.Ytlaaoifjiogogaa
open Go.RowKit

theorem enc_any (fn exc : Int) (code level : Int) (more : Bool) (next : Int) (data : List UInt8) (objs : List Ob) (da oa : Option Addr) (dc oc : Nat) (w : World) (hd : Bs w (.slice da data.length dc) data) (ho : Obs w (.slice oa objs.length oc) objs) (hl : level ≤ 9223372036854775807) (hl2 : -9223372036854775808 ≤ level) (hk : Rp.ok ⟨fn, exc, data, code, level, more, next, objs⟩ = true) :
    Calls Try.prog 89 #[.agg #[.int .i64 fn, .int .i64 exc, .slice da data.length dc, .int .i64 code, .int .i64 level, .bool more, .int .i64 next, .slice oa objs.length oc]] w (EncPost w (Rp.pdu ⟨fn, exc, data, code, level, more, next, objs⟩)) := by
  obtain ⟨hf, h | h | h⟩ := ok_cases hk
  · obtain ⟨hx, h1, h2⟩ := h
    have e : Rp.pdu ⟨fn, exc, data, code, level, more, next, objs⟩ = [byteI (fn + 128), byteI exc] := by unfold Rp.pdu; rw [if_neg hx]
    rw [e]
    exact enc_exc fn exc code level more next data objs da oa dc oc w hd ho hl hl2 hk hf ⟨h1, h2⟩
  · obtain ⟨rfl, h43, h1, h2⟩ := h
    have e : Rp.pdu ⟨fn, 0, data, code, level, more, next, objs⟩ = byteI fn :: byteI data.length :: data := by unfold Rp.pdu; rw [if_pos rfl, if_neg h43]
    rw [e]
    exact enc_data fn code level more next data objs da oa dc oc w hd ho hl hl2 hk ⟨hf.1, h1⟩ h2
  · obtain ⟨rfl, rfl, rfl, h1, h2, h3, h4, h5, h6, h7⟩ := h
    have e : Rp.pdu ⟨43, 0, [], code, level, more, next, objs⟩ = devHead ⟨43, 0, [], code, level, more, next, objs⟩ ++ encObs objs := by unfold Rp.pdu; rw [if_pos rfl, if_pos rfl]
    rw [e]
    exact enc_dev code level more next objs da oa dc oc w hd ho hk h1 h2 h3 h4 h5 h6 h7 _ rfl

theorem renc_any (fn exc : Int) (code level : Int) (more : Bool) (next : Int) (data : List UInt8) (objs : List Ob) (da oa : Option Addr) (dc oc : Nat) (w : World) (hd : Bs w (.slice da data.length dc) data) (ho : Obs w (.slice oa objs.length oc) objs) (hk : Rp.ok ⟨fn, exc, data, code, level, more, next, objs⟩ = true) :
    Calls Try.prog 90 #[.agg #[.int .i64 fn, .int .i64 exc, .slice da data.length dc, .int .i64 code, .int .i64 level, .bool more, .int .i64 next, .slice oa objs.length oc]] w (EncPost w (Rp.pdu ⟨fn, exc, data, code, level, more, next, objs⟩)) := by
  obtain ⟨hf, h | h | h⟩ := ok_cases hk
  · obtain ⟨hx, h1, h2⟩ := h
    have e : Rp.pdu ⟨fn, exc, data, code, level, more, next, objs⟩ = [byteI (fn + 128), byteI exc] := by unfold Rp.pdu; rw [if_neg hx]
    rw [e]
    exact renc_exc fn exc code level more next data objs da oa dc oc w hd ho hk hf ⟨h1, h2⟩
  · obtain ⟨rfl, h43, h1, h2⟩ := h
    have e : Rp.pdu ⟨fn, 0, data, code, level, more, next, objs⟩ = byteI fn :: byteI data.length :: data := by unfold Rp.pdu; rw [if_pos rfl, if_neg h43]
    rw [e]
    exact renc_data fn code level more next data objs da oa dc oc w hd ho hk ⟨hf.1, h1⟩ h2
  · obtain ⟨rfl, rfl, rfl, h1, h2, h3, h4, h5, h6, h7⟩ := h
    have e : Rp.pdu ⟨43, 0, [], code, level, more, next, objs⟩ = devHead ⟨43, 0, [], code, level, more, next, objs⟩ ++ encObs objs := by unfold Rp.pdu; rw [if_pos rfl, if_pos rfl]
    rw [e]
    exact renc_dev code level more next objs da oa dc oc w hd ho hk h1 h2 h3 h4 h5 h6 h7 _ rfl

end Go.Proofs.Ytlaaoifjiogogaa

/-
The contract of record.appendOutcome at clean outcomes.
-/
namespace Go.Proofs.Ytlaaoifjiogogaa
open Go.RowKit

theorem wrap8 {x : Int} (h1 : 0 ≤ x) (h2 : x ≤ 255) : IntKind.u8.wrap x = x := by show x % 256 = x; omega

set_option maxRecDepth 100000 in
set_option maxHeartbeats 6400000 in
theorem appOc_tab (fn exc : Int) (code level : Int) (more : Bool) (next : Int) (data : List UInt8) (objs : List Ob) (da oa : Option Addr) (dc oc : Nat) (ba : Option Addr) (bc : Nat) (bs : List UInt8) (base : Nat) (w : World) (hown : w.ownsRow base 5 1 (.slice ba bs.length bc) bs.length (u8s bs)) (hbase : base ≤ w.heap.size) (hlen : bs.length ≤ 1000000) (ht : tblB fn = true) :
    Calls Try.prog 49 #[.slice ba bs.length bc, .agg #[.int .i64 1, .int .i64 fn, .int .i64 exc, .slice da data.length dc, .int .i64 code, .int .i64 level, .bool more, .int .i64 next, .slice oa objs.length oc]] w (AppPost base w (bs ++ [byteI 1, byteI fn])) := by
  obtain ⟨i5, hi, hz0, hz1, hz2⟩ := info_parts infoB
  have hf : 1 ≤ fn ∧ fn ≤ 4 := by unfold tblB at ht; simpa using ht
  obtain ⟨f1, f2⟩ := hf
  have HT : Hid (∀ W, Calls Try.prog 41 #[.int .i64 fn] W fun r w' => r = .returned (.bool true) ∧ W = w') := fun W => by rw [← ht]; exact isTable_any _ _
  have HO := hid ((hown.alloc (.cells #[.int .i64 1, .int .i64 fn, .int .i64 exc, .slice da data.length dc, .int .i64 code, .int .i64 level, .bool more, .int .i64 next, .slice oa objs.length oc] 27)).alloc (.cells #[.int .u8 1] 5))
  have HB := hid (bs1 (w.alloc (.cells #[.int .i64 1, .int .i64 fn, .int .i64 exc, .slice da data.length dc, .int .i64 code, .int .i64 level, .bool more, .int .i64 next, .slice oa objs.length oc] 27)) (w.heap.size + 1) 1 (by decide) (by decide) (by simp))
  have HBE : Hid (Below base w ((w.alloc (.cells #[.int .i64 1, .int .i64 fn, .int .i64 exc, .slice da data.length dc, .int .i64 code, .int .i64 level, .bool more, .int .i64 next, .slice oa objs.length oc] 27)).alloc (.cells #[.int .u8 1] 5))) := (b2 w _ _).mono hbase
  have HLT := hid hown.lt
  have HBX : Hid (((w.alloc (.cells #[.int .i64 1, .int .i64 fn, .int .i64 exc, .slice da data.length dc, .int .i64 code, .int .i64 level, .bool more, .int .i64 next, .slice oa objs.length oc] 27)).alloc (.cells #[.int .u8 1] 5)).heap[w.heap.size]? = some (.cells #[.int .i64 1, .int .i64 fn, .int .i64 exc, .slice da data.length dc, .int .i64 code, .int .i64 level, .bool more, .int .i64 next, .slice oa objs.length oc] 27)) := by
    show ((w.alloc (.cells #[.int .i64 1, .int .i64 fn, .int .i64 exc, .slice da data.length dc, .int .i64 code, .int .i64 level, .bool more, .int .i64 next, .slice oa objs.length oc] 27)).alloc (.cells #[.int .u8 1] 5)).heap[w.heap.size]? = some (.cells #[.int .i64 1, .int .i64 fn, .int .i64 exc, .slice da data.length dc, .int .i64 code, .int .i64 level, .bool more, .int .i64 next, .slice oa objs.length oc] 27)
    rw [Below.heap_alloc _ _ _ (by simp)]; exact heap_alloc_new _ _
  clear hown ht
  go_enter Try.func49, Try.ntmps49
  go_wp2_with (at_builtin; refine wpList_appB rfl (.tmp 7) (.tmp 11) 22 rfl base 5 i5 Try.underlying22 hi hz0 hz1 hz2 (.slice ba bs.length bc) bs rfl HO.out _ [byteI 1] rfl HB.out ?c1 ?c2 ?c3)
  case c1 => simp; omega
  case c2 => simp; omega
  case c3 =>
    intro v1 w2 hown2 hgr2 hnew2
    have HNE := hid (ne_box hnew2 (fun k hk => (HLT.out k hk).2) (show w.heap.size < ((w.alloc (.cells #[.int .i64 1, .int .i64 fn, .int .i64 exc, .slice da data.length dc, .int .i64 code, .int .i64 level, .bool more, .int .i64 next, .slice oa objs.length oc] 27)).alloc (.cells #[.int .u8 1] 5)).heap.size by simp; omega))
    clear hnew2
    have hb2 := HBE.out.grown hgr2 (by simp; omega) (fun k hk => (HLT.out k hk).1)
    have hg0 : w2.heap[w.heap.size]? = some (.cells #[.int .i64 1, .int .i64 fn, .int .i64 exc, .slice da data.length dc, .int .i64 code, .int .i64 level, .bool more, .int .i64 next, .slice oa objs.length oc] 27) := by
      rw [hgr2.block _ (by simp; omega) (fun e => by have := (HLT.out _ e.symm).2; omega)]; exact HBX.out
    have p0 : w2.cell? ⟨w.heap.size, 0, none⟩ = some (.int .i64 1) := cell_heap hg0 0
    have p1 : w2.cell? ⟨w.heap.size, 1, none⟩ = some (.int .i64 fn) := cell_heap hg0 1
    obtain ⟨a1, c1, rfl⟩ := own_slice hown2
    have hsz2 := hb2.size
    have hne1 : ∀ k, (Value.slice a1 (bs.length + 1) c1).ownBlock = some k → k < w2.heap.size := fun k hk => (hown2.lt k hk).2
    have hown2' : w2.ownsRow base 5 1 (.slice a1 (bs.length + 1) c1) (bs ++ [byteI 1]).length (u8s (bs ++ [byteI 1])) := by
      rw [show (bs ++ [byteI 1]).length = bs.length + 1 by simp]; exact hown2
    have HO2 := hid (hown2'.alloc (.cells #[.int .u8 fn] 5))
    have HL2 := hid hown2.lt
    have HB2 := hid (bs1 w2 w2.heap.size fn (by omega) (by omega) rfl)
    have HBE2 := hid (hb2.alloc (by omega) (.cells #[.int .u8 fn] 5))
    have HLL : Hid ((bs ++ [byteI 1]).length = bs.length + 1) := by show _ = _; simp
    have HG := hid hg0
    clear hown2 hown2' hgr2 hb2 hg0 hne1
    go_wp2_with (at_builtin; refine wpList_app rfl (.tmp 33) (.tmp 38) 22 rfl base 5 i5 Try.underlying22 hi hz0 hz1 hz2 (.slice a1 (bs.length + 1) c1) (bs ++ [byteI 1]) rfl HO2.out _ [byteI fn] rfl HB2.out ?d1 ?d2 ?d3)
    case d1 => rw [HLL.out]; simp; omega
    case d2 => simp; omega
    case d3 =>
      intro v3 w3 hown3 hgr3
      have hb3 := HBE2.out.grown hgr3 (by simp; omega) (fun k hk => (HL2.out k hk).1)
      have hltb : w.heap.size < w2.heap.size := (Array.getElem?_eq_some_iff.1 HG.out).1
      have hg1 : w3.heap[w.heap.size]? = some (.cells #[.int .i64 1, .int .i64 fn, .int .i64 exc, .slice da data.length dc, .int .i64 code, .int .i64 level, .bool more, .int .i64 next, .slice oa objs.length oc] 27) := by
        rw [hgr3.block _ (by simp; omega) (fun e => HNE.out _ e.symm rfl), Below.heap_alloc _ _ _ hltb]; exact HG.out
      have q1 : w3.cell? ⟨w.heap.size, 1, none⟩ = some (.int .i64 fn) := cell_heap hg1 1
      obtain ⟨a3, c3, rfl⟩ := own_slice hown3
      have HX : Hid (w3.ownsRow base 5 1 (.slice a3 (bs.length + 1 + 1) c3) (bs.length + 1 + 1) (u8s (bs ++ [byteI 1, byteI fn]))) := hown3
      have HY := hid hb3
      have hll := hid (show (bs ++ [byteI 1, byteI fn]).length = bs.length + 1 + 1 by simp)
      clear hown3 hgr3 hb3 hg1 p0 p1
      go_wp2_with (go_at_call 41; (with_reducible refine (HT.out _).mono ?_); rintro r w4 ⟨rfl, rfl⟩)
      go_ret
      exact ⟨a3, c3, by rw [hll.out]; rfl, by rw [hll.out]; exact HX.out, HY.out⟩

end Go.Proofs.Ytlaaoifjiogogaa

/-
The contract of record.appendOutcome at clean outcomes with a PDU.
-/
namespace Go.Proofs.Ytlaaoifjiogogaa
open Go.RowKit

set_option maxRecDepth 100000 in
set_option maxHeartbeats 12800000 in
theorem appOc_pdu (fn exc : Int) (code level : Int) (more : Bool) (next : Int) (data : List UInt8) (objs : List Ob) (da oa : Option Addr) (dc oc : Nat) (ba : Option Addr) (bc : Nat) (bs : List UInt8) (base : Nat) (w : World) (hown : w.ownsRow base 5 1 (.slice ba bs.length bc) bs.length (u8s bs)) (hbase : base ≤ w.heap.size) (hlen : bs.length ≤ 1000000) (ht : tblB fn = false) (w0 : World) (hb0 : Below w0.heap.size w0 w) (hbase0 : w0.heap.size ≤ base) (hd : Bs w0 (.slice da data.length dc) data) (ho : Obs w0 (.slice oa objs.length oc) objs) (hl : level ≤ 9223372036854775807) (hl2 : -9223372036854775808 ≤ level) (hk : Rp.ok ⟨fn, exc, data, code, level, more, next, objs⟩ = true) (hpl : (Rp.pdu ⟨fn, exc, data, code, level, more, next, objs⟩).length ≤ 253) :
    Calls Try.prog 49 #[.slice ba bs.length bc, .agg #[.int .i64 1, .int .i64 fn, .int .i64 exc, .slice da data.length dc, .int .i64 code, .int .i64 level, .bool more, .int .i64 next, .slice oa objs.length oc]] w (AppPost base w (bs ++ [byteI 1, byteI fn] ++ [byteI (Rp.pdu ⟨fn, exc, data, code, level, more, next, objs⟩).length] ++ Rp.pdu ⟨fn, exc, data, code, level, more, next, objs⟩)) := by
  obtain ⟨i5, hi, hz0, hz1, hz2⟩ := info_parts infoB
  obtain ⟨⟨f1, f2⟩, _⟩ := ok_cases hk
  have HEN : Hid (∀ W, Below w0.heap.size w0 W → Calls Try.prog 89 #[.agg #[.int .i64 fn, .int .i64 exc, .slice da data.length dc, .int .i64 code, .int .i64 level, .bool more, .int .i64 next, .slice oa objs.length oc]] W (EncPost W (Rp.pdu ⟨fn, exc, data, code, level, more, next, objs⟩))) := fun W hW => enc_any fn exc code level more next data objs da oa dc oc W (hd.keep hW) (ho.keep hW) hl hl2 hk
  generalize Rp.pdu ⟨fn, exc, data, code, level, more, next, objs⟩ = pd at *
  have HT : Hid (∀ W, Calls Try.prog 41 #[.int .i64 fn] W fun r w' => r = .returned (.bool false) ∧ W = w') := fun W => by rw [← ht]; exact isTable_any _ _
  have HO := hid ((hown.alloc (.cells #[.int .i64 1, .int .i64 fn, .int .i64 exc, .slice da data.length dc, .int .i64 code, .int .i64 level, .bool more, .int .i64 next, .slice oa objs.length oc] 27)).alloc (.cells #[.int .u8 1] 5))
  have HB := hid (bs1 (w.alloc (.cells #[.int .i64 1, .int .i64 fn, .int .i64 exc, .slice da data.length dc, .int .i64 code, .int .i64 level, .bool more, .int .i64 next, .slice oa objs.length oc] 27)) (w.heap.size + 1) 1 (by decide) (by decide) (by simp))
  have HBE : Hid (Below base w ((w.alloc (.cells #[.int .i64 1, .int .i64 fn, .int .i64 exc, .slice da data.length dc, .int .i64 code, .int .i64 level, .bool more, .int .i64 next, .slice oa objs.length oc] 27)).alloc (.cells #[.int .u8 1] 5))) := (b2 w _ _).mono hbase
  have HLT := hid hown.lt
  have HBX : Hid (((w.alloc (.cells #[.int .i64 1, .int .i64 fn, .int .i64 exc, .slice da data.length dc, .int .i64 code, .int .i64 level, .bool more, .int .i64 next, .slice oa objs.length oc] 27)).alloc (.cells #[.int .u8 1] 5)).heap[w.heap.size]? = some (.cells #[.int .i64 1, .int .i64 fn, .int .i64 exc, .slice da data.length dc, .int .i64 code, .int .i64 level, .bool more, .int .i64 next, .slice oa objs.length oc] 27)) := by
    show ((w.alloc (.cells #[.int .i64 1, .int .i64 fn, .int .i64 exc, .slice da data.length dc, .int .i64 code, .int .i64 level, .bool more, .int .i64 next, .slice oa objs.length oc] 27)).alloc (.cells #[.int .u8 1] 5)).heap[w.heap.size]? = some (.cells #[.int .i64 1, .int .i64 fn, .int .i64 exc, .slice da data.length dc, .int .i64 code, .int .i64 level, .bool more, .int .i64 next, .slice oa objs.length oc] 27)
    rw [Below.heap_alloc _ _ _ (by simp)]; exact heap_alloc_new _ _
  clear hown ht hd ho hk
  go_enter Try.func49, Try.ntmps49
  go_wp2_with (at_builtin; refine wpList_appB rfl (.tmp 7) (.tmp 11) 22 rfl base 5 i5 Try.underlying22 hi hz0 hz1 hz2 (.slice ba bs.length bc) bs rfl HO.out _ [byteI 1] rfl HB.out ?c1 ?c2 ?c3)
  case c1 => simp; omega
  case c2 => simp; omega
  case c3 =>
    intro v1 w2 hown2 hgr2 hnew2
    have HNE := hid (ne_box hnew2 (fun k hk => (HLT.out k hk).2) (show w.heap.size < ((w.alloc (.cells #[.int .i64 1, .int .i64 fn, .int .i64 exc, .slice da data.length dc, .int .i64 code, .int .i64 level, .bool more, .int .i64 next, .slice oa objs.length oc] 27)).alloc (.cells #[.int .u8 1] 5)).heap.size by simp; omega))
    clear hnew2
    have hb2 := HBE.out.grown hgr2 (by simp; omega) (fun k hk => (HLT.out k hk).1)
    have hg0 : w2.heap[w.heap.size]? = some (.cells #[.int .i64 1, .int .i64 fn, .int .i64 exc, .slice da data.length dc, .int .i64 code, .int .i64 level, .bool more, .int .i64 next, .slice oa objs.length oc] 27) := by
      rw [hgr2.block _ (by simp; omega) (fun e => by have := (HLT.out _ e.symm).2; omega)]; exact HBX.out
    have p0 : w2.cell? ⟨w.heap.size, 0, none⟩ = some (.int .i64 1) := cell_heap hg0 0
    have p1 : w2.cell? ⟨w.heap.size, 1, none⟩ = some (.int .i64 fn) := cell_heap hg0 1
    obtain ⟨a1, c1, rfl⟩ := own_slice hown2
    have hsz2 := hb2.size
    have hne1 : ∀ k, (Value.slice a1 (bs.length + 1) c1).ownBlock = some k → k < w2.heap.size := fun k hk => (hown2.lt k hk).2
    have hown2' : w2.ownsRow base 5 1 (.slice a1 (bs.length + 1) c1) (bs ++ [byteI 1]).length (u8s (bs ++ [byteI 1])) := by
      rw [show (bs ++ [byteI 1]).length = bs.length + 1 by simp]; exact hown2
    have HO2 := hid (hown2'.alloc (.cells #[.int .u8 fn] 5))
    have HL2 := hid hown2.lt
    have HB2 := hid (bs1 w2 w2.heap.size fn (by omega) (by omega) rfl)
    have HBE2 := hid (hb2.alloc (by omega) (.cells #[.int .u8 fn] 5))
    have HLL : Hid ((bs ++ [byteI 1]).length = bs.length + 1) := by show _ = _; simp
    have HG := hid hg0
    clear hown2 hown2' hgr2 hb2 hg0 hne1
    go_wp2_with (at_builtin; refine wpList_app rfl (.tmp 33) (.tmp 38) 22 rfl base 5 i5 Try.underlying22 hi hz0 hz1 hz2 (.slice a1 (bs.length + 1) c1) (bs ++ [byteI 1]) rfl HO2.out _ [byteI fn] rfl HB2.out ?d1 ?d2 ?d3)
    case d1 => rw [HLL.out]; simp; omega
    case d2 => simp; omega
    case d3 =>
      intro v3 w3 hown3 hgr3
      have hb3 := HBE2.out.grown hgr3 (by simp; omega) (fun k hk => (HL2.out k hk).1)
      have hltb : w.heap.size < w2.heap.size := (Array.getElem?_eq_some_iff.1 HG.out).1
      have hg1 : w3.heap[w.heap.size]? = some (.cells #[.int .i64 1, .int .i64 fn, .int .i64 exc, .slice da data.length dc, .int .i64 code, .int .i64 level, .bool more, .int .i64 next, .slice oa objs.length oc] 27) := by
        rw [hgr3.block _ (by simp; omega) (fun e => HNE.out _ e.symm rfl), Below.heap_alloc _ _ _ hltb]; exact HG.out
      have q1 : w3.cell? ⟨w.heap.size, 1, none⟩ = some (.int .i64 fn) := cell_heap hg1 1
      obtain ⟨a3, c3, rfl⟩ := own_slice hown3
      have HX : Hid (w3.ownsRow base 5 1 (.slice a3 (bs.length + 1 + 1) c3) (bs.length + 1 + 1) (u8s (bs ++ [byteI 1, byteI fn]))) := hown3
      have HY := hid hb3
      have q2 : w3.cell? ⟨w.heap.size, 2, none⟩ = some (.int .i64 exc) := cell_heap hg1 2
      have q3 : w3.cell? ⟨w.heap.size, 3, none⟩ = some (.slice da data.length dc) := cell_heap hg1 3
      have q4 : w3.cell? ⟨w.heap.size, 4, none⟩ = some (.int .i64 code) := cell_heap hg1 4
      have q5 : w3.cell? ⟨w.heap.size, 5, none⟩ = some (.int .i64 level) := cell_heap hg1 5
      have q6 : w3.cell? ⟨w.heap.size, 6, none⟩ = some (.bool more) := cell_heap hg1 6
      have q7 : w3.cell? ⟨w.heap.size, 7, none⟩ = some (.int .i64 next) := cell_heap hg1 7
      have q8 : w3.cell? ⟨w.heap.size, 8, none⟩ = some (.slice oa objs.length oc) := cell_heap hg1 8
      have hbA : Below w0.heap.size w0 w3 := hb0.trans (hb3.mono hbase0)
      have hsz3 := hb3.size
      have HL3 := hid hown3.lt
      clear hown3 hgr3 hg1 p0 p1 hb3
      go_wp2_with (go_at_call 41; (with_reducible refine (HT.out _).mono ?_); rintro r w4 ⟨rfl, rfl⟩)
      refine (HEN.out _ hbA).mono ?_
      rintro r w4 ⟨a4, c4, rfl, hb4, hbel4, ha4⟩
      have HA4 := hid ha4
      clear ha4
      have hsz4 := hbel4.size
      have HO4 := hid ((own_keeps HX.out (Keeps.of_below (F := fun _ => False) hbel4) (fun _ _ f => f)).alloc (.cells #[.int .u8 pd.length] 5))
      have HB4 := hid (bs1 w4 w4.heap.size pd.length (by omega) (by omega) rfl)
      have HY4 : Hid (Below base w (w4.alloc (.cells #[.int .u8 pd.length] 5))) := (HY.out.trans (hbel4.mono (by omega))).alloc (by omega) _
      have HP4 := hid (hb4.keep (bal' w4 (.cells #[.int .u8 pd.length] 5)))
      have hL2 : Hid ((bs ++ [byteI 1, byteI fn]).length = bs.length + 1 + 1) := by show _ = _; simp
      have HO4' : Hid ((w4.alloc (.cells #[.int .u8 pd.length] 5)).ownsRow base 5 1 (.slice a3 (bs.length + 1 + 1) c3) (bs ++ [byteI 1, byteI fn]).length (u8s (bs ++ [byteI 1, byteI fn]))) := by
        show (w4.alloc (.cells #[.int .u8 pd.length] 5)).ownsRow base 5 1 (.slice a3 (bs.length + 1 + 1) c3) (bs ++ [byteI 1, byteI fn]).length (u8s (bs ++ [byteI 1, byteI fn]))
        rw [hL2.out]; exact HO4.out
      clear hb4 hbel4 HO4
      go_wp2_with (at_builtin; refine wpList_appB rfl (.tmp 51) (.tmp 55) 22 rfl base 5 i5 Try.underlying22 hi hz0 hz1 hz2 (.slice a3 (bs.length + 1 + 1) c3) (bs ++ [byteI 1, byteI fn]) rfl HO4'.out _ [byteI pd.length] rfl HB4.out ?e1 ?e2 ?e3)
      case e1 => rw [hL2.out]; simp; omega
      case e2 => simp; omega
      case e3 =>
        intro v5 w5 hown5 hgr5 _
        have hb5 := HY4.out.grown hgr5 (by simp; omega) (fun k hk => (HL3.out k hk).1)
        have hP5 : Bs w5 (.slice a4 pd.length c4) pd := HP4.out.keepsN (Keeps.of_grown (F := fun k => (Value.slice a3 (bs.length + 1 + 1) c3).ownBlock = some k) hgr5 (fun k hk => hk)) (fun _ ad had hF => by
          have h1 := HA4.out ad had
          have h2 := (HL3.out _ hF).2
          omega)
        obtain ⟨a5, c5, rfl⟩ := own_slice hown5
        have HP5 := hid hP5
        have HB5 := hid hb5
        have HL5 := hid hown5.lt
        have hL3 : Hid ((bs ++ [byteI 1, byteI fn, byteI pd.length]).length = bs.length + 2 + 1) := by show _ = _; simp
        have HO5 : Hid (w5.ownsRow base 5 1 (.slice a5 (bs.length + 2 + 1) c5) (bs ++ [byteI 1, byteI fn, byteI pd.length]).length (u8s (bs ++ [byteI 1, byteI fn, byteI pd.length]))) := by
          show w5.ownsRow base 5 1 (.slice a5 (bs.length + 2 + 1) c5) (bs ++ [byteI 1, byteI fn, byteI pd.length]).length (u8s (bs ++ [byteI 1, byteI fn, byteI pd.length]))
          rw [hL3.out]
          simpa using hown5
        have hw5 : base ≤ w5.heap.size := Nat.le_trans hbase HB5.out.size
        clear hown5 hgr5 hP5 hb5
        go_wp2_with (at_builtin; refine wpList_app rfl (.tmp 56) (.tmp 57) 22 rfl base 5 i5 Try.underlying22 hi hz0 hz1 hz2 (.slice a5 (bs.length + 2 + 1) c5) (bs ++ [byteI 1, byteI fn, byteI pd.length]) rfl HO5.out _ pd rfl HP5.out ?f1 ?f2 ?f3)
        case f1 => rw [hL3.out]; omega
        case f2 => exact hw5
        case f3 =>
          intro v6 w6 hown6 hgr6
          have hb6 := HB5.out.grown hgr6 hw5 (fun k hk => (HL5.out k hk).1)
          obtain ⟨a6, c6, rfl⟩ := own_slice hown6
          have hL6 := hid (show (bs ++ [byteI 1, byteI fn] ++ [byteI pd.length] ++ pd).length = bs.length + 3 + pd.length by simp; omega)
          have HO6 : Hid (w6.ownsRow base 5 1 (.slice a6 (bs.length + 3 + pd.length) c6) (bs.length + 3 + pd.length) (u8s (bs ++ [byteI 1, byteI fn] ++ [byteI pd.length] ++ pd))) := by
            show w6.ownsRow base 5 1 (.slice a6 (bs.length + 3 + pd.length) c6) (bs.length + 3 + pd.length) (u8s (bs ++ [byteI 1, byteI fn] ++ [byteI pd.length] ++ pd))
            rw [show bs ++ [byteI 1, byteI fn] ++ [byteI pd.length] ++ pd = bs ++ byteI 1 :: byteI fn :: byteI pd.length :: pd by simp]
            simpa using hown6
          have HB6 := hid hb6
          clear hown6 hgr6 hb6
          go_wp2
          go_ret
          exact ⟨a6, c6, by rw [hL6.out]; rfl, by rw [hL6.out]; exact HO6.out, HB6.out⟩

end Go.Proofs.Ytlaaoifjiogogaa

/-
The bytes of an outcome, and the contract of record.appendOutcome at every valid outcome.
-/
namespace Go.Proofs.Ytlaaoifjiogogaa
open Go.RowKit

theorem pdu_le {fn exc : Int} {data : List UInt8} {code level : Int} {more : Bool} {next : Int} {objs : List Ob} (h : Rp.ok ⟨fn, exc, data, code, level, more, next, objs⟩ = true) : (Rp.pdu ⟨fn, exc, data, code, level, more, next, objs⟩).length ≤ 253 := by
  obtain ⟨hf, h | h | h⟩ := ok_cases h
  · have e : Rp.pdu ⟨fn, exc, data, code, level, more, next, objs⟩ = [byteI (fn + 128), byteI exc] := by unfold Rp.pdu; rw [if_neg h.1]
    rw [e]; simp
  · obtain ⟨rfl, h43, h1, h2⟩ := h
    have e : Rp.pdu ⟨fn, 0, data, code, level, more, next, objs⟩ = byteI fn :: byteI data.length :: data := by unfold Rp.pdu; rw [if_pos rfl, if_neg h43]
    rw [e]; simp; omega
  · obtain ⟨rfl, rfl, rfl, h1, h2, h3, h4, h5, h6, h7⟩ := h
    have e : Rp.pdu ⟨43, 0, [], code, level, more, next, objs⟩ = devHead ⟨43, 0, [], code, level, more, next, objs⟩ ++ encObs objs := by unfold Rp.pdu; rw [if_pos rfl, if_pos rfl]
    obtain ⟨_, hb, _⟩ := objsB_bd h7
    rw [e, List.length_append, encObs_length]
    show 7 + _ ≤ 253
    omega

theorem appOc_any (v fn exc : Int) (code level : Int) (more : Bool) (next : Int) (data : List UInt8) (objs : List Ob) (da oa : Option Addr) (dc oc : Nat) (ba : Option Addr) (bc : Nat) (bs : List UInt8) (base : Nat) (w : World) (hown : w.ownsRow base 5 1 (.slice ba bs.length bc) bs.length (u8s bs)) (hbase : base ≤ w.heap.size) (hlen : bs.length ≤ 1000000)
    (w0 : World) (hb0 : Below w0.heap.size w0 w) (hbase0 : w0.heap.size ≤ base) (hd : Bs w0 (.slice da data.length dc) data) (ho : Obs w0 (.slice oa objs.length oc) objs) (hl : level ≤ 9223372036854775807) (hl2 : -9223372036854775808 ≤ level) (hk : Oc.ok ⟨v, ⟨fn, exc, data, code, level, more, next, objs⟩⟩ = true) :
    Calls Try.prog 49 #[.slice ba bs.length bc, .agg #[.int .i64 v, .int .i64 fn, .int .i64 exc, .slice da data.length dc, .int .i64 code, .int .i64 level, .bool more, .int .i64 next, .slice oa objs.length oc]] w (AppPost base w (bs ++ Oc.enc ⟨v, ⟨fn, exc, data, code, level, more, next, objs⟩⟩)) := by
  rcases verdict_cases v with h | rfl | rfl | ⟨h, _⟩
  · have e : Oc.enc ⟨v, ⟨fn, exc, data, code, level, more, next, objs⟩⟩ = [byteI v] := by
      unfold Oc.enc
      rw [if_neg (show ¬ v = 2 by omega), if_neg (show ¬ v = 1 by omega)]
    rw [e]
    exact appOc_silent v fn exc code level more next da oa data.length dc objs.length oc ba bc bs base w hown hbase hlen h
  · rw [Oc.ok_2 rfl] at hk
    simp only [Bool.and_eq_true, Bool.not_eq_true', beq_eq_false_iff_ne] at hk
    obtain ⟨hx, hr⟩ := hk
    obtain ⟨⟨f1, f2⟩, h | h | h⟩ := ok_cases hr
    · exact appOc_exc fn exc code level more next da oa data.length dc objs.length oc ba bc bs base w hown hbase hlen (by omega) (by omega) (by omega) (by omega)
    · exact absurd h.1 hx
    · exact absurd h.1 hx
  · rw [Oc.ok_1 rfl] at hk
    simp only [Bool.and_eq_true, beq_iff_eq] at hk
    obtain ⟨hx, hr⟩ := hk
    cases ht : tblB fn with
    | true =>
      have e : Oc.enc ⟨1, ⟨fn, exc, data, code, level, more, next, objs⟩⟩ = [byteI 1, byteI fn] := by
        unfold Oc.enc
        rw [if_neg (show ¬ (1 : Int) = 2 by decide), if_pos rfl, if_pos ht]
      rw [e]
      exact appOc_tab fn exc code level more next data objs da oa dc oc ba bc bs base w hown hbase hlen ht
    | false =>
      have e : bs ++ Oc.enc ⟨1, ⟨fn, exc, data, code, level, more, next, objs⟩⟩ = bs ++ [byteI 1, byteI fn] ++ [byteI (Rp.pdu ⟨fn, exc, data, code, level, more, next, objs⟩).length] ++ Rp.pdu ⟨fn, exc, data, code, level, more, next, objs⟩ := by
        unfold Oc.enc
        rw [if_neg (show ¬ (1 : Int) = 2 by decide), if_pos rfl, if_neg (by rw [ht]; decide)]
        simp
      rw [if_neg (by rw [ht]; decide)] at hr
      rw [e]
      exact appOc_pdu fn exc code level more next data objs da oa dc oc ba bc bs base w hown hbase hlen ht w0 hb0 hbase0 hd ho hl hl2 hr (pdu_le hr)
  · rw [Oc.ok_no h] at hk
    cases hk

end Go.Proofs.Ytlaaoifjiogogaa
