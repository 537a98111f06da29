/-
  Several texts of this claim in one file.
-/
import Derived.Test.YtliblgmpclefgaaMrech
import Derived.Test.YtliblgmpclefgaaMplain
/-
The contract of record.appendOutcome at short outcomes, and of record.Encode over any contract of appendOutcome.
-/
namespace Go.Proofs.Ytliblgmpclefgaa
open Go.RowKit

/-- What a call that appends leaves. -/
def AppPost (base : Nat) (w : World) (l : List UInt8) (r : Ending) (w' : World) : Prop := ∃ a c, r = .returned (.slice a l.length c) ∧ w'.ownsRow base 5 1 (.slice a l.length c) l.length (u8s l) ∧ Below base w w'

theorem bs1 (W : World) (n : Nat) (x : Int) (h1 : 0 ≤ x) (h2 : x ≤ 255) (hn : n = W.heap.size) : Bs (W.alloc (.cells #[.int .u8 x] 5)) (.slice (some ⟨n, 0, none⟩) 1 1) [byteI x] := by
  subst hn
  refine Bs.mk (l := [byteI x]) (Nat.le_refl 1) (by unfold maxLen; decide) fun i hi => ?_
  have : i = 0 := by simp at hi; omega
  subst this
  rw [World.cell?_alloc_at _ _ _ _ rfl]
  show some (Value.int .u8 x) = some (.int .u8 ((byteI x).toNat : Int))
  rw [byteI_val h1 h2]
theorem bs2 (W : World) (n : Nat) (x y : Int) (h1 : 0 ≤ x) (h2 : x ≤ 255) (h3 : 0 ≤ y) (h4 : y ≤ 255) (hn : n = W.heap.size) : Bs (W.alloc (.cells #[.int .u8 x, .int .u8 y] 5)) (.slice (some ⟨n, 0, none⟩) 2 2) [byteI x, byteI y] := by
  subst hn
  refine Bs.mk (l := [byteI x, byteI y]) (Nat.le_refl 2) (by unfold maxLen; decide) fun i hi => ?_
  rw [World.cell?_alloc_at _ _ _ _ rfl]
  match i, hi with
  | 0, _ => show some (Value.int .u8 x) = some (.int .u8 ((byteI x).toNat : Int)); rw [byteI_val h1 h2]
  | 1, _ => show some (Value.int .u8 y) = some (.int .u8 ((byteI y).toNat : Int)); rw [byteI_val h3 h4]

set_option maxRecDepth 100000 in
set_option maxHeartbeats 3200000 in
theorem appOc_silent (v fn exc : Int) (code level : Int) (more : Bool) (next : Int) (da oa : Option Addr) (dn dc on oc : Nat) (ba : Option Addr) (bc : Nat) (bs : List UInt8) (base : Nat) (w : World) (hown : w.ownsRow base 5 1 (.slice ba bs.length bc) bs.length (u8s bs)) (hbase : base ≤ w.heap.size) (hlen : bs.length ≤ 1000000) (hv : v = 3 ∨ v = 4 ∨ v = 5) :
    Calls Try.prog 62 #[.slice ba bs.length bc, .agg #[.int .i64 v, .int .i64 fn, .int .i64 exc, .slice da dn dc, .int .i64 code, .int .i64 level, .bool more, .int .i64 next, .slice oa on oc]] w (AppPost base w (bs ++ [byteI v])) := by
  obtain ⟨i5, hi, hz0, hz1, hz2⟩ := info_parts infoB
  have hv1 : 0 ≤ v := by omega
  have hv2 : v ≤ 255 := by omega
  have t1 : (v == 2) = false := by rw [beq_eq_false_iff_ne]; omega
  have t2 : (v != 1) = true := by rw [bne_iff_ne]; omega
  have hw8 : IntKind.u8.wrap v = v := by rcases hv with rfl | rfl | rfl <;> rfl
  have HO := hid (((hown.alloc (.cells #[.int .i64 v, .int .i64 fn, .int .i64 exc, .slice da dn dc, .int .i64 code, .int .i64 level, .bool more, .int .i64 next, .slice oa on oc] 59)).alloc (.cells #[.int .u8 v] 5)))
  have HB := hid (bs1 (w.alloc (.cells #[.int .i64 v, .int .i64 fn, .int .i64 exc, .slice da dn dc, .int .i64 code, .int .i64 level, .bool more, .int .i64 next, .slice oa on oc] 59)) (w.heap.size + 1) v hv1 hv2 (by simp))
  have hbel : Below base w ((w.alloc (.cells #[.int .i64 v, .int .i64 fn, .int .i64 exc, .slice da dn dc, .int .i64 code, .int .i64 level, .bool more, .int .i64 next, .slice oa on oc] 59)).alloc (.cells #[.int .u8 v] 5)) := (b2 w _ _).mono hbase
  have HBE := hid hbel
  have HLT := hid hown.lt
  have hbox : ((w.alloc (.cells #[.int .i64 v, .int .i64 fn, .int .i64 exc, .slice da dn dc, .int .i64 code, .int .i64 level, .bool more, .int .i64 next, .slice oa on oc] 59)).alloc (.cells #[.int .u8 v] 5)).heap[w.heap.size]? = some (.cells #[.int .i64 v, .int .i64 fn, .int .i64 exc, .slice da dn dc, .int .i64 code, .int .i64 level, .bool more, .int .i64 next, .slice oa on oc] 59) := by
    rw [Below.heap_alloc _ _ _ (by simp)]; exact heap_alloc_new _ _
  have HBX := hid hbox
  clear hown hbel hv hbox
  go_enter Try.func62, Try.ntmps62
  go_wp2_with (at_builtin; refine wpList_app rfl _ _ 38 rfl base 5 i5 Try.underlying38 hi hz0 hz1 hz2 (.slice ba bs.length bc) bs rfl HO.out _ [byteI v] rfl HB.out ?c1 ?c2 ?c3)
  case c1 => simp; omega
  case c2 => simp; omega
  case c3 =>
    intro v1 w2 hown2 hgr2
    have hb2 := HBE.out.grown hgr2 (by simp; omega) (fun k hk => (HLT.out k hk).1)
    have hg0 : w2.heap[w.heap.size]? = some (.cells #[.int .i64 v, .int .i64 fn, .int .i64 exc, .slice da dn dc, .int .i64 code, .int .i64 level, .bool more, .int .i64 next, .slice oa on oc] 59) := by
      rw [hgr2.block _ (by simp; omega) (fun e => by have := (HLT.out _ e.symm).2; omega)]; exact HBX.out
    have p0 : w2.cell? ⟨w.heap.size, 0, none⟩ = some (.int .i64 v) := cell_heap hg0 0
    clear hg0
    obtain ⟨a1, c1, rfl⟩ := own_slice hown2
    have HX := hid hown2
    have HY := hid hb2
    have hll := hid (show (bs ++ [byteI v]).length = bs.length + 1 by simp)
    clear hown2 hgr2 hb2
    go_wp2
    go_ret
    exact ⟨a1, c1, by rw [hll.out]; rfl, by rw [hll.out]; exact HX.out, HY.out⟩

set_option maxRecDepth 100000 in
set_option maxHeartbeats 6400000 in
theorem appOc_exc (fn exc : Int) (code level : Int) (more : Bool) (next : Int) (da oa : Option Addr) (dn dc on oc : Nat) (ba : Option Addr) (bc : Nat) (bs : List UInt8) (base : Nat) (w : World) (hown : w.ownsRow base 5 1 (.slice ba bs.length bc) bs.length (u8s bs)) (hbase : base ≤ w.heap.size) (hlen : bs.length ≤ 1000000) (f1 : 0 ≤ fn) (f2 : fn ≤ 255) (e1 : 0 ≤ exc) (e2 : exc ≤ 255) :
    Calls Try.prog 62 #[.slice ba bs.length bc, .agg #[.int .i64 2, .int .i64 fn, .int .i64 exc, .slice da dn dc, .int .i64 code, .int .i64 level, .bool more, .int .i64 next, .slice oa on oc]] w (AppPost base w (bs ++ [byteI 2, byteI fn, byteI exc])) := by
  obtain ⟨i5, hi, hz0, hz1, hz2⟩ := info_parts infoB
  have HO := hid (((hown.alloc (.cells #[.int .i64 2, .int .i64 fn, .int .i64 exc, .slice da dn dc, .int .i64 code, .int .i64 level, .bool more, .int .i64 next, .slice oa on oc] 59)).alloc (.cells #[.int .u8 2] 5)))
  have HB := hid (bs1 (w.alloc (.cells #[.int .i64 2, .int .i64 fn, .int .i64 exc, .slice da dn dc, .int .i64 code, .int .i64 level, .bool more, .int .i64 next, .slice oa on oc] 59)) (w.heap.size + 1) 2 (by decide) (by decide) (by simp))
  have hbel : Below base w ((w.alloc (.cells #[.int .i64 2, .int .i64 fn, .int .i64 exc, .slice da dn dc, .int .i64 code, .int .i64 level, .bool more, .int .i64 next, .slice oa on oc] 59)).alloc (.cells #[.int .u8 2] 5)) := (b2 w _ _).mono hbase
  have HBE := hid hbel
  have HLT := hid hown.lt
  have hbox : ((w.alloc (.cells #[.int .i64 2, .int .i64 fn, .int .i64 exc, .slice da dn dc, .int .i64 code, .int .i64 level, .bool more, .int .i64 next, .slice oa on oc] 59)).alloc (.cells #[.int .u8 2] 5)).heap[w.heap.size]? = some (.cells #[.int .i64 2, .int .i64 fn, .int .i64 exc, .slice da dn dc, .int .i64 code, .int .i64 level, .bool more, .int .i64 next, .slice oa on oc] 59) := by
    rw [Below.heap_alloc _ _ _ (by simp)]; exact heap_alloc_new _ _
  have HBX := hid hbox
  clear hown hbel hbox
  go_enter Try.func62, Try.ntmps62
  go_wp2_with (at_builtin; refine wpList_app rfl (.tmp 7) (.tmp 11) 38 rfl base 5 i5 Try.underlying38 hi hz0 hz1 hz2 (.slice ba bs.length bc) bs rfl HO.out _ [byteI 2] rfl HB.out ?c1 ?c2 ?c3)
  case c1 => simp; omega
  case c2 => simp; omega
  case c3 =>
    intro v1 w2 hown2 hgr2
    have hb2 := HBE.out.grown hgr2 (by simp; omega) (fun k hk => (HLT.out k hk).1)
    have hg0 : w2.heap[w.heap.size]? = some (.cells #[.int .i64 2, .int .i64 fn, .int .i64 exc, .slice da dn dc, .int .i64 code, .int .i64 level, .bool more, .int .i64 next, .slice oa on oc] 59) := by
      rw [hgr2.block _ (by simp; omega) (fun e => by have := (HLT.out _ e.symm).2; omega)]; exact HBX.out
    have p0 : w2.cell? ⟨w.heap.size, 0, none⟩ = some (.int .i64 2) := cell_heap hg0 0
    have p1 : w2.cell? ⟨w.heap.size, 1, none⟩ = some (.int .i64 fn) := cell_heap hg0 1
    have p2 : w2.cell? ⟨w.heap.size, 2, none⟩ = some (.int .i64 exc) := cell_heap hg0 2
    obtain ⟨a1, c1, rfl⟩ := own_slice hown2
    have hsz2 := hb2.size
    have hw1 : IntKind.u8.wrap fn = fn := by show fn % 256 = fn; omega
    have hw2 : IntKind.u8.wrap exc = exc := by show exc % 256 = exc; omega
    have hown2' : w2.ownsRow base 5 1 (.slice a1 (bs.length + 1) c1) (bs ++ [byteI 2]).length (u8s (bs ++ [byteI 2])) := by
      rw [show (bs ++ [byteI 2]).length = bs.length + 1 by simp]; exact hown2
    have HO2 := hid (hown2'.alloc (.cells #[.int .u8 fn, .int .u8 exc] 5))
    have HL2 := hid hown2.lt
    have HB2 := hid (bs2 w2 w2.heap.size fn exc f1 f2 e1 e2 rfl)
    have HBE2 := hid (hb2.alloc (by omega) (.cells #[.int .u8 fn, .int .u8 exc] 5))
    have hll2 : (bs ++ [byteI 2]).length = bs.length + 1 := by simp
    have HLL := hid hll2
    clear hown2 hown2' hgr2 hb2 hg0 hll2
    go_wp2_with (at_builtin; refine wpList_app rfl (.tmp 17) (.tmp 26) 38 rfl base 5 i5 Try.underlying38 hi hz0 hz1 hz2 (.slice a1 (bs.length + 1) c1) (bs ++ [byteI 2]) rfl HO2.out _ [byteI fn, byteI exc] rfl HB2.out ?d1 ?d2 ?d3)
    case d1 => rw [HLL.out]; simp; omega
    case d2 => simp; omega
    case d3 =>
      intro v3 w3 hown3 hgr3
      have hb3 := HBE2.out.grown hgr3 (by simp; omega) (fun k hk => (HL2.out k hk).1)
      obtain ⟨a3, c3, rfl⟩ := own_slice hown3
      have HX := hid hown3
      have HY := hid hb3
      have hll := hid (show (bs ++ [byteI 2, byteI fn, byteI exc]).length = bs.length + 1 + 2 by simp)
      clear hown3 hgr3 hb3
      go_wp2
      go_ret
      exact ⟨a3, c3, by rw [hll.out]; rfl, by rw [hll.out]; exact HX.out, HY.out⟩

end Go.Proofs.Ytliblgmpclefgaa

/-
The contract of record.Encode at one outcome, and the check that the statements on records begin with.
-/
namespace Go.Proofs.Ytliblgmpclefgaa
open Go.RowKit

/-- What Encode leaves where it answers. -/
def EncPost (w : World) (l : List UInt8) (r : Ending) (w' : World) : Prop := ∃ a c, r = .returned (.tuple #[.slice a l.length c, .int .i64 0]) ∧ Bs w' (.slice a l.length c) l ∧ Below w.heap.size w w' ∧ ∀ ad, a = some ad → w.heap.size ≤ ad.block

theorem own1 (w : World) (base : Nat) (x : Int) (h1 : 0 ≤ x) (h2 : x ≤ 255) (hb : base ≤ w.heap.size) :
    (w.alloc (.cells #[.int .u8 x] 5)).ownsRow base 5 1 (.slice (some ⟨w.heap.size, 0, none⟩) 1 1) 1 (u8s [byteI x]) := by
  refine ⟨rfl, .inr ⟨w.heap.size, 1, _, rfl, hb, heap_alloc_new _ _, Nat.le_refl _, by decide, rfl, ?_⟩⟩
  show [Value.int .u8 x] = [.int .u8 ((byteI x).toNat : Int)]
  rw [byteI_val h1 h2]

set_option maxRecDepth 100000 in
set_option maxHeartbeats 6400000 in
theorem encode1 (v fn exc : Int) (code level : Int) (more : Bool) (next : Int) (da oa : Option Addr) (dn dc on oc : Nat) (bk : Nat) (w : World) (hcell : w.heap[bk]? = some (.cells #[.int .i64 v, .int .i64 fn, .int .i64 exc, .slice da dn dc, .int .i64 code, .int .i64 level, .bool more, .int .i64 next, .slice oa on oc] 59 (0, 0))) (enc : List UInt8) (_henc : enc.length ≤ 1000)
    (HV : Hid (∀ W, Below w.heap.size w W → Calls Try.prog 61 #[.agg #[.int .i64 v, .int .i64 fn, .int .i64 exc, .slice da dn dc, .int .i64 code, .int .i64 level, .bool more, .int .i64 next, .slice oa on oc]] W fun r w' => r = .returned (.bool true) ∧ Below W.heap.size W w'))
    (HA : Hid (∀ W ba bc (bs : List UInt8), W.ownsRow w.heap.size 5 1 (.slice ba bs.length bc) bs.length (u8s bs) → w.heap.size ≤ W.heap.size → bs.length ≤ 1000000 → Calls Try.prog 62 #[.slice ba bs.length bc, .agg #[.int .i64 v, .int .i64 fn, .int .i64 exc, .slice da dn dc, .int .i64 code, .int .i64 level, .bool more, .int .i64 next, .slice oa on oc]] W (AppPost w.heap.size W (bs ++ enc)))) :
    Calls Try.prog 44 #[.slice (some ⟨bk, 0, none⟩) 1 1] w (EncPost w (byteI 1 :: enc)) := by
  have HC := hid hcell
  have hO1 := hid (own1 w w.heap.size 1 (by decide) (by decide) (Nat.le_refl _))
  clear hcell
  go_enter Try.func44, Try.ntmps44
  go_wp2_with fail
  go_loopw [4, 21] (fun bv idx wr => ∃ (k : Nat) (bs : List UInt8) (ba : Option Addr) (bc : Nat), k ≤ 1 ∧ idx = .int .i64 k ∧ bv = .slice ba bs.length bc ∧ Hid (wr.ownsRow w.heap.size 5 1 (.slice ba bs.length bc) bs.length (u8s bs)) ∧ Hid (bs = if k = 0 then [byteI 1] else byteI 1 :: enc) ∧ Below w.heap.size w wr) (fun _ idx _ => 1 - (intOf idx).toNat)
  case atStart => exact ⟨0, [byteI 1], some ⟨w.heap.size, 0, none⟩, 1, by omega, rfl, rfl, hO1.out, rfl, bal' w _⟩
  case round =>
    obtain ⟨k, bs, ba, bc, hk, rfl, rfl, hown, hbs, hbw⟩ := hrel
    rcases (show k = 0 ∨ k = 1 by omega) with rfl | rfl
    · obtain rfl : bs = [byteI 1] := hbs.out
      have hgr : wr.heap[bk]? = some (.cells #[.int .i64 v, .int .i64 fn, .int .i64 exc, .slice da dn dc, .int .i64 code, .int .i64 level, .bool more, .int .i64 next, .slice oa on oc] 59 (0, 0)) := by rw [hbw.block _ (Array.getElem?_eq_some_iff.1 HC.out).1]; exact HC.out
      have p0 : wr.cell? ⟨bk, 0, none⟩ = some (.int .i64 v) := cell_heap hgr 0
      have p1 : wr.cell? ⟨bk, 1, none⟩ = some (.int .i64 fn) := cell_heap hgr 1
      have p2 : wr.cell? ⟨bk, 2, none⟩ = some (.int .i64 exc) := cell_heap hgr 2
      have p3 : wr.cell? ⟨bk, 3, none⟩ = some (.slice da dn dc) := cell_heap hgr 3
      have p4 : wr.cell? ⟨bk, 4, none⟩ = some (.int .i64 code) := cell_heap hgr 4
      have p5 : wr.cell? ⟨bk, 5, none⟩ = some (.int .i64 level) := cell_heap hgr 5
      have p6 : wr.cell? ⟨bk, 6, none⟩ = some (.bool more) := cell_heap hgr 6
      have p7 : wr.cell? ⟨bk, 7, none⟩ = some (.int .i64 next) := cell_heap hgr 7
      have p8 : wr.cell? ⟨bk, 8, none⟩ = some (.slice oa on oc) := cell_heap hgr 8
      clear hgr
      have hsz := hbw.size
      go_wp2_with fail
      refine (HV.out _ (bta hbw (Nat.le_refl _) _)).mono ?_
      rintro r w3 ⟨rfl, hb3⟩
      have hgx : (wr.alloc (.cells #[.int .i64 v, .int .i64 fn, .int .i64 exc, .slice da dn dc, .int .i64 code, .int .i64 level, .bool more, .int .i64 next, .slice oa on oc] 59)).heap[wr.heap.size]? = some (.cells #[.int .i64 v, .int .i64 fn, .int .i64 exc, .slice da dn dc, .int .i64 code, .int .i64 level, .bool more, .int .i64 next, .slice oa on oc] 59 (0, 0)) := heap_alloc_new _ _
      have hgx3 : w3.heap[wr.heap.size]? = some (.cells #[.int .i64 v, .int .i64 fn, .int .i64 exc, .slice da dn dc, .int .i64 code, .int .i64 level, .bool more, .int .i64 next, .slice oa on oc] 59 (0, 0)) := by rw [hb3.block _ (by simp)]; exact hgx
      have q0 : w3.cell? ⟨wr.heap.size, 0, none⟩ = some (.int .i64 v) := cell_heap hgx3 0
      have q1 : w3.cell? ⟨wr.heap.size, 1, none⟩ = some (.int .i64 fn) := cell_heap hgx3 1
      have q2 : w3.cell? ⟨wr.heap.size, 2, none⟩ = some (.int .i64 exc) := cell_heap hgx3 2
      have q3 : w3.cell? ⟨wr.heap.size, 3, none⟩ = some (.slice da dn dc) := cell_heap hgx3 3
      have q4 : w3.cell? ⟨wr.heap.size, 4, none⟩ = some (.int .i64 code) := cell_heap hgx3 4
      have q5 : w3.cell? ⟨wr.heap.size, 5, none⟩ = some (.int .i64 level) := cell_heap hgx3 5
      have q6 : w3.cell? ⟨wr.heap.size, 6, none⟩ = some (.bool more) := cell_heap hgx3 6
      have q7 : w3.cell? ⟨wr.heap.size, 7, none⟩ = some (.int .i64 next) := cell_heap hgx3 7
      have q8 : w3.cell? ⟨wr.heap.size, 8, none⟩ = some (.slice oa on oc) := cell_heap hgx3 8
      have hb4 : Below w.heap.size w w3 := bt (bta hbw (Nat.le_refl _) _) hb3 (Nat.le_refl _)
      have HO3 : Hid (w3.ownsRow w.heap.size 5 1 (.slice ba [byteI 1].length bc) [byteI 1].length (u8s [byteI 1])) := own_keeps (hown.out.alloc _) (Keeps.of_below (F := fun _ => False) hb3) (fun _ _ f => f)
      clear hgx hgx3 hb3 hown hbs
      go_wp2_with fail
      refine (HA.out _ _ _ [byteI 1] HO3.out hb4.size (by simp)).mono ?_
      rintro r w5 ⟨a5, c5, rfl, hown5, hb5⟩
      have HO5 := hid hown5
      have hb6 : Below w.heap.size w w5 := hb4.trans hb5
      clear hown5 hb5
      go_wp2
      go_roundw
      case rel => exact ⟨1, [byteI 1] ++ enc, a5, c5, by omega, by go_num, rfl, HO5.out, by show _ = _; rfl, hb6⟩
      case measure => simp [intOf]
    · obtain rfl : bs = byteI 1 :: enc := hbs.out
      have HB := hid (Bs.own hown.out)
      have HLO := hid hown.out.lt
      clear hown hbs
      go_wp2
      go_ret2
      exact ⟨ba, bc, rfl, HB.out, hbw, fun ad h => (HLO.out ad.block (by rw [h]; rfl)).1⟩

set_option maxRecDepth 100000 in
set_option maxHeartbeats 3200000 in
theorem recawake_any (w : World) : Calls Try.prog 18 #[] w fun r w' => r = .returned (.bool true) ∧ Below w.heap.size w w' := by
  have ss : Hid (∀ (W : World) (v : Value) (l : List UInt8), Bs W v l → (convert 38 9 v).run Try.prog W = .ok (.string ⟨l.toArray⟩) W) := fun W v l h => run_str Try.underlying38 Try.underlying5 h _ Try.underlying9
  have E1 : Hid (∀ W : World, Calls Try.prog 44 #[.slice (some ⟨W.heap.size, 0, none⟩) 1 1] (W.alloc (.cells #[.int .i64 3, .int .i64 0, .int .i64 0, .slice none 0 0, .int .i64 0, .int .i64 0, .bool false, .int .i64 0, .slice none 0 0] 59)) (EncPost (W.alloc (.cells #[.int .i64 3, .int .i64 0, .int .i64 0, .slice none 0 0, .int .i64 0, .int .i64 0, .bool false, .int .i64 0, .slice none 0 0] 59)) [1, 3])) := fun W =>
    encode1 3 0 0 0 0 false 0 none none 0 0 0 0 W.heap.size _ (heap_alloc_new _ _) [byteI 3] (by decide)
      (fun W' _ => validOc_any 3 0 0 _ 0 0 false 0 _ [] [] W' (Bs.nil W') (Obs.nil W') (by decide) (by decide) true (by show _ = true; rfl))
      (fun W' ba bc bs h1 h2 h3 => appOc_silent 3 0 0 0 0 false 0 none none 0 0 0 0 ba bc bs _ W' h1 h2 h3 (.inl rfl))
  have E2 : Hid (∀ (W : World) (n : Nat), n = W.heap.size → Calls Try.prog 44 #[.slice (some ⟨n, 0, none⟩) 1 1] (W.alloc (.cells #[.int .i64 2, .int .i64 3, .int .i64 2, .slice none 0 0, .int .i64 0, .int .i64 0, .bool false, .int .i64 0, .slice none 0 0] 59)) (EncPost (W.alloc (.cells #[.int .i64 2, .int .i64 3, .int .i64 2, .slice none 0 0, .int .i64 0, .int .i64 0, .bool false, .int .i64 0, .slice none 0 0] 59)) [1, 2, 3, 2])) := fun W n hn => by
    subst hn
    exact encode1 2 3 2 0 0 false 0 none none 0 0 0 0 W.heap.size _ (heap_alloc_new _ _) [byteI 2, byteI 3, byteI 2] (by decide)
      (fun W' _ => validOc_any 2 3 2 _ 0 0 false 0 _ [] [] W' (Bs.nil W') (Obs.nil W') (by decide) (by decide) true (by show _ = true; rfl))
      (fun W' ba bc bs h1 h2 h3 => appOc_exc 3 2 0 0 false 0 none none 0 0 0 0 ba bc bs _ W' h1 h2 h3 (by decide) (by decide) (by decide) (by decide))
  have B1 : Hid (∀ (W : World) (n : Nat), n = W.heap.size → Bs (W.alloc (.cells #[.int .u8 1, .int .u8 3] 5)) (.slice (some ⟨n, 0, none⟩) 2 2) [1, 3]) := fun W n h => bs2 W n 1 3 (by decide) (by decide) (by decide) (by decide) h
  have B2 : Hid (∀ (W : World) (n : Nat), n = W.heap.size → Bs (W.alloc (.cells #[.int .u8 1, .int .u8 2, .int .u8 3, .int .u8 2] 5)) (.slice (some ⟨n, 0, none⟩) 4 4) [1, 2, 3, 2]) := fun W n h => by
    subst h
    refine Bs.mk (l := [1, 2, 3, 2]) (Nat.le_refl 4) (by unfold maxLen; decide) fun i hi => ?_
    rw [World.cell?_alloc_at _ _ _ _ rfl]
    match i, hi with
    | 0, _ => rfl
    | 1, _ => rfl
    | 2, _ => rfl
    | 3, _ => rfl
  go_enter Try.func18, Try.ntmps18
  go_wp2_with fail
  refine (E1.out _).mono ?_
  rintro r w1 ⟨a1, c1, rfl, hb1, hbel1, _⟩
  have HB1 := hid hb1
  clear hb1
  go_wp2_with fail
  refine (E2.out _ _ rfl).mono ?_
  rintro r w2 ⟨a2, c2, rfl, hb2, hbel2, _⟩
  have k1 := HB1.out.keep (bt (bal' w1 _) hbel2 (Nat.le_refl _))
  have e1 := ss.out _ _ _ k1
  have e2 := ss.out _ _ _ (B1.out w2 _ rfl)
  have e3 := ss.out _ _ _ (hb2.keep (bal' w2 (.cells #[.int .u8 1, .int .u8 3] 5)))
  have e4 := ss.out _ _ _ (B2.out (w2.alloc (.cells #[.int .u8 1, .int .u8 3] 5)) (w2.heap.size + 1) (by simp))
  clear k1 hb2
  simp only [List.length_cons, List.length_nil, Nat.zero_add] at e1 e2 e3 e4
  go_wp2
  go_ret
  refine ⟨rfl, ?_⟩
  repeat (first | exact Below.refl _ _ | refine btd ?_ | refine bta ?_ (Nat.le_refl _) _ | refine bt ?_ (by assumption) (Nat.le_refl _))

end Go.Proofs.Ytliblgmpclefgaa
