/-
  Texts 48 of the claim.
-/
import Derived.Test.YtipnamoocemeeaaGreatB22
import Derived.Test.YtipnamoocemeeaaGreatB01
import Derived.StillTailTactics
import Derived.Test.YtipnamoocemeeaaGreatB43
import Derived.Deep.RegionHeld3
import Derived.Deep.RegionLaw
import Derived.Test.YtipnamoocemeeaaGreatB02
import Derived.Test.YtipnamoocemeeaaGreatB47
import Derived.Test.YtipnamoocemeeaaGreatB03
/-
  Several texts of this claim in one file.
-/
/-
The contract of record.Strip where everything is kept.
-/
namespace Go.Proofs.YtipnamoocemeeaaGreat
open Go.RowKit
end Go.Proofs.YtipnamoocemeeaaGreat

/-
The PDU of a reply, and the contract of reply.Encode but for its loop.
-/
namespace Go.Proofs.YtipnamoocemeeaaGreat
open Go.RowKit

theorem own2 (w : World) (base : Nat) (x y : Int) (h1 : 0 ≤ x) (h2 : x ≤ 255) (h3 : 0 ≤ y) (h4 : y ≤ 255) (hb : base ≤ w.heap.size) :
    (w.alloc (.cells #[.int .u8 x, .int .u8 y] 5)).ownsRow base 5 1 (.slice (some ⟨w.heap.size, 0, none⟩) 2 2) [byteI x, byteI y].length (u8s [byteI x, byteI y]) := by
  refine ⟨rfl, .inr ⟨w.heap.size, 2, _, rfl, hb, heap_alloc_new _ _, Nat.le_refl _, by decide, rfl, ?_⟩⟩
  show [Value.int .u8 x, .int .u8 y] = [.int .u8 ((byteI x).toNat : Int), .int .u8 ((byteI y).toNat : Int)]
  rw [byteI_val h1 h2, byteI_val h3 h4]

theorem own7 (w : World) (base : Nat) (a b c d e : Int) (ha : 0 ≤ a ∧ a ≤ 255) (hb' : 0 ≤ b ∧ b ≤ 255) (hc : 0 ≤ c ∧ c ≤ 255) (hd : 0 ≤ d ∧ d ≤ 255) (he : 0 ≤ e ∧ e ≤ 255) (hb : base ≤ w.heap.size) :
    (w.alloc (.cells #[.int .u8 43, .int .u8 14, .int .u8 a, .int .u8 b, .int .u8 c, .int .u8 d, .int .u8 e] 5)).ownsRow base 5 1 (.slice (some ⟨w.heap.size, 0, none⟩) 7 7) 7 (u8s [43, 14, byteI a, byteI b, byteI c, byteI d, byteI e]) := by
  refine ⟨rfl, .inr ⟨w.heap.size, 7, _, rfl, hb, heap_alloc_new _ _, Nat.le_refl _, by decide, rfl, ?_⟩⟩
  show [Value.int .u8 43, .int .u8 14, .int .u8 a, .int .u8 b, .int .u8 c, .int .u8 d, .int .u8 e] = [.int .u8 43, .int .u8 14, .int .u8 ((byteI a).toNat : Int), .int .u8 ((byteI b).toNat : Int), .int .u8 ((byteI c).toNat : Int), .int .u8 ((byteI d).toNat : Int), .int .u8 ((byteI e).toNat : Int)]
  rw [byteI_val ha.1 ha.2, byteI_val hb'.1 hb'.2, byteI_val hc.1 hc.2, byteI_val hd.1 hd.2, byteI_val he.1 he.2]

end Go.Proofs.YtipnamoocemeeaaGreat

/-
The contracts of reply.Encode and of the reference's EncodeReply, but for device identifications.
-/
namespace Go.Proofs.YtipnamoocemeeaaGreat
open Go.RowKit

theorem ne_box {W : World} {v v5 : Value} {b : Nat} (hn : NewOr W v v5) (h1 : ∀ k, v.ownBlock = some k → k < b) (h2 : b < W.heap.size) : ∀ j, v5.ownBlock = some j → j ≠ b := by
  intro j hj
  rcases hn with h | ⟨j2, h, hj2⟩
  · rw [hj] at h
    have := h1 _ h.symm
    omega
  · rw [hj] at h
    cases h
    omega

set_option maxRecDepth 100000 in
set_option maxHeartbeats 3200000 in
theorem renc_exc (fn exc : Int) (code level : Int) (more : Bool) (next : Int) (data : List UInt8) (objs : List Ob) (da oa : Option Addr) (dc oc : Nat) (w : World) (hd : Bs w (.slice da data.length dc) data) (ho : Obs w (.slice oa objs.length oc) objs) (hk : Rp.ok ⟨fn, exc, data, code, level, more, next, objs⟩ = true)
    (hf : 1 ≤ fn ∧ fn ≤ 43) (hx : 1 ≤ exc ∧ exc ≤ 255) :
    Calls Tryz.prog 105 #[.agg #[.int .i64 fn, .int .i64 exc, .slice da data.length dc, .int .i64 code, .int .i64 level, .bool more, .int .i64 next, .slice oa objs.length oc]] w (EncPost w [byteI (fn + 128), byteI exc]) := by
  have HV : Hid (∀ X, Calls Tryz.prog 60 #[.agg #[.int .i64 fn, .int .i64 exc, .slice da data.length dc, .int .i64 code, .int .i64 level, .bool more, .int .i64 next, .slice oa objs.length oc]] (w.alloc X) fun r w' => r = .returned (.bool true) ∧ Below (w.alloc X).heap.size (w.alloc X) w') := fun X => vreply_any _ _ _ _ _ _ _ _ data objs _ (hd.keep (bal' w X)) (ho.keep (bal' w X)) _ hk
  clear hd ho hk
  obtain ⟨f1, f2⟩ := hf
  obtain ⟨x1, x2⟩ := hx
  have t1 : (exc != 0) = true := by rw [bne_iff_ne]; omega
  have u1 : IntKind.u8.wrap (fn + 128) = fn + 128 := by show (fn + 128) % 256 = fn + 128; omega
  have u2 : IntKind.u8.wrap exc = exc := by show exc % 256 = exc; omega
  go_enter Tryz.func105, Tryz.ntmps105
  go_wp2_with fail
  refine (HV.out _).mono ?_
  rintro r w1 ⟨rfl, hb1⟩
  have gB : w1.heap[w.heap.size]? = some (.cells #[.int .i64 fn, .int .i64 exc, .slice da data.length dc, .int .i64 code, .int .i64 level, .bool more, .int .i64 next, .slice oa objs.length oc] 53 (0, 0)) := by rw [hb1.block _ (by simp)]; exact heap_alloc_new _ _
  have p0 : w1.cell? ⟨w.heap.size, 0, none⟩ = some (.int .i64 fn) := cell_heap gB 0
  have p1 : w1.cell? ⟨w.heap.size, 1, none⟩ = some (.int .i64 exc) := cell_heap gB 1
  have hbw := bt (bal' w _) hb1 (Nat.le_refl _)
  have HB := hid (bs2 w1 w1.heap.size (fn + 128) exc (by omega) (by omega) (by omega) x2 rfl)
  clear gB hb1
  go_wp2
  go_ret2
  exact ⟨_, _, rfl, HB.out, bta hbw (Nat.le_refl _) _, fun ad h => by cases h; exact hbw.size⟩

set_option maxRecDepth 100000 in
set_option maxHeartbeats 3200000 in
theorem renc_data (fn : Int) (code level : Int) (more : Bool) (next : Int) (data : List UInt8) (objs : List Ob) (da oa : Option Addr) (dc oc : Nat) (w : World) (hd : Bs w (.slice da data.length dc) data) (ho : Obs w (.slice oa objs.length oc) objs) (hk : Rp.ok ⟨fn, 0, data, code, level, more, next, objs⟩ = true)
    (hf : 1 ≤ fn ∧ fn ≤ 42) (hx : data.length ≤ 251) :
    Calls Tryz.prog 105 #[.agg #[.int .i64 fn, .int .i64 0, .slice da data.length dc, .int .i64 code, .int .i64 level, .bool more, .int .i64 next, .slice oa objs.length oc]] w (EncPost w (byteI fn :: byteI data.length :: data)) := by
  obtain ⟨i5, hi, hz0, hz1, hz2⟩ := info_parts infoB
  have HV : Hid (∀ X, Calls Tryz.prog 60 #[.agg #[.int .i64 fn, .int .i64 0, .slice da data.length dc, .int .i64 code, .int .i64 level, .bool more, .int .i64 next, .slice oa objs.length oc]] (w.alloc X) fun r w' => r = .returned (.bool true) ∧ Below (w.alloc X).heap.size (w.alloc X) w') := fun X => vreply_any _ _ _ _ _ _ _ _ data objs _ (hd.keep (bal' w X)) (ho.keep (bal' w X)) _ hk
  have HD := hid hd
  clear hd ho hk
  obtain ⟨f1, f2⟩ := hf
  have t1 : (fn != 43) = true := by rw [bne_iff_ne]; omega
  have u1 : IntKind.u8.wrap fn = fn := by show fn % 256 = fn; omega
  have u2 : IntKind.u8.wrap (data.length : Int) = data.length := by show (data.length : Int) % 256 = data.length; omega
  go_enter Tryz.func105, Tryz.ntmps105
  go_wp2_with fail
  refine (HV.out _).mono ?_
  rintro r w1 ⟨rfl, hb1⟩
  have gB : w1.heap[w.heap.size]? = some (.cells #[.int .i64 fn, .int .i64 0, .slice da data.length dc, .int .i64 code, .int .i64 level, .bool more, .int .i64 next, .slice oa objs.length oc] 53 (0, 0)) := by rw [hb1.block _ (by simp)]; exact heap_alloc_new _ _
  have p0 : w1.cell? ⟨w.heap.size, 0, none⟩ = some (.int .i64 fn) := cell_heap gB 0
  have p1 : w1.cell? ⟨w.heap.size, 1, none⟩ = some (.int .i64 0) := cell_heap gB 1
  have p2 : w1.cell? ⟨w.heap.size, 2, none⟩ = some (.slice da data.length dc) := cell_heap gB 2
  have p2' := cell_keep (bal' w1 (.cells #[.int .u8 fn, .int .u8 data.length] 5)) p2
  have hbw := bt (bal' w _) hb1 (Nat.le_refl _)
  have HO := hid (own2 w1 w1.heap.size fn data.length (by omega) (by omega) (by omega) (by omega) (Nat.le_refl _))
  have HD1 := hid ((HD.out.keep hbw).keep (bal' w1 (.cells #[.int .u8 fn, .int .u8 data.length] 5)))
  clear gB hb1
  go_wp2_with (at_builtin; refine wpList_app rfl _ _ 50 rfl w1.heap.size 5 i5 Tryz.underlying50 hi hz0 hz1 hz2 (.slice (some ⟨w1.heap.size, 0, none⟩) 2 2) [byteI fn, byteI data.length] rfl HO.out _ data rfl HD1.out ?c1 ?c2 ?c3)
  case c1 => simp; omega
  case c2 => simp
  case c3 =>
    intro v2 w2 hown2 hgr2
    have hb2 : Below w1.heap.size w1 w2 := (bal' w1 (.cells #[.int .u8 fn, .int .u8 data.length] 5)).grown hgr2 (bal' w1 (.cells #[.int .u8 fn, .int .u8 data.length] 5)).size (by intro k hk; simp [Value.ownBlock] at hk; omega)
    obtain ⟨a2, c2, rfl⟩ := own_slice hown2
    have hll := hid (show (byteI fn :: byteI data.length :: data).length = 2 + data.length by simp; omega)
    have HX := hid (show Bs w2 (.slice a2 (2 + data.length) c2) (byteI fn :: byteI data.length :: data) from Bs.own hown2)
    have HY := hid (bt hbw hb2 (Nat.le_refl _))
    have HLO := hid hown2.lt
    clear hown2 hgr2 hb2
    go_wp2
    go_ret2
    exact ⟨a2, c2, by rw [hll.out]; rfl, by rw [hll.out]; exact HX.out, HY.out, fun ad h => Nat.le_trans hbw.size (HLO.out ad.block (by rw [h]; rfl)).1⟩

end Go.Proofs.YtipnamoocemeeaaGreat

/-
The contract of reply.Encode at device identifications.
-/
namespace Go.Proofs.YtipnamoocemeeaaGreat
open Go.RowKit
end Go.Proofs.YtipnamoocemeeaaGreat

/-
The contract of the reference's EncodeReply at device identifications.
-/
namespace Go.Proofs.YtipnamoocemeeaaGreat
open Go.RowKit

set_option maxRecDepth 100000 in
set_option maxHeartbeats 12800000 in
theorem renc_dev (code level : Int) (more : Bool) (next : Int) (objs : List Ob) (da oa : Option Addr) (dc oc : Nat) (w : World) (hd : Bs w (.slice da ([] : List UInt8).length dc) []) (ho : Obs w (.slice oa objs.length oc) objs) (hk : Rp.ok ⟨43, 0, [], code, level, more, next, objs⟩ = true)
    (c1 : 1 ≤ code) (c2 : code ≤ 3) (l1 : 1 ≤ level) (l2 : level ≤ 131) (n1 : 0 ≤ next) (n2 : next ≤ 255) (hob : objsB objs = true) (mm : Int) (hmm : mm = if more then 255 else 0) :
    Calls Tryz.prog 105 #[.agg #[.int .i64 43, .int .i64 0, .slice da 0 dc, .int .i64 code, .int .i64 level, .bool more, .int .i64 next, .slice oa objs.length oc]] w (EncPost w (devHead ⟨43, 0, [], code, level, more, next, objs⟩ ++ encObs objs)) := by
  obtain ⟨i5, hi, hz0, hz1, hz2⟩ := info_parts infoB
  obtain ⟨hb1, hb2, hb3⟩ := objsB_bd hob
  have HV : Hid (∀ X, Calls Tryz.prog 60 #[.agg #[.int .i64 43, .int .i64 0, .slice da 0 dc, .int .i64 code, .int .i64 level, .bool more, .int .i64 next, .slice oa objs.length oc]] (w.alloc X) fun r w' => r = .returned (.bool true) ∧ Below (w.alloc X).heap.size (w.alloc X) w') := fun X => vreply_any _ _ _ _ _ _ _ _ [] objs _ (hd.keep (bal' w X)) (ho.keep (bal' w X)) _ hk
  have HO := hid ho
  have hm1 : 0 ≤ mm ∧ mm ≤ 255 := by subst hmm; cases more <;> decide
  have HDH : Hid (devHead ⟨43, 0, [], code, level, more, next, objs⟩ = [43, 14, byteI code, byteI level, byteI mm, byteI next, byteI objs.length]) := by show _ = _; rw [hmm]; rfl
  have HDL : Hid ((devHead ⟨43, 0, [], code, level, more, next, objs⟩).length = 7) := rfl
  rw [HDH.out] at HDL ⊢
  have HMM := hid hmm
  replace hb3 := hid hb3
  clear hd ho hk hob hmm HDH
  have hmore : (more = true ∧ mm = 255) ∨ (more = false ∧ mm = 0) := by
    have := HMM.out
    cases more
    · exact .inr ⟨rfl, by simpa using this⟩
    · exact .inl ⟨rfl, by simpa using this⟩
  clear HMM
  rcases hmore with ⟨rfl, rfl⟩ | ⟨rfl, rfl⟩
  · go_enter Tryz.func105, Tryz.ntmps105
    go_wp2_with fail
    refine (HV.out _).mono ?_
    rintro r w1 ⟨rfl, hbv⟩
    have gB : w1.heap[w.heap.size]? = some (.cells #[.int .i64 43, .int .i64 0, .slice da 0 dc, .int .i64 code, .int .i64 level, .bool true, .int .i64 next, .slice oa objs.length oc] 53 (0, 0)) := by rw [hbv.block _ (by simp)]; exact heap_alloc_new _ _
    have p0 : w1.cell? ⟨w.heap.size, 0, none⟩ = some (.int .i64 43) := cell_heap gB 0
    have p1 : w1.cell? ⟨w.heap.size, 1, none⟩ = some (.int .i64 0) := cell_heap gB 1
    have p2 : w1.cell? ⟨w.heap.size, 2, none⟩ = some (.slice da 0 dc) := cell_heap gB 2
    have p3 : w1.cell? ⟨w.heap.size, 3, none⟩ = some (.int .i64 code) := cell_heap gB 3
    have p4 : w1.cell? ⟨w.heap.size, 4, none⟩ = some (.int .i64 level) := cell_heap gB 4
    have p5 := cell_heap gB 5
    simp only [List.getElem?_toArray, List.getElem?_cons_succ, List.getElem?_cons_zero] at p5
    have p6 : w1.cell? ⟨w.heap.size, 6, none⟩ = some (.int .i64 next) := cell_heap gB 6
    have p7 : w1.cell? ⟨w.heap.size, 7, none⟩ = some (.slice oa objs.length oc) := cell_heap gB 7
    have hbw1 : Below w.heap.size w w1 := bt (bal' w _) hbv (Nat.le_refl _)
    have hlt1 : w.heap.size < w1.heap.size := (Array.getElem?_eq_some_iff.1 gB).1
    have HO7 := hid (own7 w1 w1.heap.size code level _ next objs.length (by omega) (by omega) hm1 (by omega) (by omega) (Nat.le_refl _))
    obtain ⟨ao, no, co, hvo, hlo, hno, hnco, hcmo, hel⟩ := (HO.out.keep hbw1).open_
    simp only [Value.slice.injEq] at hvo
    obtain ⟨rfl, rfl, rfl⟩ := hvo
    replace hel := hid hel
    have P7 := hid p7
    clear gB hbv hlo
    go_wp2_with fail
    go_loopw [5, 6] (fun bv idx wr => ∃ (k : Nat) (ba : Option Addr) (bc : Nat) (bs : List UInt8), k ≤ objs.length ∧ idx = .int .i64 k ∧ bv = .slice ba bs.length bc ∧ bs.length ≤ 253 ∧ Hid (wr.ownsRow w1.heap.size 5 1 (.slice ba bs.length bc) bs.length (u8s bs)) ∧ Hid (bs = [43, 14, byteI code, byteI level, byteI 255, byteI next, byteI objs.length] ++ encObs (objs.take k)) ∧ Below w1.heap.size w1 wr) (fun _ idx _ => objs.length - (intOf idx).toNat)
    case atStart => exact ⟨0, _, 7, [43, 14, byteI code, byteI level, byteI 255, byteI next, byteI objs.length], Nat.zero_le _, rfl, rfl, by simp, HO7.out, by show _ = _; simp [encObs], bal' w1 _⟩
    case round =>
      clear p0 p1 p2 p3 p4 p5 p6 p7 HO7
      obtain ⟨k, ba, bc, bs, hk, rfl, rfl, hbl, hown, hbs, hbw⟩ := hrel
      have hszr := hbw.size
      have p7 : wr.cell? ⟨w.heap.size, 7, none⟩ = some (.slice oa objs.length oc) := cell_keep hbw P7.out
      by_cases hlt : k < objs.length
      · obtain ⟨x, hgx⟩ := get_some (n := objs.length) rfl hlt
        obtain ⟨b, o, xa, xc, rfl, d1, d2, hxb⟩ := hel.out k x hgx
        obtain ⟨x1, x2, x3⟩ := hb3.out k x hgx
        replace d1 := cell_keep hbw d1
        replace d2 := cell_keep hbw d2
        have HXB := hid hxb
        have HSN := hid (show encObs (objs.take (k + 1)) = encObs (objs.take k) ++ ([byteI x.id, byteI x.val.length] ++ x.val) by rw [take_succ_snoc hgx, encObs_snoc])
        have HLN : Hid ((bs ++ ([byteI x.id, byteI x.val.length] ++ x.val)).length ≤ 253) := by
          show _ ≤ 253
          rw [hbs.out, List.append_assoc, ← HSN.out, List.length_append, encObs_length]
          have := obSize_pre (objs.drop (k + 1)) (objs.take (k + 1))
          rw [List.take_append_drop] at this
          simp
          omega
        have hki : (0 : Int) ≤ (k : Int) := Int.natCast_nonneg _
        have hkl : (k : Int) < (objs.length : Int) := by omega
        clear hgx hxb
        go_wp2_with fail
        have s0 : (wr.alloc (.cells #[.int .i64 x.id, .slice xa x.val.length xc] 156)).cell? ⟨wr.heap.size, 0, none⟩ = some (.int .i64 x.id) := by rw [World.cell?_alloc_at _ _ _ _ rfl]; rfl
        have s1 : (wr.alloc (.cells #[.int .i64 x.id, .slice xa x.val.length xc] 156)).cell? ⟨wr.heap.size, 1, none⟩ = some (.slice xa x.val.length xc) := by rw [World.cell?_alloc_at _ _ _ _ rfl]; rfl
        have t0 : ((wr.alloc (.cells #[.int .i64 x.id, .slice xa x.val.length xc] 156)).alloc (.cells #[.int .u8 x.id, .int .u8 x.val.length] 5)).cell? ⟨wr.heap.size, 0, none⟩ = some (.int .i64 x.id) := cell_keep (bal' _ _) s0
        have t1 : ((wr.alloc (.cells #[.int .i64 x.id, .slice xa x.val.length xc] 156)).alloc (.cells #[.int .u8 x.id, .int .u8 x.val.length] 5)).cell? ⟨wr.heap.size, 1, none⟩ = some (.slice xa x.val.length xc) := cell_keep (bal' _ _) s1
        have HO1 := hid ((hown.out.alloc (.cells #[.int .i64 x.id, .slice xa x.val.length xc] 156)).alloc (.cells #[.int .u8 x.id, .int .u8 x.val.length] 5))
        have HLT := hid hown.out.lt
        have HY1 := hid (bs2 (wr.alloc (.cells #[.int .i64 x.id, .slice xa x.val.length xc] 156)) (wr.heap.size + 1) x.id x.val.length x1 x2 (by omega) (by omega) (by simp))
        have hbA := hid ((bta hbw (Nat.le_refl _) (.cells #[.int .i64 x.id, .slice xa x.val.length xc] 156)).alloc (by simp; omega) (.cells #[.int .u8 x.id, .int .u8 x.val.length] 5))
        have u1 : IntKind.u8.wrap x.id = x.id := by show x.id % 256 = x.id; omega
        have u2 : IntKind.u8.wrap (x.val.length : Int) = x.val.length := by show (x.val.length : Int) % 256 = x.val.length; omega
        have hszB : wr.heap.size < ((wr.alloc (.cells #[.int .i64 x.id, .slice xa x.val.length xc] 156)).alloc (.cells #[.int .u8 x.id, .int .u8 x.val.length] 5)).drew.heap.size := by show wr.heap.size < ((wr.alloc (.cells #[.int .i64 x.id, .slice xa x.val.length xc] 156)).alloc (.cells #[.int .u8 x.id, .int .u8 x.val.length] 5)).heap.size; simp; omega
        have hszA : ((wr.alloc (.cells #[.int .i64 x.id, .slice xa x.val.length xc] 156)).alloc (.cells #[.int .u8 x.id, .int .u8 x.val.length] 5)).heap.size = wr.heap.size + 2 := by simp
        go_region_held3 (fun W => W.cell? ⟨wr.heap.size, 0, none⟩ = some (.int .i64 x.id) ∧ W.cell? ⟨wr.heap.size, 1, none⟩ = some (.slice xa x.val.length xc)) ((first | exact ⟨s0, s1⟩ | exact ⟨t0, t1⟩ | exact ⟨c50, c51⟩ | exact ⟨c60, c61⟩ | assumption))
          ((first
            | (refine step_appB rfl (.tmp 65) (.tmp 73) 50 rfl w1.heap.size 5 i5 Tryz.underlying50 hi hz0 hz1 hz2 (.slice ba bs.length bc) bs rfl HO1.out _ [byteI x.id, byteI x.val.length] rfl HY1.out (by simp; omega) (by simp; omega) ?_; intro v5 w5 hown5 hgr5 hnew5; have c50 : w5.cell? ⟨wr.heap.size, 0, none⟩ = some (.int .i64 x.id) := hgr5.cell t0 (fun e => Nat.lt_irrefl _ (HLT.out _ e.symm).2); have c51 : w5.cell? ⟨wr.heap.size, 1, none⟩ = some (.slice xa x.val.length xc) := hgr5.cell t1 (fun e => Nat.lt_irrefl _ (HLT.out _ e.symm).2); have hb5 : Below w1.heap.size w1 w5 := hbA.out.drew.grown hgr5 hbA.out.size (fun k hk => (HLT.out k hk).1); have hx5 := HXB.out.keep hb5; have hne5 : ∀ j, v5.ownBlock = some j → j ≠ wr.heap.size := ne_box hnew5 (fun k hk => (HLT.out k hk).2) hszB; have hown5' : w5.ownsRow w1.heap.size 5 1 v5 (bs ++ [byteI x.id, byteI x.val.length]).length (u8s (bs ++ [byteI x.id, byteI x.val.length])) := (by rw [List.length_append]; exact hown5))
            | (refine step_appB rfl (.tmp 74) (.tmp 76) 50 rfl w1.heap.size 5 i5 Tryz.underlying50 hi hz0 hz1 hz2 v5 (bs ++ [byteI x.id, byteI x.val.length]) rfl hown5' _ x.val rfl hx5 (by simp; omega) hb5.size ?_; intro v6 w6 hown6 hgr6 _; have c60 : w6.cell? ⟨wr.heap.size, 0, none⟩ = some (.int .i64 x.id) := hgr6.cell c50 (fun e => hne5 _ e.symm rfl); have c61 : w6.cell? ⟨wr.heap.size, 1, none⟩ = some (.slice xa x.val.length xc) := hgr6.cell c51 (fun e => hne5 _ e.symm rfl); have hb6 : Below w1.heap.size w1 w6 := hb5.grown hgr6 hb5.size (fun k hk => (hown5.lt k hk).1))))
        have HO6 : Hid (w6.ownsRow w1.heap.size 5 1 v6 (bs ++ ([byteI x.id, byteI x.val.length] ++ x.val)).length (u8s (bs ++ ([byteI x.id, byteI x.val.length] ++ x.val)))) := by
          show w6.ownsRow w1.heap.size 5 1 v6 (bs ++ ([byteI x.id, byteI x.val.length] ++ x.val)).length (u8s (bs ++ ([byteI x.id, byteI x.val.length] ++ x.val)))
          rw [← List.append_assoc, List.length_append]
          exact hown6
        have HB6 := hid hb6
        have HBS : Hid (bs ++ ([byteI x.id, byteI x.val.length] ++ x.val) = [43, 14, byteI code, byteI level, byteI 255, byteI next, byteI objs.length] ++ encObs (objs.take (k + 1))) := by
          show _ = _
          rw [HSN.out]
          generalize [byteI x.id, byteI x.val.length] ++ x.val = tl
          rw [← List.append_assoc, ← hbs.out]
        have hlq := hid (show (bs ++ ([byteI x.id, byteI x.val.length] ++ x.val)).length = (bs ++ [byteI x.id, byteI x.val.length]).length + x.val.length by simp; omega)
        obtain ⟨a6, c6, rfl⟩ := own_slice hown6
        clear hown6 hgr6 hown5 hown5' hgr5 hnew5 hne5 c50 c51 c60 c61 hb5 hx5 hb6 s0 s1 t0 t1 hszA hszB
        go_wp2
        go_roundw
        case rel => exact ⟨k + 1, a6, c6, bs ++ ([byteI x.id, byteI x.val.length] ++ x.val), by omega, by go_num, by first | (rw [hlq.out]; done) | (rw [hlq.out]; rfl), HLN.out, by have h := HO6.out; rw [hlq.out] at h ⊢; exact h, HBS.out, HB6.out⟩
        case measure => simp [intOf]; omega
      · obtain rfl : k = objs.length := by omega
        have HBS : Hid (bs = [43, 14, byteI code, byteI level, byteI 255, byteI next, byteI objs.length] ++ encObs objs) := by
          have h := hbs.out
          rw [List.take_length] at h
          exact h
        have HF : Hid (Bs wr (.slice ba bs.length bc) bs ∧ Below w.heap.size w wr ∧ ∀ ad, ba = some ad → w.heap.size ≤ ad.block) := ⟨Bs.own hown.out, bt hbw1 hbw (Nat.le_refl _), fun ad h => Nat.le_trans hbw1.size (hown.out.lt ad.block (by rw [h]; rfl)).1⟩
        clear hown hbs
        go_wp2
        go_ret2
        refine (show EncPost w ([43, 14, byteI code, byteI level, byteI 255, byteI next, byteI objs.length] ++ encObs objs) _ _ from ?_)
        rw [← HBS.out]
        exact ⟨ba, bc, rfl, HF.out.1, HF.out.2.1, HF.out.2.2⟩
  · go_enter Tryz.func105, Tryz.ntmps105
    go_wp2_with fail
    refine (HV.out _).mono ?_
    rintro r w1 ⟨rfl, hbv⟩
    have gB : w1.heap[w.heap.size]? = some (.cells #[.int .i64 43, .int .i64 0, .slice da 0 dc, .int .i64 code, .int .i64 level, .bool false, .int .i64 next, .slice oa objs.length oc] 53 (0, 0)) := by rw [hbv.block _ (by simp)]; exact heap_alloc_new _ _
    have p0 : w1.cell? ⟨w.heap.size, 0, none⟩ = some (.int .i64 43) := cell_heap gB 0
    have p1 : w1.cell? ⟨w.heap.size, 1, none⟩ = some (.int .i64 0) := cell_heap gB 1
    have p2 : w1.cell? ⟨w.heap.size, 2, none⟩ = some (.slice da 0 dc) := cell_heap gB 2
    have p3 : w1.cell? ⟨w.heap.size, 3, none⟩ = some (.int .i64 code) := cell_heap gB 3
    have p4 : w1.cell? ⟨w.heap.size, 4, none⟩ = some (.int .i64 level) := cell_heap gB 4
    have p5 := cell_heap gB 5
    simp only [List.getElem?_toArray, List.getElem?_cons_succ, List.getElem?_cons_zero] at p5
    have p6 : w1.cell? ⟨w.heap.size, 6, none⟩ = some (.int .i64 next) := cell_heap gB 6
    have p7 : w1.cell? ⟨w.heap.size, 7, none⟩ = some (.slice oa objs.length oc) := cell_heap gB 7
    have hbw1 : Below w.heap.size w w1 := bt (bal' w _) hbv (Nat.le_refl _)
    have hlt1 : w.heap.size < w1.heap.size := (Array.getElem?_eq_some_iff.1 gB).1
    have HO7 := hid (own7 w1 w1.heap.size code level _ next objs.length (by omega) (by omega) hm1 (by omega) (by omega) (Nat.le_refl _))
    obtain ⟨ao, no, co, hvo, hlo, hno, hnco, hcmo, hel⟩ := (HO.out.keep hbw1).open_
    simp only [Value.slice.injEq] at hvo
    obtain ⟨rfl, rfl, rfl⟩ := hvo
    replace hel := hid hel
    have P7 := hid p7
    clear gB hbv hlo
    go_wp2_with fail
    go_loopw [5, 6] (fun bv idx wr => ∃ (k : Nat) (ba : Option Addr) (bc : Nat) (bs : List UInt8), k ≤ objs.length ∧ idx = .int .i64 k ∧ bv = .slice ba bs.length bc ∧ bs.length ≤ 253 ∧ Hid (wr.ownsRow w1.heap.size 5 1 (.slice ba bs.length bc) bs.length (u8s bs)) ∧ Hid (bs = [43, 14, byteI code, byteI level, byteI 0, byteI next, byteI objs.length] ++ encObs (objs.take k)) ∧ Below w1.heap.size w1 wr) (fun _ idx _ => objs.length - (intOf idx).toNat)
    case atStart => exact ⟨0, _, 7, [43, 14, byteI code, byteI level, byteI 0, byteI next, byteI objs.length], Nat.zero_le _, rfl, rfl, by simp, HO7.out, by show _ = _; simp [encObs], bal' w1 _⟩
    case round =>
      clear p0 p1 p2 p3 p4 p5 p6 p7 HO7
      obtain ⟨k, ba, bc, bs, hk, rfl, rfl, hbl, hown, hbs, hbw⟩ := hrel
      have hszr := hbw.size
      have p7 : wr.cell? ⟨w.heap.size, 7, none⟩ = some (.slice oa objs.length oc) := cell_keep hbw P7.out
      by_cases hlt : k < objs.length
      · obtain ⟨x, hgx⟩ := get_some (n := objs.length) rfl hlt
        obtain ⟨b, o, xa, xc, rfl, d1, d2, hxb⟩ := hel.out k x hgx
        obtain ⟨x1, x2, x3⟩ := hb3.out k x hgx
        replace d1 := cell_keep hbw d1
        replace d2 := cell_keep hbw d2
        have HXB := hid hxb
        have HSN := hid (show encObs (objs.take (k + 1)) = encObs (objs.take k) ++ ([byteI x.id, byteI x.val.length] ++ x.val) by rw [take_succ_snoc hgx, encObs_snoc])
        have HLN : Hid ((bs ++ ([byteI x.id, byteI x.val.length] ++ x.val)).length ≤ 253) := by
          show _ ≤ 253
          rw [hbs.out, List.append_assoc, ← HSN.out, List.length_append, encObs_length]
          have := obSize_pre (objs.drop (k + 1)) (objs.take (k + 1))
          rw [List.take_append_drop] at this
          simp
          omega
        have hki : (0 : Int) ≤ (k : Int) := Int.natCast_nonneg _
        have hkl : (k : Int) < (objs.length : Int) := by omega
        clear hgx hxb
        go_wp2_with fail
        have s0 : (wr.alloc (.cells #[.int .i64 x.id, .slice xa x.val.length xc] 156)).cell? ⟨wr.heap.size, 0, none⟩ = some (.int .i64 x.id) := by rw [World.cell?_alloc_at _ _ _ _ rfl]; rfl
        have s1 : (wr.alloc (.cells #[.int .i64 x.id, .slice xa x.val.length xc] 156)).cell? ⟨wr.heap.size, 1, none⟩ = some (.slice xa x.val.length xc) := by rw [World.cell?_alloc_at _ _ _ _ rfl]; rfl
        have t0 : ((wr.alloc (.cells #[.int .i64 x.id, .slice xa x.val.length xc] 156)).alloc (.cells #[.int .u8 x.id, .int .u8 x.val.length] 5)).cell? ⟨wr.heap.size, 0, none⟩ = some (.int .i64 x.id) := cell_keep (bal' _ _) s0
        have t1 : ((wr.alloc (.cells #[.int .i64 x.id, .slice xa x.val.length xc] 156)).alloc (.cells #[.int .u8 x.id, .int .u8 x.val.length] 5)).cell? ⟨wr.heap.size, 1, none⟩ = some (.slice xa x.val.length xc) := cell_keep (bal' _ _) s1
        have HO1 := hid ((hown.out.alloc (.cells #[.int .i64 x.id, .slice xa x.val.length xc] 156)).alloc (.cells #[.int .u8 x.id, .int .u8 x.val.length] 5))
        have HLT := hid hown.out.lt
        have HY1 := hid (bs2 (wr.alloc (.cells #[.int .i64 x.id, .slice xa x.val.length xc] 156)) (wr.heap.size + 1) x.id x.val.length x1 x2 (by omega) (by omega) (by simp))
        have hbA := hid ((bta hbw (Nat.le_refl _) (.cells #[.int .i64 x.id, .slice xa x.val.length xc] 156)).alloc (by simp; omega) (.cells #[.int .u8 x.id, .int .u8 x.val.length] 5))
        have u1 : IntKind.u8.wrap x.id = x.id := by show x.id % 256 = x.id; omega
        have u2 : IntKind.u8.wrap (x.val.length : Int) = x.val.length := by show (x.val.length : Int) % 256 = x.val.length; omega
        have hszB : wr.heap.size < ((wr.alloc (.cells #[.int .i64 x.id, .slice xa x.val.length xc] 156)).alloc (.cells #[.int .u8 x.id, .int .u8 x.val.length] 5)).drew.heap.size := by show wr.heap.size < ((wr.alloc (.cells #[.int .i64 x.id, .slice xa x.val.length xc] 156)).alloc (.cells #[.int .u8 x.id, .int .u8 x.val.length] 5)).heap.size; simp; omega
        have hszA : ((wr.alloc (.cells #[.int .i64 x.id, .slice xa x.val.length xc] 156)).alloc (.cells #[.int .u8 x.id, .int .u8 x.val.length] 5)).heap.size = wr.heap.size + 2 := by simp
        go_region_held3 (fun W => W.cell? ⟨wr.heap.size, 0, none⟩ = some (.int .i64 x.id) ∧ W.cell? ⟨wr.heap.size, 1, none⟩ = some (.slice xa x.val.length xc)) ((first | exact ⟨s0, s1⟩ | exact ⟨t0, t1⟩ | exact ⟨c50, c51⟩ | exact ⟨c60, c61⟩ | assumption))
          ((first
            | (refine step_appB rfl (.tmp 65) (.tmp 73) 50 rfl w1.heap.size 5 i5 Tryz.underlying50 hi hz0 hz1 hz2 (.slice ba bs.length bc) bs rfl HO1.out _ [byteI x.id, byteI x.val.length] rfl HY1.out (by simp; omega) (by simp; omega) ?_; intro v5 w5 hown5 hgr5 hnew5; have c50 : w5.cell? ⟨wr.heap.size, 0, none⟩ = some (.int .i64 x.id) := hgr5.cell t0 (fun e => Nat.lt_irrefl _ (HLT.out _ e.symm).2); have c51 : w5.cell? ⟨wr.heap.size, 1, none⟩ = some (.slice xa x.val.length xc) := hgr5.cell t1 (fun e => Nat.lt_irrefl _ (HLT.out _ e.symm).2); have hb5 : Below w1.heap.size w1 w5 := hbA.out.drew.grown hgr5 hbA.out.size (fun k hk => (HLT.out k hk).1); have hx5 := HXB.out.keep hb5; have hne5 : ∀ j, v5.ownBlock = some j → j ≠ wr.heap.size := ne_box hnew5 (fun k hk => (HLT.out k hk).2) hszB; have hown5' : w5.ownsRow w1.heap.size 5 1 v5 (bs ++ [byteI x.id, byteI x.val.length]).length (u8s (bs ++ [byteI x.id, byteI x.val.length])) := (by rw [List.length_append]; exact hown5))
            | (refine step_appB rfl (.tmp 74) (.tmp 76) 50 rfl w1.heap.size 5 i5 Tryz.underlying50 hi hz0 hz1 hz2 v5 (bs ++ [byteI x.id, byteI x.val.length]) rfl hown5' _ x.val rfl hx5 (by simp; omega) hb5.size ?_; intro v6 w6 hown6 hgr6 _; have c60 : w6.cell? ⟨wr.heap.size, 0, none⟩ = some (.int .i64 x.id) := hgr6.cell c50 (fun e => hne5 _ e.symm rfl); have c61 : w6.cell? ⟨wr.heap.size, 1, none⟩ = some (.slice xa x.val.length xc) := hgr6.cell c51 (fun e => hne5 _ e.symm rfl); have hb6 : Below w1.heap.size w1 w6 := hb5.grown hgr6 hb5.size (fun k hk => (hown5.lt k hk).1))))
        have HO6 : Hid (w6.ownsRow w1.heap.size 5 1 v6 (bs ++ ([byteI x.id, byteI x.val.length] ++ x.val)).length (u8s (bs ++ ([byteI x.id, byteI x.val.length] ++ x.val)))) := by
          show w6.ownsRow w1.heap.size 5 1 v6 (bs ++ ([byteI x.id, byteI x.val.length] ++ x.val)).length (u8s (bs ++ ([byteI x.id, byteI x.val.length] ++ x.val)))
          rw [← List.append_assoc, List.length_append]
          exact hown6
        have HB6 := hid hb6
        have HBS : Hid (bs ++ ([byteI x.id, byteI x.val.length] ++ x.val) = [43, 14, byteI code, byteI level, byteI 0, byteI next, byteI objs.length] ++ encObs (objs.take (k + 1))) := by
          show _ = _
          rw [HSN.out]
          generalize [byteI x.id, byteI x.val.length] ++ x.val = tl
          rw [← List.append_assoc, ← hbs.out]
        have hlq := hid (show (bs ++ ([byteI x.id, byteI x.val.length] ++ x.val)).length = (bs ++ [byteI x.id, byteI x.val.length]).length + x.val.length by simp; omega)
        obtain ⟨a6, c6, rfl⟩ := own_slice hown6
        clear hown6 hgr6 hown5 hown5' hgr5 hnew5 hne5 c50 c51 c60 c61 hb5 hx5 hb6 s0 s1 t0 t1 hszA hszB
        go_wp2
        go_roundw
        case rel => exact ⟨k + 1, a6, c6, bs ++ ([byteI x.id, byteI x.val.length] ++ x.val), by omega, by go_num, by first | (rw [hlq.out]; done) | (rw [hlq.out]; rfl), HLN.out, by have h := HO6.out; rw [hlq.out] at h ⊢; exact h, HBS.out, HB6.out⟩
        case measure => simp [intOf]; omega
      · obtain rfl : k = objs.length := by omega
        have HBS : Hid (bs = [43, 14, byteI code, byteI level, byteI 0, byteI next, byteI objs.length] ++ encObs objs) := by
          have h := hbs.out
          rw [List.take_length] at h
          exact h
        have HF : Hid (Bs wr (.slice ba bs.length bc) bs ∧ Below w.heap.size w wr ∧ ∀ ad, ba = some ad → w.heap.size ≤ ad.block) := ⟨Bs.own hown.out, bt hbw1 hbw (Nat.le_refl _), fun ad h => Nat.le_trans hbw1.size (hown.out.lt ad.block (by rw [h]; rfl)).1⟩
        clear hown hbs
        go_wp2
        go_ret2
        refine (show EncPost w ([43, 14, byteI code, byteI level, byteI 0, byteI next, byteI objs.length] ++ encObs objs) _ _ from ?_)
        rw [← HBS.out]
        exact ⟨ba, bc, rfl, HF.out.1, HF.out.2.1, HF.out.2.2⟩

end Go.Proofs.YtipnamoocemeeaaGreat

/-
The contracts of reply.Encode and of the reference's EncodeReply at every valid reply.
-/
namespace Go.Proofs.YtipnamoocemeeaaGreat
open Go.RowKit
theorem renc_any (fn exc : Int) (code level : Int) (more : Bool) (next : Int) (data : List UInt8) (objs : List Ob) (da oa : Option Addr) (dc oc : Nat) (w : World) (hd : Bs w (.slice da data.length dc) data) (ho : Obs w (.slice oa objs.length oc) objs) (hk : Rp.ok ⟨fn, exc, data, code, level, more, next, objs⟩ = true) :
    Calls Tryz.prog 105 #[.agg #[.int .i64 fn, .int .i64 exc, .slice da data.length dc, .int .i64 code, .int .i64 level, .bool more, .int .i64 next, .slice oa objs.length oc]] w (EncPost w (Rp.pdu ⟨fn, exc, data, code, level, more, next, objs⟩)) := by
  obtain ⟨hf, h | h | h⟩ := ok_cases hk
  · obtain ⟨hx, h1, h2⟩ := h
    have e : Rp.pdu ⟨fn, exc, data, code, level, more, next, objs⟩ = [byteI (fn + 128), byteI exc] := by unfold Rp.pdu; rw [if_neg hx]
    rw [e]
    exact renc_exc fn exc code level more next data objs da oa dc oc w hd ho hk hf ⟨h1, h2⟩
  · obtain ⟨rfl, h43, h1, h2⟩ := h
    have e : Rp.pdu ⟨fn, 0, data, code, level, more, next, objs⟩ = byteI fn :: byteI data.length :: data := by unfold Rp.pdu; rw [if_pos rfl, if_neg h43]
    rw [e]
    exact renc_data fn code level more next data objs da oa dc oc w hd ho hk ⟨hf.1, h1⟩ h2
  · obtain ⟨rfl, rfl, rfl, h1, h2, h3, h4, h5, h6, h7⟩ := h
    have e : Rp.pdu ⟨43, 0, [], code, level, more, next, objs⟩ = devHead ⟨43, 0, [], code, level, more, next, objs⟩ ++ encObs objs := by unfold Rp.pdu; rw [if_pos rfl, if_pos rfl]
    rw [e]
    exact renc_dev code level more next objs da oa dc oc w hd ho hk h1 h2 h3 h4 h5 h6 h7 _ rfl

end Go.Proofs.YtipnamoocemeeaaGreat

/-
The contract of record.appendOutcome at clean outcomes.
-/
namespace Go.Proofs.YtipnamoocemeeaaGreat
open Go.RowKit
end Go.Proofs.YtipnamoocemeeaaGreat

/-
The contract of record.appendOutcome at clean outcomes with a PDU.
-/
namespace Go.Proofs.YtipnamoocemeeaaGreat
open Go.RowKit
end Go.Proofs.YtipnamoocemeeaaGreat

/-
The bytes of an outcome, and the contract of record.appendOutcome at every valid outcome.
-/
namespace Go.Proofs.YtipnamoocemeeaaGreat
open Go.RowKit
end Go.Proofs.YtipnamoocemeeaaGreat

/-
The contracts of record.Encode and of the reference's Encode at every list of outcomes.
-/
namespace Go.Proofs.YtipnamoocemeeaaGreat
open Go.RowKit

def encErr (l : List Oc) : Int := if 1 ≤ l.length ∧ l.length ≤ 64 then 5 else 4
/-- What Encode leaves. -/
def EncLPost (w : World) (l : List Oc) (r : Ending) (w' : World) : Prop :=
  (okL l = true → EncPost w (encL l) r w') ∧ (okL l = false → r = .returned (.tuple #[.slice none 0 0, .int .i64 (encErr l)]) ∧ Below w.heap.size w w')

theorem oc_enc_le {o : Oc} (h : o.ok = true) : o.enc.length ≤ 256 := by
  rcases oc_forms h with ⟨hv, he⟩ | ⟨hv, hk, h1, h2, he⟩ | ⟨hv, ht, he⟩ | ⟨hv, ht, hx, hr⟩
  · unfold Oc.enc; rw [if_neg (by omega), if_neg (by omega)]; simp
  · unfold Oc.enc; rw [if_pos hv]; simp
  · unfold Oc.enc; rw [if_neg (by omega), if_pos hv, if_pos ht]; simp
  · have := (pdu_le' hr).2
    unfold Oc.enc; rw [if_neg (by omega), if_pos hv, if_neg (by rw [ht]; decide)]; simp; omega

theorem okL_no {l : List Oc} {k : Nat} {x : Oc} (h : l[k]? = some x) (hx : x.ok = false) : okL l = false := by
  cases hs : okL l with
  | false => rfl
  | true =>
    simp only [okL, Bool.and_eq_true, List.all_eq_true] at hs
    have := hs.2 x (List.mem_of_getElem? h)
    rw [hx] at this; cases this
theorem okL_len {l : List Oc} (h : ¬ (1 ≤ l.length ∧ l.length ≤ 64)) : okL l = false := by
  cases hs : okL l with
  | false => rfl
  | true =>
    simp only [okL, Bool.and_eq_true, decide_eq_true_eq] at hs
    exact absurd hs.1 h
theorem okL_yes {l : List Oc} (h : 1 ≤ l.length ∧ l.length ≤ 64) (hk : ∀ (j : Nat) (x : Oc), j < l.length → l[j]? = some x → x.ok = true) : okL l = true := by
  simp only [okL, Bool.and_eq_true, decide_eq_true_eq, List.all_eq_true]
  refine ⟨h, fun x hx => ?_⟩
  obtain ⟨j, hj⟩ := List.getElem?_of_mem hx
  exact hk j x (List.getElem?_eq_some_iff.1 hj).1 hj

theorem EncLPost.yes {w : World} {l : List Oc} {r : Ending} {w' : World} (h : okL l = true) (hp : EncPost w (encL l) r w') : EncLPost w l r w' := ⟨fun _ => hp, fun h2 => absurd (h.symm.trans h2) (by decide)⟩
theorem EncLPost.no {w : World} {l : List Oc} {w' : World} {e : Int} (h : okL l = false) (he : encErr l = e) (hb : Below w.heap.size w w') : EncLPost w l (.returned (.tuple #[.slice none 0 0, .int .i64 e])) w' := ⟨fun h2 => absurd (h.symm.trans h2) (by decide), fun _ => ⟨by rw [he], hb⟩⟩

/-- What is known of an outcome that is handed over by value, in every later world. -/
structure OcIs (w : World) (x : Oc) (da : Option Addr) (dc : Nat) (oa : Option Addr) (oc : Nat) : Prop where
  d : Bs w (.slice da x.reply.data.length dc) x.reply.data
  o : Obs w (.slice oa x.reply.objs.length oc) x.reply.objs
  hi : x.reply.level ≤ 9223372036854775807
  lo : -9223372036854775808 ≤ x.reply.level
theorem OcIs.keep {w w' : World} {x : Oc} {da : Option Addr} {dc : Nat} {oa : Option Addr} {oc : Nat} (h : OcIs w x da dc oa oc) (hb : Below w.heap.size w w') : OcIs w' x da dc oa oc := ⟨h.d.keep hb, h.o.keep hb, h.hi, h.lo⟩

theorem rvalid_oc {W : World} {x : Oc} {da : Option Addr} {dc : Nat} {oa : Option Addr} {oc : Nat} (h : OcIs W x da dc oa oc) (V : Bool) (hV : x.ok = V) :
    Calls Tryz.prog 22 #[.agg #[.int .i64 x.verdict, .int .i64 x.reply.fn, .int .i64 x.reply.exc, .slice da x.reply.data.length dc, .int .i64 x.reply.code, .int .i64 x.reply.level, .bool x.reply.more, .int .i64 x.reply.next, .slice oa x.reply.objs.length oc]] W fun r w' => r = .returned (.bool V) ∧ Below W.heap.size W w' :=
  rvalidOc_any x.verdict _ _ _ _ _ _ _ _ x.reply.data x.reply.objs W h.d h.o V hV
end Go.Proofs.YtipnamoocemeeaaGreat

/-
The contract of modscanref27.one: the bytes of a valid outcome.
-/
namespace Go.Proofs.YtipnamoocemeeaaGreat
open Go.RowKit

/-- What a call that answers new bytes leaves. -/
def OnePost (w : World) (l : List UInt8) (r : Ending) (w' : World) : Prop := ∃ a c, r = .returned (.slice a l.length c) ∧ Bs w' (.slice a l.length c) l ∧ Below w.heap.size w w' ∧ ∀ ad, a = some ad → w.heap.size ≤ ad.block

theorem OnePost.of_own {w w' : World} {l : List UInt8} {a : Option Addr} {n c : Nat} (hn : n = l.length) (h : w'.ownsRow w.heap.size 5 1 (.slice a n c) n (u8s l)) (hb : Below w.heap.size w w') : OnePost w l (.returned (.slice a n c)) w' := by
  subst hn
  exact ⟨a, c, rfl, Bs.own h, hb, fun ad had => (h.lt ad.block (by rw [had]; rfl)).1⟩

theorem enc_345 {x : Oc} (h : x.verdict = 3 ∨ x.verdict = 4 ∨ x.verdict = 5) : x.enc = [byteI x.verdict] := by
  unfold Oc.enc; rw [if_neg (by omega), if_neg (by omega)]
theorem enc_2 {x : Oc} (h : x.verdict = 2) : x.enc = [byteI 2] ++ [byteI x.reply.fn, byteI x.reply.exc] := by
  unfold Oc.enc; rw [if_pos h, h]; rfl
theorem enc_1t {x : Oc} (h : x.verdict = 1) (ht : tblB x.reply.fn = true) : x.enc = [byteI 1] ++ [byteI x.reply.fn] := by
  unfold Oc.enc; rw [if_neg (by omega), if_pos h, if_pos ht, h]; rfl
theorem enc_1n {x : Oc} (h : x.verdict = 1) (ht : tblB x.reply.fn = false) : x.enc = [byteI 1] ++ [byteI x.reply.fn] ++ [byteI x.reply.pdu.length] ++ x.reply.pdu := by
  unfold Oc.enc; rw [if_neg (by omega), if_pos h, if_neg (by rw [ht]; decide), h]; rfl

set_option maxRecDepth 100000 in
set_option maxHeartbeats 6400000 in
theorem rone_any {w : World} {x : Oc} {da : Option Addr} {dc : Nat} {oa : Option Addr} {oc : Nat} (h : OcIs w x da dc oa oc) (hk : x.ok = true) :
    Calls Tryz.prog 62 #[.agg #[.int .i64 x.verdict, .int .i64 x.reply.fn, .int .i64 x.reply.exc, .slice da x.reply.data.length dc, .int .i64 x.reply.code, .int .i64 x.reply.level, .bool x.reply.more, .int .i64 x.reply.next, .slice oa x.reply.objs.length oc]] w (OnePost w x.enc) := by
  obtain ⟨i5, hi, hz0, hz1, hz2⟩ := info_parts infoB
  rcases oc_forms hk with ⟨hv, he⟩ | ⟨hv, hkn, h1, h2, he⟩ | ⟨hv, ht, he⟩ | ⟨hv, ht, hx, hr⟩
  · rw [enc_345 hv]
    have t1 : (x.verdict == 2) = false := by rw [beq_eq_false_iff_ne]; omega
    have t2 : (x.verdict == 1) = false := by rw [beq_eq_false_iff_ne]; omega
    have hw8 : IntKind.u8.wrap x.verdict = x.verdict := by rcases hv with h | h | h <;> rw [h] <;> rfl
    have HO := hid (own1 (w.alloc (.cells #[.int .i64 x.verdict, .int .i64 x.reply.fn, .int .i64 x.reply.exc, .slice da x.reply.data.length dc, .int .i64 x.reply.code, .int .i64 x.reply.level, .bool x.reply.more, .int .i64 x.reply.next, .slice oa x.reply.objs.length oc] 55)) w.heap.size x.verdict (by omega) (by omega) (by simp))
    have hwz : (w.alloc (.cells #[.int .i64 x.verdict, .int .i64 x.reply.fn, .int .i64 x.reply.exc, .slice da x.reply.data.length dc, .int .i64 x.reply.code, .int .i64 x.reply.level, .bool x.reply.more, .int .i64 x.reply.next, .slice oa x.reply.objs.length oc] 55)).heap.size = w.heap.size + 1 := by simp
    rw [hwz] at HO
    clear h he hv hwz hk
    generalize x.reply.data.length = dn at *
    generalize x.reply.objs.length = on at *
    go_enter Tryz.func62, Tryz.ntmps62
    go_wp2
    go_ret
    exact OnePost.of_own rfl HO.out (b2 w _ _)
  · rw [enc_2 hv]
    have hf := known_bd hkn
    have u1 : IntKind.u8.wrap x.reply.fn = x.reply.fn := by show _ % 256 = _; omega
    have u2 : IntKind.u8.wrap x.reply.exc = x.reply.exc := by show _ % 256 = _; omega
    have HO := hid ((own1 (w.alloc (.cells #[.int .i64 x.verdict, .int .i64 x.reply.fn, .int .i64 x.reply.exc, .slice da x.reply.data.length dc, .int .i64 x.reply.code, .int .i64 x.reply.level, .bool x.reply.more, .int .i64 x.reply.next, .slice oa x.reply.objs.length oc] 55)) w.heap.size 2 (by omega) (by omega) (by simp)).alloc (.cells #[.int .u8 x.reply.fn, .int .u8 x.reply.exc] 5))
    have HB := hid (bs2 ((w.alloc (.cells #[.int .i64 x.verdict, .int .i64 x.reply.fn, .int .i64 x.reply.exc, .slice da x.reply.data.length dc, .int .i64 x.reply.code, .int .i64 x.reply.level, .bool x.reply.more, .int .i64 x.reply.next, .slice oa x.reply.objs.length oc] 55)).alloc (.cells #[.int .u8 2] 5)) (w.heap.size + 1 + 1) x.reply.fn x.reply.exc (by omega) (by omega) (by omega) (by omega) (by simp))
    have HBE := hid (b3 w (.cells #[.int .i64 x.verdict, .int .i64 x.reply.fn, .int .i64 x.reply.exc, .slice da x.reply.data.length dc, .int .i64 x.reply.code, .int .i64 x.reply.level, .bool x.reply.more, .int .i64 x.reply.next, .slice oa x.reply.objs.length oc] 55) (.cells #[.int .u8 2] 5) (.cells #[.int .u8 x.reply.fn, .int .u8 x.reply.exc] 5))
    have hwz : (w.alloc (.cells #[.int .i64 x.verdict, .int .i64 x.reply.fn, .int .i64 x.reply.exc, .slice da x.reply.data.length dc, .int .i64 x.reply.code, .int .i64 x.reply.level, .bool x.reply.more, .int .i64 x.reply.next, .slice oa x.reply.objs.length oc] 55)).heap.size = w.heap.size + 1 := by simp
    rw [hwz] at HO
    have hv' := hv
    rw [hv'] at HO HB HBE
    clear h he hk hwz hkn hv'
    generalize x.reply.data.length = dn at *
    generalize x.reply.objs.length = on at *
    generalize hvv : x.verdict = vv at *
    clear hvv
    subst hv
    go_enter Tryz.func62, Tryz.ntmps62
    go_wp2_with (at_builtin; refine wpList_app rfl _ _ 50 rfl w.heap.size 5 i5 Tryz.underlying50 hi hz0 hz1 hz2 _ [byteI 2] rfl HO.out _ [byteI x.reply.fn, byteI x.reply.exc] rfl HB.out (by simp) ?c2 ?c3)
    case c2 => first | omega | exact HBE.out.size
    case c3 =>
      intro v2 w2 hown2 hgr2
      have hb2 := HBE.out.grown hgr2 HBE.out.size (fun k hk => by cases hk; exact Nat.le_succ _)
      obtain ⟨a2, c2, rfl⟩ := own_slice hown2
      have HX := hid hown2
      have HY := hid hb2
      clear hown2 hgr2 hb2
      go_wp2
      go_ret
      exact OnePost.of_own rfl HX.out HY.out
  · rw [enc_1t hv ht]
    have hf := tblB_bd ht
    have hf4 : ¬ (4 < x.reply.fn) := by omega
    have u1 : IntKind.u8.wrap x.reply.fn = x.reply.fn := by show _ % 256 = _; omega
    have HO := hid ((own1 (w.alloc (.cells #[.int .i64 x.verdict, .int .i64 x.reply.fn, .int .i64 x.reply.exc, .slice da x.reply.data.length dc, .int .i64 x.reply.code, .int .i64 x.reply.level, .bool x.reply.more, .int .i64 x.reply.next, .slice oa x.reply.objs.length oc] 55)) w.heap.size 1 (by omega) (by omega) (by simp)).alloc (.cells #[.int .u8 x.reply.fn] 5))
    have HB := hid (bs1 ((w.alloc (.cells #[.int .i64 x.verdict, .int .i64 x.reply.fn, .int .i64 x.reply.exc, .slice da x.reply.data.length dc, .int .i64 x.reply.code, .int .i64 x.reply.level, .bool x.reply.more, .int .i64 x.reply.next, .slice oa x.reply.objs.length oc] 55)).alloc (.cells #[.int .u8 1] 5)) (w.heap.size + 1 + 1) x.reply.fn (by omega) (by omega) (by simp))
    have HBE := hid (b3 w (.cells #[.int .i64 x.verdict, .int .i64 x.reply.fn, .int .i64 x.reply.exc, .slice da x.reply.data.length dc, .int .i64 x.reply.code, .int .i64 x.reply.level, .bool x.reply.more, .int .i64 x.reply.next, .slice oa x.reply.objs.length oc] 55) (.cells #[.int .u8 1] 5) (.cells #[.int .u8 x.reply.fn] 5))
    have hwz : (w.alloc (.cells #[.int .i64 x.verdict, .int .i64 x.reply.fn, .int .i64 x.reply.exc, .slice da x.reply.data.length dc, .int .i64 x.reply.code, .int .i64 x.reply.level, .bool x.reply.more, .int .i64 x.reply.next, .slice oa x.reply.objs.length oc] 55)).heap.size = w.heap.size + 1 := by simp
    rw [hwz] at HO
    have hv' := hv
    rw [hv'] at HO HB HBE
    have HG : Hid ((((w.alloc (.cells #[.int .i64 1, .int .i64 x.reply.fn, .int .i64 x.reply.exc, .slice da x.reply.data.length dc, .int .i64 x.reply.code, .int .i64 x.reply.level, .bool x.reply.more, .int .i64 x.reply.next, .slice oa x.reply.objs.length oc] 55)).alloc (.cells #[.int .u8 1] 5)).alloc (.cells #[.int .u8 x.reply.fn] 5)).heap[w.heap.size]? = some (.cells #[.int .i64 1, .int .i64 x.reply.fn, .int .i64 x.reply.exc, .slice da x.reply.data.length dc, .int .i64 x.reply.code, .int .i64 x.reply.level, .bool x.reply.more, .int .i64 x.reply.next, .slice oa x.reply.objs.length oc] 55)) := (heap3 w _ _ _).1
    clear h he hk hwz hv'
    generalize x.reply.data.length = dn at *
    generalize x.reply.objs.length = on at *
    generalize hvv : x.verdict = vv at *
    clear hvv
    subst hv
    go_enter Tryz.func62, Tryz.ntmps62
    go_wp2_with (at_builtin; refine wpList_app rfl _ _ 50 rfl w.heap.size 5 i5 Tryz.underlying50 hi hz0 hz1 hz2 _ [byteI 1] rfl HO.out _ [byteI x.reply.fn] rfl HB.out (by simp) ?c2 ?c3)
    case c2 => first | omega | exact HBE.out.size
    case c3 =>
      intro v2 w2 hown2 hgr2
      have hb2 := HBE.out.grown hgr2 HBE.out.size (fun k hk => by cases hk; exact Nat.le_succ _)
      have hg2 : w2.heap[w.heap.size]? = some (.cells #[.int .i64 1, .int .i64 x.reply.fn, .int .i64 x.reply.exc, .slice da dn dc, .int .i64 x.reply.code, .int .i64 x.reply.level, .bool x.reply.more, .int .i64 x.reply.next, .slice oa on oc] 55) := by
        rw [hgr2.block _ (by simp; omega) (fun e => absurd (show w.heap.size = w.heap.size + 1 from Option.some.inj e) (by omega))]; exact HG.out
      have p1 : w2.cell? ⟨w.heap.size, 1, none⟩ = some (.int .i64 x.reply.fn) := cell_heap hg2 1
      obtain ⟨a2, c2, rfl⟩ := own_slice hown2
      have HX := hid hown2
      have HY := hid hb2
      clear hown2 hgr2 hb2 hg2
      go_wp2
      go_ret
      exact OnePost.of_own rfl HX.out HY.out
  · rw [enc_1n hv ht]
    have hf4 : 4 < x.reply.fn ∧ x.reply.fn ≤ 43 := by
      have h1 := (ok_cases (fn := x.reply.fn) (exc := x.reply.exc) (data := x.reply.data) (code := x.reply.code) (level := x.reply.level) (more := x.reply.more) (next := x.reply.next) (objs := x.reply.objs) hr).1
      have h2 : ¬ (1 ≤ x.reply.fn ∧ x.reply.fn ≤ 4) := fun h => by rw [tblB_iff.2 h] at ht; cases ht
      omega
    obtain ⟨f4, f43⟩ := hf4
    have u1 : IntKind.u8.wrap x.reply.fn = x.reply.fn := by show _ % 256 = _; omega
    have hpd := (pdu_le' hr).2
    have hup : IntKind.u8.wrap (x.reply.pdu.length : Int) = (x.reply.pdu.length : Int) := by show _ % 256 = _; omega
    have HEN : Hid (∀ W, Below w.heap.size w W → Calls Tryz.prog 105 #[.agg #[.int .i64 x.reply.fn, .int .i64 x.reply.exc, .slice da x.reply.data.length dc, .int .i64 x.reply.code, .int .i64 x.reply.level, .bool x.reply.more, .int .i64 x.reply.next, .slice oa x.reply.objs.length oc]] W (EncPost W x.reply.pdu)) := fun W hW => renc_any x.reply.fn x.reply.exc x.reply.code x.reply.level x.reply.more x.reply.next x.reply.data x.reply.objs da oa dc oc W (h.keep hW).d (h.keep hW).o hr
    have HO := hid ((own1 (w.alloc (.cells #[.int .i64 x.verdict, .int .i64 x.reply.fn, .int .i64 x.reply.exc, .slice da x.reply.data.length dc, .int .i64 x.reply.code, .int .i64 x.reply.level, .bool x.reply.more, .int .i64 x.reply.next, .slice oa x.reply.objs.length oc] 55)) w.heap.size 1 (by omega) (by omega) (by simp)).alloc (.cells #[.int .u8 x.reply.fn] 5))
    have HB := hid (bs1 ((w.alloc (.cells #[.int .i64 x.verdict, .int .i64 x.reply.fn, .int .i64 x.reply.exc, .slice da x.reply.data.length dc, .int .i64 x.reply.code, .int .i64 x.reply.level, .bool x.reply.more, .int .i64 x.reply.next, .slice oa x.reply.objs.length oc] 55)).alloc (.cells #[.int .u8 1] 5)) (w.heap.size + 1 + 1) x.reply.fn (by omega) (by omega) (by simp))
    have HBE := hid (b3 w (.cells #[.int .i64 x.verdict, .int .i64 x.reply.fn, .int .i64 x.reply.exc, .slice da x.reply.data.length dc, .int .i64 x.reply.code, .int .i64 x.reply.level, .bool x.reply.more, .int .i64 x.reply.next, .slice oa x.reply.objs.length oc] 55) (.cells #[.int .u8 1] 5) (.cells #[.int .u8 x.reply.fn] 5))
    have hwz : (w.alloc (.cells #[.int .i64 x.verdict, .int .i64 x.reply.fn, .int .i64 x.reply.exc, .slice da x.reply.data.length dc, .int .i64 x.reply.code, .int .i64 x.reply.level, .bool x.reply.more, .int .i64 x.reply.next, .slice oa x.reply.objs.length oc] 55)).heap.size = w.heap.size + 1 := by simp
    rw [hwz] at HO
    have hv' := hv
    rw [hv'] at HO HB HBE
    have HG : Hid ((((w.alloc (.cells #[.int .i64 1, .int .i64 x.reply.fn, .int .i64 x.reply.exc, .slice da x.reply.data.length dc, .int .i64 x.reply.code, .int .i64 x.reply.level, .bool x.reply.more, .int .i64 x.reply.next, .slice oa x.reply.objs.length oc] 55)).alloc (.cells #[.int .u8 1] 5)).alloc (.cells #[.int .u8 x.reply.fn] 5)).heap[w.heap.size]? = some (.cells #[.int .i64 1, .int .i64 x.reply.fn, .int .i64 x.reply.exc, .slice da x.reply.data.length dc, .int .i64 x.reply.code, .int .i64 x.reply.level, .bool x.reply.more, .int .i64 x.reply.next, .slice oa x.reply.objs.length oc] 55)) := (heap3 w _ _ _).1
    clear h hk hwz hv' hr ht hx
    generalize x.reply.data.length = dn at *
    generalize x.reply.objs.length = on at *
    generalize x.reply.pdu = pd at *
    generalize hvv : x.verdict = vv at *
    clear hvv
    subst hv
    go_enter Tryz.func62, Tryz.ntmps62
    go_wp2_with (at_builtin; refine wpList_appB rfl (.tmp 29) (.tmp 34) 50 rfl w.heap.size 5 i5 Tryz.underlying50 hi hz0 hz1 hz2 _ [byteI 1] rfl HO.out _ [byteI x.reply.fn] rfl HB.out (by simp) ?c2 ?c3)
    case c2 => first | omega | exact HBE.out.size
    case c3 =>
      intro v2 w2 hown2 hgr2 hnew2
      have hb2 := HBE.out.grown hgr2 HBE.out.size (fun k hk => by cases hk; exact Nat.le_succ _)
      have hg2 : w2.heap[w.heap.size]? = some (.cells #[.int .i64 1, .int .i64 x.reply.fn, .int .i64 x.reply.exc, .slice da dn dc, .int .i64 x.reply.code, .int .i64 x.reply.level, .bool x.reply.more, .int .i64 x.reply.next, .slice oa on oc] 55) := by
        rw [hgr2.block _ (by simp; omega) (fun e => absurd (show w.heap.size = w.heap.size + 1 from Option.some.inj e) (by omega))]; exact HG.out
      have p1 : w2.cell? ⟨w.heap.size, 1, none⟩ = some (.int .i64 x.reply.fn) := cell_heap hg2 1
      have p2 : w2.cell? ⟨w.heap.size, 2, none⟩ = some (.int .i64 x.reply.exc) := cell_heap hg2 2
      have p3 : w2.cell? ⟨w.heap.size, 3, none⟩ = some (.slice da dn dc) := cell_heap hg2 3
      have p4 : w2.cell? ⟨w.heap.size, 4, none⟩ = some (.int .i64 x.reply.code) := cell_heap hg2 4
      have p5 : w2.cell? ⟨w.heap.size, 5, none⟩ = some (.int .i64 x.reply.level) := cell_heap hg2 5
      have p6 : w2.cell? ⟨w.heap.size, 6, none⟩ = some (.bool x.reply.more) := cell_heap hg2 6
      have p7 : w2.cell? ⟨w.heap.size, 7, none⟩ = some (.int .i64 x.reply.next) := cell_heap hg2 7
      have p8 : w2.cell? ⟨w.heap.size, 8, none⟩ = some (.slice oa on oc) := cell_heap hg2 8
      obtain ⟨a2, c2, rfl⟩ := own_slice hown2
      have HX : Hid (w2.ownsRow w.heap.size 5 1 (.slice a2 (1 + 1) c2) (1 + 1) (u8s ([byteI 1] ++ [byteI x.reply.fn]))) := hown2
      have HL2 := hid hown2.lt
      have hsz2 := hb2.size
      have HB2 := hid hb2
      clear hown2 hgr2 hb2 hg2 hnew2
      go_wp2_with fail
      refine (HEN.out _ HB2.out).mono ?_
      rintro r w4 ⟨a4, c4, rfl, hb4, hbel4, ha4⟩
      have HA4 := hid ha4
      clear ha4
      have hsz4 := hbel4.size
      have HO4 := hid ((own_keeps HX.out (Keeps.of_below (F := fun _ => False) hbel4) (fun _ _ f => f)).alloc (.cells #[.int .u8 pd.length] 5))
      have HB4 := hid (bs1 w4 w4.heap.size pd.length (by omega) (by omega) rfl)
      have HY4 : Hid (Below w.heap.size w (w4.alloc (.cells #[.int .u8 pd.length] 5))) := (HB2.out.trans (hbel4.mono (by omega))).alloc (by omega) _
      have HP4 := hid (hb4.keep (bal' w4 (.cells #[.int .u8 pd.length] 5)))
      clear hb4 hbel4
      go_wp2_with (at_builtin; refine wpList_appB rfl (.tmp 46) (.tmp 50) 50 rfl w.heap.size 5 i5 Tryz.underlying50 hi hz0 hz1 hz2 _ ([byteI 1] ++ [byteI x.reply.fn]) rfl HO4.out _ [byteI pd.length] rfl HB4.out ?e1 ?e2 ?e3)
      case e1 => simp
      case e2 => simp; omega
      case e3 =>
        intro v5 w5 hown5 hgr5 _
        have hb5 := HY4.out.grown hgr5 (by simp; omega) (fun k hk => (HL2.out k hk).1)
        have hP5 : Bs w5 (.slice a4 pd.length c4) pd := HP4.out.keepsN (Keeps.of_grown (F := fun k => (Value.slice a2 (1 + 1) c2).ownBlock = some k) hgr5 (fun k hk => hk)) (fun _ ad had hF => by
          have h1 := HA4.out ad had
          have h2 := (HL2.out _ hF).2
          omega)
        obtain ⟨a5, c5, rfl⟩ := own_slice hown5
        have HP5 := hid hP5
        have HB5 := hid hb5
        have HL5 := hid hown5.lt
        have HO5 := hid hown5
        have hw5 : w.heap.size ≤ w5.heap.size := HB5.out.size
        clear hown5 hgr5 hP5 hb5
        go_wp2_with (at_builtin; refine wpList_app rfl (.tmp 51) (.tmp 52) 50 rfl w.heap.size 5 i5 Tryz.underlying50 hi hz0 hz1 hz2 _ ([byteI 1] ++ [byteI x.reply.fn] ++ [byteI pd.length]) rfl HO5.out _ pd rfl HP5.out ?f1 ?f2 ?f3)
        case f1 => simp; omega
        case f2 => exact hw5
        case f3 =>
          intro v6 w6 hown6 hgr6
          have hb6 := HB5.out.grown hgr6 hw5 (fun k hk => (HL5.out k hk).1)
          obtain ⟨a6, c6, rfl⟩ := own_slice hown6
          have HO6 := hid hown6
          have HB6 := hid hb6
          have HN := hid (show ([byteI 1] ++ [byteI x.reply.fn] ++ [byteI pd.length]).length + pd.length = ([byteI 1] ++ [byteI x.reply.fn] ++ [byteI pd.length] ++ pd).length by simp; omega)
          clear hown6 hgr6 hb6
          go_wp2
          go_ret
          exact OnePost.of_own HN.out HO6.out HB6.out

end Go.Proofs.YtipnamoocemeeaaGreat

/-
The contract of the reference's Encode at every list of outcomes.
-/
namespace Go.Proofs.YtipnamoocemeeaaGreat
open Go.RowKit

set_option maxRecDepth 100000 in
set_option maxHeartbeats 6400000 in
theorem refEncode_any (v : Value) (l : List Oc) (w : World) (ho : Ocs w v l) : Calls Tryz.prog 23 #[v] w (EncLPost w l) := by
  obtain ⟨i5, hi, hz0, hz1, hz2⟩ := info_parts infoB
  obtain ⟨a, c, rfl, _⟩ := id ho
  obtain ⟨-, hnc, hcm, hel⟩ := ho.get
  unfold maxLen at hcm
  have HEL := hid hel
  obtain ⟨N, hN⟩ : ∃ N, l.length = N := ⟨_, rfl⟩
  rw [hN] at hnc ⊢
  have hln := hid hN
  by_cases hr : 1 ≤ N ∧ N ≤ 64
  · have HE5 : Hid (encErr l = 5) := by show _ = _; unfold encErr; rw [if_pos (by omega)]
    obtain ⟨hr1, hr2⟩ := hr
    have hN0 : N ≠ 0 := by omega
    have hu : IntKind.u8.wrap (N : Int) = (N : Int) := by show (N : Int) % 256 = N; omega
    have hO1 := hid (own1 w w.heap.size N (by omega) (by omega) (Nat.le_refl _))
    clear ho hN hel
    go_enter Tryz.func23, Tryz.ntmps23
    go_wp2_with fail
    go_loopw [4, 5] (fun bv idx wr => ∃ (k : Nat) (bs : List UInt8) (ba : Option Addr) (bc : Nat), k ≤ N ∧ idx = .int .i64 k ∧ bv = .slice ba bs.length bc ∧ bs.length ≤ 1 + 256 * k ∧ Hid (wr.ownsRow w.heap.size 5 1 (.slice ba bs.length bc) bs.length (u8s bs)) ∧ Hid (bs = byteI N :: encAll (l.take k)) ∧ Hid (∀ (j : Nat) (x : Oc), j < k → l[j]? = some x → x.ok = true) ∧ Below w.heap.size w wr) (fun _ idx _ => N - (intOf idx).toNat)
    case atStart => exact ⟨0, [byteI N], some ⟨w.heap.size, 0, none⟩, 1, by omega, rfl, rfl, by simp, hO1.out, rfl, fun j x h => by omega, bal' w _⟩
    case round =>
      obtain ⟨k, bs, ba, bc, hk, rfl, rfl, hbl, hown, hbs, hall, hbw⟩ := hrel
      by_cases hlt : k < N
      · obtain ⟨x, hgx⟩ := get_some hln.out hlt
        obtain ⟨b, o, da, dc, oa, oc, rfl, ⟨p0, p1, p2, p3, p4, p5, p6, p7, p8⟩, hd, hob, hlv⟩ := HEL.out k x hgx
        have e0 : ∀ W, Below w.heap.size w W → W.cell? ⟨b, o + k * 9, none⟩ = _ := fun W h => cell_keep h p0
        have e1 : ∀ W, Below w.heap.size w W → W.cell? ⟨b, o + k * 9 + 1, none⟩ = _ := fun W h => cell_keep h p1
        have e2 : ∀ W, Below w.heap.size w W → W.cell? ⟨b, o + k * 9 + 2, none⟩ = _ := fun W h => cell_keep h p2
        have e3 : ∀ W, Below w.heap.size w W → W.cell? ⟨b, o + k * 9 + 3, none⟩ = _ := fun W h => cell_keep h p3
        have e4 : ∀ W, Below w.heap.size w W → W.cell? ⟨b, o + k * 9 + 4, none⟩ = _ := fun W h => cell_keep h p4
        have e5 : ∀ W, Below w.heap.size w W → W.cell? ⟨b, o + k * 9 + 5, none⟩ = _ := fun W h => cell_keep h p5
        have e6 : ∀ W, Below w.heap.size w W → W.cell? ⟨b, o + k * 9 + 6, none⟩ = _ := fun W h => cell_keep h p6
        have e7 : ∀ W, Below w.heap.size w W → W.cell? ⟨b, o + k * 9 + 7, none⟩ = _ := fun W h => cell_keep h p7
        have e8 : ∀ W, Below w.heap.size w W → W.cell? ⟨b, o + k * 9 + 8, none⟩ = _ := fun W h => cell_keep h p8
        clear p0 p1 p2 p3 p4 p5 p6 p7 p8
        have HX := hid (OcIs.mk hd hob hlv.1 hlv.2)
        obtain ⟨V, hV⟩ : ∃ V, x.ok = V := ⟨_, rfl⟩
        have HV : Hid (∀ W, Below w.heap.size w W → Calls Tryz.prog 22 #[.agg #[.int .i64 x.verdict, .int .i64 x.reply.fn, .int .i64 x.reply.exc, .slice da x.reply.data.length dc, .int .i64 x.reply.code, .int .i64 x.reply.level, .bool x.reply.more, .int .i64 x.reply.next, .slice oa x.reply.objs.length oc]] W fun r w' => r = .returned (.bool V) ∧ Below W.heap.size W w') := fun W hW => rvalid_oc (HX.out.keep hW) V hV
        have HA : Hid (V = true → ∀ W, Below w.heap.size w W → Calls Tryz.prog 62 #[.agg #[.int .i64 x.verdict, .int .i64 x.reply.fn, .int .i64 x.reply.exc, .slice da x.reply.data.length dc, .int .i64 x.reply.code, .int .i64 x.reply.level, .bool x.reply.more, .int .i64 x.reply.next, .slice oa x.reply.objs.length oc]] W (OnePost W x.enc)) := fun h W hW => rone_any (HX.out.keep hW) (hV.trans h)
        have HNO := hid (fun h : V = false => okL_no hgx (hV.trans h))
        have HLE := hid (fun h : V = true => oc_enc_le (hV.trans h))
        have HTK := hid (take_succ_snoc hgx)
        have HST := hid (show V = true → ∀ (j : Nat) (u : Oc), j < k + 1 → l[j]? = some u → u.ok = true from fun hs j u hj hu => by
          by_cases hjk : j = k
          · subst hjk; rw [hgx] at hu; cases hu; exact hV.trans hs
          · exact hall.out j u (by omega) hu)
        clear hd hob hlv hgx hV hall HX
        have hkl : (k : Int) < (N : Int) := by omega
        have hsz := hbw.size
        generalize x.reply.data.length = dn at *
        generalize x.reply.objs.length = on at *
        go_wp2_with fail
        refine (HV.out _ hbw).mono ?_
        rintro r w3 ⟨rfl, hb3⟩
        cases V with
        | false =>
          have HF := hid (HNO.out rfl)
          go_wp2
          go_ret2
          exact EncLPost.no HF.out HE5.out (bt hbw hb3 (Nat.le_refl _))
        | true =>
          have hb4 : Below w.heap.size w w3 := bt hbw hb3 (Nat.le_refl _)
          have HO3 : Hid (w3.ownsRow w.heap.size 5 1 (.slice ba bs.length bc) bs.length (u8s bs)) := own_keeps hown.out (Keeps.of_below (F := fun _ => False) hb3) (fun _ _ f => f)
          have HLE2 := HLE.out rfl
          have HS2 := hid (HST.out rfl)
          clear hb3 hown
          go_wp2_with fail
          refine (HA.out (by trivial) _ hb4).mono ?_
          rintro r w5 ⟨a5, c5, rfl, hB5, hb5, _⟩
          have HO5 := hid (own_keeps HO3.out (Keeps.of_below (F := fun _ => False) hb5) (fun _ _ f => f))
          have hb6 : Below w.heap.size w w5 := bt hb4 hb5 (Nat.le_refl _)
          have HB5 : Hid (bs ++ x.enc = byteI N :: encAll (l.take (k + 1))) := by show _ = _; rw [HTK.out, encAll_snoc, hbs.out]; rfl
          have HL5 := hid (show (bs ++ x.enc).length = bs.length + x.enc.length from List.length_append)
          have HBB := hid hB5
          have hw5 := hb6.size
          clear hb5 hbs hB5
          go_wp2_with (at_builtin; refine wpList_app rfl (.tmp 30) (.tmp 35) 50 rfl w.heap.size 5 i5 Tryz.underlying50 hi hz0 hz1 hz2 _ bs rfl HO5.out _ x.enc rfl HBB.out (by omega) hw5 ?c3)
          case c3 =>
            intro v6 w6 hown6 hgr6
            have hb7 := hb6.grown hgr6 hw5 (fun k hk => (HO5.out.lt k hk).1)
            obtain ⟨a6, c6, rfl⟩ := own_slice hown6
            rw [← HL5.out] at hown6
            have HO6 := hid hown6
            clear hown6 hgr6
            go_wp2
            go_roundw
            case rel => exact ⟨k + 1, bs ++ x.enc, a6, c6, by omega, by go_num, by rw [HL5.out], by rw [HL5.out]; omega, HO6.out, HB5.out, HS2.out, hb7⟩
            case measure => simp [intOf]; omega
      · obtain rfl : k = N := by omega
        have HB := hid (Bs.own hown.out)
        have HLO := hid hown.out.lt
        have HOK := hid (okL_yes (l := l) (by have := hln.out; omega) (fun j x hj hx => hall.out j x (by have := hln.out; omega) hx))
        have HEQ : Hid (bs = encL l) := by
          show bs = _
          rw [hbs.out, List.take_of_length_le (by have := hln.out; omega)]
          unfold encL
          rw [hln.out]
        clear hown hbs hall
        go_wp2
        go_ret2
        exact EncLPost.yes HOK.out (by rw [← HEQ.out]; exact ⟨ba, bc, rfl, HB.out, hbw, fun ad h => (HLO.out ad.block (by rw [h]; rfl)).1⟩)
  · have HE4 : Hid (encErr l = 4) := by show _ = _; unfold encErr; rw [if_neg (by omega)]
    have HF := hid (okL_len (l := l) (by omega))
    rcases (show N = 0 ∨ 64 < N by omega) with rfl | h64
    · clear ho hN hel hr
      go_enter Tryz.func23, Tryz.ntmps23
      go_wp2
      go_ret2
      exact EncLPost.no HF.out HE4.out (Below.refl _ _)
    · have hN0 : N ≠ 0 := by omega
      clear ho hN hel hr
      go_enter Tryz.func23, Tryz.ntmps23
      go_wp2
      go_ret2
      exact EncLPost.no HF.out HE4.out (Below.refl _ _)

end Go.Proofs.YtipnamoocemeeaaGreat

/-
The contract of modscanref27.SameOutcomes at two slices that read as the same list.
-/
namespace Go.Proofs.YtipnamoocemeeaaGreat
open Go.RowKit
end Go.Proofs.YtipnamoocemeeaaGreat

/-
The same contract, which says that the bytes' row is the call's own.
-/
namespace Go.Proofs.YtipnamoocemeeaaGreat
open Go.RowKit

/-- What Encode leaves: a row of its own. -/
def EncLOwn (w : World) (l : List Oc) (r : Ending) (w' : World) : Prop :=
  (okL l = true → ∃ a c, r = .returned (.tuple #[.slice a (encL l).length c, .int .i64 0]) ∧ w'.ownsRow w.heap.size 5 1 (.slice a (encL l).length c) (encL l).length (u8s (encL l)) ∧ (encL l).length ≤ 20000 ∧ Below w.heap.size w w') ∧ (okL l = false → r = .returned (.tuple #[.slice none 0 0, .int .i64 (encErr l)]) ∧ Below w.heap.size w w')
theorem EncLOwn.no {w : World} {l : List Oc} {w' : World} {e : Int} (h : okL l = false) (he : encErr l = e) (hb : Below w.heap.size w w') : EncLOwn w l (.returned (.tuple #[.slice none 0 0, .int .i64 e])) w' := ⟨fun h2 => absurd (h.symm.trans h2) (by decide), fun _ => ⟨by rw [he], hb⟩⟩
theorem EncLOwn.yes {w : World} {l : List Oc} {w' : World} {bs : List UInt8} {a : Option Addr} {c : Nat} (h : okL l = true) (he : bs = encL l) (ho : w'.ownsRow w.heap.size 5 1 (.slice a bs.length c) bs.length (u8s bs)) (hn : bs.length ≤ 20000) (hb : Below w.heap.size w w') : EncLOwn w l (.returned (.tuple #[.slice a bs.length c, .int .i64 0])) w' := by
  subst he
  exact ⟨fun _ => ⟨a, c, rfl, ho, hn, hb⟩, fun h2 => absurd (h.symm.trans h2) (by decide)⟩

set_option maxRecDepth 100000 in
set_option maxHeartbeats 6400000 in
theorem refEncode_own (v : Value) (l : List Oc) (w : World) (ho : Ocs w v l) : Calls Tryz.prog 23 #[v] w (EncLOwn w l) := by
  obtain ⟨i5, hi, hz0, hz1, hz2⟩ := info_parts infoB
  obtain ⟨a, c, rfl, _⟩ := id ho
  obtain ⟨-, hnc, hcm, hel⟩ := ho.get
  unfold maxLen at hcm
  have HEL := hid hel
  obtain ⟨N, hN⟩ : ∃ N, l.length = N := ⟨_, rfl⟩
  rw [hN] at hnc ⊢
  have hln := hid hN
  by_cases hr : 1 ≤ N ∧ N ≤ 64
  · have HE5 : Hid (encErr l = 5) := by show _ = _; unfold encErr; rw [if_pos (by omega)]
    obtain ⟨hr1, hr2⟩ := hr
    have hN0 : N ≠ 0 := by omega
    have hu : IntKind.u8.wrap (N : Int) = (N : Int) := by show (N : Int) % 256 = N; omega
    have hO1 := hid (own1 w w.heap.size N (by omega) (by omega) (Nat.le_refl _))
    clear ho hN hel
    go_enter Tryz.func23, Tryz.ntmps23
    go_wp2_with fail
    go_loopw [4, 5] (fun bv idx wr => ∃ (k : Nat) (bs : List UInt8) (ba : Option Addr) (bc : Nat), k ≤ N ∧ idx = .int .i64 k ∧ bv = .slice ba bs.length bc ∧ bs.length ≤ 1 + 256 * k ∧ Hid (wr.ownsRow w.heap.size 5 1 (.slice ba bs.length bc) bs.length (u8s bs)) ∧ Hid (bs = byteI N :: encAll (l.take k)) ∧ Hid (∀ (j : Nat) (x : Oc), j < k → l[j]? = some x → x.ok = true) ∧ Below w.heap.size w wr) (fun _ idx _ => N - (intOf idx).toNat)
    case atStart => exact ⟨0, [byteI N], some ⟨w.heap.size, 0, none⟩, 1, by omega, rfl, rfl, by simp, hO1.out, rfl, fun j x h => by omega, bal' w _⟩
    case round =>
      obtain ⟨k, bs, ba, bc, hk, rfl, rfl, hbl, hown, hbs, hall, hbw⟩ := hrel
      by_cases hlt : k < N
      · obtain ⟨x, hgx⟩ := get_some hln.out hlt
        obtain ⟨b, o, da, dc, oa, oc, rfl, ⟨p0, p1, p2, p3, p4, p5, p6, p7, p8⟩, hd, hob, hlv⟩ := HEL.out k x hgx
        have e0 : ∀ W, Below w.heap.size w W → W.cell? ⟨b, o + k * 9, none⟩ = _ := fun W h => cell_keep h p0
        have e1 : ∀ W, Below w.heap.size w W → W.cell? ⟨b, o + k * 9 + 1, none⟩ = _ := fun W h => cell_keep h p1
        have e2 : ∀ W, Below w.heap.size w W → W.cell? ⟨b, o + k * 9 + 2, none⟩ = _ := fun W h => cell_keep h p2
        have e3 : ∀ W, Below w.heap.size w W → W.cell? ⟨b, o + k * 9 + 3, none⟩ = _ := fun W h => cell_keep h p3
        have e4 : ∀ W, Below w.heap.size w W → W.cell? ⟨b, o + k * 9 + 4, none⟩ = _ := fun W h => cell_keep h p4
        have e5 : ∀ W, Below w.heap.size w W → W.cell? ⟨b, o + k * 9 + 5, none⟩ = _ := fun W h => cell_keep h p5
        have e6 : ∀ W, Below w.heap.size w W → W.cell? ⟨b, o + k * 9 + 6, none⟩ = _ := fun W h => cell_keep h p6
        have e7 : ∀ W, Below w.heap.size w W → W.cell? ⟨b, o + k * 9 + 7, none⟩ = _ := fun W h => cell_keep h p7
        have e8 : ∀ W, Below w.heap.size w W → W.cell? ⟨b, o + k * 9 + 8, none⟩ = _ := fun W h => cell_keep h p8
        clear p0 p1 p2 p3 p4 p5 p6 p7 p8
        have HX := hid (OcIs.mk hd hob hlv.1 hlv.2)
        obtain ⟨V, hV⟩ : ∃ V, x.ok = V := ⟨_, rfl⟩
        have HV : Hid (∀ W, Below w.heap.size w W → Calls Tryz.prog 22 #[.agg #[.int .i64 x.verdict, .int .i64 x.reply.fn, .int .i64 x.reply.exc, .slice da x.reply.data.length dc, .int .i64 x.reply.code, .int .i64 x.reply.level, .bool x.reply.more, .int .i64 x.reply.next, .slice oa x.reply.objs.length oc]] W fun r w' => r = .returned (.bool V) ∧ Below W.heap.size W w') := fun W hW => rvalid_oc (HX.out.keep hW) V hV
        have HA : Hid (V = true → ∀ W, Below w.heap.size w W → Calls Tryz.prog 62 #[.agg #[.int .i64 x.verdict, .int .i64 x.reply.fn, .int .i64 x.reply.exc, .slice da x.reply.data.length dc, .int .i64 x.reply.code, .int .i64 x.reply.level, .bool x.reply.more, .int .i64 x.reply.next, .slice oa x.reply.objs.length oc]] W (OnePost W x.enc)) := fun h W hW => rone_any (HX.out.keep hW) (hV.trans h)
        have HNO := hid (fun h : V = false => okL_no hgx (hV.trans h))
        have HLE := hid (fun h : V = true => oc_enc_le (hV.trans h))
        have HTK := hid (take_succ_snoc hgx)
        have HST := hid (show V = true → ∀ (j : Nat) (u : Oc), j < k + 1 → l[j]? = some u → u.ok = true from fun hs j u hj hu => by
          by_cases hjk : j = k
          · subst hjk; rw [hgx] at hu; cases hu; exact hV.trans hs
          · exact hall.out j u (by omega) hu)
        clear hd hob hlv hgx hV hall HX
        have hkl : (k : Int) < (N : Int) := by omega
        have hsz := hbw.size
        generalize x.reply.data.length = dn at *
        generalize x.reply.objs.length = on at *
        go_wp2_with fail
        refine (HV.out _ hbw).mono ?_
        rintro r w3 ⟨rfl, hb3⟩
        cases V with
        | false =>
          have HF := hid (HNO.out rfl)
          go_wp2
          go_ret2
          exact EncLOwn.no HF.out HE5.out (bt hbw hb3 (Nat.le_refl _))
        | true =>
          have hb4 : Below w.heap.size w w3 := bt hbw hb3 (Nat.le_refl _)
          have HO3 : Hid (w3.ownsRow w.heap.size 5 1 (.slice ba bs.length bc) bs.length (u8s bs)) := own_keeps hown.out (Keeps.of_below (F := fun _ => False) hb3) (fun _ _ f => f)
          have HLE2 := HLE.out rfl
          have HS2 := hid (HST.out rfl)
          clear hb3 hown
          go_wp2_with fail
          refine (HA.out (by trivial) _ hb4).mono ?_
          rintro r w5 ⟨a5, c5, rfl, hB5, hb5, _⟩
          have HO5 := hid (own_keeps HO3.out (Keeps.of_below (F := fun _ => False) hb5) (fun _ _ f => f))
          have hb6 : Below w.heap.size w w5 := bt hb4 hb5 (Nat.le_refl _)
          have HB5 : Hid (bs ++ x.enc = byteI N :: encAll (l.take (k + 1))) := by show _ = _; rw [HTK.out, encAll_snoc, hbs.out]; rfl
          have HL5 := hid (show (bs ++ x.enc).length = bs.length + x.enc.length from List.length_append)
          have HBB := hid hB5
          have hw5 := hb6.size
          clear hb5 hbs hB5
          go_wp2_with (at_builtin; refine wpList_app rfl (.tmp 30) (.tmp 35) 50 rfl w.heap.size 5 i5 Tryz.underlying50 hi hz0 hz1 hz2 _ bs rfl HO5.out _ x.enc rfl HBB.out (by omega) hw5 ?c3)
          case c3 =>
            intro v6 w6 hown6 hgr6
            have hb7 := hb6.grown hgr6 hw5 (fun k hk => (HO5.out.lt k hk).1)
            obtain ⟨a6, c6, rfl⟩ := own_slice hown6
            rw [← HL5.out] at hown6
            have HO6 := hid hown6
            clear hown6 hgr6
            go_wp2
            go_roundw
            case rel => exact ⟨k + 1, bs ++ x.enc, a6, c6, by omega, by go_num, by rw [HL5.out], by rw [HL5.out]; omega, HO6.out, HB5.out, HS2.out, hb7⟩
            case measure => simp [intOf]; omega
      · obtain rfl : k = N := by omega
        have HOW := hid hown.out
        have HOK := hid (okL_yes (l := l) (by have := hln.out; omega) (fun j x hj hx => hall.out j x (by have := hln.out; omega) hx))
        have HEQ : Hid (bs = encL l) := by
          show bs = _
          rw [hbs.out, List.take_of_length_le (by have := hln.out; omega)]
          unfold encL
          rw [hln.out]
        clear hown hbs hall
        go_wp2
        go_ret2
        exact EncLOwn.yes HOK.out HEQ.out HOW.out (by omega) hbw
  · have HE4 : Hid (encErr l = 4) := by show _ = _; unfold encErr; rw [if_neg (by omega)]
    have HF := hid (okL_len (l := l) (by omega))
    rcases (show N = 0 ∨ 64 < N by omega) with rfl | h64
    · clear ho hN hel hr
      go_enter Tryz.func23, Tryz.ntmps23
      go_wp2
      go_ret2
      exact EncLOwn.no HF.out HE4.out (Below.refl _ _)
    · have hN0 : N ≠ 0 := by omega
      clear ho hN hel hr
      go_enter Tryz.func23, Tryz.ntmps23
      go_wp2
      go_ret2
      exact EncLOwn.no HF.out HE4.out (Below.refl _ _)

end Go.Proofs.YtipnamoocemeeaaGreat

/-
What a judged outcome is good for; the frame as an argument; one outcome as a list.
-/
namespace Go.Proofs.YtipnamoocemeeaaGreat
open Go.RowKit
/-- An outcome that can be put down after Strip, and is not too great for it. -/
def Oc.good (o : Oc) : Prop := o.strip.ok = true ∧ o.reply.data.length ≤ 1000 ∧ o.reply.objs.length ≤ 1000 ∧ ∀ (i : Nat) (x : Ob), o.reply.objs[i]? = some x → x.val.length ≤ 1000

/-- A new block of one outcome is a list of one. -/
theorem Ocs.one {w : World} {p : Nat} {t : TypeId} {fz : Nat × Nat} {x : Oc} {da : Option Addr} {dc : Nat} {oa : Option Addr} {oc : Nat} (h : w.heap[p]? = some (.cells #[.int .i64 x.verdict, .int .i64 x.reply.fn, .int .i64 x.reply.exc, .slice da x.reply.data.length dc, .int .i64 x.reply.code, .int .i64 x.reply.level, .bool x.reply.more, .int .i64 x.reply.next, .slice oa x.reply.objs.length oc] t fz)) (hi : RpIs w x.reply da dc oa oc) :
    Ocs w (.slice (some ⟨p, 0, none⟩) 1 1) [x] := by
  refine ⟨some ⟨p, 0, none⟩, 1, rfl, Nat.le_refl _, by unfold maxLen; exact Nat.le_of_ble_eq_true rfl, (fun h => by cases h), fun _ => ⟨p, 0, rfl, fun i y hy => ?_⟩⟩
  have hi0 : i = 0 := by
    have := (List.getElem?_eq_some_iff.1 hy).1
    simpa using this
  subst hi0
  have hyx : x = y := by simpa using hy
  subst hyx
  refine ⟨_, rfl, ⟨da, dc, oa, oc, rfl, hi.d, hi.o, hi.hi, hi.lo⟩, fun j u hj => ?_⟩
  rw [hpCell h]
  rw [← hj]
  simp

end Go.Proofs.YtipnamoocemeeaaGreat
