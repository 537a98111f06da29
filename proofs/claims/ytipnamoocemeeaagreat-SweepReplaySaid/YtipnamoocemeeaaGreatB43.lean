/-
  Texts 43 of the claim.
-/
import Derived.Test.YtipnamoocemeeaaGreatB22
import Derived.Test.YtipnamoocemeeaaGreatB19
import Derived.Test.YtipnamoocemeeaaGreatB02
import Derived.Test.YtipnamoocemeeaaGreatB04
import Derived.Test.YtipnamoocemeeaaGreatB01
import Derived.Test.YtipnamoocemeeaaGreatRows
import Derived.Deep.RegionHeld3
import Derived.Test.YtipnamoocemeeaaGreatB06
import Derived.Test.YtipnamoocemeeaaGreatB03
/-
  modscanref27.Strip: what it answers holds no memory but its argument's.
-/
namespace Go.Proofs.YtipnamoocemeeaaGreat
open Go.RowKit
/-- What Strip answers. -/
def RsOne (w : World) (O : Oc) (da : Option Addr) (dc : Nat) (oa : Option Addr) (oc : Nat) (r : Ending) (w' : World) : Prop :=
  ∃ da2 dc2 oa2 oc2, r = .returned (.agg #[.int .i64 O.strip.verdict, .int .i64 O.strip.reply.fn, .int .i64 O.strip.reply.exc, .slice da2 O.strip.reply.data.length dc2, .int .i64 O.strip.reply.code, .int .i64 O.strip.reply.level, .bool O.strip.reply.more, .int .i64 O.strip.reply.next, .slice oa2 O.strip.reply.objs.length oc2]) ∧ (∀ W, RpIs W O.reply da dc oa oc → RpIs W O.strip.reply da2 dc2 oa2 oc2) ∧ Below w.heap.size w w'
theorem RpIs.short (W : World) (f x : Int) : RpIs W ⟨f, x, [], 0, 0, false, 0, []⟩ none 0 none 0 := ⟨Bs.nil _, Obs.nil _, by show (0 : Int) ≤ _; decide, by show _ ≤ (0 : Int); decide⟩
set_option maxRecDepth 100000 in
set_option maxHeartbeats 3200000 in
theorem rstrip_own (O : Oc) (da : Option Addr) (dc : Nat) (oa : Option Addr) (oc : Nat) (w : World) :
    Calls Tryz.prog 21 #[.agg #[.int .i64 O.verdict, .int .i64 O.reply.fn, .int .i64 O.reply.exc, .slice da O.reply.data.length dc, .int .i64 O.reply.code, .int .i64 O.reply.level, .bool O.reply.more, .int .i64 O.reply.next, .slice oa O.reply.objs.length oc]] w (RsOne w O da dc oa oc) := by
  obtain ⟨v, ⟨fn, exc, data, code, level, more, next, objs⟩⟩ := O
  dsimp only
  rcases strip_cases v fn with ⟨h0, h1, h2, h3, h4⟩ | rfl | ⟨rfl, ⟨t1, t2, t3⟩ | ⟨t1, t3⟩ | ⟨t1, t2, t3⟩⟩
  · have HE := hid (Oc.strip_no (r := ⟨fn, exc, data, code, level, more, next, objs⟩) h0)
    go_enter Tryz.func21, Tryz.ntmps21
    go_wp2
    refine bodyPost_ret (v := .agg #[.int .i64 v, .int .i64 0, .int .i64 0, .slice none 0 0, .int .i64 0, .int .i64 0, .bool false, .int .i64 0, .slice none 0 0]) (by simp [results, Tryz.results21, go_sem]) rfl ?_
    refine ⟨none, 0, none, 0, by rw [HE.out]; rfl, fun W _ => by rw [HE.out]; exact RpIs.short W 0 0, b2 w _ _⟩
  · have HE := hid (Oc.strip_short (v := 2) (r := ⟨fn, exc, data, code, level, more, next, objs⟩) (.inl rfl))
    go_enter Tryz.func21, Tryz.ntmps21
    go_wp2
    refine bodyPost_ret (v := .agg #[.int .i64 2, .int .i64 fn, .int .i64 exc, .slice none 0 0, .int .i64 0, .int .i64 0, .bool false, .int .i64 0, .slice none 0 0]) (by simp [results, Tryz.results21, go_sem]) rfl ?_
    refine ⟨none, 0, none, 0, by rw [HE.out]; rfl, fun W _ => by rw [HE.out]; exact RpIs.short W fn exc, b2 w _ _⟩
  · have HE := hid (Oc.strip_short (v := 1) (r := ⟨fn, exc, data, code, level, more, next, objs⟩) (.inr ⟨rfl, t3⟩))
    go_enter Tryz.func21, Tryz.ntmps21
    go_wp2
    refine bodyPost_ret (v := .agg #[.int .i64 1, .int .i64 fn, .int .i64 exc, .slice none 0 0, .int .i64 0, .int .i64 0, .bool false, .int .i64 0, .slice none 0 0]) (by simp [results, Tryz.results21, go_sem]) rfl ?_
    refine ⟨none, 0, none, 0, by rw [HE.out]; rfl, fun W _ => by rw [HE.out]; exact RpIs.short W fn exc, b2 w _ _⟩
  all_goals
    have HE := hid (Oc.strip_all (v := 1) (r := ⟨fn, exc, data, code, level, more, next, objs⟩) rfl t3)
    go_enter Tryz.func21, Tryz.ntmps21
    go_wp2
    refine bodyPost_ret (v := .agg #[.int .i64 1, .int .i64 fn, .int .i64 exc, .slice da data.length dc, .int .i64 code, .int .i64 level, .bool more, .int .i64 next, .slice oa objs.length oc]) (by simp [results, Tryz.results21, go_sem]) rfl ?_
    refine ⟨da, dc, oa, oc, by rw [HE.out], fun W hW => by rw [HE.out]; exact hW, b2 w _ _⟩

end Go.Proofs.YtipnamoocemeeaaGreat

/-
  Several texts of this claim in one file.
-/
/-
The contract of record.appendOutcome at short outcomes, and of record.Encode over any contract of appendOutcome.
-/
namespace Go.Proofs.YtipnamoocemeeaaGreat
open Go.RowKit
theorem bs1 (W : World) (n : Nat) (x : Int) (h1 : 0 ≤ x) (h2 : x ≤ 255) (hn : n = W.heap.size) : Bs (W.alloc (.cells #[.int .u8 x] 5)) (.slice (some ⟨n, 0, none⟩) 1 1) [byteI x] := by
  subst hn
  refine Bs.mk (l := [byteI x]) (Nat.le_refl 1) (by unfold maxLen; decide) fun i hi => ?_
  have : i = 0 := by simp at hi; omega
  subst this
  rw [World.cell?_alloc_at _ _ _ _ rfl]
  show some (Value.int .u8 x) = some (.int .u8 ((byteI x).toNat : Int))
  rw [byteI_val h1 h2]
theorem bs2 (W : World) (n : Nat) (x y : Int) (h1 : 0 ≤ x) (h2 : x ≤ 255) (h3 : 0 ≤ y) (h4 : y ≤ 255) (hn : n = W.heap.size) : Bs (W.alloc (.cells #[.int .u8 x, .int .u8 y] 5)) (.slice (some ⟨n, 0, none⟩) 2 2) [byteI x, byteI y] := by
  subst hn
  refine Bs.mk (l := [byteI x, byteI y]) (Nat.le_refl 2) (by unfold maxLen; decide) fun i hi => ?_
  rw [World.cell?_alloc_at _ _ _ _ rfl]
  match i, hi with
  | 0, _ => show some (Value.int .u8 x) = some (.int .u8 ((byteI x).toNat : Int)); rw [byteI_val h1 h2]
  | 1, _ => show some (Value.int .u8 y) = some (.int .u8 ((byteI y).toNat : Int)); rw [byteI_val h3 h4]

end Go.Proofs.YtipnamoocemeeaaGreat

/-
The contract of record.Encode at one outcome, and the check that the statements on records begin with.
-/
namespace Go.Proofs.YtipnamoocemeeaaGreat
open Go.RowKit

/-- What Encode leaves where it answers. -/
def EncPost (w : World) (l : List UInt8) (r : Ending) (w' : World) : Prop := ∃ a c, r = .returned (.tuple #[.slice a l.length c, .int .i64 0]) ∧ Bs w' (.slice a l.length c) l ∧ Below w.heap.size w w' ∧ ∀ ad, a = some ad → w.heap.size ≤ ad.block

theorem own1 (w : World) (base : Nat) (x : Int) (h1 : 0 ≤ x) (h2 : x ≤ 255) (hb : base ≤ w.heap.size) :
    (w.alloc (.cells #[.int .u8 x] 5)).ownsRow base 5 1 (.slice (some ⟨w.heap.size, 0, none⟩) 1 1) 1 (u8s [byteI x]) := by
  refine ⟨rfl, .inr ⟨w.heap.size, 1, _, rfl, hb, heap_alloc_new _ _, Nat.le_refl _, by decide, rfl, ?_⟩⟩
  show [Value.int .u8 x] = [.int .u8 ((byteI x).toNat : Int)]
  rw [byteI_val h1 h2]

end Go.Proofs.YtipnamoocemeeaaGreat

/-
  The contract of the helper Make: a valid request.
-/
namespace Go.Proofs.YtipnamoocemeeaaGreat
open Go.RowKit
end Go.Proofs.YtipnamoocemeeaaGreat

/-
  The contract of modscanref10.Match at all requests and replies.
-/
namespace Go.Proofs.YtipnamoocemeeaaGreat
open Go.RowKit
end Go.Proofs.YtipnamoocemeeaaGreat

/-
  The contract of modscanref10.Match: the cases joined.
-/
namespace Go.Proofs.YtipnamoocemeeaaGreat
open Go.RowKit
theorem Obs.capOf {w : World} {a : Option Addr} {n c : Nat} {l : List Ob} (h : Obs w (.slice a n c) l) : l.length = n := by
  obtain ⟨_, _, hv, _⟩ := h
  cases hv; rfl

end Go.Proofs.YtipnamoocemeeaaGreat

/-
  The contracts of the reference's functions of layer 1 (crc).
-/
namespace Go.Proofs.YtipnamoocemeeaaGreat
open Go.RowKit
end Go.Proofs.YtipnamoocemeeaaGreat

/-
  The contract of modscanref05.Split at all bytes.
-/
namespace Go.Proofs.YtipnamoocemeeaaGreat
open Go.RowKit
end Go.Proofs.YtipnamoocemeeaaGreat

/-
  The contract of reply.Decode, but for device identifications (DecDev).
-/
namespace Go.Proofs.YtipnamoocemeeaaGreat
open Go.RowKit

theorem dec_len {b : List UInt8} (h : b.length < 2 ∨ 253 < b.length) : Rp.dec b = none := by unfold Rp.dec; rw [if_pos h]
theorem dec_exc {b : List UInt8} (h : ¬ (b.length < 2 ∨ 253 < b.length)) (hk : knownB (bAt b 0 - 128) = true) : Rp.dec b = if b.length = 2 ∧ bAt b 1 ≠ 0 then some (Rp.shortOf (bAt b 0 - 128) (bAt b 1)) else none := by
  unfold Rp.dec; rw [if_neg h, if_pos hk]
theorem dec_dev {b : List UInt8} (h : ¬ (b.length < 2 ∨ 253 < b.length)) (hk : bAt b 0 = 43) : Rp.dec b = decDev b := by
  unfold Rp.dec; rw [if_neg h, hk, if_neg (by decide), if_pos rfl]
theorem dec_not {b : List UInt8} (h : ¬ (b.length < 2 ∨ 253 < b.length)) (hk1 : knownB (bAt b 0 - 128) = false) (hk : knownB (bAt b 0) = false) : Rp.dec b = none := by
  unfold Rp.dec; rw [if_neg h, if_neg (by rw [hk1]; decide), if_neg (fun h => by rw [h] at hk; exact absurd hk (by decide)), if_neg (fun h => by rw [h.1] at hk; cases hk)]
theorem dec_data {b : List UInt8} (h : ¬ (b.length < 2 ∨ 253 < b.length)) (hk : knownB (bAt b 0) = true) (h43 : bAt b 0 ≠ 43) :
    Rp.dec b = if bAt b 1 = (b.length : Int) - 2 then (if (Rp.dataOf (bAt b 0) (b.drop 2)).ok = true then some (Rp.dataOf (bAt b 0) (b.drop 2)) else none) else none := by
  have hk1 : knownB (bAt b 0 - 128) = false := not_knownB (by have := known_bd hk; omega)
  unfold Rp.dec
  rw [if_neg h, if_neg (by rw [hk1]; decide), if_neg h43]
  by_cases h1 : bAt b 1 = (b.length : Int) - 2
  · rw [if_pos ⟨hk, h1⟩, if_pos h1]
  · rw [if_neg (fun h => h1 h.2), if_neg h1]

end Go.Proofs.YtipnamoocemeeaaGreat
