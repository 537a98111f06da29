/-
  The PDU of a reply, and the contract of reply.Encode but for its loop.
-/
import Derived.Test.YtlaaoifjiogogaaRecO
namespace Go.Proofs.Ytlaaoifjiogogaa
open Go.RowKit

theorem own2 (w : World) (base : Nat) (x y : Int) (h1 : 0 ≤ x) (h2 : x ≤ 255) (h3 : 0 ≤ y) (h4 : y ≤ 255) (hb : base ≤ w.heap.size) :
    (w.alloc (.cells #[.int .u8 x, .int .u8 y] 5)).ownsRow base 5 1 (.slice (some ⟨w.heap.size, 0, none⟩) 2 2) [byteI x, byteI y].length (u8s [byteI x, byteI y]) := by
  refine ⟨rfl, .inr ⟨w.heap.size, 2, _, rfl, hb, heap_alloc_new _ _, Nat.le_refl _, by decide, rfl, ?_⟩⟩
  show [Value.int .u8 x, .int .u8 y] = [.int .u8 ((byteI x).toNat : Int), .int .u8 ((byteI y).toNat : Int)]
  rw [byteI_val h1 h2, byteI_val h3 h4]

theorem own7 (w : World) (base : Nat) (a b c d e : Int) (ha : 0 ≤ a ∧ a ≤ 255) (hb' : 0 ≤ b ∧ b ≤ 255) (hc : 0 ≤ c ∧ c ≤ 255) (hd : 0 ≤ d ∧ d ≤ 255) (he : 0 ≤ e ∧ e ≤ 255) (hb : base ≤ w.heap.size) :
    (w.alloc (.cells #[.int .u8 43, .int .u8 14, .int .u8 a, .int .u8 b, .int .u8 c, .int .u8 d, .int .u8 e] 5)).ownsRow base 5 1 (.slice (some ⟨w.heap.size, 0, none⟩) 7 7) 7 (u8s [43, 14, byteI a, byteI b, byteI c, byteI d, byteI e]) := by
  refine ⟨rfl, .inr ⟨w.heap.size, 7, _, rfl, hb, heap_alloc_new _ _, Nat.le_refl _, by decide, rfl, ?_⟩⟩
  show [Value.int .u8 43, .int .u8 14, .int .u8 a, .int .u8 b, .int .u8 c, .int .u8 d, .int .u8 e] = [.int .u8 43, .int .u8 14, .int .u8 ((byteI a).toNat : Int), .int .u8 ((byteI b).toNat : Int), .int .u8 ((byteI c).toNat : Int), .int .u8 ((byteI d).toNat : Int), .int .u8 ((byteI e).toNat : Int)]
  rw [byteI_val ha.1 ha.2, byteI_val hb'.1 hb'.2, byteI_val hc.1 hc.2, byteI_val hd.1 hd.2, byteI_val he.1 he.2]

end Go.Proofs.Ytlaaoifjiogogaa
