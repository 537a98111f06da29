/-
  Texts 47 of the claim.
-/
import Derived.Test.YtipnamoocemeeaaGreatB43
import Derived.Test.YtipnamoocemeeaaGreatB46
import Derived.Test.YtipnamoocemeeaaGreatB22
/-
  The contracts of modscanref10.Read and modscanref19.Judge.
-/
namespace Go.Proofs.YtipnamoocemeeaaGreat
open Go.RowKit
/-- The answers of a call that reads a reply, in one form. -/
def RdOne (w : World) (o : Option Rp) (r : Ending) (w' : World) : Prop :=
  ∃ (x : Rp) (da : Option Addr) (dc : Nat) (oa : Option Addr) (oc : Nat) (e : Int), r = .returned (.tuple #[.agg #[.int .i64 x.fn, .int .i64 x.exc, .slice da x.data.length dc, .int .i64 x.code, .int .i64 x.level, .bool x.more, .int .i64 x.next, .slice oa x.objs.length oc], .int .i64 e]) ∧ Below w.heap.size w w' ∧ (∀ W, Agree w.heap.size w' W → RpIs W x da dc oa oc) ∧
    ((e = 0 ∧ o = some x) ∨ (e ≠ 0 ∧ 1 ≤ e ∧ e ≤ 17 ∧ o = none ∧ x = Rp.zero ∧ da = none ∧ dc = 0 ∧ oa = none ∧ oc = 0))

theorem RpIs.zero (w : World) : RpIs w Rp.zero none 0 none 0 := ⟨Bs.nil _, Obs.nil _, by decide, by decide⟩
theorem DecPost.one {w : World} {o : Option Rp} {r : Ending} {w' : World} (h : DecPost w o r w') : RdOne w o r w' := by
  rcases h with ⟨x, da, dc, oa, oc, h1, h2, h3, h4⟩ | ⟨e, h1, h2, h3, h4, h5⟩
  · exact ⟨x, da, dc, oa, oc, 0, h2, h4, h3, .inl ⟨rfl, h1⟩⟩
  · exact ⟨Rp.zero, none, 0, none, 0, e, h4, h5, fun W _ => RpIs.zero W, .inr ⟨by omega, h1, h2, h3, rfl, rfl, rfl, rfl, rfl⟩⟩


theorem RdOne.err {w : World} {o : Option Rp} {w' : World} (ho : o = none) (e : Int) (h1 : 1 ≤ e) (h2 : e ≤ 17) (hb : Below w.heap.size w w') :
    RdOne w o (.returned (.tuple #[.agg #[.int .i64 0, .int .i64 0, .slice none 0 0, .int .i64 0, .int .i64 0, .bool false, .int .i64 0, .slice none 0 0], .int .i64 e])) w' :=
  ⟨Rp.zero, none, 0, none, 0, e, rfl, hb, fun W _ => RpIs.zero W, .inr ⟨by omega, h1, h2, ho, rfl, rfl, rfl, rfl, rfl⟩⟩

end Go.Proofs.YtipnamoocemeeaaGreat

/-
  The contract of modscanref19.Judge at all frames.
-/
namespace Go.Proofs.YtipnamoocemeeaaGreat
open Go.RowKit
end Go.Proofs.YtipnamoocemeeaaGreat
