/-
  Texts 42 of the claim.
-/
import Derived.Test.YtipnamoocemeeaaGreatC20
import Derived.Test.YtipnamoocemeeaaGreatC19
import Derived.Test.YtipnamoocemeeaaGreatC02
import Derived.Test.YtipnamoocemeeaaGreatC03
import Derived.Test.YtipnamoocemeeaaGreatC01
import Derived.Test.YtipnamoocemeeaaGreatRows
import Derived.Deep.RegionHeld3
import Derived.Test.YtipnamoocemeeaaGreatC05
import Derived.Deep.RegionLaw
import Derived.Deep.CutBlock
import Derived.Deep.CutRange
import Derived.StillTailTactics
import Derived.Deep.QuietTactic
import Derived.BigQuiet
import Derived.WalkSmall
import Derived.Test.YtipnamoocemeeaaGreatC41
/-
  modscanref27.Strip: what it answers holds no memory but its argument's.
-/
namespace Go.Proofs.YtipnamoocemeeaaGreat
open Go.RowKit
theorem RpIs.short (W : World) (f x : Int) : RpIs W ⟨f, x, [], 0, 0, false, 0, []⟩ none 0 none 0 := ⟨Bs.nil _, Obs.nil _, by show (0 : Int) ≤ _; decide, by show _ ≤ (0 : Int); decide⟩
end Go.Proofs.YtipnamoocemeeaaGreat

/-
  Several texts of this claim in one file.
-/
/-
The contract of record.appendOutcome at short outcomes, and of record.Encode over any contract of appendOutcome.
-/
namespace Go.Proofs.YtipnamoocemeeaaGreat
open Go.RowKit
end Go.Proofs.YtipnamoocemeeaaGreat

/-
The contract of record.Encode at one outcome, and the check that the statements on records begin with.
-/
namespace Go.Proofs.YtipnamoocemeeaaGreat
open Go.RowKit
end Go.Proofs.YtipnamoocemeeaaGreat

/-
  The contract of the helper Make: a valid request.
-/
namespace Go.Proofs.YtipnamoocemeeaaGreat
open Go.RowKit
end Go.Proofs.YtipnamoocemeeaaGreat

/-
  The contract of modscanref10.Match at all requests and replies.
-/
namespace Go.Proofs.YtipnamoocemeeaaGreat
open Go.RowKit
end Go.Proofs.YtipnamoocemeeaaGreat

/-
  The contract of modscanref10.Match: the cases joined.
-/
namespace Go.Proofs.YtipnamoocemeeaaGreat
open Go.RowKit
end Go.Proofs.YtipnamoocemeeaaGreat

/-
  The contracts of the reference's functions of layer 1 (crc).
-/
namespace Go.Proofs.YtipnamoocemeeaaGreat
open Go.RowKit
end Go.Proofs.YtipnamoocemeeaaGreat

/-
  The contract of modscanref05.Split at all bytes.
-/
namespace Go.Proofs.YtipnamoocemeeaaGreat
open Go.RowKit
end Go.Proofs.YtipnamoocemeeaaGreat

/-
  The contract of reply.Decode, but for device identifications (DecDev).
-/
namespace Go.Proofs.YtipnamoocemeeaaGreat
open Go.RowKit
end Go.Proofs.YtipnamoocemeeaaGreat

/-
  Several texts of this claim in one file.
-/
/-
The contract of modscanref10.DecodeReply, but for device identifications.
-/
namespace Go.Proofs.YtipnamoocemeeaaGreat
open Go.RowKit
end Go.Proofs.YtipnamoocemeeaaGreat

/-
The contract of modscanref10.DecodeReply at replies with data.
-/
namespace Go.Proofs.YtipnamoocemeeaaGreat
open Go.RowKit
end Go.Proofs.YtipnamoocemeeaaGreat

/-
  The contract of reply.decodeDevice.
-/
namespace Go.Proofs.YtipnamoocemeeaaGreat
open Go.RowKit
end Go.Proofs.YtipnamoocemeeaaGreat

/-
  The contract of modscanref10.objects.
-/
namespace Go.Proofs.YtipnamoocemeeaaGreat
open Go.RowKit
end Go.Proofs.YtipnamoocemeeaaGreat

/-
  The contract of modscanref10.DecodeReply at device identifications, and at all bytes.
-/
namespace Go.Proofs.YtipnamoocemeeaaGreat
open Go.RowKit
end Go.Proofs.YtipnamoocemeeaaGreat

/-
  The contracts of modscanref10.Read and modscanref19.Judge.
-/
namespace Go.Proofs.YtipnamoocemeeaaGreat
open Go.RowKit
theorem RpIs.zero (w : World) : RpIs w Rp.zero none 0 none 0 := ⟨Bs.nil _, Obs.nil _, by decide, by decide⟩
end Go.Proofs.YtipnamoocemeeaaGreat

/-
  The contract of modscanref19.Judge at all frames.
-/
namespace Go.Proofs.YtipnamoocemeeaaGreat
open Go.RowKit
end Go.Proofs.YtipnamoocemeeaaGreat

/-
  Several texts of this claim in one file.
-/
/-
The contract of record.Strip where everything is kept.
-/
namespace Go.Proofs.YtipnamoocemeeaaGreat
open Go.RowKit
end Go.Proofs.YtipnamoocemeeaaGreat

/-
The PDU of a reply, and the contract of reply.Encode but for its loop.
-/
namespace Go.Proofs.YtipnamoocemeeaaGreat
open Go.RowKit
end Go.Proofs.YtipnamoocemeeaaGreat

/-
The contracts of reply.Encode and of the reference's EncodeReply, but for device identifications.
-/
namespace Go.Proofs.YtipnamoocemeeaaGreat
open Go.RowKit
end Go.Proofs.YtipnamoocemeeaaGreat

/-
The contract of reply.Encode at device identifications.
-/
namespace Go.Proofs.YtipnamoocemeeaaGreat
open Go.RowKit
end Go.Proofs.YtipnamoocemeeaaGreat

/-
The contract of the reference's EncodeReply at device identifications.
-/
namespace Go.Proofs.YtipnamoocemeeaaGreat
open Go.RowKit
end Go.Proofs.YtipnamoocemeeaaGreat

/-
The contracts of reply.Encode and of the reference's EncodeReply at every valid reply.
-/
namespace Go.Proofs.YtipnamoocemeeaaGreat
open Go.RowKit
end Go.Proofs.YtipnamoocemeeaaGreat

/-
The contract of record.appendOutcome at clean outcomes.
-/
namespace Go.Proofs.YtipnamoocemeeaaGreat
open Go.RowKit
end Go.Proofs.YtipnamoocemeeaaGreat

/-
The contract of record.appendOutcome at clean outcomes with a PDU.
-/
namespace Go.Proofs.YtipnamoocemeeaaGreat
open Go.RowKit
end Go.Proofs.YtipnamoocemeeaaGreat

/-
The bytes of an outcome, and the contract of record.appendOutcome at every valid outcome.
-/
namespace Go.Proofs.YtipnamoocemeeaaGreat
open Go.RowKit
end Go.Proofs.YtipnamoocemeeaaGreat

/-
The contracts of record.Encode and of the reference's Encode at every list of outcomes.
-/
namespace Go.Proofs.YtipnamoocemeeaaGreat
open Go.RowKit
end Go.Proofs.YtipnamoocemeeaaGreat

/-
The contract of modscanref27.one: the bytes of a valid outcome.
-/
namespace Go.Proofs.YtipnamoocemeeaaGreat
open Go.RowKit
end Go.Proofs.YtipnamoocemeeaaGreat

/-
The contract of the reference's Encode at every list of outcomes.
-/
namespace Go.Proofs.YtipnamoocemeeaaGreat
open Go.RowKit
end Go.Proofs.YtipnamoocemeeaaGreat

/-
The contract of modscanref27.SameOutcomes at two slices that read as the same list.
-/
namespace Go.Proofs.YtipnamoocemeeaaGreat
open Go.RowKit
end Go.Proofs.YtipnamoocemeeaaGreat

/-
The same contract, which says that the bytes' row is the call's own.
-/
namespace Go.Proofs.YtipnamoocemeeaaGreat
open Go.RowKit
end Go.Proofs.YtipnamoocemeeaaGreat

/-
What a judged outcome is good for; the frame as an argument; one outcome as a list.
-/
namespace Go.Proofs.YtipnamoocemeeaaGreat
open Go.RowKit
/-- An outcome that can be put down after Strip, and is not too great for it. -/
def Oc.good (o : Oc) : Prop := o.strip.ok = true ∧ o.reply.data.length ≤ 1000 ∧ o.reply.objs.length ≤ 1000 ∧ ∀ (i : Nat) (x : Ob), o.reply.objs[i]? = some x → x.val.length ≤ 1000

/-- A new block of one outcome is a list of one. -/
theorem Ocs.one {w : World} {p : Nat} {t : TypeId} {fz : Nat × Nat} {x : Oc} {da : Option Addr} {dc : Nat} {oa : Option Addr} {oc : Nat} (h : w.heap[p]? = some (.cells #[.int .i64 x.verdict, .int .i64 x.reply.fn, .int .i64 x.reply.exc, .slice da x.reply.data.length dc, .int .i64 x.reply.code, .int .i64 x.reply.level, .bool x.reply.more, .int .i64 x.reply.next, .slice oa x.reply.objs.length oc] t fz)) (hi : RpIs w x.reply da dc oa oc) :
    Ocs w (.slice (some ⟨p, 0, none⟩) 1 1) [x] := by
  refine ⟨some ⟨p, 0, none⟩, 1, rfl, Nat.le_refl _, by unfold maxLen; exact Nat.le_of_ble_eq_true rfl, (fun h => by cases h), fun _ => ⟨p, 0, rfl, fun i y hy => ?_⟩⟩
  have hi0 : i = 0 := by
    have := (List.getElem?_eq_some_iff.1 hy).1
    simpa using this
  subst hi0
  have hyx : x = y := by simpa using hy
  subst hyx
  refine ⟨_, rfl, ⟨da, dc, oa, oc, rfl, hi.d, hi.o, hi.hi, hi.lo⟩, fun j u hj => ?_⟩
  rw [hpCell h]
  rw [← hj]
  simp

end Go.Proofs.YtipnamoocemeeaaGreat

/-
  The contract of the reader's method outcome: what follows the reading of its parts.
-/
namespace Go.Proofs.YtipnamoocemeeaaGreat
open Go.RowKit
end Go.Proofs.YtipnamoocemeeaaGreat

/-
  The contract of modscanref27.read: plain facts.
-/
namespace Go.Proofs.YtipnamoocemeeaaGreat
open Go.RowKit
end Go.Proofs.YtipnamoocemeeaaGreat

/-
  The contract of modscanref27.read (over that of DecodeReply).
-/
namespace Go.Proofs.YtipnamoocemeeaaGreat
open Go.RowKit
end Go.Proofs.YtipnamoocemeeaaGreat

/-
  The contract of the reader's method outcome.
-/
namespace Go.Proofs.YtipnamoocemeeaaGreat
open Go.RowKit
end Go.Proofs.YtipnamoocemeeaaGreat

/-
  Several texts of this claim in one file.
-/
/-
The contract of record.Decode at all bytes.
-/
namespace Go.Proofs.YtipnamoocemeeaaGreat
open Go.RowKit
theorem infoOc : (Tryz.prog.info? 55).map (fun i => (i.zero, i.size, i.bytes)) = some (some (.agg #[.int .i64 0, .int .i64 0, .int .i64 0, .slice none 0 0, .int .i64 0, .int .i64 0, .bool false, .int .i64 0, .slice none 0 0]), 9, 104) := by kernel_rfl

end Go.Proofs.YtipnamoocemeeaaGreat

/-
The contract of record.Decode at all bytes: the walk.
-/
namespace Go.Proofs.YtipnamoocemeeaaGreat
open Go.RowKit
end Go.Proofs.YtipnamoocemeeaaGreat

/-
  Several texts of this claim in one file.
-/
/-
modscanref27.Decode: what holds at the head of a round.
-/
namespace Go.Proofs.YtipnamoocemeeaaGreat
open Go.RowKit
end Go.Proofs.YtipnamoocemeeaaGreat

/-
The contract of modscanref27.Decode at all bytes.
-/
namespace Go.Proofs.YtipnamoocemeeaaGreat
open Go.RowKit
end Go.Proofs.YtipnamoocemeeaaGreat

/-
  SweepReplay: a sweep and the row of the outcomes that it has been fed, plain.
-/
namespace Go.Proofs.YtipnamoocemeeaaGreat
open Go.RowKit
/-- The cells of a row of one outcome. -/
theorem own_cells {w : World} {B n : Nat} {a : Option Addr} {c m : Nat} {cs : List Value} (h : w.ownsRow B 55 9 (.slice a n c) m cs) (hm : 0 < m) : n = m ∧ ∃ b, a = some ⟨b, 0, none⟩ ∧ ∀ j u, cs[j]? = some u → w.cell? ((⟨b, 0, none⟩ : Addr).add j) = some u := by
  obtain ⟨hl, ⟨_, h0⟩ | ⟨g, cap, cur, hv, -, hh, -, -, -, ht⟩⟩ := h
  · omega
  · cases hv
    refine ⟨rfl, g, rfl, fun j u hj => ?_⟩
    have e : (⟨g, 0, none⟩ : Addr).add j = ⟨g, j, none⟩ := by unfold Addr.add; split <;> simp_all
    rw [← ht, List.getElem?_take] at hj
    rw [e, hpCell hh]
    split at hj
    · simpa using hj
    · cases hj

theorem Ocs.take {w : World} {a : Option Addr} {n c m : Nat} {l : List Oc} (h : Ocs w (.slice a n c) l) (hm : m ≤ l.length) : Ocs w (.slice a m c) (l.take m) := by
  obtain ⟨a', c', hv, h1, h2, h3, h4⟩ := h
  cases hv
  have hl : (l.take m).length = m := by rw [List.length_take]; omega
  refine ⟨a, c, by rw [hl], by omega, h2, h3, fun hne => ?_⟩
  obtain ⟨b, o, ha, hc⟩ := h4 (fun e => hne (by rw [e]; simp))
  refine ⟨b, o, ha, fun i x hx => hc i x ?_⟩
  rw [List.getElem?_take] at hx
  split at hx
  · exact hx
  · cases hx

end Go.Proofs.YtipnamoocemeeaaGreat
