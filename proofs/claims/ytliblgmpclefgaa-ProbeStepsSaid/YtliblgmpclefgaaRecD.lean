/-
  The contracts of the reference's Size and ValidReply.
-/
import Derived.Test.YtliblgmpclefgaaMrecb
namespace Go.Proofs.Ytliblgmpclefgaa
open Go.RowKit

/-- What Size answers: above 246 just where the objects are too long. -/
def SizeOk (l : List Ob) (r : Ending) : Prop := ∃ s : Nat, r = .returned (.int .i64 s) ∧ (s ≤ 246 ↔ obSize l ≤ 246)

/-- Where Size stands behind k rounds. -/
def SizeAt (l : List Ob) (k s : Nat) : Prop := s ≤ 600 ∧ (s ≤ 246 → s = obSize (l.take k)) ∧ (246 < s → 246 < obSize l)

theorem SizeAt.step {l : List Ob} {k s : Nat} {x : Ob} (h : SizeAt l k s) (hs : s ≤ 246) (hx : l[k]? = some x) (m : Nat) (hm : m = min x.val.length 300) : SizeAt l (k + 1) (s + (2 + m)) := by
  obtain ⟨h1, h2, h3⟩ := h
  have e : obSize (l.take (k + 1)) = obSize (l.take k) + (2 + x.val.length) := by rw [take_succ_snoc hx, obSize_snoc]
  have h4 := obSize_pre (l.drop (k + 1)) (l.take (k + 1))
  rw [List.take_append_drop] at h4
  have h5 := h2 hs
  refine ⟨by omega, fun h => by omega, fun h => by omega⟩

end Go.Proofs.Ytliblgmpclefgaa
