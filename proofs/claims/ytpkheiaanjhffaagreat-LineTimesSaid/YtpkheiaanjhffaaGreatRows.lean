/-
  No cell of these rows narrows 'for every input' (looked for: loops, veiled, ifaces, maps, wideKeys, modest, calm, conditions, laid).
  DERIVED. THE GIVEN ROWS OF THIS SEAT. 4 by the template 'for every input the law returns true; each argument reads behind the call as it read before'; 0 by the template 'total and deterministic' (their statements: YtpkheiaanjhffaaGreatTotals.lean).
  GIVEN WITH THE SEED: the statements are not yours to turn. If you find one false, say at which input.
  Laid BY PROGRAM, IN A SANDBOX (cutbox-rows.mjs): the forced cells as the released guide's own fill.sh prints them over the translation dd86c50ab968cc15… (all of the seat's roots in one cut). By AI agents, Wed Nov 11 2026. No macro, syntax, notation, axiom, sorry.
-/
import Derived.Test.YtpkheiaanjhffaaGreatChecked
import GoSem.Claim
import GoSem.ClaimJoined
import GoSem.ClaimMapViews
import Derived.JoinedTies
import Derived.KernelRfl
namespace Go.Proofs.YtpkheiaanjhffaaGreat
/- THE CELL 'sum', in the pinned program and in every row, IS THE sha256 OF THE DUMP (.gsa) THAT YtpkheiaanjhffaaGreatProg.lean LOADS. Nothing in Lean hashes anything: it is a label: what it is worth is what the hold of that sum in a sandbox is worth. -/
noncomputable def Tryz.pinned : Pinned := { name := "ytpkheiaanjhffaagreat", sum := "dd86c50ab968cc15f87b1f03f1f20567cf027e60f6c3029a50c8edf0c1fdd4c1", checked := Tryz.checked }
namespace Rows
def none {H : Type} : Left H := { results := [], args := [] }

/-- 'modscanlaw16.LineFaults': WHATEVER THE INPUT: true; the input reads as it did. -/
def lineFaultsSpec : ChangeSpec := { name := "lineFaults", fn := fun _ => fun
  | [d1, d2, d3, d4, d5, d6, d7] => { results := [.lit (.bool true)], args := [d1, d2, d3, d4, d5, d6, d7] }
  | _ => none }
def lineFaultsRow : OpenClaim := { program := "ytpkheiaanjhffaagreat", sum := "dd86c50ab968cc15f87b1f03f1f20567cf027e60f6c3029a50c8edf0c1fdd4c1", func := "modscan/modscanlaw16.LineFaults", spec := "lineFaults", unfollowed := true, recurses := true, apart := false }
def LineFaultsSaid : Prop := lineFaultsRow.holds Tryz.pinned (OpenSpec.ofChange lineFaultsSpec)

/-- ITS FALSE NEIGHBOUR: 'it returns false'. Refute it at one input. -/
def lineFaultsWrong : ChangeSpec := { name := "lineFaults", fn := fun _ => fun
  | [d1, d2, d3, d4, d5, d6, d7] => { results := [.lit (.bool false)], args := [d1, d2, d3, d4, d5, d6, d7] }
  | _ => none }
def LineFaultsWrongFalsely : Prop := lineFaultsRow.holds Tryz.pinned (OpenSpec.ofChange lineFaultsWrong)

/-- 'modscanlaw16.LineTimes': WHATEVER THE INPUT: true; the input reads as it did. -/
def lineTimesSpec : ChangeSpec := { name := "lineTimes", fn := fun _ => fun
  | [d1, d2, d3, d4, d5, d6, d7] => { results := [.lit (.bool true)], args := [d1, d2, d3, d4, d5, d6, d7] }
  | _ => none }
def lineTimesRow : OpenClaim := { program := "ytpkheiaanjhffaagreat", sum := "dd86c50ab968cc15f87b1f03f1f20567cf027e60f6c3029a50c8edf0c1fdd4c1", func := "modscan/modscanlaw16.LineTimes", spec := "lineTimes", unfollowed := true, recurses := true, apart := false }
def LineTimesSaid : Prop := lineTimesRow.holds Tryz.pinned (OpenSpec.ofChange lineTimesSpec)

/-- ITS FALSE NEIGHBOUR: 'it returns false'. Refute it at one input. -/
def lineTimesWrong : ChangeSpec := { name := "lineTimes", fn := fun _ => fun
  | [d1, d2, d3, d4, d5, d6, d7] => { results := [.lit (.bool false)], args := [d1, d2, d3, d4, d5, d6, d7] }
  | _ => none }
def LineTimesWrongFalsely : Prop := lineTimesRow.holds Tryz.pinned (OpenSpec.ofChange lineTimesWrong)

/-- 'modscanlaw16.LineSilent': WHATEVER THE INPUT: true; the input reads as it did. -/
def lineSilentSpec : ChangeSpec := { name := "lineSilent", fn := fun _ => fun
  | [d1, d2, d3, d4, d5, d6, d7] => { results := [.lit (.bool true)], args := [d1, d2, d3, d4, d5, d6, d7] }
  | _ => none }
def lineSilentRow : OpenClaim := { program := "ytpkheiaanjhffaagreat", sum := "dd86c50ab968cc15f87b1f03f1f20567cf027e60f6c3029a50c8edf0c1fdd4c1", func := "modscan/modscanlaw16.LineSilent", spec := "lineSilent", unfollowed := true, recurses := true, apart := false }
def LineSilentSaid : Prop := lineSilentRow.holds Tryz.pinned (OpenSpec.ofChange lineSilentSpec)

/-- ITS FALSE NEIGHBOUR: 'it returns false'. Refute it at one input. -/
def lineSilentWrong : ChangeSpec := { name := "lineSilent", fn := fun _ => fun
  | [d1, d2, d3, d4, d5, d6, d7] => { results := [.lit (.bool false)], args := [d1, d2, d3, d4, d5, d6, d7] }
  | _ => none }
def LineSilentWrongFalsely : Prop := lineSilentRow.holds Tryz.pinned (OpenSpec.ofChange lineSilentWrong)

/-- 'modscanlaw16.LineScript': WHATEVER THE INPUT: true; the input reads as it did. -/
def lineScriptSpec : ChangeSpec := { name := "lineScript", fn := fun _ => fun
  | [d1, d2, d3] => { results := [.lit (.bool true)], args := [d1, d2, d3] }
  | _ => none }
def lineScriptRow : OpenClaim := { program := "ytpkheiaanjhffaagreat", sum := "dd86c50ab968cc15f87b1f03f1f20567cf027e60f6c3029a50c8edf0c1fdd4c1", func := "modscan/modscanlaw16.LineScript", spec := "lineScript", unfollowed := true, recurses := true, apart := false }
def LineScriptSaid : Prop := lineScriptRow.holds Tryz.pinned (OpenSpec.ofChange lineScriptSpec)

/-- ITS FALSE NEIGHBOUR: 'it returns false'. Refute it at one input. -/
def lineScriptWrong : ChangeSpec := { name := "lineScript", fn := fun _ => fun
  | [d1, d2, d3] => { results := [.lit (.bool false)], args := [d1, d2, d3] }
  | _ => none }
def LineScriptWrongFalsely : Prop := lineScriptRow.holds Tryz.pinned (OpenSpec.ofChange lineScriptWrong)

/- THE SECOND FORM. 'bulk': how many values and letters a reading holds, each counted each time it is reached (what is shared counts as often as it is met; a slice's spare places count too). A statement '..UptoSaid' is the law's where the arguments, and the package variables that the reading takes, are together of bulk at most 1048576: NARROWER than '..Said'. Prove '..Said' where nothing that the law and all that it calls make is longer than what came in: it says more and counts as full. Else prove '..UptoSaid'. A law counts once. -/
mutual
def uptoBulk {H : Type} : DataW H → Nat
  | .lit (.string bytes) => bytes.length + 1
  | .lit _ => 1
  | .nil => 1
  | .ptr d => uptoBulk d + 1
  | .slice elems spare => uptoBulkAll elems + uptoBulkAll spare + 1
  | .agg parts => uptoBulkAll parts + 1
  | .iface _ d => uptoBulk d + 1
  | .map entries => uptoBulkEntries entries + 1
  | .held _ => 1
def uptoBulkAll {H : Type} : List (DataW H) → Nat
  | [] => 0
  | d :: r => uptoBulk d + uptoBulkAll r
def uptoBulkEntries {H : Type} : List (Lit × DataW H) → Nat
  | [] => 0
  | x :: r => uptoBulkEntry x + uptoBulkEntries r
def uptoBulkEntry {H : Type} : Lit × DataW H → Nat
  | (.string bytes, d) => bytes.length + uptoBulk d + 1
  | (_, d) => uptoBulk d + 1
 end
def uptoSmall : (H : Type) → List (DataW H) → Bool := fun _ ds => decide (uptoBulkAll ds ≤ 1048576)
def OpenSpec.upto (s : _root_.Go.ChangeSpec) : _root_.Go.OpenSpec := { _root_.Go.OpenSpec.ofChange s with cond := some uptoSmall }

/-- 'modscanlaw16.LineFaults', WHERE WHAT IT READS IS OF BULK AT MOST 1048576: true; the input reads as it did. -/
def lineFaultsUptoRow : OpenClaim := { program := "ytpkheiaanjhffaagreat", sum := "dd86c50ab968cc15f87b1f03f1f20567cf027e60f6c3029a50c8edf0c1fdd4c1", func := "modscan/modscanlaw16.LineFaults", spec := "lineFaults", unfollowed := true, recurses := true, apart := false, narrowed := true }
def LineFaultsUptoSaid : Prop := lineFaultsUptoRow.holds Tryz.pinned (OpenSpec.upto lineFaultsSpec)

/-- 'modscanlaw16.LineTimes', WHERE WHAT IT READS IS OF BULK AT MOST 1048576: true; the input reads as it did. -/
def lineTimesUptoRow : OpenClaim := { program := "ytpkheiaanjhffaagreat", sum := "dd86c50ab968cc15f87b1f03f1f20567cf027e60f6c3029a50c8edf0c1fdd4c1", func := "modscan/modscanlaw16.LineTimes", spec := "lineTimes", unfollowed := true, recurses := true, apart := false, narrowed := true }
def LineTimesUptoSaid : Prop := lineTimesUptoRow.holds Tryz.pinned (OpenSpec.upto lineTimesSpec)

/-- 'modscanlaw16.LineSilent', WHERE WHAT IT READS IS OF BULK AT MOST 1048576: true; the input reads as it did. -/
def lineSilentUptoRow : OpenClaim := { program := "ytpkheiaanjhffaagreat", sum := "dd86c50ab968cc15f87b1f03f1f20567cf027e60f6c3029a50c8edf0c1fdd4c1", func := "modscan/modscanlaw16.LineSilent", spec := "lineSilent", unfollowed := true, recurses := true, apart := false, narrowed := true }
def LineSilentUptoSaid : Prop := lineSilentUptoRow.holds Tryz.pinned (OpenSpec.upto lineSilentSpec)

/-- 'modscanlaw16.LineScript', WHERE WHAT IT READS IS OF BULK AT MOST 1048576: true; the input reads as it did. -/
def lineScriptUptoRow : OpenClaim := { program := "ytpkheiaanjhffaagreat", sum := "dd86c50ab968cc15f87b1f03f1f20567cf027e60f6c3029a50c8edf0c1fdd4c1", func := "modscan/modscanlaw16.LineScript", spec := "lineScript", unfollowed := true, recurses := true, apart := false, narrowed := true }
def LineScriptUptoSaid : Prop := lineScriptUptoRow.holds Tryz.pinned (OpenSpec.upto lineScriptSpec)

end Rows
end Go.Proofs.YtpkheiaanjhffaaGreat
