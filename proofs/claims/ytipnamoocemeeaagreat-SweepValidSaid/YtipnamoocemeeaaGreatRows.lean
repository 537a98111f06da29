/-
  No cell of these rows narrows 'for every input' (looked for: loops, veiled, ifaces, maps, wideKeys, modest, calm, conditions, laid).
  DERIVED. THE GIVEN ROWS OF THIS SEAT. 4 by the template 'for every input the law returns true; each argument reads behind the call as it read before'; 0 by the template 'total and deterministic' (their statements: YtipnamoocemeeaaGreatTotals.lean).
  GIVEN WITH THE SEED: the statements are not yours to turn. If you find one false, say at which input.
  Laid BY PROGRAM, IN A SANDBOX (cutbox-rows.mjs): the forced cells as the released guide's own fill.sh prints them over the translation 93fe46c5f67e3bf5… (all of the seat's roots in one cut). By AI agents, Wed Nov 11 2026. No macro, syntax, notation, axiom, sorry.
-/
import Derived.Test.YtipnamoocemeeaaGreatChecked
import GoSem.Claim
import GoSem.ClaimJoined
import GoSem.ClaimMapViews
import Derived.JoinedTies
import Derived.KernelRfl
namespace Go.Proofs.YtipnamoocemeeaaGreat
/- THE CELL 'sum', in the pinned program and in every row, IS THE sha256 OF THE DUMP (.gsa) THAT YtipnamoocemeeaaGreatProg.lean LOADS. Nothing in Lean hashes anything: it is a label: what it is worth is what the hold of that sum in a sandbox is worth. -/
noncomputable def Tryz.pinned : Pinned := { name := "ytipnamoocemeeaagreat", sum := "93fe46c5f67e3bf5bc191975552ab8548ba6801bb45f92686b1aa88bc4991364", checked := Tryz.checked }
namespace Rows
def none {H : Type} : Left H := { results := [], args := [] }

/-- 'modscanlaw33.SweepSteps': WHATEVER THE INPUT: true; the input reads as it did. -/
def sweepStepsSpec : ChangeSpec := { name := "sweepSteps", fn := fun _ => fun
  | [d1, d2] => { results := [.lit (.bool true)], args := [d1, d2] }
  | _ => none }
def sweepStepsRow : OpenClaim := { program := "ytipnamoocemeeaagreat", sum := "93fe46c5f67e3bf5bc191975552ab8548ba6801bb45f92686b1aa88bc4991364", func := "modscan/modscanlaw33.SweepSteps", spec := "sweepSteps", unfollowed := true, recurses := true, apart := false }
def SweepStepsSaid : Prop := sweepStepsRow.holds Tryz.pinned (OpenSpec.ofChange sweepStepsSpec)

/-- ITS FALSE NEIGHBOUR: 'it returns false'. Refute it at one input. -/
def sweepStepsWrong : ChangeSpec := { name := "sweepSteps", fn := fun _ => fun
  | [d1, d2] => { results := [.lit (.bool false)], args := [d1, d2] }
  | _ => none }
def SweepStepsWrongFalsely : Prop := sweepStepsRow.holds Tryz.pinned (OpenSpec.ofChange sweepStepsWrong)

/-- 'modscanlaw33.SweepReplay': WHATEVER THE INPUT: true; the input reads as it did. -/
def sweepReplaySpec : ChangeSpec := { name := "sweepReplay", fn := fun _ => fun
  | [d1, d2, d3] => { results := [.lit (.bool true)], args := [d1, d2, d3] }
  | _ => none }
def sweepReplayRow : OpenClaim := { program := "ytipnamoocemeeaagreat", sum := "93fe46c5f67e3bf5bc191975552ab8548ba6801bb45f92686b1aa88bc4991364", func := "modscan/modscanlaw33.SweepReplay", spec := "sweepReplay", unfollowed := true, recurses := true, apart := false }
def SweepReplaySaid : Prop := sweepReplayRow.holds Tryz.pinned (OpenSpec.ofChange sweepReplaySpec)

/-- ITS FALSE NEIGHBOUR: 'it returns false'. Refute it at one input. -/
def sweepReplayWrong : ChangeSpec := { name := "sweepReplay", fn := fun _ => fun
  | [d1, d2, d3] => { results := [.lit (.bool false)], args := [d1, d2, d3] }
  | _ => none }
def SweepReplayWrongFalsely : Prop := sweepReplayRow.holds Tryz.pinned (OpenSpec.ofChange sweepReplayWrong)

/-- 'modscanlaw33.SweepErrors': WHATEVER THE INPUT: true; the input reads as it did. -/
def sweepErrorsSpec : ChangeSpec := { name := "sweepErrors", fn := fun _ => fun
  | [d1, d2, d3] => { results := [.lit (.bool true)], args := [d1, d2, d3] }
  | _ => none }
def sweepErrorsRow : OpenClaim := { program := "ytipnamoocemeeaagreat", sum := "93fe46c5f67e3bf5bc191975552ab8548ba6801bb45f92686b1aa88bc4991364", func := "modscan/modscanlaw33.SweepErrors", spec := "sweepErrors", unfollowed := true, recurses := true, apart := false }
def SweepErrorsSaid : Prop := sweepErrorsRow.holds Tryz.pinned (OpenSpec.ofChange sweepErrorsSpec)

/-- ITS FALSE NEIGHBOUR: 'it returns false'. Refute it at one input. -/
def sweepErrorsWrong : ChangeSpec := { name := "sweepErrors", fn := fun _ => fun
  | [d1, d2, d3] => { results := [.lit (.bool false)], args := [d1, d2, d3] }
  | _ => none }
def SweepErrorsWrongFalsely : Prop := sweepErrorsRow.holds Tryz.pinned (OpenSpec.ofChange sweepErrorsWrong)

/-- 'modscanlaw33.SweepValid': WHATEVER THE INPUT: true; the input reads as it did. -/
def sweepValidSpec : ChangeSpec := { name := "sweepValid", fn := fun _ => fun
  | [d1, d2, d3] => { results := [.lit (.bool true)], args := [d1, d2, d3] }
  | _ => none }
def sweepValidRow : OpenClaim := { program := "ytipnamoocemeeaagreat", sum := "93fe46c5f67e3bf5bc191975552ab8548ba6801bb45f92686b1aa88bc4991364", func := "modscan/modscanlaw33.SweepValid", spec := "sweepValid", unfollowed := true, recurses := true, apart := false }
def SweepValidSaid : Prop := sweepValidRow.holds Tryz.pinned (OpenSpec.ofChange sweepValidSpec)

/-- ITS FALSE NEIGHBOUR: 'it returns false'. Refute it at one input. -/
def sweepValidWrong : ChangeSpec := { name := "sweepValid", fn := fun _ => fun
  | [d1, d2, d3] => { results := [.lit (.bool false)], args := [d1, d2, d3] }
  | _ => none }
def SweepValidWrongFalsely : Prop := sweepValidRow.holds Tryz.pinned (OpenSpec.ofChange sweepValidWrong)

/- THE SECOND FORM. 'bulk': how many values and letters a reading holds, each counted each time it is reached (what is shared counts as often as it is met; a slice's spare places count too). A statement '..UptoSaid' is the law's where the arguments, and the package variables that the reading takes, are together of bulk at most 1048576: NARROWER than '..Said'. Prove '..Said' where nothing that the law and all that it calls make is longer than what came in: it says more and counts as full. Else prove '..UptoSaid'. A law counts once. -/
mutual
def uptoBulk {H : Type} : DataW H → Nat
  | .lit (.string bytes) => bytes.length + 1
  | .lit _ => 1
  | .nil => 1
  | .ptr d => uptoBulk d + 1
  | .slice elems spare => uptoBulkAll elems + uptoBulkAll spare + 1
  | .agg parts => uptoBulkAll parts + 1
  | .iface _ d => uptoBulk d + 1
  | .map entries => uptoBulkEntries entries + 1
  | .held _ => 1
def uptoBulkAll {H : Type} : List (DataW H) → Nat
  | [] => 0
  | d :: r => uptoBulk d + uptoBulkAll r
def uptoBulkEntries {H : Type} : List (Lit × DataW H) → Nat
  | [] => 0
  | x :: r => uptoBulkEntry x + uptoBulkEntries r
def uptoBulkEntry {H : Type} : Lit × DataW H → Nat
  | (.string bytes, d) => bytes.length + uptoBulk d + 1
  | (_, d) => uptoBulk d + 1
 end
def uptoSmall : (H : Type) → List (DataW H) → Bool := fun _ ds => decide (uptoBulkAll ds ≤ 1048576)
def OpenSpec.upto (s : _root_.Go.ChangeSpec) : _root_.Go.OpenSpec := { _root_.Go.OpenSpec.ofChange s with cond := some uptoSmall }

/-- 'modscanlaw33.SweepSteps', WHERE WHAT IT READS IS OF BULK AT MOST 1048576: true; the input reads as it did. -/
def sweepStepsUptoRow : OpenClaim := { program := "ytipnamoocemeeaagreat", sum := "93fe46c5f67e3bf5bc191975552ab8548ba6801bb45f92686b1aa88bc4991364", func := "modscan/modscanlaw33.SweepSteps", spec := "sweepSteps", unfollowed := true, recurses := true, apart := false, narrowed := true }
def SweepStepsUptoSaid : Prop := sweepStepsUptoRow.holds Tryz.pinned (OpenSpec.upto sweepStepsSpec)

/-- 'modscanlaw33.SweepReplay', WHERE WHAT IT READS IS OF BULK AT MOST 1048576: true; the input reads as it did. -/
def sweepReplayUptoRow : OpenClaim := { program := "ytipnamoocemeeaagreat", sum := "93fe46c5f67e3bf5bc191975552ab8548ba6801bb45f92686b1aa88bc4991364", func := "modscan/modscanlaw33.SweepReplay", spec := "sweepReplay", unfollowed := true, recurses := true, apart := false, narrowed := true }
def SweepReplayUptoSaid : Prop := sweepReplayUptoRow.holds Tryz.pinned (OpenSpec.upto sweepReplaySpec)

/-- 'modscanlaw33.SweepErrors', WHERE WHAT IT READS IS OF BULK AT MOST 1048576: true; the input reads as it did. -/
def sweepErrorsUptoRow : OpenClaim := { program := "ytipnamoocemeeaagreat", sum := "93fe46c5f67e3bf5bc191975552ab8548ba6801bb45f92686b1aa88bc4991364", func := "modscan/modscanlaw33.SweepErrors", spec := "sweepErrors", unfollowed := true, recurses := true, apart := false, narrowed := true }
def SweepErrorsUptoSaid : Prop := sweepErrorsUptoRow.holds Tryz.pinned (OpenSpec.upto sweepErrorsSpec)

/-- 'modscanlaw33.SweepValid', WHERE WHAT IT READS IS OF BULK AT MOST 1048576: true; the input reads as it did. -/
def sweepValidUptoRow : OpenClaim := { program := "ytipnamoocemeeaagreat", sum := "93fe46c5f67e3bf5bc191975552ab8548ba6801bb45f92686b1aa88bc4991364", func := "modscan/modscanlaw33.SweepValid", spec := "sweepValid", unfollowed := true, recurses := true, apart := false, narrowed := true }
def SweepValidUptoSaid : Prop := sweepValidUptoRow.holds Tryz.pinned (OpenSpec.upto sweepValidSpec)

end Rows
end Go.Proofs.YtipnamoocemeeaaGreat
