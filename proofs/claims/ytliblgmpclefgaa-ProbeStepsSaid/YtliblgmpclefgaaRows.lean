/-
  No cell of these rows narrows 'for every input' (looked for: loops, veiled, ifaces, maps, wideKeys, modest, calm, conditions, laid).
  DERIVED. THE GIVEN ROWS OF THIS SEAT. 3 by the template 'for every input the law returns true; each argument reads behind the call as it read before'; 0 by the template 'total and deterministic' (their statements: YtliblgmpclefgaaTotals.lean).
  GIVEN WITH THE SEED: the statements are not yours to turn. If you find one false, say at which input.
  Laid BY PROGRAM, IN A SANDBOX (cutbox-rows.mjs): the forced cells as the released guide's own fill.sh prints them over the translation aed18c2be7c8f43f… (all of the seat's roots in one cut). By AI agents, Wed Nov 11 2026. No macro, syntax, notation, axiom, sorry.
-/
import Derived.Test.YtliblgmpclefgaaChecked
import GoSem.Claim
import GoSem.ClaimJoined
import GoSem.ClaimMapViews
import Derived.JoinedTies
import Derived.KernelRfl
namespace Go.Proofs.Ytliblgmpclefgaa
/- THE CELL 'sum', in the pinned program and in every row, IS THE sha256 OF THE DUMP (.gsa) THAT YtliblgmpclefgaaProg.lean LOADS. Nothing in Lean hashes anything: it is a label: what it is worth is what the hold of that sum in a sandbox is worth. -/
noncomputable def Try.pinned : Pinned := { name := "ytliblgmpclefgaa", sum := "aed18c2be7c8f43fc5c35c75143fb0e22eaa56e144061874227b992e1dce88dc", checked := Try.checked }
namespace Rows
def none {H : Type} : Left H := { results := [], args := [] }

/-- 'modscanlaw26.ProbeSteps': WHATEVER THE INPUT: true; the input reads as it did. -/
def probeStepsSpec : ChangeSpec := { name := "probeSteps", fn := fun _ => fun
  | [d1, d2, d3] => { results := [.lit (.bool true)], args := [d1, d2, d3] }
  | _ => none }
def probeStepsRow : OpenClaim := { program := "ytliblgmpclefgaa", sum := "aed18c2be7c8f43fc5c35c75143fb0e22eaa56e144061874227b992e1dce88dc", func := "modscan/modscanlaw26.ProbeSteps", spec := "probeSteps", unfollowed := true, recurses := true, apart := false }
def ProbeStepsSaid : Prop := probeStepsRow.holds Try.pinned (OpenSpec.ofChange probeStepsSpec)

/-- ITS FALSE NEIGHBOUR: 'it returns false'. Refute it at one input. -/
def probeStepsWrong : ChangeSpec := { name := "probeSteps", fn := fun _ => fun
  | [d1, d2, d3] => { results := [.lit (.bool false)], args := [d1, d2, d3] }
  | _ => none }
def ProbeStepsWrongFalsely : Prop := probeStepsRow.holds Try.pinned (OpenSpec.ofChange probeStepsWrong)

/-- 'modscanlaw28.RecordProbe': WHATEVER THE INPUT: true; the input reads as it did. -/
def recordProbeSpec : ChangeSpec := { name := "recordProbe", fn := fun _ => fun
  | [d1, d2] => { results := [.lit (.bool true)], args := [d1, d2] }
  | _ => none }
def recordProbeRow : OpenClaim := { program := "ytliblgmpclefgaa", sum := "aed18c2be7c8f43fc5c35c75143fb0e22eaa56e144061874227b992e1dce88dc", func := "modscan/modscanlaw28.RecordProbe", spec := "recordProbe", unfollowed := true, recurses := true, apart := false }
def RecordProbeSaid : Prop := recordProbeRow.holds Try.pinned (OpenSpec.ofChange recordProbeSpec)

/-- ITS FALSE NEIGHBOUR: 'it returns false'. Refute it at one input. -/
def recordProbeWrong : ChangeSpec := { name := "recordProbe", fn := fun _ => fun
  | [d1, d2] => { results := [.lit (.bool false)], args := [d1, d2] }
  | _ => none }
def RecordProbeWrongFalsely : Prop := recordProbeRow.holds Try.pinned (OpenSpec.ofChange recordProbeWrong)

/-- 'modscanlaw26.ProbeBudget': WHATEVER THE INPUT: true; the input reads as it did. -/
def probeBudgetSpec : ChangeSpec := { name := "probeBudget", fn := fun _ => fun
  | [d1, d2] => { results := [.lit (.bool true)], args := [d1, d2] }
  | _ => none }
def probeBudgetRow : OpenClaim := { program := "ytliblgmpclefgaa", sum := "aed18c2be7c8f43fc5c35c75143fb0e22eaa56e144061874227b992e1dce88dc", func := "modscan/modscanlaw26.ProbeBudget", spec := "probeBudget", unfollowed := true, recurses := true, apart := false }
def ProbeBudgetSaid : Prop := probeBudgetRow.holds Try.pinned (OpenSpec.ofChange probeBudgetSpec)

/-- ITS FALSE NEIGHBOUR: 'it returns false'. Refute it at one input. -/
def probeBudgetWrong : ChangeSpec := { name := "probeBudget", fn := fun _ => fun
  | [d1, d2] => { results := [.lit (.bool false)], args := [d1, d2] }
  | _ => none }
def ProbeBudgetWrongFalsely : Prop := probeBudgetRow.holds Try.pinned (OpenSpec.ofChange probeBudgetWrong)

/- THE SECOND FORM. 'bulk': how many values and letters a reading holds, each counted each time it is reached (what is shared counts as often as it is met; a slice's spare places count too). A statement '..UptoSaid' is the law's where the arguments, and the package variables that the reading takes, are together of bulk at most 1048576: NARROWER than '..Said'. Prove '..Said' where nothing that the law and all that it calls make is longer than what came in: it says more and counts as full. Else prove '..UptoSaid'. A law counts once. -/
mutual
def uptoBulk {H : Type} : DataW H → Nat
  | .lit (.string bytes) => bytes.length + 1
  | .lit _ => 1
  | .nil => 1
  | .ptr d => uptoBulk d + 1
  | .slice elems spare => uptoBulkAll elems + uptoBulkAll spare + 1
  | .agg parts => uptoBulkAll parts + 1
  | .iface _ d => uptoBulk d + 1
  | .map entries => uptoBulkEntries entries + 1
  | .held _ => 1
def uptoBulkAll {H : Type} : List (DataW H) → Nat
  | [] => 0
  | d :: r => uptoBulk d + uptoBulkAll r
def uptoBulkEntries {H : Type} : List (Lit × DataW H) → Nat
  | [] => 0
  | x :: r => uptoBulkEntry x + uptoBulkEntries r
def uptoBulkEntry {H : Type} : Lit × DataW H → Nat
  | (.string bytes, d) => bytes.length + uptoBulk d + 1
  | (_, d) => uptoBulk d + 1
 end
def uptoSmall : (H : Type) → List (DataW H) → Bool := fun _ ds => decide (uptoBulkAll ds ≤ 1048576)
def OpenSpec.upto (s : _root_.Go.ChangeSpec) : _root_.Go.OpenSpec := { _root_.Go.OpenSpec.ofChange s with cond := some uptoSmall }

/-- 'modscanlaw26.ProbeSteps', WHERE WHAT IT READS IS OF BULK AT MOST 1048576: true; the input reads as it did. -/
def probeStepsUptoRow : OpenClaim := { program := "ytliblgmpclefgaa", sum := "aed18c2be7c8f43fc5c35c75143fb0e22eaa56e144061874227b992e1dce88dc", func := "modscan/modscanlaw26.ProbeSteps", spec := "probeSteps", unfollowed := true, recurses := true, apart := false, narrowed := true }
def ProbeStepsUptoSaid : Prop := probeStepsUptoRow.holds Try.pinned (OpenSpec.upto probeStepsSpec)

/-- 'modscanlaw28.RecordProbe', WHERE WHAT IT READS IS OF BULK AT MOST 1048576: true; the input reads as it did. -/
def recordProbeUptoRow : OpenClaim := { program := "ytliblgmpclefgaa", sum := "aed18c2be7c8f43fc5c35c75143fb0e22eaa56e144061874227b992e1dce88dc", func := "modscan/modscanlaw28.RecordProbe", spec := "recordProbe", unfollowed := true, recurses := true, apart := false, narrowed := true }
def RecordProbeUptoSaid : Prop := recordProbeUptoRow.holds Try.pinned (OpenSpec.upto recordProbeSpec)

/-- 'modscanlaw26.ProbeBudget', WHERE WHAT IT READS IS OF BULK AT MOST 1048576: true; the input reads as it did. -/
def probeBudgetUptoRow : OpenClaim := { program := "ytliblgmpclefgaa", sum := "aed18c2be7c8f43fc5c35c75143fb0e22eaa56e144061874227b992e1dce88dc", func := "modscan/modscanlaw26.ProbeBudget", spec := "probeBudget", unfollowed := true, recurses := true, apart := false, narrowed := true }
def ProbeBudgetUptoSaid : Prop := probeBudgetUptoRow.holds Try.pinned (OpenSpec.upto probeBudgetSpec)

end Rows
end Go.Proofs.Ytliblgmpclefgaa
