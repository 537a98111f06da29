/-
  No cell of these rows narrows 'for every input' (looked for: loops, veiled, ifaces, maps, wideKeys, modest, calm, conditions, laid).
  DERIVED. THE GIVEN ROWS OF THIS SEAT. 15 by the template 'for every input the law returns true; each argument reads behind the call as it read before'; 0 by the template 'total and deterministic' (their statements: YthkclnehekbpgaaTotals.lean).
  GIVEN WITH THE SEED: the statements are not yours to turn. If you find one false, say at which input.
  Laid BY PROGRAM, IN A SANDBOX (cutbox-rows.mjs): the forced cells as the released guide's own fill.sh prints them over the translation f1d5b63d753dad0d… (all of the seat's roots in one cut). By AI agents, Wed Nov 11 2026. No macro, syntax, notation, axiom, sorry.
-/
import Derived.Test.YthkclnehekbpgaaChecked
import GoSem.Claim
import GoSem.ClaimJoined
import GoSem.ClaimMapViews
import Derived.JoinedTies
import Derived.KernelRfl
namespace Go.Proofs.Ythkclnehekbpgaa
/- THE CELL 'sum', in the pinned program and in every row, IS THE sha256 OF THE DUMP (.gsa) THAT YthkclnehekbpgaaProg.lean LOADS. Nothing in Lean hashes anything: it is a label: what it is worth is what the hold of that sum in a sandbox is worth. -/
noncomputable def Try.pinned : Pinned := { name := "ythkclnehekbpgaa", sum := "f1d5b63d753dad0d2d6312e58775efbd9ef95c6d58dd73c2239a4e0e4d8b5cd2", checked := Try.checked }
namespace Rows
def none {H : Type} : Left H := { results := [], args := [] }

/-- 'modscanlaw35.ConsoleWord': WHATEVER THE INPUT: true; the input reads as it did. -/
def consoleWordSpec : ChangeSpec := { name := "consoleWord", fn := fun _ => fun
  | [d] => { results := [.lit (.bool true)], args := [d] }
  | _ => none }
def consoleWordRow : OpenClaim := { program := "ythkclnehekbpgaa", sum := "f1d5b63d753dad0d2d6312e58775efbd9ef95c6d58dd73c2239a4e0e4d8b5cd2", func := "modscan/modscanlaw35.ConsoleWord", spec := "consoleWord", apart := false }
def ConsoleWordSaid : Prop := consoleWordRow.holds Try.pinned (OpenSpec.ofChange consoleWordSpec)

/-- ITS FALSE NEIGHBOUR: 'it returns false'. Refute it at one input. -/
def consoleWordWrong : ChangeSpec := { name := "consoleWord", fn := fun _ => fun
  | [d] => { results := [.lit (.bool false)], args := [d] }
  | _ => none }
def ConsoleWordWrongFalsely : Prop := consoleWordRow.holds Try.pinned (OpenSpec.ofChange consoleWordWrong)

/-- 'modscanlaw21.PresenceState': WHATEVER THE INPUT: true; the input reads as it did. -/
def presenceStateSpec : ChangeSpec := { name := "presenceState", fn := fun _ => fun
  | [d] => { results := [.lit (.bool true)], args := [d] }
  | _ => none }
def presenceStateRow : OpenClaim := { program := "ythkclnehekbpgaa", sum := "f1d5b63d753dad0d2d6312e58775efbd9ef95c6d58dd73c2239a4e0e4d8b5cd2", func := "modscan/modscanlaw21.PresenceState", spec := "presenceState", apart := false }
def PresenceStateSaid : Prop := presenceStateRow.holds Try.pinned (OpenSpec.ofChange presenceStateSpec)

/-- ITS FALSE NEIGHBOUR: 'it returns false'. Refute it at one input. -/
def presenceStateWrong : ChangeSpec := { name := "presenceState", fn := fun _ => fun
  | [d] => { results := [.lit (.bool false)], args := [d] }
  | _ => none }
def PresenceStateWrongFalsely : Prop := presenceStateRow.holds Try.pinned (OpenSpec.ofChange presenceStateWrong)

/-- 'modscanlaw27.StoreOwn': WHATEVER THE INPUT: true; the input reads as it did. -/
def storeOwnSpec : ChangeSpec := { name := "storeOwn", fn := fun _ => fun
  | [d] => { results := [.lit (.bool true)], args := [d] }
  | _ => none }
def storeOwnRow : OpenClaim := { program := "ythkclnehekbpgaa", sum := "f1d5b63d753dad0d2d6312e58775efbd9ef95c6d58dd73c2239a4e0e4d8b5cd2", func := "modscan/modscanlaw27.StoreOwn", spec := "storeOwn", apart := false }
def StoreOwnSaid : Prop := storeOwnRow.holds Try.pinned (OpenSpec.ofChange storeOwnSpec)

/-- ITS FALSE NEIGHBOUR: 'it returns false'. Refute it at one input. -/
def storeOwnWrong : ChangeSpec := { name := "storeOwn", fn := fun _ => fun
  | [d] => { results := [.lit (.bool false)], args := [d] }
  | _ => none }
def StoreOwnWrongFalsely : Prop := storeOwnRow.holds Try.pinned (OpenSpec.ofChange storeOwnWrong)

/-- 'modscanlaw27.StoreScript': WHATEVER THE INPUT: true; the input reads as it did. -/
def storeScriptSpec : ChangeSpec := { name := "storeScript", fn := fun _ => fun
  | [d1, d2] => { results := [.lit (.bool true)], args := [d1, d2] }
  | _ => none }
def storeScriptRow : OpenClaim := { program := "ythkclnehekbpgaa", sum := "f1d5b63d753dad0d2d6312e58775efbd9ef95c6d58dd73c2239a4e0e4d8b5cd2", func := "modscan/modscanlaw27.StoreScript", spec := "storeScript", apart := false }
def StoreScriptSaid : Prop := storeScriptRow.holds Try.pinned (OpenSpec.ofChange storeScriptSpec)

/-- ITS FALSE NEIGHBOUR: 'it returns false'. Refute it at one input. -/
def storeScriptWrong : ChangeSpec := { name := "storeScript", fn := fun _ => fun
  | [d1, d2] => { results := [.lit (.bool false)], args := [d1, d2] }
  | _ => none }
def StoreScriptWrongFalsely : Prop := storeScriptRow.holds Try.pinned (OpenSpec.ofChange storeScriptWrong)

/-- 'modscanlaw27.StoreNew': WHATEVER THE INPUT: true; the input reads as it did. -/
def storeNewSpec : ChangeSpec := { name := "storeNew", fn := fun _ => fun
  | [d1, d2, d3] => { results := [.lit (.bool true)], args := [d1, d2, d3] }
  | _ => none }
def storeNewRow : OpenClaim := { program := "ythkclnehekbpgaa", sum := "f1d5b63d753dad0d2d6312e58775efbd9ef95c6d58dd73c2239a4e0e4d8b5cd2", func := "modscan/modscanlaw27.StoreNew", spec := "storeNew", apart := false }
def StoreNewSaid : Prop := storeNewRow.holds Try.pinned (OpenSpec.ofChange storeNewSpec)

/-- ITS FALSE NEIGHBOUR: 'it returns false'. Refute it at one input. -/
def storeNewWrong : ChangeSpec := { name := "storeNew", fn := fun _ => fun
  | [d1, d2, d3] => { results := [.lit (.bool false)], args := [d1, d2, d3] }
  | _ => none }
def StoreNewWrongFalsely : Prop := storeNewRow.holds Try.pinned (OpenSpec.ofChange storeNewWrong)

/-- 'modscanlaw01.CrcSum': WHATEVER THE INPUT: true; the input reads as it did. -/
def crcSumSpec : ChangeSpec := { name := "crcSum", fn := fun _ => fun
  | [d] => { results := [.lit (.bool true)], args := [d] }
  | _ => none }
def crcSumRow : OpenClaim := { program := "ythkclnehekbpgaa", sum := "f1d5b63d753dad0d2d6312e58775efbd9ef95c6d58dd73c2239a4e0e4d8b5cd2", func := "modscan/modscanlaw01.CrcSum", spec := "crcSum", apart := false }
def CrcSumSaid : Prop := crcSumRow.holds Try.pinned (OpenSpec.ofChange crcSumSpec)

/-- ITS FALSE NEIGHBOUR: 'it returns false'. Refute it at one input. -/
def crcSumWrong : ChangeSpec := { name := "crcSum", fn := fun _ => fun
  | [d] => { results := [.lit (.bool false)], args := [d] }
  | _ => none }
def CrcSumWrongFalsely : Prop := crcSumRow.holds Try.pinned (OpenSpec.ofChange crcSumWrong)

/-- 'modscanlaw01.CrcExtend': WHATEVER THE INPUT: true; the input reads as it did. -/
def crcExtendSpec : ChangeSpec := { name := "crcExtend", fn := fun _ => fun
  | [d1, d2, d3] => { results := [.lit (.bool true)], args := [d1, d2, d3] }
  | _ => none }
def crcExtendRow : OpenClaim := { program := "ythkclnehekbpgaa", sum := "f1d5b63d753dad0d2d6312e58775efbd9ef95c6d58dd73c2239a4e0e4d8b5cd2", func := "modscan/modscanlaw01.CrcExtend", spec := "crcExtend", apart := false }
def CrcExtendSaid : Prop := crcExtendRow.holds Try.pinned (OpenSpec.ofChange crcExtendSpec)

/-- ITS FALSE NEIGHBOUR: 'it returns false'. Refute it at one input. -/
def crcExtendWrong : ChangeSpec := { name := "crcExtend", fn := fun _ => fun
  | [d1, d2, d3] => { results := [.lit (.bool false)], args := [d1, d2, d3] }
  | _ => none }
def CrcExtendWrongFalsely : Prop := crcExtendRow.holds Try.pinned (OpenSpec.ofChange crcExtendWrong)

/-- 'modscanlaw01.CrcAppend': WHATEVER THE INPUT: true; the input reads as it did. -/
def crcAppendSpec : ChangeSpec := { name := "crcAppend", fn := fun _ => fun
  | [d1, d2] => { results := [.lit (.bool true)], args := [d1, d2] }
  | _ => none }
def crcAppendRow : OpenClaim := { program := "ythkclnehekbpgaa", sum := "f1d5b63d753dad0d2d6312e58775efbd9ef95c6d58dd73c2239a4e0e4d8b5cd2", func := "modscan/modscanlaw01.CrcAppend", spec := "crcAppend", apart := false }
def CrcAppendSaid : Prop := crcAppendRow.holds Try.pinned (OpenSpec.ofChange crcAppendSpec)

/-- ITS FALSE NEIGHBOUR: 'it returns false'. Refute it at one input. -/
def crcAppendWrong : ChangeSpec := { name := "crcAppend", fn := fun _ => fun
  | [d1, d2] => { results := [.lit (.bool false)], args := [d1, d2] }
  | _ => none }
def CrcAppendWrongFalsely : Prop := crcAppendRow.holds Try.pinned (OpenSpec.ofChange crcAppendWrong)

/-- 'modscanlaw01.CrcBurst': WHATEVER THE INPUT: true; the input reads as it did. -/
def crcBurstSpec : ChangeSpec := { name := "crcBurst", fn := fun _ => fun
  | [d1, d2, d3] => { results := [.lit (.bool true)], args := [d1, d2, d3] }
  | _ => none }
def crcBurstRow : OpenClaim := { program := "ythkclnehekbpgaa", sum := "f1d5b63d753dad0d2d6312e58775efbd9ef95c6d58dd73c2239a4e0e4d8b5cd2", func := "modscan/modscanlaw01.CrcBurst", spec := "crcBurst", apart := false }
def CrcBurstSaid : Prop := crcBurstRow.holds Try.pinned (OpenSpec.ofChange crcBurstSpec)

/-- ITS FALSE NEIGHBOUR: 'it returns false'. Refute it at one input. -/
def crcBurstWrong : ChangeSpec := { name := "crcBurst", fn := fun _ => fun
  | [d1, d2, d3] => { results := [.lit (.bool false)], args := [d1, d2, d3] }
  | _ => none }
def CrcBurstWrongFalsely : Prop := crcBurstRow.holds Try.pinned (OpenSpec.ofChange crcBurstWrong)

/-- 'modscanlaw01.CrcOdd': WHATEVER THE INPUT: true; the input reads as it did. -/
def crcOddSpec : ChangeSpec := { name := "crcOdd", fn := fun _ => fun
  | [d1, d2] => { results := [.lit (.bool true)], args := [d1, d2] }
  | _ => none }
def crcOddRow : OpenClaim := { program := "ythkclnehekbpgaa", sum := "f1d5b63d753dad0d2d6312e58775efbd9ef95c6d58dd73c2239a4e0e4d8b5cd2", func := "modscan/modscanlaw01.CrcOdd", spec := "crcOdd", apart := false }
def CrcOddSaid : Prop := crcOddRow.holds Try.pinned (OpenSpec.ofChange crcOddSpec)

/-- ITS FALSE NEIGHBOUR: 'it returns false'. Refute it at one input. -/
def crcOddWrong : ChangeSpec := { name := "crcOdd", fn := fun _ => fun
  | [d1, d2] => { results := [.lit (.bool false)], args := [d1, d2] }
  | _ => none }
def CrcOddWrongFalsely : Prop := crcOddRow.holds Try.pinned (OpenSpec.ofChange crcOddWrong)

/-- 'modscanlaw01.CrcTwo': WHATEVER THE INPUT: true; the input reads as it did. -/
def crcTwoSpec : ChangeSpec := { name := "crcTwo", fn := fun _ => fun
  | [d1, d2, d3] => { results := [.lit (.bool true)], args := [d1, d2, d3] }
  | _ => none }
def crcTwoRow : OpenClaim := { program := "ythkclnehekbpgaa", sum := "f1d5b63d753dad0d2d6312e58775efbd9ef95c6d58dd73c2239a4e0e4d8b5cd2", func := "modscan/modscanlaw01.CrcTwo", spec := "crcTwo", apart := false }
def CrcTwoSaid : Prop := crcTwoRow.holds Try.pinned (OpenSpec.ofChange crcTwoSpec)

/-- ITS FALSE NEIGHBOUR: 'it returns false'. Refute it at one input. -/
def crcTwoWrong : ChangeSpec := { name := "crcTwo", fn := fun _ => fun
  | [d1, d2, d3] => { results := [.lit (.bool false)], args := [d1, d2, d3] }
  | _ => none }
def CrcTwoWrongFalsely : Prop := crcTwoRow.holds Try.pinned (OpenSpec.ofChange crcTwoWrong)

/-- 'modscanlaw01.CrcLinear': WHATEVER THE INPUT: true; the input reads as it did. -/
def crcLinearSpec : ChangeSpec := { name := "crcLinear", fn := fun _ => fun
  | [d1, d2, d3] => { results := [.lit (.bool true)], args := [d1, d2, d3] }
  | _ => none }
def crcLinearRow : OpenClaim := { program := "ythkclnehekbpgaa", sum := "f1d5b63d753dad0d2d6312e58775efbd9ef95c6d58dd73c2239a4e0e4d8b5cd2", func := "modscan/modscanlaw01.CrcLinear", spec := "crcLinear", apart := false }
def CrcLinearSaid : Prop := crcLinearRow.holds Try.pinned (OpenSpec.ofChange crcLinearSpec)

/-- ITS FALSE NEIGHBOUR: 'it returns false'. Refute it at one input. -/
def crcLinearWrong : ChangeSpec := { name := "crcLinear", fn := fun _ => fun
  | [d1, d2, d3] => { results := [.lit (.bool false)], args := [d1, d2, d3] }
  | _ => none }
def CrcLinearWrongFalsely : Prop := crcLinearRow.holds Try.pinned (OpenSpec.ofChange crcLinearWrong)

/-- 'modscanlaw08.AduBuild': WHATEVER THE INPUT: true; the input reads as it did. -/
def aduBuildSpec : ChangeSpec := { name := "aduBuild", fn := fun _ => fun
  | [d1, d2] => { results := [.lit (.bool true)], args := [d1, d2] }
  | _ => none }
def aduBuildRow : OpenClaim := { program := "ythkclnehekbpgaa", sum := "f1d5b63d753dad0d2d6312e58775efbd9ef95c6d58dd73c2239a4e0e4d8b5cd2", func := "modscan/modscanlaw08.AduBuild", spec := "aduBuild", apart := false }
def AduBuildSaid : Prop := aduBuildRow.holds Try.pinned (OpenSpec.ofChange aduBuildSpec)

/-- ITS FALSE NEIGHBOUR: 'it returns false'. Refute it at one input. -/
def aduBuildWrong : ChangeSpec := { name := "aduBuild", fn := fun _ => fun
  | [d1, d2] => { results := [.lit (.bool false)], args := [d1, d2] }
  | _ => none }
def AduBuildWrongFalsely : Prop := aduBuildRow.holds Try.pinned (OpenSpec.ofChange aduBuildWrong)

/-- 'modscanlaw08.AduSplit': WHATEVER THE INPUT: true; the input reads as it did. -/
def aduSplitSpec : ChangeSpec := { name := "aduSplit", fn := fun _ => fun
  | [d1, d2] => { results := [.lit (.bool true)], args := [d1, d2] }
  | _ => none }
def aduSplitRow : OpenClaim := { program := "ythkclnehekbpgaa", sum := "f1d5b63d753dad0d2d6312e58775efbd9ef95c6d58dd73c2239a4e0e4d8b5cd2", func := "modscan/modscanlaw08.AduSplit", spec := "aduSplit", apart := false }
def AduSplitSaid : Prop := aduSplitRow.holds Try.pinned (OpenSpec.ofChange aduSplitSpec)

/-- ITS FALSE NEIGHBOUR: 'it returns false'. Refute it at one input. -/
def aduSplitWrong : ChangeSpec := { name := "aduSplit", fn := fun _ => fun
  | [d1, d2] => { results := [.lit (.bool false)], args := [d1, d2] }
  | _ => none }
def AduSplitWrongFalsely : Prop := aduSplitRow.holds Try.pinned (OpenSpec.ofChange aduSplitWrong)

/-- 'modscanlaw08.AduDamage': WHATEVER THE INPUT: true; the input reads as it did. -/
def aduDamageSpec : ChangeSpec := { name := "aduDamage", fn := fun _ => fun
  | [d1, d2, d3, d4, d5] => { results := [.lit (.bool true)], args := [d1, d2, d3, d4, d5] }
  | _ => none }
def aduDamageRow : OpenClaim := { program := "ythkclnehekbpgaa", sum := "f1d5b63d753dad0d2d6312e58775efbd9ef95c6d58dd73c2239a4e0e4d8b5cd2", func := "modscan/modscanlaw08.AduDamage", spec := "aduDamage", apart := false }
def AduDamageSaid : Prop := aduDamageRow.holds Try.pinned (OpenSpec.ofChange aduDamageSpec)

/-- ITS FALSE NEIGHBOUR: 'it returns false'. Refute it at one input. -/
def aduDamageWrong : ChangeSpec := { name := "aduDamage", fn := fun _ => fun
  | [d1, d2, d3, d4, d5] => { results := [.lit (.bool false)], args := [d1, d2, d3, d4, d5] }
  | _ => none }
def AduDamageWrongFalsely : Prop := aduDamageRow.holds Try.pinned (OpenSpec.ofChange aduDamageWrong)

/- THE SECOND FORM. 'bulk': how many values and letters a reading holds, each counted each time it is reached (what is shared counts as often as it is met; a slice's spare places count too). A statement '..UptoSaid' is the law's where the arguments, and the package variables that the reading takes, are together of bulk at most 1048576: NARROWER than '..Said'. Prove '..Said' where nothing that the law and all that it calls make is longer than what came in: it says more and counts as full. Else prove '..UptoSaid'. A law counts once. -/
mutual
def uptoBulk {H : Type} : DataW H → Nat
  | .lit (.string bytes) => bytes.length + 1
  | .lit _ => 1
  | .nil => 1
  | .ptr d => uptoBulk d + 1
  | .slice elems spare => uptoBulkAll elems + uptoBulkAll spare + 1
  | .agg parts => uptoBulkAll parts + 1
  | .iface _ d => uptoBulk d + 1
  | .map entries => uptoBulkEntries entries + 1
  | .held _ => 1
def uptoBulkAll {H : Type} : List (DataW H) → Nat
  | [] => 0
  | d :: r => uptoBulk d + uptoBulkAll r
def uptoBulkEntries {H : Type} : List (Lit × DataW H) → Nat
  | [] => 0
  | x :: r => uptoBulkEntry x + uptoBulkEntries r
def uptoBulkEntry {H : Type} : Lit × DataW H → Nat
  | (.string bytes, d) => bytes.length + uptoBulk d + 1
  | (_, d) => uptoBulk d + 1
 end
def uptoSmall : (H : Type) → List (DataW H) → Bool := fun _ ds => decide (uptoBulkAll ds ≤ 1048576)
def OpenSpec.upto (s : _root_.Go.ChangeSpec) : _root_.Go.OpenSpec := { _root_.Go.OpenSpec.ofChange s with cond := some uptoSmall }

/-- 'modscanlaw35.ConsoleWord', WHERE WHAT IT READS IS OF BULK AT MOST 1048576: true; the input reads as it did. -/
def consoleWordUptoRow : OpenClaim := { program := "ythkclnehekbpgaa", sum := "f1d5b63d753dad0d2d6312e58775efbd9ef95c6d58dd73c2239a4e0e4d8b5cd2", func := "modscan/modscanlaw35.ConsoleWord", spec := "consoleWord", apart := false, narrowed := true }
def ConsoleWordUptoSaid : Prop := consoleWordUptoRow.holds Try.pinned (OpenSpec.upto consoleWordSpec)

/-- 'modscanlaw21.PresenceState', WHERE WHAT IT READS IS OF BULK AT MOST 1048576: true; the input reads as it did. -/
def presenceStateUptoRow : OpenClaim := { program := "ythkclnehekbpgaa", sum := "f1d5b63d753dad0d2d6312e58775efbd9ef95c6d58dd73c2239a4e0e4d8b5cd2", func := "modscan/modscanlaw21.PresenceState", spec := "presenceState", apart := false, narrowed := true }
def PresenceStateUptoSaid : Prop := presenceStateUptoRow.holds Try.pinned (OpenSpec.upto presenceStateSpec)

/-- 'modscanlaw27.StoreOwn', WHERE WHAT IT READS IS OF BULK AT MOST 1048576: true; the input reads as it did. -/
def storeOwnUptoRow : OpenClaim := { program := "ythkclnehekbpgaa", sum := "f1d5b63d753dad0d2d6312e58775efbd9ef95c6d58dd73c2239a4e0e4d8b5cd2", func := "modscan/modscanlaw27.StoreOwn", spec := "storeOwn", apart := false, narrowed := true }
def StoreOwnUptoSaid : Prop := storeOwnUptoRow.holds Try.pinned (OpenSpec.upto storeOwnSpec)

/-- 'modscanlaw27.StoreScript', WHERE WHAT IT READS IS OF BULK AT MOST 1048576: true; the input reads as it did. -/
def storeScriptUptoRow : OpenClaim := { program := "ythkclnehekbpgaa", sum := "f1d5b63d753dad0d2d6312e58775efbd9ef95c6d58dd73c2239a4e0e4d8b5cd2", func := "modscan/modscanlaw27.StoreScript", spec := "storeScript", apart := false, narrowed := true }
def StoreScriptUptoSaid : Prop := storeScriptUptoRow.holds Try.pinned (OpenSpec.upto storeScriptSpec)

/-- 'modscanlaw27.StoreNew', WHERE WHAT IT READS IS OF BULK AT MOST 1048576: true; the input reads as it did. -/
def storeNewUptoRow : OpenClaim := { program := "ythkclnehekbpgaa", sum := "f1d5b63d753dad0d2d6312e58775efbd9ef95c6d58dd73c2239a4e0e4d8b5cd2", func := "modscan/modscanlaw27.StoreNew", spec := "storeNew", apart := false, narrowed := true }
def StoreNewUptoSaid : Prop := storeNewUptoRow.holds Try.pinned (OpenSpec.upto storeNewSpec)

/-- 'modscanlaw01.CrcSum', WHERE WHAT IT READS IS OF BULK AT MOST 1048576: true; the input reads as it did. -/
def crcSumUptoRow : OpenClaim := { program := "ythkclnehekbpgaa", sum := "f1d5b63d753dad0d2d6312e58775efbd9ef95c6d58dd73c2239a4e0e4d8b5cd2", func := "modscan/modscanlaw01.CrcSum", spec := "crcSum", apart := false, narrowed := true }
def CrcSumUptoSaid : Prop := crcSumUptoRow.holds Try.pinned (OpenSpec.upto crcSumSpec)

/-- 'modscanlaw01.CrcExtend', WHERE WHAT IT READS IS OF BULK AT MOST 1048576: true; the input reads as it did. -/
def crcExtendUptoRow : OpenClaim := { program := "ythkclnehekbpgaa", sum := "f1d5b63d753dad0d2d6312e58775efbd9ef95c6d58dd73c2239a4e0e4d8b5cd2", func := "modscan/modscanlaw01.CrcExtend", spec := "crcExtend", apart := false, narrowed := true }
def CrcExtendUptoSaid : Prop := crcExtendUptoRow.holds Try.pinned (OpenSpec.upto crcExtendSpec)

/-- 'modscanlaw01.CrcAppend', WHERE WHAT IT READS IS OF BULK AT MOST 1048576: true; the input reads as it did. -/
def crcAppendUptoRow : OpenClaim := { program := "ythkclnehekbpgaa", sum := "f1d5b63d753dad0d2d6312e58775efbd9ef95c6d58dd73c2239a4e0e4d8b5cd2", func := "modscan/modscanlaw01.CrcAppend", spec := "crcAppend", apart := false, narrowed := true }
def CrcAppendUptoSaid : Prop := crcAppendUptoRow.holds Try.pinned (OpenSpec.upto crcAppendSpec)

/-- 'modscanlaw01.CrcBurst', WHERE WHAT IT READS IS OF BULK AT MOST 1048576: true; the input reads as it did. -/
def crcBurstUptoRow : OpenClaim := { program := "ythkclnehekbpgaa", sum := "f1d5b63d753dad0d2d6312e58775efbd9ef95c6d58dd73c2239a4e0e4d8b5cd2", func := "modscan/modscanlaw01.CrcBurst", spec := "crcBurst", apart := false, narrowed := true }
def CrcBurstUptoSaid : Prop := crcBurstUptoRow.holds Try.pinned (OpenSpec.upto crcBurstSpec)

/-- 'modscanlaw01.CrcOdd', WHERE WHAT IT READS IS OF BULK AT MOST 1048576: true; the input reads as it did. -/
def crcOddUptoRow : OpenClaim := { program := "ythkclnehekbpgaa", sum := "f1d5b63d753dad0d2d6312e58775efbd9ef95c6d58dd73c2239a4e0e4d8b5cd2", func := "modscan/modscanlaw01.CrcOdd", spec := "crcOdd", apart := false, narrowed := true }
def CrcOddUptoSaid : Prop := crcOddUptoRow.holds Try.pinned (OpenSpec.upto crcOddSpec)

/-- 'modscanlaw01.CrcTwo', WHERE WHAT IT READS IS OF BULK AT MOST 1048576: true; the input reads as it did. -/
def crcTwoUptoRow : OpenClaim := { program := "ythkclnehekbpgaa", sum := "f1d5b63d753dad0d2d6312e58775efbd9ef95c6d58dd73c2239a4e0e4d8b5cd2", func := "modscan/modscanlaw01.CrcTwo", spec := "crcTwo", apart := false, narrowed := true }
def CrcTwoUptoSaid : Prop := crcTwoUptoRow.holds Try.pinned (OpenSpec.upto crcTwoSpec)

/-- 'modscanlaw01.CrcLinear', WHERE WHAT IT READS IS OF BULK AT MOST 1048576: true; the input reads as it did. -/
def crcLinearUptoRow : OpenClaim := { program := "ythkclnehekbpgaa", sum := "f1d5b63d753dad0d2d6312e58775efbd9ef95c6d58dd73c2239a4e0e4d8b5cd2", func := "modscan/modscanlaw01.CrcLinear", spec := "crcLinear", apart := false, narrowed := true }
def CrcLinearUptoSaid : Prop := crcLinearUptoRow.holds Try.pinned (OpenSpec.upto crcLinearSpec)

/-- 'modscanlaw08.AduBuild', WHERE WHAT IT READS IS OF BULK AT MOST 1048576: true; the input reads as it did. -/
def aduBuildUptoRow : OpenClaim := { program := "ythkclnehekbpgaa", sum := "f1d5b63d753dad0d2d6312e58775efbd9ef95c6d58dd73c2239a4e0e4d8b5cd2", func := "modscan/modscanlaw08.AduBuild", spec := "aduBuild", apart := false, narrowed := true }
def AduBuildUptoSaid : Prop := aduBuildUptoRow.holds Try.pinned (OpenSpec.upto aduBuildSpec)

/-- 'modscanlaw08.AduSplit', WHERE WHAT IT READS IS OF BULK AT MOST 1048576: true; the input reads as it did. -/
def aduSplitUptoRow : OpenClaim := { program := "ythkclnehekbpgaa", sum := "f1d5b63d753dad0d2d6312e58775efbd9ef95c6d58dd73c2239a4e0e4d8b5cd2", func := "modscan/modscanlaw08.AduSplit", spec := "aduSplit", apart := false, narrowed := true }
def AduSplitUptoSaid : Prop := aduSplitUptoRow.holds Try.pinned (OpenSpec.upto aduSplitSpec)

/-- 'modscanlaw08.AduDamage', WHERE WHAT IT READS IS OF BULK AT MOST 1048576: true; the input reads as it did. -/
def aduDamageUptoRow : OpenClaim := { program := "ythkclnehekbpgaa", sum := "f1d5b63d753dad0d2d6312e58775efbd9ef95c6d58dd73c2239a4e0e4d8b5cd2", func := "modscan/modscanlaw08.AduDamage", spec := "aduDamage", apart := false, narrowed := true }
def AduDamageUptoSaid : Prop := aduDamageUptoRow.holds Try.pinned (OpenSpec.upto aduDamageSpec)

end Rows
end Go.Proofs.Ythkclnehekbpgaa
