/-
  No cell of these rows narrows 'for every input' (looked for: loops, veiled, ifaces, maps, wideKeys, modest, calm, conditions, laid).
  DERIVED. THE GIVEN ROWS OF THIS SEAT. 7 by the template 'for every input the law returns true; each argument reads behind the call as it read before'; 0 by the template 'total and deterministic' (their statements: YtoaoejaodhedaaaGreatTotals.lean).
  GIVEN WITH THE SEED: the statements are not yours to turn. If you find one false, say at which input.
  Laid BY PROGRAM, IN A SANDBOX (cutbox-rows.mjs): the forced cells as the released guide's own fill.sh prints them over the translation e70dccea39dab7a1… (all of the seat's roots in one cut). By AI agents, Wed Nov 11 2026. No macro, syntax, notation, axiom, sorry.
-/
import Derived.Test.YtoaoejaodhedaaaGreatChecked
import GoSem.Claim
import GoSem.ClaimJoined
import GoSem.ClaimMapViews
import Derived.JoinedTies
import Derived.KernelRfl
namespace Go.Proofs.YtoaoejaodhedaaaGreat
/- THE CELL 'sum', in the pinned program and in every row, IS THE sha256 OF THE DUMP (.gsa) THAT YtoaoejaodhedaaaGreatProg.lean LOADS. Nothing in Lean hashes anything: it is a label: what it is worth is what the hold of that sum in a sandbox is worth. -/
noncomputable def Tryz.pinned : Pinned := { name := "ytoaoejaodhedaaagreat", sum := "e70dccea39dab7a12c4c6958370f3ec28f581c6d18e4fef14ceae9a7bdb8548d", checked := Tryz.checked }
namespace Rows
def none {H : Type} : Left H := { results := [], args := [] }

/-- 'modscanlaw20.MasterFair': WHATEVER THE INPUT: true; the input reads as it did. -/
def masterFairSpec : ChangeSpec := { name := "masterFair", fn := fun _ => fun
  | [d] => { results := [.lit (.bool true)], args := [d] }
  | _ => none }
def masterFairRow : OpenClaim := { program := "ytoaoejaodhedaaagreat", sum := "e70dccea39dab7a12c4c6958370f3ec28f581c6d18e4fef14ceae9a7bdb8548d", func := "modscan/modscanlaw20.MasterFair", spec := "masterFair", unfollowed := true, recurses := true, apart := false }
def MasterFairSaid : Prop := masterFairRow.holds Tryz.pinned (OpenSpec.ofChange masterFairSpec)

/-- ITS FALSE NEIGHBOUR: 'it returns false'. Refute it at one input. -/
def masterFairWrong : ChangeSpec := { name := "masterFair", fn := fun _ => fun
  | [d] => { results := [.lit (.bool false)], args := [d] }
  | _ => none }
def MasterFairWrongFalsely : Prop := masterFairRow.holds Tryz.pinned (OpenSpec.ofChange masterFairWrong)

/-- 'modscanlaw20.MasterErrors': WHATEVER THE INPUT: true; the input reads as it did. -/
def masterErrorsSpec : ChangeSpec := { name := "masterErrors", fn := fun _ => fun
  | [d1, d2, d3, d4, d5] => { results := [.lit (.bool true)], args := [d1, d2, d3, d4, d5] }
  | _ => none }
def masterErrorsRow : OpenClaim := { program := "ytoaoejaodhedaaagreat", sum := "e70dccea39dab7a12c4c6958370f3ec28f581c6d18e4fef14ceae9a7bdb8548d", func := "modscan/modscanlaw20.MasterErrors", spec := "masterErrors", unfollowed := true, recurses := true, apart := false }
def MasterErrorsSaid : Prop := masterErrorsRow.holds Tryz.pinned (OpenSpec.ofChange masterErrorsSpec)

/-- ITS FALSE NEIGHBOUR: 'it returns false'. Refute it at one input. -/
def masterErrorsWrong : ChangeSpec := { name := "masterErrors", fn := fun _ => fun
  | [d1, d2, d3, d4, d5] => { results := [.lit (.bool false)], args := [d1, d2, d3, d4, d5] }
  | _ => none }
def MasterErrorsWrongFalsely : Prop := masterErrorsRow.holds Tryz.pinned (OpenSpec.ofChange masterErrorsWrong)

/-- 'modscanlaw21.PresenceTruth': WHATEVER THE INPUT: true; the input reads as it did. -/
def presenceTruthSpec : ChangeSpec := { name := "presenceTruth", fn := fun _ => fun
  | [d] => { results := [.lit (.bool true)], args := [d] }
  | _ => none }
def presenceTruthRow : OpenClaim := { program := "ytoaoejaodhedaaagreat", sum := "e70dccea39dab7a12c4c6958370f3ec28f581c6d18e4fef14ceae9a7bdb8548d", func := "modscan/modscanlaw21.PresenceTruth", spec := "presenceTruth", unfollowed := true, recurses := true, apart := false }
def PresenceTruthSaid : Prop := presenceTruthRow.holds Tryz.pinned (OpenSpec.ofChange presenceTruthSpec)

/-- ITS FALSE NEIGHBOUR: 'it returns false'. Refute it at one input. -/
def presenceTruthWrong : ChangeSpec := { name := "presenceTruth", fn := fun _ => fun
  | [d] => { results := [.lit (.bool false)], args := [d] }
  | _ => none }
def PresenceTruthWrongFalsely : Prop := presenceTruthRow.holds Tryz.pinned (OpenSpec.ofChange presenceTruthWrong)

/-- 'modscanlaw21.PresenceExists': WHATEVER THE INPUT: true; the input reads as it did. -/
def presenceExistsSpec : ChangeSpec := { name := "presenceExists", fn := fun _ => fun
  | [d] => { results := [.lit (.bool true)], args := [d] }
  | _ => none }
def presenceExistsRow : OpenClaim := { program := "ytoaoejaodhedaaagreat", sum := "e70dccea39dab7a12c4c6958370f3ec28f581c6d18e4fef14ceae9a7bdb8548d", func := "modscan/modscanlaw21.PresenceExists", spec := "presenceExists", unfollowed := true, recurses := true, apart := false }
def PresenceExistsSaid : Prop := presenceExistsRow.holds Tryz.pinned (OpenSpec.ofChange presenceExistsSpec)

/-- ITS FALSE NEIGHBOUR: 'it returns false'. Refute it at one input. -/
def presenceExistsWrong : ChangeSpec := { name := "presenceExists", fn := fun _ => fun
  | [d] => { results := [.lit (.bool false)], args := [d] }
  | _ => none }
def PresenceExistsWrongFalsely : Prop := presenceExistsRow.holds Tryz.pinned (OpenSpec.ofChange presenceExistsWrong)

/-- 'modscanlaw20.MasterHears': WHATEVER THE INPUT: true; the input reads as it did. -/
def masterHearsSpec : ChangeSpec := { name := "masterHears", fn := fun _ => fun
  | [d] => { results := [.lit (.bool true)], args := [d] }
  | _ => none }
def masterHearsRow : OpenClaim := { program := "ytoaoejaodhedaaagreat", sum := "e70dccea39dab7a12c4c6958370f3ec28f581c6d18e4fef14ceae9a7bdb8548d", func := "modscan/modscanlaw20.MasterHears", spec := "masterHears", unfollowed := true, recurses := true, apart := false }
def MasterHearsSaid : Prop := masterHearsRow.holds Tryz.pinned (OpenSpec.ofChange masterHearsSpec)

/-- ITS FALSE NEIGHBOUR: 'it returns false'. Refute it at one input. -/
def masterHearsWrong : ChangeSpec := { name := "masterHears", fn := fun _ => fun
  | [d] => { results := [.lit (.bool false)], args := [d] }
  | _ => none }
def MasterHearsWrongFalsely : Prop := masterHearsRow.holds Tryz.pinned (OpenSpec.ofChange masterHearsWrong)

/-- 'modscanlaw20.MasterSends': WHATEVER THE INPUT: true; the input reads as it did. -/
def masterSendsSpec : ChangeSpec := { name := "masterSends", fn := fun _ => fun
  | [d] => { results := [.lit (.bool true)], args := [d] }
  | _ => none }
def masterSendsRow : OpenClaim := { program := "ytoaoejaodhedaaagreat", sum := "e70dccea39dab7a12c4c6958370f3ec28f581c6d18e4fef14ceae9a7bdb8548d", func := "modscan/modscanlaw20.MasterSends", spec := "masterSends", unfollowed := true, recurses := true, apart := false }
def MasterSendsSaid : Prop := masterSendsRow.holds Tryz.pinned (OpenSpec.ofChange masterSendsSpec)

/-- ITS FALSE NEIGHBOUR: 'it returns false'. Refute it at one input. -/
def masterSendsWrong : ChangeSpec := { name := "masterSends", fn := fun _ => fun
  | [d] => { results := [.lit (.bool false)], args := [d] }
  | _ => none }
def MasterSendsWrongFalsely : Prop := masterSendsRow.holds Tryz.pinned (OpenSpec.ofChange masterSendsWrong)

/-- 'modscanlaw20.MasterScript': WHATEVER THE INPUT: true; the input reads as it did. -/
def masterScriptSpec : ChangeSpec := { name := "masterScript", fn := fun _ => fun
  | [d1, d2, d3] => { results := [.lit (.bool true)], args := [d1, d2, d3] }
  | _ => none }
def masterScriptRow : OpenClaim := { program := "ytoaoejaodhedaaagreat", sum := "e70dccea39dab7a12c4c6958370f3ec28f581c6d18e4fef14ceae9a7bdb8548d", func := "modscan/modscanlaw20.MasterScript", spec := "masterScript", unfollowed := true, recurses := true, apart := false }
def MasterScriptSaid : Prop := masterScriptRow.holds Tryz.pinned (OpenSpec.ofChange masterScriptSpec)

/-- ITS FALSE NEIGHBOUR: 'it returns false'. Refute it at one input. -/
def masterScriptWrong : ChangeSpec := { name := "masterScript", fn := fun _ => fun
  | [d1, d2, d3] => { results := [.lit (.bool false)], args := [d1, d2, d3] }
  | _ => none }
def MasterScriptWrongFalsely : Prop := masterScriptRow.holds Tryz.pinned (OpenSpec.ofChange masterScriptWrong)

/- THE SECOND FORM. 'bulk': how many values and letters a reading holds, each counted each time it is reached (what is shared counts as often as it is met; a slice's spare places count too). A statement '..UptoSaid' is the law's where the arguments, and the package variables that the reading takes, are together of bulk at most 1048576: NARROWER than '..Said'. Prove '..Said' where nothing that the law and all that it calls make is longer than what came in: it says more and counts as full. Else prove '..UptoSaid'. A law counts once. -/
mutual
def uptoBulk {H : Type} : DataW H → Nat
  | .lit (.string bytes) => bytes.length + 1
  | .lit _ => 1
  | .nil => 1
  | .ptr d => uptoBulk d + 1
  | .slice elems spare => uptoBulkAll elems + uptoBulkAll spare + 1
  | .agg parts => uptoBulkAll parts + 1
  | .iface _ d => uptoBulk d + 1
  | .map entries => uptoBulkEntries entries + 1
  | .held _ => 1
def uptoBulkAll {H : Type} : List (DataW H) → Nat
  | [] => 0
  | d :: r => uptoBulk d + uptoBulkAll r
def uptoBulkEntries {H : Type} : List (Lit × DataW H) → Nat
  | [] => 0
  | x :: r => uptoBulkEntry x + uptoBulkEntries r
def uptoBulkEntry {H : Type} : Lit × DataW H → Nat
  | (.string bytes, d) => bytes.length + uptoBulk d + 1
  | (_, d) => uptoBulk d + 1
 end
def uptoSmall : (H : Type) → List (DataW H) → Bool := fun _ ds => decide (uptoBulkAll ds ≤ 1048576)
def OpenSpec.upto (s : _root_.Go.ChangeSpec) : _root_.Go.OpenSpec := { _root_.Go.OpenSpec.ofChange s with cond := some uptoSmall }

/-- 'modscanlaw20.MasterFair', WHERE WHAT IT READS IS OF BULK AT MOST 1048576: true; the input reads as it did. -/
def masterFairUptoRow : OpenClaim := { program := "ytoaoejaodhedaaagreat", sum := "e70dccea39dab7a12c4c6958370f3ec28f581c6d18e4fef14ceae9a7bdb8548d", func := "modscan/modscanlaw20.MasterFair", spec := "masterFair", unfollowed := true, recurses := true, apart := false, narrowed := true }
def MasterFairUptoSaid : Prop := masterFairUptoRow.holds Tryz.pinned (OpenSpec.upto masterFairSpec)

/-- 'modscanlaw20.MasterErrors', WHERE WHAT IT READS IS OF BULK AT MOST 1048576: true; the input reads as it did. -/
def masterErrorsUptoRow : OpenClaim := { program := "ytoaoejaodhedaaagreat", sum := "e70dccea39dab7a12c4c6958370f3ec28f581c6d18e4fef14ceae9a7bdb8548d", func := "modscan/modscanlaw20.MasterErrors", spec := "masterErrors", unfollowed := true, recurses := true, apart := false, narrowed := true }
def MasterErrorsUptoSaid : Prop := masterErrorsUptoRow.holds Tryz.pinned (OpenSpec.upto masterErrorsSpec)

/-- 'modscanlaw21.PresenceTruth', WHERE WHAT IT READS IS OF BULK AT MOST 1048576: true; the input reads as it did. -/
def presenceTruthUptoRow : OpenClaim := { program := "ytoaoejaodhedaaagreat", sum := "e70dccea39dab7a12c4c6958370f3ec28f581c6d18e4fef14ceae9a7bdb8548d", func := "modscan/modscanlaw21.PresenceTruth", spec := "presenceTruth", unfollowed := true, recurses := true, apart := false, narrowed := true }
def PresenceTruthUptoSaid : Prop := presenceTruthUptoRow.holds Tryz.pinned (OpenSpec.upto presenceTruthSpec)

/-- 'modscanlaw21.PresenceExists', WHERE WHAT IT READS IS OF BULK AT MOST 1048576: true; the input reads as it did. -/
def presenceExistsUptoRow : OpenClaim := { program := "ytoaoejaodhedaaagreat", sum := "e70dccea39dab7a12c4c6958370f3ec28f581c6d18e4fef14ceae9a7bdb8548d", func := "modscan/modscanlaw21.PresenceExists", spec := "presenceExists", unfollowed := true, recurses := true, apart := false, narrowed := true }
def PresenceExistsUptoSaid : Prop := presenceExistsUptoRow.holds Tryz.pinned (OpenSpec.upto presenceExistsSpec)

/-- 'modscanlaw20.MasterHears', WHERE WHAT IT READS IS OF BULK AT MOST 1048576: true; the input reads as it did. -/
def masterHearsUptoRow : OpenClaim := { program := "ytoaoejaodhedaaagreat", sum := "e70dccea39dab7a12c4c6958370f3ec28f581c6d18e4fef14ceae9a7bdb8548d", func := "modscan/modscanlaw20.MasterHears", spec := "masterHears", unfollowed := true, recurses := true, apart := false, narrowed := true }
def MasterHearsUptoSaid : Prop := masterHearsUptoRow.holds Tryz.pinned (OpenSpec.upto masterHearsSpec)

/-- 'modscanlaw20.MasterSends', WHERE WHAT IT READS IS OF BULK AT MOST 1048576: true; the input reads as it did. -/
def masterSendsUptoRow : OpenClaim := { program := "ytoaoejaodhedaaagreat", sum := "e70dccea39dab7a12c4c6958370f3ec28f581c6d18e4fef14ceae9a7bdb8548d", func := "modscan/modscanlaw20.MasterSends", spec := "masterSends", unfollowed := true, recurses := true, apart := false, narrowed := true }
def MasterSendsUptoSaid : Prop := masterSendsUptoRow.holds Tryz.pinned (OpenSpec.upto masterSendsSpec)

/-- 'modscanlaw20.MasterScript', WHERE WHAT IT READS IS OF BULK AT MOST 1048576: true; the input reads as it did. -/
def masterScriptUptoRow : OpenClaim := { program := "ytoaoejaodhedaaagreat", sum := "e70dccea39dab7a12c4c6958370f3ec28f581c6d18e4fef14ceae9a7bdb8548d", func := "modscan/modscanlaw20.MasterScript", spec := "masterScript", unfollowed := true, recurses := true, apart := false, narrowed := true }
def MasterScriptUptoSaid : Prop := masterScriptUptoRow.holds Tryz.pinned (OpenSpec.upto masterScriptSpec)

end Rows
end Go.Proofs.YtoaoejaodhedaaaGreat
