/-
  No cell of these rows narrows 'for every input' (looked for: loops, veiled, ifaces, maps, wideKeys, modest, calm, conditions, laid).
  DERIVED. THE GIVEN ROWS OF THIS SEAT. 4 by the template 'for every input the law returns true; each argument reads behind the call as it read before'; 0 by the template 'total and deterministic' (their statements: YtoaajdbjlaffgaaTotals.lean).
  GIVEN WITH THE SEED: the statements are not yours to turn. If you find one false, say at which input.
  Laid BY PROGRAM, IN A SANDBOX (cutbox-rows.mjs): the forced cells as the released guide's own fill.sh prints them over the translation 3bbba03dd6850195… (all of the seat's roots in one cut). By AI agents, Wed Nov 11 2026. No macro, syntax, notation, axiom, sorry.
-/
import Derived.Test.YtoaajdbjlaffgaaChecked
import GoSem.Claim
import GoSem.ClaimJoined
import GoSem.ClaimMapViews
import Derived.JoinedTies
import Derived.KernelRfl
namespace Go.Proofs.Ytoaajdbjlaffgaa
/- THE CELL 'sum', in the pinned program and in every row, IS THE sha256 OF THE DUMP (.gsa) THAT YtoaajdbjlaffgaaProg.lean LOADS. Nothing in Lean hashes anything: it is a label: what it is worth is what the hold of that sum in a sandbox is worth. -/
noncomputable def Try.pinned : Pinned := { name := "ytoaajdbjlaffgaa", sum := "3bbba03dd68501959f69ac30fc8fc405332002504d2565d1d38821c6bf7be42d", checked := Try.checked }
namespace Rows
def none {H : Type} : Left H := { results := [], args := [] }

/-- 'modscanlaw19.LinkJudge': WHATEVER THE INPUT: true; the input reads as it did. -/
def linkJudgeSpec : ChangeSpec := { name := "linkJudge", fn := fun _ => fun
  | [d1, d2, d3, d4, d5, d6, d7, d8, d9] => { results := [.lit (.bool true)], args := [d1, d2, d3, d4, d5, d6, d7, d8, d9] }
  | _ => none }
def linkJudgeRow : OpenClaim := { program := "ytoaajdbjlaffgaa", sum := "3bbba03dd68501959f69ac30fc8fc405332002504d2565d1d38821c6bf7be42d", func := "modscan/modscanlaw19.LinkJudge", spec := "linkJudge", unfollowed := true, recurses := true, apart := false }
def LinkJudgeSaid : Prop := linkJudgeRow.holds Try.pinned (OpenSpec.ofChange linkJudgeSpec)

/-- ITS FALSE NEIGHBOUR: 'it returns false'. Refute it at one input. -/
def linkJudgeWrong : ChangeSpec := { name := "linkJudge", fn := fun _ => fun
  | [d1, d2, d3, d4, d5, d6, d7, d8, d9] => { results := [.lit (.bool false)], args := [d1, d2, d3, d4, d5, d6, d7, d8, d9] }
  | _ => none }
def LinkJudgeWrongFalsely : Prop := linkJudgeRow.holds Try.pinned (OpenSpec.ofChange linkJudgeWrong)

/-- 'modscanlaw19.LinkClean': WHATEVER THE INPUT: true; the input reads as it did. -/
def linkCleanSpec : ChangeSpec := { name := "linkClean", fn := fun _ => fun
  | [d1, d2, d3, d4, d5, d6, d7, d8, d9] => { results := [.lit (.bool true)], args := [d1, d2, d3, d4, d5, d6, d7, d8, d9] }
  | _ => none }
def linkCleanRow : OpenClaim := { program := "ytoaajdbjlaffgaa", sum := "3bbba03dd68501959f69ac30fc8fc405332002504d2565d1d38821c6bf7be42d", func := "modscan/modscanlaw19.LinkClean", spec := "linkClean", unfollowed := true, recurses := true, apart := false }
def LinkCleanSaid : Prop := linkCleanRow.holds Try.pinned (OpenSpec.ofChange linkCleanSpec)

/-- ITS FALSE NEIGHBOUR: 'it returns false'. Refute it at one input. -/
def linkCleanWrong : ChangeSpec := { name := "linkClean", fn := fun _ => fun
  | [d1, d2, d3, d4, d5, d6, d7, d8, d9] => { results := [.lit (.bool false)], args := [d1, d2, d3, d4, d5, d6, d7, d8, d9] }
  | _ => none }
def LinkCleanWrongFalsely : Prop := linkCleanRow.holds Try.pinned (OpenSpec.ofChange linkCleanWrong)

/-- 'modscanlaw19.LinkEnds': WHATEVER THE INPUT: true; the input reads as it did. -/
def linkEndsSpec : ChangeSpec := { name := "linkEnds", fn := fun _ => fun
  | [d1, d2, d3, d4, d5, d6, d7] => { results := [.lit (.bool true)], args := [d1, d2, d3, d4, d5, d6, d7] }
  | _ => none }
def linkEndsRow : OpenClaim := { program := "ytoaajdbjlaffgaa", sum := "3bbba03dd68501959f69ac30fc8fc405332002504d2565d1d38821c6bf7be42d", func := "modscan/modscanlaw19.LinkEnds", spec := "linkEnds", unfollowed := true, recurses := true, apart := false }
def LinkEndsSaid : Prop := linkEndsRow.holds Try.pinned (OpenSpec.ofChange linkEndsSpec)

/-- ITS FALSE NEIGHBOUR: 'it returns false'. Refute it at one input. -/
def linkEndsWrong : ChangeSpec := { name := "linkEnds", fn := fun _ => fun
  | [d1, d2, d3, d4, d5, d6, d7] => { results := [.lit (.bool false)], args := [d1, d2, d3, d4, d5, d6, d7] }
  | _ => none }
def LinkEndsWrongFalsely : Prop := linkEndsRow.holds Try.pinned (OpenSpec.ofChange linkEndsWrong)

/-- 'modscanlaw19.LinkNone': WHATEVER THE INPUT: true; the input reads as it did. -/
def linkNoneSpec : ChangeSpec := { name := "linkNone", fn := fun _ => fun
  | [] => { results := [.lit (.bool true)], args := [] }
  | _ => none }
def linkNoneRow : OpenClaim := { program := "ytoaajdbjlaffgaa", sum := "3bbba03dd68501959f69ac30fc8fc405332002504d2565d1d38821c6bf7be42d", func := "modscan/modscanlaw19.LinkNone", spec := "linkNone", unfollowed := true, recurses := true, apart := false }
def LinkNoneSaid : Prop := linkNoneRow.holds Try.pinned (OpenSpec.ofChange linkNoneSpec)

/-- ITS FALSE NEIGHBOUR: 'it returns false'. Refute it at one input. -/
def linkNoneWrong : ChangeSpec := { name := "linkNone", fn := fun _ => fun
  | [] => { results := [.lit (.bool false)], args := [] }
  | _ => none }
def LinkNoneWrongFalsely : Prop := linkNoneRow.holds Try.pinned (OpenSpec.ofChange linkNoneWrong)

/- THE SECOND FORM. 'bulk': how many values and letters a reading holds, each counted each time it is reached (what is shared counts as often as it is met; a slice's spare places count too). A statement '..UptoSaid' is the law's where the arguments, and the package variables that the reading takes, are together of bulk at most 1048576: NARROWER than '..Said'. Prove '..Said' where nothing that the law and all that it calls make is longer than what came in: it says more and counts as full. Else prove '..UptoSaid'. A law counts once. -/
mutual
def uptoBulk {H : Type} : DataW H → Nat
  | .lit (.string bytes) => bytes.length + 1
  | .lit _ => 1
  | .nil => 1
  | .ptr d => uptoBulk d + 1
  | .slice elems spare => uptoBulkAll elems + uptoBulkAll spare + 1
  | .agg parts => uptoBulkAll parts + 1
  | .iface _ d => uptoBulk d + 1
  | .map entries => uptoBulkEntries entries + 1
  | .held _ => 1
def uptoBulkAll {H : Type} : List (DataW H) → Nat
  | [] => 0
  | d :: r => uptoBulk d + uptoBulkAll r
def uptoBulkEntries {H : Type} : List (Lit × DataW H) → Nat
  | [] => 0
  | x :: r => uptoBulkEntry x + uptoBulkEntries r
def uptoBulkEntry {H : Type} : Lit × DataW H → Nat
  | (.string bytes, d) => bytes.length + uptoBulk d + 1
  | (_, d) => uptoBulk d + 1
 end
def uptoSmall : (H : Type) → List (DataW H) → Bool := fun _ ds => decide (uptoBulkAll ds ≤ 1048576)
def OpenSpec.upto (s : _root_.Go.ChangeSpec) : _root_.Go.OpenSpec := { _root_.Go.OpenSpec.ofChange s with cond := some uptoSmall }

/-- 'modscanlaw19.LinkJudge', WHERE WHAT IT READS IS OF BULK AT MOST 1048576: true; the input reads as it did. -/
def linkJudgeUptoRow : OpenClaim := { program := "ytoaajdbjlaffgaa", sum := "3bbba03dd68501959f69ac30fc8fc405332002504d2565d1d38821c6bf7be42d", func := "modscan/modscanlaw19.LinkJudge", spec := "linkJudge", unfollowed := true, recurses := true, apart := false, narrowed := true }
def LinkJudgeUptoSaid : Prop := linkJudgeUptoRow.holds Try.pinned (OpenSpec.upto linkJudgeSpec)

/-- 'modscanlaw19.LinkClean', WHERE WHAT IT READS IS OF BULK AT MOST 1048576: true; the input reads as it did. -/
def linkCleanUptoRow : OpenClaim := { program := "ytoaajdbjlaffgaa", sum := "3bbba03dd68501959f69ac30fc8fc405332002504d2565d1d38821c6bf7be42d", func := "modscan/modscanlaw19.LinkClean", spec := "linkClean", unfollowed := true, recurses := true, apart := false, narrowed := true }
def LinkCleanUptoSaid : Prop := linkCleanUptoRow.holds Try.pinned (OpenSpec.upto linkCleanSpec)

/-- 'modscanlaw19.LinkEnds', WHERE WHAT IT READS IS OF BULK AT MOST 1048576: true; the input reads as it did. -/
def linkEndsUptoRow : OpenClaim := { program := "ytoaajdbjlaffgaa", sum := "3bbba03dd68501959f69ac30fc8fc405332002504d2565d1d38821c6bf7be42d", func := "modscan/modscanlaw19.LinkEnds", spec := "linkEnds", unfollowed := true, recurses := true, apart := false, narrowed := true }
def LinkEndsUptoSaid : Prop := linkEndsUptoRow.holds Try.pinned (OpenSpec.upto linkEndsSpec)

/-- 'modscanlaw19.LinkNone', WHERE WHAT IT READS IS OF BULK AT MOST 1048576: true; the input reads as it did. -/
def linkNoneUptoRow : OpenClaim := { program := "ytoaajdbjlaffgaa", sum := "3bbba03dd68501959f69ac30fc8fc405332002504d2565d1d38821c6bf7be42d", func := "modscan/modscanlaw19.LinkNone", spec := "linkNone", unfollowed := true, recurses := true, apart := false, narrowed := true }
def LinkNoneUptoSaid : Prop := linkNoneUptoRow.holds Try.pinned (OpenSpec.upto linkNoneSpec)

end Rows
end Go.Proofs.Ytoaajdbjlaffgaa
