/-
  Several texts of this claim in one file.
-/
import Derived.Test.YtliblgmpclefgaaRecD
/-
The contract of the reference's ValidReply: device identifications, part 1.
-/
namespace Go.Proofs.Ytliblgmpclefgaa
open Go.RowKit
end Go.Proofs.Ytliblgmpclefgaa

/-
The contract of the reference's ValidReply: device identifications, part 2.
-/
namespace Go.Proofs.Ytliblgmpclefgaa
open Go.RowKit
end Go.Proofs.Ytliblgmpclefgaa
