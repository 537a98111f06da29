/-
  Several texts of this claim in one file.
-/
import Derived.Test.YtliblgmpclefgaaGreatRecD
/-
The contract of the reference's ValidReply: device identifications, part 1.
-/
namespace Go.Proofs.YtliblgmpclefgaaGreat
open Go.RowKit
end Go.Proofs.YtliblgmpclefgaaGreat

/-
The contract of the reference's ValidReply: device identifications, part 2.
-/
namespace Go.Proofs.YtliblgmpclefgaaGreat
open Go.RowKit
end Go.Proofs.YtliblgmpclefgaaGreat
