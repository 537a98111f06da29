/-
  The contract of the reference's ValidReply: device identifications, part 3.
-/
import Derived.Test.YtliblgmpclefgaaGreatRecD
namespace Go.Proofs.YtliblgmpclefgaaGreat
open Go.RowKit
end Go.Proofs.YtliblgmpclefgaaGreat
