/-
  The contract of the reference's ValidReply: device identifications, part 3.
-/
import Derived.Test.YtliblgmpclefgaaRecD
namespace Go.Proofs.Ytliblgmpclefgaa
open Go.RowKit
end Go.Proofs.Ytliblgmpclefgaa
