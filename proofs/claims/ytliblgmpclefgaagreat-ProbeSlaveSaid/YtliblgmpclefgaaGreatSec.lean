/-
  The reference's search: NewSearch, Refused, Next.
-/
import Derived.Test.YtliblgmpclefgaaGreatMsr
namespace Go.Proofs.YtliblgmpclefgaaGreat
open Go.RowKit

def Sr.rcells (s : Sr) : Array Value := #[.int .i64 s.tb, .int .i64 s.lo, .int .i64 s.hi, .int .i64 s.cnt, .int .i64 s.st]
def refB (v x k : Int) : Bool := v == 2 && x == k
end Go.Proofs.YtliblgmpclefgaaGreat
