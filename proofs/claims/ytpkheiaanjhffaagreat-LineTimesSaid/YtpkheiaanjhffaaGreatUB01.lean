/-
  Texts B1 of the claim.
-/
import Derived.Test.YtpkheiaanjhffaaGreatRows
import Derived.Test.YtpkheiaanjhffaaGreatU01
import Derived.Test.YtpkheiaanjhffaaGreatU05
import Derived.Test.YtpkheiaanjhffaaGreatU03
import Derived.Deep.QuietTactic
import Derived.BigQuiet
import Derived.Deep.RegionHeld3
namespace Go.Proofs.YtpkheiaanjhffaaGreat
open Go.RowKit
def drainT (b timeout delay : Int) : Int := 2 * t35T b + timeout + delay + 257 * charT b
end Go.Proofs.YtpkheiaanjhffaaGreat
