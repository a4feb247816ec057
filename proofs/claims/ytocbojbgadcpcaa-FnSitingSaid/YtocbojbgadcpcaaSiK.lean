/-
  OWN WORK: the reference's search for the cheapest cover.
-/
import Derived.Test.YtocbojbgadcpcaaSiJ
namespace Go.Proofs.Ytocbojbgadcpcaa
open Go Go.Own Go.Proofs
set_option maxHeartbeats 4000000
set_option maxRecDepth 20000
set_option linter.unusedSimpArgs false
end Go.Proofs.Ytocbojbgadcpcaa
