/-
  Requests: bytes that are read as one are those that are written for it.
-/
import Derived.Test.YtigaolglnnjnmaaSfB
import Derived.Test.YtigaolglnnjnmaaRPure
namespace Go.Proofs.Ytigaolglnnjnmaa
open Go.Sx
set_option linter.unusedVariables false
set_option linter.unusedSimpArgs false
set_option maxRecDepth 100000
set_option maxHeartbeats 4000000

end Go.Proofs.Ytigaolglnnjnmaa
