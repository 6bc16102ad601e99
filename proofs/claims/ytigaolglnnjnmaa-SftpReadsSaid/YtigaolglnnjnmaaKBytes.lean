/-
  Lists of bytes: held against one another.
-/
import Derived.Test.YtigaolglnnjnmaaSxOpen
import Derived.Test.YtigaolglnnjnmaaRd1
namespace Go.Proofs.Ytigaolglnnjnmaa
open Go.Sx
set_option linter.unusedVariables false
set_option linter.unusedSimpArgs false
set_option maxRecDepth 100000
set_option maxHeartbeats 4000000

def Sq.cs (s : Slv UInt8) : List Value := [s.v]
theorem Sq.len (s : Slv UInt8) : (Sq.cs s).length = 1 := rfl
theorem Sq.one (s : Slv UInt8) : ∀ v ∈ Sq.cs s, v.oneCell' = true := fun v hv => by rw [List.mem_singleton.1 hv]; rfl
end Go.Proofs.Ytigaolglnnjnmaa
