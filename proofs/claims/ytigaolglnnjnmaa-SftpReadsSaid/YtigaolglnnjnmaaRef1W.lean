/-
  The other writers of package strongroomref1; Bool and Raw of the writer.
-/
import Derived.Test.YtigaolglnnjnmaaRef1
import Derived.Test.YtigaolglnnjnmaaNames
namespace Go.Proofs.Ytigaolglnnjnmaa
open Go.Sx
set_option linter.unusedVariables false
set_option linter.unusedSimpArgs false
set_option maxRecDepth 100000

theorem conv_b8 (i : Int) : IntKind.u8.wrap i = ((b8 i).toNat : Int) := by
  rw [wrap_u8_mod]; unfold b8; rw [UInt8.toNat_ofNat']; omega
end Go.Proofs.Ytigaolglnnjnmaa
