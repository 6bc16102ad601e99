/-
  Texts joined; names written; the runs of chapter 1.
-/
import Derived.Test.YtigaolglnnjnmaaWire2
import Derived.Test.YtigaolglnnjnmaaLib
namespace Go.Proofs.Ytigaolglnnjnmaa
open Go.Sx
set_option linter.unusedVariables false
set_option linter.unusedSimpArgs false
set_option maxRecDepth 100000

open Go.RowKit
/-- texts, joined -/
def joined (xs : List (List UInt8)) (sep : List UInt8) : List UInt8 := Lib.join xs sep
end Go.Proofs.Ytigaolglnnjnmaa
