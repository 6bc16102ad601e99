/-
  So many noughts are appended to a row of one-cell elements, whether there is room or not.
-/
import Derived.Test.YtlefpllcgcicpaaGreatDoorSxSub
set_option linter.unusedVariables false
set_option linter.unusedSimpArgs false
namespace Go.Sx
set_option maxRecDepth 100000
section
variable {P : Program} {n : Nat} {Γ : Env} {d : Option Tmp} {ty : TypeId} {pos : String} {aft : Array Edge} {g : Option (Nat × Bool)}
end
end Go.Sx
