/-
  A small number as a text of one rune.
-/
import Derived.Test.YtlefpllcgcicpaaGreatDoorSxSub
set_option linter.unusedVariables false
set_option linter.unusedSimpArgs false
namespace Go.Sx
section
variable {P : Program} {n : Nat} {Γ : Env} {d : Option Tmp} {ty : TypeId} {pos : String} {aft : Array Edge} {g : Option (Nat × Bool)} {L : HProp}
end
end Go.Sx
