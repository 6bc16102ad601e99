/-
  Package auth: payloads.
-/
import Derived.Test.YtigaolglnnjnmaaAuthD
namespace Go.Proofs.Ytigaolglnnjnmaa
open Go.Sx
set_option linter.unusedVariables false
set_option linter.unusedSimpArgs false
set_option maxRecDepth 100000
set_option maxHeartbeats 4000000

/-- what a payload does, and what is answered -/
def gDo (g : Gs) (us : List Us) : List UInt8 → Gs × Option (List UInt8)
  | [] => (g, none)
  | x :: rest => if g.dead = true then (g, none) else if x.toNat = 1 then ({ g with dead := true }, none) else if x.toNat = 2 ∨ x.toNat = 3 ∨ x.toNat = 4 then (g, none) else if x.toNat = 5 then gAsk g (R.new rest) else if x.toNat = 50 then gLogin g us (R.new rest) else gEnd g 2
end Go.Proofs.Ytigaolglnnjnmaa
