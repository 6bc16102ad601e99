/-
  Package auth: tries, logins.
-/
import Derived.Test.YtigaolglnnjnmaaAuthC
import Derived.Test.YtigaolglnnjnmaaRef1W
namespace Go.Proofs.Ytigaolglnnjnmaa
open Go.Sx
set_option linter.unusedVariables false
set_option linter.unusedSimpArgs false
set_option maxRecDepth 100000
set_option maxHeartbeats 4000000

def tryB : List UInt8 := [51, 0, 0, 0, 8, 112, 97, 115, 115, 119, 111, 114, 100, 0]
def gTry (g : Gs) : Gs × Option (List UInt8) := if 5 ≤ g.tries + 1 then gEnd { g with tries := g.tries + 1 } 14 else ({ g with tries := g.tries + 1 }, some tryB)
def gLog2 (g : Gs) (us : List Us) (name : List UInt8) (b : Nat) (e : Int) (pass : List UInt8) : Gs × Option (List UInt8) := if b ≠ 0 ∨ e ≠ 0 then gEnd g 2 else if (⟨name, pass⟩ : Us) ∈ us then ({ g with user := name, inn := true }, some [52]) else gTry g
def gLogE (g : Gs) (us : List Us) (w : Int) (name svc meth : List UInt8) (r3 : R) : Gs × Option (List UInt8) := if w ≠ 0 ∨ g.sv = false then gEnd g 2 else if g.inn = true then (g, none) else if svc ≠ tConn then gEnd g 7 else if meth ≠ tPass then gTry g else gLog2 g us name (r3.get 1).2 ((r3.get 1).1.text 64).1.fin.1 ((r3.get 1).1.text 64).2
def gLogin (g : Gs) (us : List Us) (r : R) : Gs × Option (List UInt8) := gLogE g us (((r.text 64).1.text 64).1.text 64).1.why (r.text 64).2 ((r.text 64).1.text 64).2 (((r.text 64).1.text 64).1.text 64).2 (((r.text 64).1.text 64).1.text 64).1


end Go.Proofs.Ytigaolglnnjnmaa
