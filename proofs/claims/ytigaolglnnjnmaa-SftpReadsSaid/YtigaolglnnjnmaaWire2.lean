/-
  More of what the writer does: numbers as texts; texts cut.
-/
import Derived.Test.YtigaolglnnjnmaaRead
import Derived.Test.YtigaolglnnjnmaaSxLock
namespace Go.Proofs.Ytigaolglnnjnmaa
open Go.Sx
set_option linter.unusedVariables false
set_option linter.unusedSimpArgs false
set_option maxRecDepth 100000

/-- no more of a text than n -/
def hd (s : ByteArray) (n : Nat) : ByteArray := if n < s.size then s.extract 0 n else s
/-- without noughts ahead -/
def bare (l : List UInt8) : List UInt8 := l.dropWhile (fun d => d == 0)
def top (b : List UInt8) : List UInt8 := match b with | [] => [] | d :: l => if 128 ≤ d.toNat then 0 :: d :: l else d :: l
/-- a number as a text -/
def mp (l : List UInt8) : List UInt8 := be (top (bare l)).length 4 ++ top (bare l)
end Go.Proofs.Ytigaolglnnjnmaa
