/-
  Package auth: the gate.
-/
import Derived.Test.YtigaolglnnjnmaaAuthA
import Derived.Test.YtigaolglnnjnmaaNames
namespace Go.Proofs.Ytigaolglnnjnmaa
open Go.Sx
set_option linter.unusedVariables false
set_option linter.unusedSimpArgs false
set_option maxRecDepth 100000
set_option maxHeartbeats 4000000

structure Gs where
  sv : Bool
  tries : Nat
  user : List UInt8
  inn : Bool
  dead : Bool
def Gs.zero : Gs := ⟨false, 0, [], false, false⟩
abbrev gt (bg : Nat) (p : Option Addr) (k c : Nat) (g : Gs) : HProp := own bg (.cells #[.slice p k c, .bool g.sv, .int .i64 (g.tries : Int), .string (str g.user), .bool g.inn, .bool g.dead] 99 (0, 0))
/-- one payload as an answer -/
abbrev ans (b : Nat) (p : Option Addr) (c : Nat) (x : List UInt8) : List HProp := [row 32 1 (.slice (some ⟨b, 0, none⟩) 1 1) 1 [.slice p x.length c], row 5 1 (.slice p x.length c) x.length (cel x)]
def Ans (v : Value) (o : Option (List UInt8)) (K : List HProp) : Prop := (o = none ∧ v = .slice none 0 0 ∧ K = []) ∨ ∃ x b p c, o = some x ∧ v = .slice (some ⟨b, 0, none⟩) 1 1 ∧ K = ans b p c x
/-- an answer, as one thing -/
def ansP (v : Value) (o : Option (List UInt8)) : HProp := fun c h => ∃ K, Ans v o K ∧ St K c h
def byeB (n : Nat) : List UInt8 := [b8 1] ++ be n 4 ++ be 0 4 ++ be 0 4


end Go.Proofs.Ytigaolglnnjnmaa
