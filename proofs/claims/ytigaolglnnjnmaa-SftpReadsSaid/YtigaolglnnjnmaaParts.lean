/-
  A text cut at a byte: its parts; strings.Split's pieces are these; joined again they are the text.
-/
import Derived.Test.YtigaolglnnjnmaaRd1
import Derived.Lib.SplitLaws
namespace Go.Sx
set_option linter.unusedVariables false
set_option linter.unusedSimpArgs false
def parts (c : UInt8) : List UInt8 → List (List UInt8)
  | [] => [[]]
  | x :: l => if x = c then [] :: parts c l else match parts c l with
    | h :: t => (x :: h) :: t
    | [] => [[x]]
/-- x ahead of the first part -/
def pre (x : List UInt8) : List (List UInt8) → List (List UInt8)
  | h :: t => (x ++ h) :: t
  | [] => [x]
/-- texts with a byte between -/
def joinc (c : UInt8) : List (List UInt8) → List UInt8
  | [] => []
  | [x] => x
  | x :: y :: t => x ++ c :: joinc c (y :: t)
end Go.Sx
