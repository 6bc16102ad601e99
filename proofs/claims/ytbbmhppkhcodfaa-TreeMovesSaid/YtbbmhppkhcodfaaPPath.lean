/-
  A row is cut short.
  A text cut at a byte: its parts; strings.Split's pieces are these; joined again they are the text.
  Paths: what Split, Join, Clean tell; plain laws.
-/
import Derived.Test.YtbbmhppkhcodfaaSxSub
import Derived.Lib.SplitLaws
namespace Go.Sx
set_option linter.unusedVariables false
section
variable {P : Program} {n : Nat} {Γ : Env} {d : Option Tmp} {ty : TypeId} {pos : String} {aft : Array Edge} {g : Option (Nat × Bool)}
end
end Go.Sx
namespace Go.Sx
set_option linter.unusedVariables false
set_option linter.unusedSimpArgs false
def parts (c : UInt8) : List UInt8 → List (List UInt8)
  | [] => [[]]
  | x :: l => if x = c then [] :: parts c l else match parts c l with
    | h :: t => (x :: h) :: t
    | [] => [[x]]
/-- x ahead of the first part -/
def pre (x : List UInt8) : List (List UInt8) → List (List UInt8)
  | h :: t => (x ++ h) :: t
  | [] => [x]
/-- texts with a byte between -/
def joinc (c : UInt8) : List (List UInt8) → List UInt8
  | [] => []
  | [x] => x
  | x :: y :: t => x ++ c :: joinc c (y :: t)
end Go.Sx
namespace Go.Sx
set_option linter.unusedVariables false
set_option linter.unusedSimpArgs false
abbrev Tt := List UInt8
def ptB (b : UInt8) : Bool := decide (b.toNat ≠ 0) && decide (b.toNat ≠ 47)
/-- may it be a name? -/
def ptOk (s : Tt) : Bool := s.all ptB && decide (1 ≤ s.length) && decide (s.length ≤ 30) && decide (s ≠ [46]) && decide (s ≠ [46, 46])
def pStep : Option (List Tt) → Tt → Option (List Tt)
  | none, _ => none
  | some out, x => if x = [] ∨ x = [46] then some out else if x = [46, 46] then some out.dropLast else if ptOk x = true then some (out ++ [x]) else none
def pRun (acc : Option (List Tt)) (l : List Tt) : Option (List Tt) := l.foldl pStep acc
def pSplit (s : Tt) : List Tt × Int := if 200 < s.length then ([], 3) else match pRun (some []) (parts 47 s) with
  | none => ([], 20)
  | some l => (l, 0)
def pJoin (l : List Tt) : Tt := if l = [] then [47] else 47 :: joinc 47 l
def pClean (s : Tt) : Tt × Int := if (pSplit s).2 ≠ 0 then ([], (pSplit s).2) else (pJoin (pSplit s).1, 0)
/-- how long what comes out is -/
def ptLen (l : List Tt) : Nat := (l.map fun x => x.length + 1).sum
end Go.Sx
