/-
  Package strongroomref14: Right, Merge.
  Package strongroomref15: Set.
-/
import Derived.Test.YtlefpllcgcicpaaGreatDoorRfF
namespace Go.Proofs.YtlefpllcgcicpaaGreatDoor
open Go.Sx
set_option linter.unusedVariables false
set_option linter.unusedSimpArgs false
set_option maxRecDepth 100000
set_option maxHeartbeats 4000000

/-- what a right one is -/
structure At.Good (x : At) : Prop where
  f : x.f ≤ 15
  s : x.f &&& 1 = 0 → x.s = 0
  u : x.f &&& 2 = 0 → x.u = 0
  g : x.f &&& 2 = 0 → x.g = 0
  m : x.f &&& 4 = 0 → x.m = 0
  a : x.f &&& 8 = 0 → x.a = 0
  t : x.f &&& 8 = 0 → x.t = 0
end Go.Proofs.YtlefpllcgcicpaaGreatDoor
namespace Go.Proofs.YtlefpllcgcicpaaGreatDoor
open Go.Sx
set_option linter.unusedVariables false
set_option linter.unusedSimpArgs false
set_option maxRecDepth 100000
set_option maxHeartbeats 4000000

def Th.att (x : Th) (a : At) : Th := { x with a := a }
/-- what Set does -/
def SetW (w : Rt) (id : Int) (bw : At) (w' : Rt) (e : Int) : Prop :=
  (tAt w.L id = none ∧ e = 22 ∧ w' = w) ∨ ∃ i x, w.L[i]? = some x ∧ tAt w.L id = some x ∧
    ((bw.right = false ∧ e = 1 ∧ w' = w) ∨ (bw.right = true ∧ bw.f &&& 1 ≠ 0 ∧ x.dir = true ∧ e = 23 ∧ w' = w) ∨ (bw.right = true ∧ bw.f &&& 1 ≠ 0 ∧ x.dir = false ∧ szR w.L x bw.s = e ∧ e ≠ 0 ∧ w' = w) ∨
     (bw.right = true ∧ e = 0 ∧ w'.tb = w.tb ∧ w'.next = w.next ∧ ∃ y, w'.L = w.L.set i (y.att { x.a.merge bw with s := 0 }) ∧
       ((bw.f &&& 1 = 0 ∧ y = x) ∨ (bw.f &&& 1 ≠ 0 ∧ x.dir = false ∧ szR w.L x bw.s = 0 ∧ ∃ p c, y = x.with p c (szd x.b bw.s)))))
end Go.Proofs.YtlefpllcgcicpaaGreatDoor
