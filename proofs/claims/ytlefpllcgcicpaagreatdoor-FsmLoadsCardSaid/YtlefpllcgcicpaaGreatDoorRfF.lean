/-
  Package strongroomref15: a file has so many bytes.
  Package strongroomref15: Write.
-/
import Derived.Test.YtlefpllcgcicpaaGreatDoorRfD
import Derived.Test.YtlefpllcgcicpaaGreatDoorPPath
import Derived.Test.YtlefpllcgcicpaaGreatDoorSxAppZ
import Derived.Test.YtlefpllcgcicpaaGreatDoorTrTb
import Derived.Test.YtlefpllcgcicpaaGreatDoorSxSub
import Derived.Test.YtlefpllcgcicpaaGreatDoorTrK
set_option linter.unusedVariables false
set_option linter.unusedSimpArgs false
namespace Go.Proofs.YtlefpllcgcicpaaGreatDoor
open Go.Sx
set_option maxRecDepth 100000
set_option maxHeartbeats 4000000
def szR (l : List Th) (x : Th) (n : Nat) : Int := if 1048576 < n then 3 else if 1048576 < (l.map fun y : Th => y.b.length).sum - x.b.length + n then 13 else 0
def Th.with (x : Th) (p : Option Addr) (c : Nat) (b : List UInt8) : Th := { x with bp := p, bc := c, b := b }
/-- the file x at the place i has n bytes now, or not -/
def SizeW (w : Rt) (i : Nat) (x : Th) (n : Nat) (w' : Rt) (e : Int) : Prop :=
 (e ≠ 0 ∧ w' = w ∧ e = szR w.L x n) ∨ (e = 0 ∧ szR w.L x n = 0 ∧ w'.tb = w.tb ∧ w'.next = w.next ∧ ∃ p c, w'.L = w.L.set i (x.with p c (szd x.b n)))
theorem flat_cel : ∀ l : List UInt8, flat (fun b => [byteV b]) l = cel l
 | [] => rfl
 | b :: l => by rw [yW, flat_cel l]; rfl
/-- what Write does: to w the bytes b at the place at' of the file id -/
def WriteW (w : Rt) (id : Int) (at' : Nat) (b : List UInt8) (w' : Rt) (e : Int) : Prop :=
 (fileR w.L id = (0, e) ∧ e ≠ 0 ∧ w' = w) ∨ ∃ i x, w.L[i]? = some x ∧ tAt w.L id = some x ∧ x.dir = false ∧
  ((b.length = 0 ∧ e = 0 ∧ w' = w) ∨ (0 < b.length ∧ 1048576 < at' + b.length ∧ e = 3 ∧ w' = w) ∨
   (0 < b.length ∧ at' + b.length ≤ 1048576 ∧ ((szR w.L x (max (at' + b.length) x.b.length) = e ∧ e ≠ 0 ∧ w' = w) ∨ (szR w.L x (max (at' + b.length) x.b.length) = 0 ∧ e = 0 ∧ w'.tb = w.tb ∧ w'.next = w.next ∧ ∃ p c, w'.L = w.L.set i (x.with p c (wr2 (szd x.b (max (at' + b.length) x.b.length)) at' b))))))
end Go.Proofs.YtlefpllcgcicpaaGreatDoor
