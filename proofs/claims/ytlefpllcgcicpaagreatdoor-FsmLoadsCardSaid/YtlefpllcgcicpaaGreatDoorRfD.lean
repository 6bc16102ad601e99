/-
  Package strongroomref15: Make, Remove.
-/
import Derived.Test.YtlefpllcgcicpaaGreatDoorRfC
set_option linter.unusedVariables false
set_option linter.unusedSimpArgs false
namespace Go.Proofs.YtlefpllcgcicpaaGreatDoor
open Go.Sx
set_option maxRecDepth 100000
set_option maxHeartbeats 4000000
def newTh (n : Nat) (k : Int) (dir : Bool) (nm : List UInt8) : Th := ⟨n, k, nm, dir, none, 0, [], mkA dir⟩
def mkE (l : List Th) (p : List (List UInt8)) : Int := if p = [] then 1 else if (holdR l p).2 ≠ 0 then (holdR l p).2 else if 200 ≤ l.length then 13 else 0
def MakeW (w : Rt) (p : List (List UInt8)) (dir : Bool) (w' : Rt) (i e : Int) : Prop :=
 (e ≠ 0 ∧ i = 0 ∧ w' = w ∧ e = mkE w.L p) ∨ (e = 0 ∧ mkE w.L p = 0 ∧ i = w.next ∧ w'.tb = w.tb ∧ w'.next = w.next + 1 ∧ w'.L = w.L ++ [newTh w.next (holdR w.L p).1 dir (lastN p)])
open Classical in
noncomputable def rmE (l : List Th) (p : List (List UInt8)) (dir : Bool) : Int := if p = [] then 1 else if (lookR l 0 p).2 ≠ 0 then 22 else if dirR l (lookR l 0 p).1 ≠ dir then 23 else if ∃ x ∈ l, x.par = (lookR l 0 p).1 then 27 else 0
def RemW (w : Rt) (p : List (List UInt8)) (dir : Bool) (w' : Rt) (e : Int) : Prop :=
 (e ≠ 0 ∧ w' = w ∧ e = rmE w.L p dir) ∨ (e = 0 ∧ rmE w.L p dir = 0 ∧ w'.tb = w.tb ∧ w'.next = w.next ∧ w'.L = w.L.filter fun x => decide ((x.id : Int) ≠ (lookR w.L 0 p).1))
end Go.Proofs.YtlefpllcgcicpaaGreatDoor
