/-
  make and copy, of bytes.
  A part of a slice: where it lies, without a look at the heap.
  Package auth: users.
-/
import Derived.Test.YtigaolglnnjnmaaRd1
import Derived.Laws.MakeOwn
import Derived.Laws.IdiomCopy
import Derived.Test.YtigaolglnnjnmaaWire2
namespace Go.Sx
set_option linter.unusedVariables false
set_option linter.unusedSimpArgs false
section
variable {P : Program} {n : Nat} {Γ : Env} {d : Option Tmp} {ty : TypeId} {pos : String} {aft : Array Edge} {g : Option (Nat × Bool)}
end
end Go.Sx
namespace Go.Sx
set_option linter.unusedVariables false
def subp (p : Option Addr) (c size l : Nat) : Option Addr := p.map fun a => if c = l then a else ⟨a.block, a.off + l * size, Option.none⟩
/-- what is known of where a slice lies -/
def Shp (p : Option Addr) (k c : Nat) : Prop := ((p = Option.none ∧ k = 0 ∧ c = 0) ∨ ∃ b o, p = some ⟨b, o, Option.none⟩) ∧ k ≤ c
section
variable {P : Program} {n : Nat} {Γ : Env} {d : Option Tmp} {ty : TypeId} {pos : String} {aft : Array Edge} {g : Option (Nat × Bool)} {L : HProp}
end
end Go.Sx
namespace Go.Proofs.Ytigaolglnnjnmaa
open Go.Sx
set_option linter.unusedVariables false
set_option linter.unusedSimpArgs false
set_option maxRecDepth 100000
set_option maxHeartbeats 4000000

structure Us where
  name : List UInt8
  pass : List UInt8
deriving DecidableEq
def Us.cs (u : Us) : List Value := [.string (str u.name), .string (str u.pass)]
theorem Us.len (u : Us) : u.cs.length = 2 := rfl
theorem Us.one (u : Us) : ∀ v ∈ u.cs, v.oneCell' = true := fun v hv => by
  simp only [Us.cs, List.mem_cons, List.not_mem_nil, or_false] at hv
  rcases hv with rfl | rfl <;> rfl
section
variable {n : Nat} {L : HProp} {Γ : Env} {d : Option Tmp} {ty : TypeId} {pos : String} {aft : Array Edge} {g : Option (Nat × Bool)}
end


end Go.Proofs.Ytigaolglnnjnmaa
