/-
  A small number as a text of one rune.
-/
import Derived.Test.YtlefpllcgcicpaaGreatDoorSxSub
namespace Go.Sx
set_option linter.unusedVariables false
set_option linter.unusedSimpArgs false
theorem encode_small {m : Nat} (h : m < 128) : Utf8.encode (m : Int) = str [UInt8.ofNat m] := by
  have hv : Utf8.valid (m : Int) = true := by
    unfold Utf8.valid
    have h1 : (0 : Int) ≤ (m : Int) := by omega
    have h2 : (m : Int) < 0xD800 := by omega
    rw [decide_eq_true h1, decide_eq_true h2]; rfl
  unfold Utf8.encode
  rw [if_pos hv]
  simp only [Int.toNat_natCast]
  rw [if_pos (by omega)]
  rfl
section
variable {P : Program} {n : Nat} {Γ : Env} {d : Option Tmp} {ty : TypeId} {pos : String} {aft : Array Edge} {g : Option (Nat × Bool)} {L : HProp}
theorem ro_runeStr {t t' : TypeId} {x : Operand} {k : IntKind} {dd : TypeDesc} {a : Int} (m : Nat) (hs : P.underlying t = some dd) (ht : P.underlying t' = some .string) (hx : ev Γ x = some (.int k a)) (hm : m < 128) (ha : a = (m : Int)) :
    RO P n L Γ ⟨d, .convert t t' x, ty, pos, aft, g⟩ (.string (str [UInt8.ofNat m])) := fun e w R f s => by
  subst ha
  have h1 := encode_small hm
  cases dd <;> simp [execOp, f.ev hx, convert, run_underlying hs, run_underlying ht, Conv.intToString, h1]
end
end Go.Sx
