/-
  What the writers and the reader of package strongroomref1 do.
-/
import Derived.Test.YtigaolglnnjnmaaRead
import Derived.Test.YtigaolglnnjnmaaPAttr
namespace Go.Proofs.Ytigaolglnnjnmaa
open Go.Sx
set_option linter.unusedVariables false
set_option linter.unusedSimpArgs false
set_option maxRecDepth 100000

/-- a slice of ours that has these bytes -/
def Rowo (v : Value) (l : List UInt8) (A : HProp) : Prop := ∃ p c, v = .slice p l.length c ∧ A = row 5 1 (.slice p l.length c) l.length (cel l)
theorem shr32 (n s : Nat) (h : s ≤ 3) : ((n : Nat) : Int).fdiv (2 ^ (min ((8 * s : Nat) : Int).toNat (IntKind.bits .u32))) = ((n / 256 ^ s : Nat) : Int) := by
  have e : min ((8 * s : Nat) : Int).toNat (IntKind.bits .u32) = 8 * s := by
    rw [Int.toNat_natCast]; exact Nat.min_eq_left (show 8 * s ≤ 32 by omega)
  rw [e, Int.fdiv_eq_ediv_of_nonneg _ (by exact Int.le_of_lt (Int.pow_pos (by omega)))]
  have h2 : (2 : Int) ^ (8 * s) = ((256 ^ s : Nat) : Int) := by
    have : (256 ^ s : Nat) = 2 ^ (8 * s) := by rw [Nat.pow_mul]
    rw [this]; simp
  rw [h2]; simp
theorem conv8 (m : Nat) : IntKind.u8.wrap (m : Int) = ((UInt8.ofNat m).toNat : Int) := by rw [wrap_u8_mod, UInt8.toNat_ofNat']; omega
theorem conv80 (m : Nat) : IntKind.u8.wrap (m : Int) = ((UInt8.ofNat (m / 256 ^ 0)).toNat : Int) := by rw [Nat.pow_zero, Nat.div_one]; exact conv8 m
theorem shr64 (n : Nat) : ((n : Nat) : Int).fdiv (2 ^ (min (32 : Int).toNat (IntKind.bits .u64))) = ((n / 4294967296 : Nat) : Int) := by
  have e : (2 : Int) ^ (min (32 : Int).toNat (IntKind.bits .u64)) = 4294967296 := by decide
  rw [e, Int.fdiv_eq_ediv_of_nonneg _ (by decide)]; omega
theorem conv32 (m : Nat) : IntKind.u32.wrap (m : Int) = ((m % 4294967296 : Nat) : Int) := by rw [wrap_u32_mod]; omega
theorem be8 (n : Nat) : be n 8 = be (n / 4294967296) 4 ++ be n 4 := by
  have h : ∀ k, n / 4294967296 / 256 ^ k = n / 256 ^ (k + 4) := fun k => by rw [Nat.div_div_eq_div_mul, Nat.pow_add, Nat.mul_comm]
  simp only [be, h, List.cons_append, List.nil_append]
end Go.Proofs.Ytigaolglnnjnmaa
