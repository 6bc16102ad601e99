/-
  Numbers as bytes: plain laws.
-/
import Derived.Test.YtigaolglnnjnmaaDoorRead
namespace Go.Proofs.YtigaolglnnjnmaaDoor
open Go.Sx
set_option linter.unusedVariables false
set_option linter.unusedSimpArgs false
set_option maxRecDepth 100000
theorem b8_toNat (n : Nat) : (UInt8.ofNat n).toNat = n % 256 := UInt8.toNat_ofNat'
theorem val_cons (c : UInt8) (l : List UInt8) : val (c :: l) = c.toNat * 256 ^ l.length + val l := by
  have key : ∀ (l : List UInt8) (a : Nat), l.foldl (fun n c => n * 256 + c.toNat) a = a * 256 ^ l.length + l.foldl (fun n c => n * 256 + c.toNat) 0 := by
    intro l
    induction l with
    | nil => intro a; simp
    | cons d l ih =>
      intro a
      simp only [List.foldl_cons, List.length_cons]
      rw [ih (a * 256 + d.toNat), ih (0 * 256 + d.toNat)]
      simp only [Nat.zero_mul, Nat.zero_add, Nat.pow_succ, Nat.add_mul, Nat.mul_assoc, Nat.add_assoc, Nat.mul_comm 256]
  unfold val
  simp only [List.foldl_cons]
  rw [key]; simp
theorem val_be (n : Nat) : ∀ k, val (be n k) = n % 256 ^ k
  | 0 => by simp [be, val, Nat.mod_one]
  | k + 1 => by
    rw [be, val_cons, val_be n k, be_length, b8_toNat, Nat.pow_succ, Nat.mod_mul]
    rw [Nat.mul_comm, Nat.add_comm]
end Go.Proofs.YtigaolglnnjnmaaDoor
