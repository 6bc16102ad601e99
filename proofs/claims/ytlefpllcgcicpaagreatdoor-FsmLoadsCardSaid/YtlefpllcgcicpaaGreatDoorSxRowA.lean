/-
  A part of an element of a row is stored: a struct within it.
-/
import Derived.Test.YtlefpllcgcicpaaGreatDoorSxSub
set_option linter.unusedVariables false
set_option linter.unusedSimpArgs false
namespace Go.Sx
set_option maxRecDepth 100000
theorem over_app_left {a b vs : List Value} {j : Nat} (h : j + vs.length ≤ a.length) : yE (a ++ b) j vs = yE a j vs ++ b := by
 unfold yE; rw [List.take_append_of_le_length (by omega), List.drop_append_of_le_length h, List.append_assoc, List.append_assoc, List.append_assoc]
theorem over_app_right {a b vs : List Value} {j : Nat} : yE (a ++ b) (a.length + j) vs = a ++ yE b j vs := by
 unfold yE; rw [List.take_append, List.take_of_length_le (by omega), show a.length + j - a.length = j by omega, List.drop_append, List.drop_of_length_le (by omega), List.nil_append, show a.length + j + vs.length - a.length = j + vs.length by omega]; simp only [List.append_assoc]
theorem flat_part {α : Type} {f : α → List Value} {k : Nat} (hk : ∀ x, (f x).length = k) : ∀ {l : List α} {i j : Nat} {x y : α} {vs : List Value}, l[i]? = some x → j + vs.length ≤ k → f y = yE (f x) j vs → yE (flat f l) (i * k + j) vs = flat f (l.set i y)
 | z :: l, 0, j, x, y, vs, hi, hj, hy => by
  injection hi with hi; subst hi
  rw [yW, Nat.zero_mul, Nat.zero_add, over_app_left (by rw [hk]; exact hj), ← hy]
  show _ = flat f (y :: l)
  rw [yW]
 | z :: l, i + 1, j, x, y, vs, hi, hj, hy => by
  have h1 : l[i]? = some x := by simpa using hi
  rw [yW, show (i + 1) * k + j = (f z).length + (i * k + j) by rw [hk, Nat.succ_mul]; omega, over_app_right, flat_part hk h1 hj hy]
  show _ = flat f (z :: l.set i y)
  rw [yW]
section
variable {P : Program} {n : Nat} {Γ : Env} {d : Option Tmp} {ty : TypeId} {pos : String} {aft : Array Edge} {g : Option (Nat × Bool)}
end
end Go.Sx
