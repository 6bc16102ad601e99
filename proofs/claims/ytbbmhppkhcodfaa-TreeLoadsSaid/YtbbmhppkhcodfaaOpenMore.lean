/-
  More on arguments that are opened.
-/
import Derived.Test.YtbbmhppkhcodfaaShell
namespace Go.Sx
open Go.ChangeShapes Go.WideShapes
theorem okWide_cap {P : Program} {w : World} {r : Reach} {base : Nat} {t e : TypeId} {a : Option Addr} {len cap : Nat} (ht : P.underlying t = some (.slice e)) (h : Value.okWide P w r base t (.slice a len cap)) : len ≤ cap := by
  simp only [Value.okWide, ht, Cell.okWide] at h
  cases a with
  | some x => simp only [Cell.ok, ht] at h; exact h.1
  | none =>
    simp only [Cell.ok, ht] at h
    split at h <;> simp_all
end Go.Sx
