/-
  Package strongroomref14: Right, Merge.
  Package strongroomref15: Set.
-/
import Derived.Test.YtlefpllcgcicpaaGreatDoorRfF
set_option linter.unusedVariables false
set_option linter.unusedSimpArgs false
namespace Go.Proofs.YtlefpllcgcicpaaGreatDoor
open Go.Sx
set_option maxRecDepth 100000
set_option maxHeartbeats 4000000
/-- what a right one is -/
structure At.Good (x : At) : Prop where
 f : x.f ≤ 15
 s : x.f &&& 1 = 0 → x.s = 0
 u : x.f &&& 2 = 0 → x.u = 0
 g : x.f &&& 2 = 0 → x.g = 0
 m : x.f &&& 4 = 0 → x.m = 0
 a : x.f &&& 8 = 0 → x.a = 0
 t : x.f &&& 8 = 0 → x.t = 0
theorem merge_fields (x y : At) : x.merge y = ⟨x.f ||| y.f, if y.f &&& 1 ≠ 0 then y.s else x.s, if y.f &&& 2 ≠ 0 then y.u else x.u, if y.f &&& 2 ≠ 0 then y.g else x.g,
 if y.f &&& 4 ≠ 0 then y.m else x.m, if y.f &&& 8 ≠ 0 then y.a else x.a, if y.f &&& 8 ≠ 0 then y.t else x.t⟩ := by
 unfold At.merge At.m5 At.m4 At.m3 At.m2 At.m1
 by_cases h1 : y.f &&& 1 = 0 <;> by_cases h2 : y.f &&& 2 = 0 <;> by_cases h3 : y.f &&& 4 = 0 <;> by_cases h4 : y.f &&& 8 = 0 <;> simp only [h1, h2, h3, h4, ne_eq, not_true_eq_false, not_false_eq_true, if_true, if_false]
theorem right_good (x : At) : x.right = true ↔ x.Good := by
 unfold At.right; rw [merge_fields, Bool.and_eq_true, decide_eq_true_eq, decide_eq_true_eq]; obtain ⟨f, s, u, g, m, a, t⟩ := x
 simp only [At.zero, At.mk.injEq, Nat.zero_or, true_and]
 constructor
 ·rintro ⟨h0, h1, h2, h3, h4, h5, h6⟩; exact ⟨h0, fun h => by rw [if_neg (by simpa only [ne_eq, Classical.not_not] using h)] at h1; exact h1.symm, fun h => by rw [if_neg (by simpa only [ne_eq, Classical.not_not] using h)] at h2; exact h2.symm, fun h => by rw [if_neg (by simpa only [ne_eq, Classical.not_not] using h)] at h3; exact h3.symm, fun h => by rw [if_neg (by simpa only [ne_eq, Classical.not_not] using h)] at h4; exact h4.symm, fun h => by rw [if_neg (by simpa only [ne_eq, Classical.not_not] using h)] at h5; exact h5.symm, fun h => by rw [if_neg (by simpa only [ne_eq, Classical.not_not] using h)] at h6; exact h6.symm⟩
 ·rintro ⟨h0, h1, h2, h3, h4, h5, h6⟩; have hn : ∀ {p : Nat}, ¬ p ≠ 0 → p = 0 := fun h => Classical.not_not.1 h
  have key : ∀ {k v : Nat}, (f &&& k = 0 → v = 0) → (if f &&& k ≠ 0 then v else 0) = v := fun {k v} h => by
   by_cases hk : f &&& k = 0
   ·rw [if_neg (by simpa only [ne_eq, Classical.not_not] using hk)]; exact (h hk).symm
   ·rw [if_pos hk]
  exact ⟨h0, key h1, key h2, key h3, key h4, key h5, key h6⟩
def Th.att (x : Th) (a : At) : Th := { x with a := a }
/-- what Set does -/
def SetW (w : Rt) (id : Int) (bw : At) (w' : Rt) (e : Int) : Prop :=
 (tAt w.L id = none ∧ e = 22 ∧ w' = w) ∨ ∃ i x, w.L[i]? = some x ∧ tAt w.L id = some x ∧
  ((bw.right = false ∧ e = 1 ∧ w' = w) ∨ (bw.right = true ∧ bw.f &&& 1 ≠ 0 ∧ x.dir = true ∧ e = 23 ∧ w' = w) ∨ (bw.right = true ∧ bw.f &&& 1 ≠ 0 ∧ x.dir = false ∧ szR w.L x bw.s = e ∧ e ≠ 0 ∧ w' = w) ∨
   (bw.right = true ∧ e = 0 ∧ w'.tb = w.tb ∧ w'.next = w.next ∧ ∃ y, w'.L = w.L.set i (y.att { x.a.merge bw with s := 0 }) ∧
    ((bw.f &&& 1 = 0 ∧ y = x) ∨ (bw.f &&& 1 ≠ 0 ∧ x.dir = false ∧ szR w.L x bw.s = 0 ∧ ∃ p c, y = x.with p c (szd x.b bw.s)))))
end Go.Proofs.YtlefpllcgcicpaaGreatDoor
