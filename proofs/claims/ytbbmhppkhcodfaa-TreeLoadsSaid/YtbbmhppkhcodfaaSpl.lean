/-
  strings.Split and strings.Join.
-/
import Derived.Test.YtbbmhppkhcodfaaSxTrunc
import Derived.Test.YtbbmhppkhcodfaaPPath
import Derived.Test.YtbbmhppkhcodfaaLib
import Derived.Test.YtbbmhppkhcodfaaTy
namespace Go.Proofs.Ytbbmhppkhcodfaa
open Go.Sx
set_option linter.unusedVariables false
set_option linter.unusedSimpArgs false
set_option maxRecDepth 100000
set_option maxHeartbeats 4000000

open Go.RowKit
/-- the library's number of the longest text that is sought at once can be read -/
def Ml (V : HProp) : Prop := ∀ w R, sat w (star V R) → ∃ m, w.cell? ⟨0, 0, none⟩ = some (.int .i64 m)
theorem Ml.pick {V : HProp} {H : List HProp} (i : Nat) (hi : H[i]? = some V) (h : Ml V) : Ml (St H) := fun w R s => by
  rw [St_pick hi, star_assoc] at s; exact h w _ s
theorem sat_below {w w' : World} (h : Below w.heap.size w w') {A : HProp} (s : sat w A) : sat w' A := by
  obtain ⟨k, hk, f⟩ := s
  have hc : cx w' = cx w := by unfold cx; rw [h.os, h.output]
  refine ⟨k, hc ▸ hk, fun b x hx => ?_⟩
  have h1 := f b x hx
  rw [h.block b (Array.getElem?_eq_some_iff.1 h1).1]; exact h1
theorem tri_below {f : FuncId} {args : List Value} {Pre : List HProp} {v : Value} (h : ∀ w F, sat w (star (St Pre) F) → Calls Try.prog f args.toArray w fun e w' => e = .returned v ∧ Below w.heap.size w w') : Tri Try.prog f args Pre (fun v' H' => v' = v ∧ H' = Pre) := fun w F s =>
  (h w F s).mono fun e w' ⟨he, hb⟩ => ⟨v, Pre, he, ⟨rfl, rfl⟩, sat_below hb s⟩

end Go.Proofs.Ytbbmhppkhcodfaa
