/-
  Regions that draw: what was made may be locked for reading; facts are drawn from the state.
-/
import Derived.Test.YtbbmhppkhcodfaaSxPut
namespace Go.Sx
set_option linter.unusedVariables false
section
variable {P : Program} {ops : Array Oper} {md : Region.Mode} {m : Nat}
theorem wpAnyG_mono {Q : Exit → Act → World → Prop} {C C' : World → Prop} (hC : ∀ w, C' w → C w) : ∀ (fuel : Nat) (listed : Array Bool) (a : Act) (w : World),
    wpAnyG P md ops Q C' m fuel listed a w → wpAnyG P md ops Q C m fuel listed a w
  | 0, _, _, _, h => h
  | fuel + 1, _, _, _, h => ⟨h.1, fun i hi => wpOp_mono (fun a' w' h' => ⟨fun hlt => hC _ (h'.1 hlt), wpAnyG_mono hC fuel _ a' w' h'.2⟩) (h.2 i hi)⟩
variable {n : Nat} {L H : List HProp} {Γ : Env} {Q : Post} {fuel : Nat} {listed : Array Bool}
theorem any_lock (i : Nat) {A : HProp} (hi : H[i]? = some A) (h : Any P n ops m (A :: L) fuel listed Γ (H.eraseIdx i) Q) : Any P n ops m L fuel listed Γ H Q := fun a w F f s =>
  wpAnyG_mono (fun w ⟨R, hs⟩ => ⟨star A R, by rw [St_cons, star_comm A, star_assoc] at hs; exact hs⟩) fuel listed a w
    (h a w F f (by rw [St_pick hi, star_assoc] at s; rw [St_cons, star_assoc, star_left_comm]; exact s))
theorem any_know {p : Prop} (hp : ∀ w F, sat w (star (St H) F) → p) (h : p → Any P n ops m L fuel listed Γ H Q) : Any P n ops m L fuel listed Γ H Q := fun a w F f s =>
  h (hp w (star (St L) F) (by rw [star_left_comm] at s; exact s)) a w F f s
end
end Go.Sx
