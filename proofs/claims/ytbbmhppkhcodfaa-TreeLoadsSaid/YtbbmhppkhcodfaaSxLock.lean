/-
  A store into a row.
  Regions that draw: what was made may be locked for reading; facts are drawn from the state.
-/
import Derived.Test.YtbbmhppkhcodfaaSxMore
namespace Go.Sx
set_option linter.unusedVariables false
section
variable {P : Program} {n : Nat} {Γ : Env} {d : Option Tmp} {ty : TypeId} {pos : String} {aft : Array Edge} {g : Option (Nat × Bool)}
theorem relock {L H L' H' : List HProp} (hs : Split (L ++ H) L' H') : ∀ w F, sat w (star (St L) (star (St H) F)) → sat w (star (St L') (star (St H') F)) := fun w F s => by
  rw [← star_assoc, ← St_append, hs, star_assoc] at s; exact s
theorem eff_storeRow {t : TypeId} {x y : Operand} {b off m cap : Nat} {xs : List Value} {e : TypeId} {size : Nat} {v : Value} {H : List HProp} (i : Nat) (ht : Scal P t) (hx : ev Γ x = some (.pointer (some ⟨b, off, Option.none⟩))) (hy : ev Γ y = some v) (h1 : v.oneCell' = true)
    (hi : H[i]? = some (row e size (.slice (some ⟨b, 0, Option.none⟩) m cap) m xs)) (ho : off < xs.length) :
    EFF P n Γ ⟨d, .store t x y, ty, pos, aft, g⟩ (St H) (fun _ H' => H' = H.set i (row e size (.slice (some ⟨b, 0, Option.none⟩) m cap) m (xs.set off v))) := eff_skip fun a w F f s => by
  rw [St_pick hi, star_assoc] at s
  obtain ⟨hl, h⟩ := sat_row s
  rcases h with ⟨h0, _⟩ | ⟨b', cap', cs, fr, h0, hle, hcp, hcs, htk, hw, s'⟩
  · cases h0
  · injection h0 with h0 _ h2; injection h0 with h0; injection h0 with h0; subst h0; subst h2
    have hb := sat_own (sat_star_left s')
    have ho' : off < cs.length := by
      have : xs.length ≤ cs.length := by rw [← htk]; simp; omega
      omega
    have hc : w.cell? ⟨b, off, Option.none⟩ = some cs[off] := by rw [cell_of hb]; simp [ho']
    have hv : v.cells = #[v] := by cases v <;> first | rfl | simp [Value.oneCell'] at h1
    refine ⟨w.setCell ⟨b, off, Option.none⟩ v, _, ?_, rfl, ?_⟩
    · simp [execOp, f.ev hx, f.ev hy, Instr.storeAt, Instr.sureAddr, storeVar, ht.size, hv, storeCells, addr_add, run_store P w _ v .plain h1, hc, frozen_of hb hw ho']
    · rw [St_set hi, star_assoc]
      refine row_mk (cs := cs.set off v) (fr := fr) hle hcp (by simpa using hcs) ?_ ?_ (sat_set (w := w) rfl s' (setCell_heap hb).1 (setCell_heap hb).2)
      · rw [← htk, List.take_set]
      · intro j hj; exact hw j (by simpa using hj)
end
end Go.Sx
namespace Go.Sx
set_option linter.unusedVariables false
section
variable {P : Program} {ops : Array Oper} {md : Region.Mode} {m : Nat}
theorem wpAnyG_mono {Q : Exit → Act → World → Prop} {C C' : World → Prop} (hC : ∀ w, C' w → C w) : ∀ (fuel : Nat) (listed : Array Bool) (a : Act) (w : World),
    wpAnyG P md ops Q C' m fuel listed a w → wpAnyG P md ops Q C m fuel listed a w
  | 0, _, _, _, h => h
  | fuel + 1, _, _, _, h => ⟨h.1, fun i hi => wpOp_mono (fun a' w' h' => ⟨fun hlt => hC _ (h'.1 hlt), wpAnyG_mono hC fuel _ a' w' h'.2⟩) (h.2 i hi)⟩
variable {n : Nat} {L H : List HProp} {Γ : Env} {Q : Post} {fuel : Nat} {listed : Array Bool}
theorem any_lock (i : Nat) {A : HProp} (hi : H[i]? = some A) (h : Any P n ops m (A :: L) fuel listed Γ (H.eraseIdx i) Q) : Any P n ops m L fuel listed Γ H Q := fun a w F f s =>
  wpAnyG_mono (fun w ⟨R, hs⟩ => ⟨star A R, by rw [St_cons, star_comm A, star_assoc] at hs; exact hs⟩) fuel listed a w
    (h a w F f (by rw [St_pick hi, star_assoc] at s; rw [St_cons, star_assoc, star_left_comm]; exact s))
theorem any_know {p : Prop} (hp : ∀ w F, sat w (star (St H) F) → p) (h : p → Any P n ops m L fuel listed Γ H Q) : Any P n ops m L fuel listed Γ H Q := fun a w F f s =>
  h (hp w (star (St L) F) (by rw [star_left_comm] at s; exact s)) a w F f s
end
end Go.Sx
