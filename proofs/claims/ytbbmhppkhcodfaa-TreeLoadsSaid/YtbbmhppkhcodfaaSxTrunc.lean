/-
  A row is cut short.
-/
import Derived.Test.YtbbmhppkhcodfaaSxStr
namespace Go.Sx
set_option linter.unusedVariables false
theorem row_trunc {e : TypeId} {size k b c : Nat} {p : Option Addr} {xs : List Value} {w : World} {R : HProp} (hb : b ≤ k) (s : sat w (star (row e size (.slice p k c) k xs) R)) : sat w (star (row e size (.slice p b c) b (xs.take (b * size))) R) := by
  obtain ⟨hl, h⟩ := sat_row s
  rcases h with ⟨h0, hk, hx, s'⟩ | ⟨b', cap, cs, fr, h0, hle, hcp, hcs, htk, hw, s'⟩
  · injection h0 with h1 h2 h3; subst h1; subst h3
    obtain rfl : b = 0 := by omega
    rw [Nat.zero_mul, List.take_zero]
    exact row_nil s'
  · injection h0 with h1 _ h3; subst h1; subst h3
    refine row_mk (cs := cs) (fr := fr) (by omega) hcp hcs ?_ hw s'
    rw [← htk, List.take_take, Nat.min_eq_left (Nat.mul_le_mul_right _ hb)]
section
variable {P : Program} {n : Nat} {Γ : Env} {d : Option Tmp} {ty : TypeId} {pos : String} {aft : Array Edge} {g : Option (Nat × Bool)}
theorem eff_trunc {t e : TypeId} {size bytes k b c : Nat} {z : Value} {x : Operand} {hi' : Option Operand} {p : Option Addr} {xs : List Value} {H : List HProp} (i : Nat) (ht : Slc P t e size bytes z) (hx : ev Γ x = some (.slice p k c))
    (hi : H[i]? = some (row e size (.slice p k c) k xs)) (hh : bnd Γ hi' k = some b) (hb : b ≤ k) :
    EFF P n Γ ⟨d, .slice t x Option.none hi' Option.none, ty, pos, aft, g⟩ (St H) (fun v H' => v = .slice p b c ∧ H' = H.set i (row e size (.slice p b c) b (xs.take (b * size)))) := fun a w F K Q f s hK => by
  have sh := s
  rw [perm_front hi] at sh
  have fin : ∀ {w' : World}, sat w' (star (St H) F) → sat w' (star (St (H.set i (row e size (.slice p b c) b (xs.take (b * size))))) F) := fun {w'} h => by
    rw [perm_front hi] at h
    rw [St_set hi, star_assoc]
    exact row_trunc hb h
  obtain ⟨hl, h⟩ := sat_row sh
  rcases h with ⟨h0, hk, hx0, s'⟩ | ⟨b', cap, cs, fr, h0, hle, hcp, hcs, htk, hw, s'⟩
  · injection h0 with h1 h2 h3; subst h1; subst h3; subst hk
    obtain rfl : b = 0 := by omega
    exact eff_ro (ro_sliceNil (P := P) (n := n) (L := St H) (d := d) (ty := ty) (pos := pos) (aft := aft) (g := g) ht hx rfl hh) a w F K Q f s fun v w' H' hp hs' => hK v w' _ ⟨hp.1, rfl⟩ (fin (by rw [hp.2] at hs'; exact hs'))
  · injection h0 with h1 _ h3; subst h1; subst h3
    refine eff_ro (ro_slice (P := P) (n := n) (L := St H) (d := d) (ty := ty) (pos := pos) (aft := aft) (g := g) ht hx rfl hh (Nat.zero_le _) (by omega)) a w F K Q f s fun v w' H' hp hs' => hK v w' _ ⟨?_, rfl⟩ (fin (by rw [hp.2] at hs'; exact hs'))
    rw [hp.1]; unfold resl
    simp
end
end Go.Sx
