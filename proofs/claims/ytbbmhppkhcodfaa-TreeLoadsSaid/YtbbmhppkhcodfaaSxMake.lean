/-
  make and copy, of bytes.
-/
import Derived.Test.YtbbmhppkhcodfaaSxStr
import Derived.Laws.MakeOwn
import Derived.Laws.IdiomCopy
namespace Go.Sx
set_option linter.unusedVariables false
set_option linter.unusedSimpArgs false
section
variable {P : Program} {n : Nat} {Γ : Env} {d : Option Tmp} {ty : TypeId} {pos : String} {aft : Array Edge} {g : Option (Nat × Bool)}
theorem made_bytes (z : Value) (hz : z.cells = #[z]) (m : Nat) : madeCells z.cells m = (List.replicate m z).toArray := by
  apply Array.ext
  · simp [madeCells]
  · intro i h1 h2
    simp only [madeCells, Array.getElem_map, hz]
    simp [Nat.mod_one]
/-- a slice of noughts is made -/
theorem eff_makeB {t e : TypeId} {x y : Operand} {kx ky : IntKind} {m : Nat} {H : List HProp} (ht : Slc P t e 1 1 (.int .u8 0)) (hx : ev Γ x = some (.int kx (m : Int))) (hy : ev Γ y = some (.int ky (m : Int))) (hm : m ≤ 281474976710656) :
    EFF P n Γ ⟨d, .makeSlice t x y, ty, pos, aft, g⟩ (St H) (fun u H' => ∃ b, u = .slice (some ⟨b, 0, none⟩) m m ∧ H' = row e 1 (.slice (some ⟨b, 0, none⟩) m m) m (cel (List.replicate m 0)) :: H) := eff_value fun a w F f s => by
  obtain ⟨i, hi, hz, hs, hb⟩ := ht.info
  have hr := run_make (P := P) w t e i (.int .u8 0) ht.und hi hz kx ky (m : Int) (m : Int) (by omega) (Int.le_refl _) (by rw [hb]; simp only [Int.cast_ofNat_Int]; omega) (by omega)
  simp only [Int.toNat_natCast, hs, Nat.mul_one, made_bytes (.int .u8 0) rfl] at hr
  refine ⟨.slice (some ⟨w.heap.size, 0, none⟩) m m, w.alloc (.cells (List.replicate m (.int .u8 0)).toArray e), _, ?_, ⟨w.heap.size, rfl, rfl⟩, ?_⟩
  · simp only [execOp, f.ev hx, f.ev hy, Sem.run_bind, hr, Result.andThen_ok, Sem.run_pure]
  · rw [St_cons, star_assoc]
    have e1 : cel (List.replicate m 0) = List.replicate m (.int .u8 0) := by rw [cel, List.map_replicate]; rfl
    rw [e1]
    exact row_mk (Nat.le_refl _) (by simp only [maxLen]; omega) (by simp) (by simp) (warm_zero _) (sat_alloc (w := w) rfl s rfl)
theorem sat_setCells {b : Nat} {e : TypeId} {fr : Nat × Nat} {R : HProp} : ∀ (vs : List Value) (o : Nat) (cs : List Value) (w : World), o + vs.length ≤ cs.length → sat w (star (own b (.cells cs.toArray e fr)) R) → sat (w.setCells b o vs) (star (own b (.cells (over cs o vs).toArray e fr)) R)
  | [], o, cs, w, h, s => by rw [over_nil]; exact s
  | v :: vs, o, cs, w, h, s => by
    have hb := sat_own (sat_star_left s)
    have s1 := sat_set (w := w) (w' := w.setCell ⟨b, o, none⟩ v) rfl s (setCell_heap hb).1 (setCell_heap hb).2
    rw [← over_cons h]
    exact sat_setCells vs (o + 1) (cs.set o v) _ (by simp at h ⊢; omega) s1
theorem over_cel {l s : List UInt8} {o : Nat} : over (cel l) o (cel s) = cel (l.take o ++ s ++ l.drop (o + s.length)) := by
  unfold over
  rw [cel_append, cel_append, cel_length]
  simp [cel]
/-- bytes are copied into a row -/
theorem eff_copyB {t t2 e : TypeId} {z : Value} {x y : Operand} {b o dl dc cap m c : Nat} {p : Option Addr} {l s : List UInt8} {H : List HProp} (i : Nat) (ht : Slc P t e 1 1 z) (hx : ev Γ x = some (.slice (some ⟨b, o, none⟩) dl dc)) (hy : ev Γ y = some (.slice p s.length c))
    (hi : H[i]? = some (row e 1 (.slice (some ⟨b, 0, none⟩) m cap) m (cel l))) (hV : Vw (St (H.eraseIdx i)) (.slice p s.length c) s.length (cel s)) (ho : o + dl ≤ l.length) :
    EFF P n Γ ⟨d, .call { callee := .builtin .copy, args := #[x, y], argTypes := #[t, t2] }, ty, pos, aft, g⟩ (St H) (fun u H' => u = .int .i64 (min s.length dl : Nat) ∧ H' = H.set i (row e 1 (.slice (some ⟨b, 0, none⟩) m cap) m (cel (l.take o ++ s.take dl ++ l.drop (o + min s.length dl))))) := eff_value fun a w F f st => by
  rw [perm_front hi] at st
  have hsz : (P.info? e).map (·.size) = some 1 := by obtain ⟨j, h1, _, h2, _⟩ := ht.info; rw [h1]; exact congrArg some h2
  have hgo : ∀ {v : Value} {w' : World}, (Builtin.copy_ #[t, t2] ty #[.slice (some ⟨b, o, none⟩) dl dc, .slice p s.length c]).run P w = .ok v w' → (execOp a.eval ⟨d, .call { callee := .builtin .copy, args := #[x, y], argTypes := #[t, t2] }, ty, pos, aft, g⟩).run P w = .ok (.value v) w' := fun h => by
    simp only [execOp, resolve, invoke, builtin, Sem.run_bind, Sem.run_pure, Result.andThen_ok, List.map_toArray, List.map_cons, List.map_nil, f.ev hx, f.ev hy, h]
  obtain ⟨hl, h⟩ := sat_row st
  have hlen : (l.take o ++ s.take dl ++ l.drop (o + min s.length dl)).length = l.length := by
    simp only [List.length_append, List.length_take, List.length_drop]; omega
  rcases h with ⟨h0, _⟩ | ⟨b', cap', cs, fr, h0, hle, hcp, hcs, htk, hw, s'⟩
  · cases h0
  · injection h0 with h0 _ h2; injection h0 with h0; injection h0 with h0; subst h0; subst h2
    by_cases hn : min s.length dl = 0
    · have hr := run_copy_none (P := P) w t t2 ty e (some ⟨b, o, none⟩) p dl dc s.length c ht.und hsz hn
      refine ⟨_, _, _, hgo hr, ⟨by rw [hn]; rfl, rfl⟩, ?_⟩
      rw [St_set hi, star_assoc]
      have e1 : l.take o ++ s.take dl ++ l.drop (o + min s.length dl) = l := by
        have : s.take dl = [] := List.eq_nil_of_length_eq_zero (by rw [List.length_take]; omega)
        rw [this, hn, List.append_nil, Nat.add_zero, List.take_append_drop]
      rw [e1]; exact st
    · have hb := sat_own (sat_star_left s')
      have hlcs : l.length ≤ cs.length := by
        have h1 := congrArg List.length htk
        rw [List.length_take, cel_length] at h1; omega
      rcases hV w (star (own b (.cells cs.toArray e fr)) F) (by rw [star_left_comm] at s'; exact s') with ⟨_, _, h4, _⟩ | ⟨b2, o2, c2, h4, hcell⟩
      · omega
      · injection h4 with h4 _ h5; subst h4; subst h5
        have hlt : (cel (s.take dl)).length = Nat.min s.length dl := by rw [cel_length, List.length_take, Nat.min_comm]
        have hr := run_copy_cells (P := P) w t t2 ty e b o dl dc ⟨b2, o2, none⟩ s.length c (cel (s.take dl)) ht.und hsz hlt
          (fun j v hj => by
            rw [addr_add]
            refine hcell j v ?_
            have h6 : (cel (s.take dl)) = (cel s).take dl := by simp [cel]
            rw [h6] at hj
            rw [List.getElem?_take] at hj
            split at hj
            · exact hj
            · cases hj)
          (fun j hj => by
            have : j < min s.length dl := by rw [hlt] at hj; exact hj
            rw [cell_of hb]; simp; omega)
          (fun j hj => by
            have : j < min s.length dl := by rw [hlt] at hj; exact hj
            exact frozen_of hb hw (by omega)) (cel_one _)
        have hlt' : (cel (s.take dl)).length = min s.length dl := hlt
        refine ⟨_, _, _, hgo hr, ⟨by rw [hlt']; rfl, rfl⟩, ?_⟩
        rw [St_set hi, star_assoc]
        have s2 := sat_setCells (cel (s.take dl)) o cs w (by rw [hlt']; omega) s'
        refine row_mk (cs := over cs o (cel (s.take dl))) (fr := fr) hle hcp (by rw [over_length (by rw [hlt']; omega)]; exact hcs) ?_ ?_ s2
        · have e2 : s.take dl = s.take (min s.length dl) := by
            by_cases h : dl ≤ s.length
            · rw [Nat.min_eq_right h]
            · rw [Nat.min_eq_left (by omega), List.take_of_length_le (by omega), List.take_length]
          have hml : m * 1 = l.length := by rw [← hl, cel_length]
          have e3 : (over cs o (cel (s.take dl))).take (m * 1) = over (cs.take (m * 1)) o (cel (s.take dl)) := by
            unfold over
            rw [hlt', hml, List.take_append, List.take_append, List.take_take, List.length_take, List.length_append, List.length_take, hlt']
            have h7 : min o cs.length = o := by omega
            rw [h7, List.take_of_length_le (l := cel (s.take dl)) (by rw [hlt']; omega), List.take_drop, show min l.length o = o by omega, show o + min s.length dl + (l.length - (o + min s.length dl)) = l.length by omega, List.take_take, show min o l.length = o by omega]
          rw [e3, htk, over_cel]
          rw [List.length_take, Nat.min_comm dl]
        · intro j hj; rw [over_length (by rw [hlt']; omega)] at hj; exact hw j hj
end
end Go.Sx
