/-
  A part of an element of a row is stored: a struct within it.
-/
import Derived.Test.YtbbmhppkhcodfaaSxSub
namespace Go.Sx
set_option linter.unusedVariables false
set_option linter.unusedSimpArgs false
set_option maxRecDepth 100000
theorem over_app_left {a b vs : List Value} {j : Nat} (h : j + vs.length ≤ a.length) : over (a ++ b) j vs = over a j vs ++ b := by
  unfold over; rw [List.take_append_of_le_length (by omega), List.drop_append_of_le_length h, List.append_assoc, List.append_assoc, List.append_assoc]
theorem over_app_right {a b vs : List Value} {j : Nat} : over (a ++ b) (a.length + j) vs = a ++ over b j vs := by
  unfold over; rw [List.take_append, List.take_of_length_le (by omega), show a.length + j - a.length = j by omega, List.drop_append, List.drop_of_length_le (by omega), List.nil_append, show a.length + j + vs.length - a.length = j + vs.length by omega]; simp only [List.append_assoc]
theorem flat_part {α : Type} {f : α → List Value} {k : Nat} (hk : ∀ x, (f x).length = k) : ∀ {l : List α} {i j : Nat} {x y : α} {vs : List Value}, l[i]? = some x → j + vs.length ≤ k → f y = over (f x) j vs → over (flat f l) (i * k + j) vs = flat f (l.set i y)
  | z :: l, 0, j, x, y, vs, hi, hj, hy => by
    injection hi with hi; subst hi
    rw [flat_cons, Nat.zero_mul, Nat.zero_add, over_app_left (by rw [hk]; exact hj), ← hy]
    show _ = flat f (y :: l)
    rw [flat_cons]
  | z :: l, i + 1, j, x, y, vs, hi, hj, hy => by
    have h1 : l[i]? = some x := by simpa using hi
    rw [flat_cons, show (i + 1) * k + j = (f z).length + (i * k + j) by rw [hk, Nat.succ_mul]; omega, over_app_right, flat_part hk h1 hj hy]
    show _ = flat f (z :: l.set i y)
    rw [flat_cons]
section
variable {P : Program} {n : Nat} {Γ : Env} {d : Option Tmp} {ty : TypeId} {pos : String} {aft : Array Edge} {g : Option (Nat × Bool)}
theorem eff_storeRowA {t : TypeId} {x y : Operand} {b off k m cap size : Nat} {xs vs : List Value} {e : TypeId} {H : List HProp} (i : Nat) (ht : Aggr P t k) (hx : ev Γ x = some (.pointer (some ⟨b, off, none⟩))) (hy : ev Γ y = some (.agg vs.toArray)) (hl : vs.length = k) (h1' : vs.all Value.oneCell' = true)
    (hi : H[i]? = some (row e size (.slice (some ⟨b, 0, none⟩) m cap) m xs)) (ho : off + vs.length ≤ xs.length) :
    EFF P n Γ ⟨d, .store t x y, ty, pos, aft, g⟩ (St H) (fun _ H' => H' = H.set i (row e size (.slice (some ⟨b, 0, none⟩) m cap) m (over xs off vs))) := eff_skip fun a w F f s => by
  rw [St_pick hi, star_assoc] at s; have h1 : ∀ v ∈ vs, v.oneCell' = true := List.all_eq_true.1 h1'
  obtain ⟨hl2, h⟩ := sat_row s
  rcases h with ⟨h0, _⟩ | ⟨b', cap', cs, fr, h0, hle, hcp, hcs, htk, hwm, s'⟩
  · cases h0
  · injection h0 with h0 _ h2; injection h0 with h0; injection h0 with h0; subst h0; subst h2
    have hb := sat_own (sat_star_left s')
    have hxl : xs.length ≤ cs.length := by rw [← htk, List.length_take]; omega
    have hxm : xs.length ≤ m * size := by rw [← htk, List.length_take]; omega
    have ho' : off + vs.length ≤ cs.length := by omega
    obtain ⟨w', hr, hb', hk', hx', hsz⟩ := run_storeCells_own (P := P) vs 0 off cs w hb hwm (by simpa using ho') h1
    refine ⟨w', _, ?_, rfl, ?_⟩
    · simp [execOp, f.ev hx, f.ev hy, Instr.storeAt, Instr.sureAddr, storeVar, ht.size, Value.cells, hl, hr]
    · rw [St_set hi, star_assoc]; refine row_mk (cs := over cs off vs) (fr := fr) hle hcp (by rw [over_length ho']; exact hcs) ?_ (fun j hj => hwm j (by rwa [over_length ho'] at hj)) (sat_set (w := w) hx' s' hb' hk'); have e0 : cs = xs ++ cs.drop (m * size) := by rw [← htk, List.take_append_drop]
      rw [e0, over_app_left ho]; have e1 : (over xs off vs).length = m * size := by rw [over_length ho, ← htk, List.length_take]; rw [e0, List.length_append, List.length_drop]; rw [e0] at hcs; have := congrArg List.length htk; rw [List.length_take] at this; omega
      rw [List.take_append_of_le_length (by omega), List.take_of_length_le (by omega)]
end
end Go.Sx
