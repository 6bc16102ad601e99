/-
  Slices of texts that came in, opened.
-/
import Derived.Test.YtbbmhppkhcodfaaOpenMore
import Derived.Deep.Slices
namespace Go.Sx
open Go.ChangeShapes Go.WideShapes Go.ChangeAt Go.RowKit Go.Deep
set_option linter.unusedVariables false
theorem list_of {α : Type} (Q : Nat → α → Prop) : ∀ (n : Nat), (∀ i, i < n → ∃ x, Q i x) → ∃ l : List α, l.length = n ∧ ∀ (i : Nat) (x : α), l[i]? = some x → Q i x
  | 0, _ => ⟨[], rfl, fun i x h => by simp at h⟩
  | n + 1, h => by
    obtain ⟨l, hl, hq⟩ := list_of Q n fun i hi => h i (by omega)
    obtain ⟨x, hx⟩ := h n (by omega)
    refine ⟨l ++ [x], by simp [hl], fun i y hy => ?_⟩
    by_cases hi : i < l.length
    · rw [List.getElem?_append_left hi] at hy; exact hq i y hy
    · rw [List.getElem?_append_right (by omega)] at hy
      have : i - l.length = 0 := by
        have := (List.getElem?_eq_some_iff.1 hy).1; simp at this; omega
      rw [this] at hy
      simp at hy
      have e : i = n := by omega
      subst e; subst hy; exact hx
section
variable {H : Type} {enc : TypeId × Value → H} {P : Program} {W : World}
/-- what was there is read wherever the elder world stands -/
theorem ro_cell {w : World} {R : HProp} (s : sat w (star (ro W) R)) {a : Addr} {u : Value} (h : W.cell? a = some u) : w.cell? a = some u := by
  have hs := sat_star_left s
  have hblk : a.block < W.heap.size := by
    refine Classical.byContradiction fun hn => ?_
    have : W.heap[a.block]? = Option.none := by simp; omega
    simp [World.cell?, this] at h
  rw [World.cell?_of_block (w := W) (w' := w) ((ro_kept hs).2.2 a.block hblk)]
  exact h
theorem open_texts {t e : TypeId} {fuel : Nat} {v : Value} {x : DataW H × List MemPlace} (ht : P.underlying t = some (.slice e)) (he : P.underlying e = some .string) (hc : P.cellsOf e = 1)
    (h : DataW.trod enc P W 0 (fun _ => true) true fuel t [v] = some x) :
    ∃ (q : Option Addr) (cq : Nat) (xs : List (List UInt8)), v = .slice q xs.length cq ∧ (xs.length ≠ 0 → Vw (ro W) (.slice q xs.length cq) xs.length (xs.map fun y => Value.string (str y))) := by
  rcases open_slice ht h with ⟨h0, _⟩ | ⟨a, len, cap, m, n, D, Pl, hcs, hb, hl, hm, hmm, hx, hi⟩
  · simp only [List.cons.injEq, and_true] at h0
    exact ⟨Option.none, 0, [], h0, fun h => absurd rfl h⟩
  · simp only [List.cons.injEq, and_true] at hcs
    simp only [if_true] at hmm
    obtain ⟨xs, hlen, hq⟩ := list_of (fun i (y : List UInt8) => W.cell? (a.add i) = some (.string (str y))) len fun i hil => by
      obtain ⟨cs', hc', ht'⟩ := hi i (by omega)
      rw [hc] at hc'
      obtain ⟨_, hcl, hat⟩ := World.cells?_some hc'
      obtain ⟨s, hs, _, _⟩ := DataW.trod_string he ht'
      have h1 := hat 0 (by omega)
      rw [hs] at h1
      refine ⟨s.data.toList, ?_⟩
      rw [str_data]
      rw [Go.Deep.add_add] at h1
      simpa using h1
    subst hlen
    refine ⟨some a, cap, xs, hcs, fun h0 => ?_⟩
    have hc0 := hq 0 xs[0] (List.getElem?_eq_getElem (by omega))
    have hspot : a.spot = Option.none := by simpa [Addr.add] using World.cell?_spot hc0
    obtain ⟨b, o, sp⟩ := a
    simp only at hspot; subst hspot
    refine Vw.rd fun j u hj w R s => ?_
    rw [List.getElem?_map] at hj
    cases hxj : xs[j]? with
    | none => rw [hxj] at hj; cases hj
    | some y =>
      rw [hxj] at hj
      simp only [Option.map_some, Option.some.injEq] at hj
      subst hj
      have h1 := hq j y hxj
      rw [show (⟨b, o, Option.none⟩ : Addr).add j = ⟨b, o + j, Option.none⟩ from addr_add _ _ _] at h1
      exact ro_cell s h1
end
end Go.Sx
