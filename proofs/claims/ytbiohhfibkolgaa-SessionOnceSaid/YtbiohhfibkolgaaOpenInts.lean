/-
  Slices of ints that came in, opened.
-/
import Derived.Test.YtbiohhfibkolgaaOpenTexts
namespace Go.Sx
open Go.ChangeShapes Go.WideShapes Go.ChangeAt Go.RowKit Go.Deep
set_option linter.unusedVariables false
theorem open_intlist {H : Type} {enc : TypeId × Value → H} {P : Program} {W : World} {t e : TypeId} {v : Value} {d : DataW H} {p : List MemPlace} {r : Reach} {base : Nat} (ht : P.underlying t = some (.slice e)) (he : P.underlying e = some (.int .i64)) (hc : P.cellsOf e = 1)
    (hv : Value.okWide P W r base t v) (h : DataW.Trod enc P W 0 (fun _ => true) true t v d p) :
    ∃ (a : Option Addr) (ts : List Int) (c : Nat), v = .slice a ts.length c ∧ Vw (ro W) (.slice a ts.length c) ts.length (ts.map (Value.int .i64)) ∧ ∀ n ∈ ts, -9223372036854775808 ≤ n ∧ n ≤ 9223372036854775807 := by
  obtain ⟨fuel, hf⟩ := h
  obtain ⟨a, len, cap, rfl⟩ := okWide_slice ht hv
  rcases open_ints ht he hc hf with ⟨hcs, hx⟩ | ⟨x, l, c, zs, hcs, _, hl, hm, hz, hx, hcell, hwz⟩
  · simp [Value.cells] at hcs
    obtain ⟨rfl, rfl, rfl⟩ := hcs
    exact ⟨Option.none, [], 0, rfl, Vw.nil _, fun n hn => by cases hn⟩
  · simp [Value.cells] at hcs
    obtain ⟨rfl, rfl, rfl⟩ := hcs
    simp only [if_true] at hz
    have hspot : x.spot = Option.none := by
      simp only [Value.okWide, ht, Cell.okWide, Cell.ok, World.has] at hv
      exact hv.2.2.2.1
    obtain ⟨b, o, sp⟩ := x
    simp only at hspot; subst hspot
    have hlen : (zs.take len).length = len := by simp; omega
    refine ⟨some ⟨b, o, Option.none⟩, zs.take len, cap, by rw [hlen], ?_, fun n hn => ?_⟩
    · refine Vw.rd fun j u hj w R s => ?_
      have hj' : j < len := by
        have := (List.getElem?_eq_some_iff.1 hj).1
        rw [List.length_map, hlen] at this; exact this
      have hjz : j < zs.length := by omega
      rw [List.getElem?_map, List.getElem?_take, if_pos hj', List.getElem?_eq_getElem hjz] at hj
      simp only [Option.map_some, Option.some.injEq] at hj
      have h1 := hcell j hjz
      rw [show (⟨b, o, Option.none⟩ : Addr).add j = ⟨b, o + j, Option.none⟩ from addr_add _ _ _] at h1
      have h2 : zs.getD j 0 = zs[j] := by simp [List.getD, hjz]
      rw [h2, hj] at h1
      exact ro_cell s h1
    · have hw := hwz n (List.mem_of_mem_take hn)
      have h1 : IntKind.i64.min = -9223372036854775808 := rfl
      have h2 : IntKind.i64.max = 9223372036854775807 := rfl
      simp only [Lit.wf, Bool.and_eq_true, decide_eq_true_eq] at hw
      omega
end Go.Sx
