/-
  Parts that came in are opened.
-/
import Derived.Test.YtbiohhfibkolgaaWireWrites
import Derived.Test.YtbiohhfibkolgaaOpenTexts
namespace Go.Proofs.Ytbiohhfibkolgaa
open Go.Sx
set_option linter.unusedVariables false
set_option linter.unusedSimpArgs false
set_option maxRecDepth 100000

open Go.ChangeShapes Go.WideShapes Go.ChangeAt Go.RowKit Go.Deep
theorem pts_inv : ∀ (ps : List Pt) (t : Nat) (u : Value), (ps.flatMap Pt.cs)[t]? = some u → ∃ i x j, ps[i]? = some x ∧ t = i * 4 + j ∧ x.cs[j]? = some u
  | [], t, u, h => by simp at h
  | x :: r, t, u, h => by
    have e : x.cs.length = 4 := rfl
    rw [List.flatMap_cons] at h
    by_cases ht : t < 4
    · rw [List.getElem?_append_left (by omega)] at h
      exact ⟨0, x, t, rfl, by omega, h⟩
    · rw [List.getElem?_append_right (by omega), e] at h
      obtain ⟨i, y, j, h1, h2, h3⟩ := pts_inv r (t - 4) u h
      exact ⟨i + 1, y, j, by simpa using h1, by omega, h3⟩
section
variable {H : Type} {enc : TypeId × Value → H} {W : World}
theorem open_part {fuel : Nat} {cs : List Value} {x : DataW H × List MemPlace} (h : DataW.trod enc Try.prog W 0 (fun _ => true) true fuel 62 cs = some x) : ∃ y : Pt, cs = y.cs ∧ y.Ok (ro W) := by
  obtain ⟨xs, n, _, hx, hl, hlen, hg⟩ := DataW.trod_struct Try.underlying62 h
  have hc4 : Try.prog.cellsOf 62 = 4 := by kernel_rfl
  rw [hc4] at hl
  match cs, hl with
  | [c0, c1, c2, c3], _ =>
    have get : ∀ (i : Nat) (f : Field) (off : Nat) (ft : TypeId) (c : Value), (#[⟨ "Kind", 3, 0, false, "", "", 0⟩, ⟨ "N", 28, 1, false, "", "", 8⟩, ⟨ "S", 9, 2, false, "", "", 16⟩, ⟨ "L", 60, 3, false, "", "", 32⟩] : Array Field)[i]? = some f → f.offset = off → f.type = ft → Try.prog.cellsOf ft = 1 → (([c0, c1, c2, c3] : List Value).drop off).take 1 = [c] → ∃ y, DataW.trod enc Try.prog W 0 (fun _ => true) true n ft [c] = some y := fun i f off ft c hi ho hft hce hc => by
      have h1 := hg i f hi
      rw [ho, hft, hce, hc] at h1
      have hlt : i < xs.length := by rw [hlen]; exact (Array.getElem?_eq_some_iff.1 hi).1
      exact ⟨xs[i], h1.trans (List.getElem?_eq_getElem hlt)⟩
    obtain ⟨y0, t0⟩ := get 0 _ 0 3 c0 rfl rfl rfl (by kernel_rfl) rfl
    obtain ⟨y1, t1⟩ := get 1 _ 1 28 c1 rfl rfl rfl (by kernel_rfl) rfl
    obtain ⟨y2, t2⟩ := get 2 _ 2 9 c2 rfl rfl rfl (by kernel_rfl) rfl
    obtain ⟨y3, t3⟩ := get 3 _ 3 60 c3 rfl rfl rfl (by kernel_rfl) rfl
    obtain ⟨k, hk, _, _⟩ := DataW.trod_int Try.underlying3 t0
    obtain ⟨m, hm, _, hw⟩ := DataW.trod_int Try.underlying28 t1
    obtain ⟨mm, rfl, hmm⟩ := wf_nat hw (m := 18446744073709551615) rfl rfl
    obtain ⟨s, hs, _, _⟩ := DataW.trod_string Try.underlying9 t2
    obtain ⟨q, cq, zs, hz, hv⟩ := open_texts Try.underlying60 Try.underlying9 (by kernel_rfl) t3
    simp only [List.cons.injEq, and_true] at hk hm hs
    exact ⟨⟨k, mm, s, q, cq, zs⟩, by rw [hk, hm, hs, hz]; rfl, by simp only; omega, hv⟩
theorem open_parts {v : Value} {d : DataW H} {p : List MemPlace} {r : Reach} {base : Nat} (hv : Value.okWide Try.prog W r base 58 v) (h : DataW.Trod enc Try.prog W 0 (fun _ => true) true 58 v d p) :
    ∃ (q : Option Addr) (ps : List Pt) (cq : Nat), v = .slice q ps.length cq ∧ Vw (ro W) (.slice q ps.length cq) ps.length (ps.flatMap Pt.cs) ∧ ∀ x ∈ ps, x.Ok (ro W) := by
  obtain ⟨fuel, hf⟩ := h
  obtain ⟨a0, len0, cap0, rfl⟩ := okWide_slice Try.underlying58 hv
  rcases open_slice Try.underlying58 hf with ⟨h0, _⟩ | ⟨a, len, cap, m, n, D, Pl, hcs, hb, hl, hm, hmm, hx, hi⟩
  · simp [Value.cells] at h0
    obtain ⟨rfl, rfl, rfl⟩ := h0
    exact ⟨none, [], 0, rfl, Vw.nil _, fun x hx => by cases hx⟩
  · simp [Value.cells] at hcs
    obtain ⟨rfl, rfl, rfl⟩ := hcs
    simp only [if_true] at hmm
    have hspot : a.spot = none := by
      simp only [Value.okWide, Try.underlying58, Cell.okWide, Cell.ok, World.has] at hv
      exact hv.2.2.2.1
    have hc4 : Try.prog.cellsOf 62 = 4 := by kernel_rfl
    obtain ⟨ps, hlen, hq⟩ := list_of (fun i (y : Pt) => y.Ok (ro W) ∧ ∀ j, j < 4 → W.cell? (a.add (i * 4 + j)) = y.cs[j]?) len0 fun i hil => by
      obtain ⟨cs', hc', ht'⟩ := hi i (by omega)
      obtain ⟨y, rfl, hok⟩ := open_part ht'
      rw [hc4] at hc'
      obtain ⟨_, hcl, hat⟩ := World.cells?_some hc'
      refine ⟨y, hok, fun j hj => ?_⟩
      have h1 := hat j hj
      rwa [Go.Deep.add_add] at h1
    subst hlen
    obtain ⟨b, o, sp⟩ := a
    simp only at hspot; subst hspot
    refine ⟨some ⟨b, o, none⟩, ps, cap0, rfl, ?_, fun x hx => ?_⟩
    · refine Vw.rd fun t u ht w R s => ?_
      obtain ⟨i, y, j, h1, h2, h3⟩ := pts_inv ps t u ht
      have hj : j < 4 := (List.getElem?_eq_some_iff.1 h3).1
      have h4 := (hq i y h1).2 j hj
      rw [h3, ← h2, show (⟨b, o, none⟩ : Addr).add t = ⟨b, o + t, none⟩ from addr_add _ _ _] at h4
      exact ro_cell s h4
    · obtain ⟨i, h1⟩ := List.mem_iff_getElem?.1 hx
      exact (hq i x h1).1
end

end Go.Proofs.Ytbiohhfibkolgaa
