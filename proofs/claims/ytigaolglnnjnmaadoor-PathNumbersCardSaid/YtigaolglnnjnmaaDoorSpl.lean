/-
  strings.Split and strings.Join.
-/
import Derived.Test.YtigaolglnnjnmaaDoorSxTrunc
import Derived.Test.YtigaolglnnjnmaaDoorPPath
import Derived.Test.YtigaolglnnjnmaaDoorLib
import Derived.Test.YtigaolglnnjnmaaDoorTy
namespace Go.Proofs.YtigaolglnnjnmaaDoor
open Go.Sx
set_option linter.unusedVariables false
set_option linter.unusedSimpArgs false
set_option maxRecDepth 100000
set_option maxHeartbeats 4000000

open Go.RowKit
/-- the library's number of the longest text that is sought at once can be read -/
def Ml (V : HProp) : Prop := ∀ w R, sat w (star V R) → ∃ m, w.cell? ⟨0, 0, none⟩ = some (.int .i64 m)
theorem Ml.pick {V : HProp} {H : List HProp} (i : Nat) (hi : H[i]? = some V) (h : Ml V) : Ml (St H) := fun w R s => by
  rw [St_pick hi, star_assoc] at s; exact h w _ s
theorem split_spec (V : HProp) (hM : Ml V) (s : List UInt8) (c : UInt8) (hs : s.length < 4294967281) :
    Tri Tryd.prog 34 [.string (str s), .string (str [c])] [V] (fun v H' => ∃ K, (∃ b, v = .slice (some ⟨b, 0, none⟩) (parts c s).length (parts c s).length ∧ K = [row 9 1 (.slice (some ⟨b, 0, none⟩) (parts c s).length (parts c s).length) (parts c s).length (txs (parts c s))]) ∧ H' = K ++ [V]) := fun w F hw => by
  have hw' : sat w (star V F) := by rwa [St_cons, St_nil, star_emp] at hw
  obtain ⟨m, hm⟩ := hM w F hw'
  refine (Tryd.strings_Split (str s) (str [c]) m w (by rw [str_size]; exact hs) hm (by rw [str_size]; exact Nat.le_refl _)).mono ?_
  rintro e w' ⟨rfl, rfl⟩
  rw [countB_parts, splitB_parts, ← txs_map]
  refine ⟨_, _, rfl, ⟨_, ⟨w.heap.size, rfl, rfl⟩, rfl⟩, ?_⟩
  simp only [List.cons_append, List.nil_append, St_cons, St_nil, star_emp, star_assoc]
  have hl := parts_length_le c s
  exact row_mk (cs := txs (parts c s)) (fr := (0, 0)) (Nat.le_refl _) (by simp only [maxLen]; omega) (by rw [flat_len Tx.len]) (by rw [← flat_len Tx.len]; exact List.take_length) (warm_zero _) (sat_alloc (w := w) rfl hw' rfl)
theorem sat_below {w w' : World} (h : Below w.heap.size w w') {A : HProp} (s : sat w A) : sat w' A := by
  obtain ⟨k, hk, f⟩ := s
  have hc : cx w' = cx w := by unfold cx; rw [h.os, h.output]
  refine ⟨k, hc ▸ hk, fun b x hx => ?_⟩
  have h1 := f b x hx
  rw [h.block b (Array.getElem?_eq_some_iff.1 h1).1]; exact h1
theorem tri_below {f : FuncId} {args : List Value} {Pre : List HProp} {v : Value} (h : ∀ w F, sat w (star (St Pre) F) → Calls Tryd.prog f args.toArray w fun e w' => e = .returned v ∧ Below w.heap.size w w') : Tri Tryd.prog f args Pre (fun v' H' => v' = v ∧ H' = Pre) := fun w F s =>
  (h w F s).mono fun e w' ⟨he, hb⟩ => ⟨v, Pre, he, ⟨rfl, rfl⟩, sat_below hb s⟩
theorem libjoin_c (c : UInt8) : ∀ xs : List (List UInt8), Lib.join xs [c] = joinc c xs
  | [] => rfl
  | [x] => by rw [Lib.join_one]; rfl
  | x :: y :: r => by
    have h := libjoin_c c (y :: r)
    rw [Lib.join_cons] at h ⊢
    rw [joinc_cons c x (by simp), ← h]
    simp [Lib.joinTail]
theorem join1_spec (V : HProp) (q : Option Addr) (cq : Nat) (xs : List (List UInt8)) (c : UInt8) (hV0 : Vw V (.slice q xs.length cq) xs.length (txs xs)) (hcq : xs.length ≤ cq) (hn : xs.length ≤ 140737488355328) (hj : (joinc c xs).length ≤ 35184372088000) :
    Tri Tryd.prog 35 [.slice q xs.length cq, .string (str [c])] [V] (fun v H' => v = .string (str (joinc c xs)) ∧ H' = [V]) := by
  rw [← libjoin_c c xs] at hj ⊢
  refine tri_below fun w F s => ?_
  have hV := hV0
  rw [txs_map] at hV
  rw [St_cons, St_nil, star_assoc] at s
  rcases hV w _ s with ⟨q', h1, h2, _⟩ | ⟨b, o, cap, h1, hc⟩
  · have h0 : xs = [] := List.eq_nil_of_length_eq_zero h2
    subst h0
    refine (Tryd.strings_Join_none q cq (str [c]) w).mono fun e w' ⟨he, hw⟩ => ⟨he, hw ▸ Below.refl _ _⟩
  · injection h1 with h1 _ h3; subst h1; subst h3
    by_cases h0 : xs = []
    · subst h0
      refine (Tryd.strings_Join_none _ cq (str [c]) w).mono fun e w' ⟨he, hw⟩ => ⟨he, hw ▸ Below.refl _ _⟩
    · have hcell : ∀ (j : Nat) x, (xs.map str)[j]? = some x → w.cell? ⟨b, o + j, none⟩ = some (.string x) := fun j x hx => hc j _ (by
        rw [List.getElem?_map] at hx ⊢
        cases hh : xs[j]? with
        | none => rw [hh] at hx; cases hx
        | some y => rw [hh] at hx; injection hx with hx; rw [← hx]; rfl)
      have hbk : b < w.heap.size := by
        obtain ⟨y, ys, rfl⟩ := List.exists_cons_of_ne_nil h0
        have h2 := hcell 0 (str y) rfl
        refine Classical.byContradiction fun hn => ?_
        have : w.heap[b]? = none := by simp; omega
        simp [World.cell?, this] at h2
      have e1 : (xs.map str).map (·.data.toList) = xs := by rw [List.map_map]; conv => rhs; rw [← List.map_id xs]
                                                            exact List.map_congr_left fun x _ => rfl
      have hk := Tryd.strings_Join b o cq (xs.map str) (str [c]) w hcell hbk (by simpa using hn) (by simpa using hcq) (by rw [e1]; show (Lib.join xs [c]).length ≤ _; omega)
      rw [e1, List.length_map] at hk
      exact hk

end Go.Proofs.YtigaolglnnjnmaaDoor
