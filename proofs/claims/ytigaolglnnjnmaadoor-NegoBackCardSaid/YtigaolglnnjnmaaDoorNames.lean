/-
  Texts joined; names written; the runs of chapter 1.
-/
import Derived.Test.YtigaolglnnjnmaaDoorWire2
import Derived.Test.YtigaolglnnjnmaaDoorLib
namespace Go.Proofs.YtigaolglnnjnmaaDoor
open Go.Sx
set_option linter.unusedVariables false
set_option linter.unusedSimpArgs false
set_option maxRecDepth 100000

open Go.RowKit
theorem sat_below {w w' : World} (h : Below w.heap.size w w') {A : HProp} (s : sat w A) : sat w' A := by
  obtain ⟨k, hk, f⟩ := s
  have hc : cx w' = cx w := by unfold cx; rw [h.os, h.output]
  refine ⟨k, hc ▸ hk, fun b x hx => ?_⟩
  have h1 := f b x hx
  rw [h.block b (Array.getElem?_eq_some_iff.1 h1).1]; exact h1
theorem tri_below {f : FuncId} {args : List Value} {Pre : List HProp} {v : Value} (h : ∀ w F, sat w (star (St Pre) F) → Calls Tryd.prog f args.toArray w fun e w' => e = .returned v ∧ Below w.heap.size w w') : Tri Tryd.prog f args Pre (fun v' H' => v' = v ∧ H' = Pre) := fun w F s =>
  (h w F s).mono fun e w' ⟨he, hb⟩ => ⟨v, Pre, he, ⟨rfl, rfl⟩, sat_below hb s⟩
/-- texts, joined -/
def joined (xs : List (List UInt8)) (sep : List UInt8) : List UInt8 := Lib.join xs sep
theorem join_spec (V : HProp) (q : Option Addr) (cq : Nat) (xs : List (List UInt8)) (sep : List UInt8) (hV : Vw V (.slice q xs.length cq) xs.length (xs.map fun x => Value.string (str x))) (hcq : xs.length ≤ cq) (hn : xs.length ≤ 140737488355328) (hj : (joined xs sep).length ≤ 35184372088000) :
    Tri Tryd.prog 35 [.slice q xs.length cq, .string (str sep)] [V] (fun v H' => v = .string (str (joined xs sep)) ∧ H' = [V]) := by
  refine tri_below fun w F s => ?_
  rw [St_cons, St_nil, star_assoc] at s
  rcases hV w _ s with ⟨q', h1, h2, _⟩ | ⟨b, o, cap, h1, hc⟩
  · have h0 : xs = [] := List.eq_nil_of_length_eq_zero h2
    subst h0
    refine (Tryd.strings_Join_none q cq (str sep) w).mono fun e w' ⟨he, hw⟩ => ⟨he, hw ▸ Below.refl _ _⟩
  · injection h1 with h1 _ h3; subst h1; subst h3
    by_cases h0 : xs = []
    · subst h0
      refine (Tryd.strings_Join_none _ cq (str sep) w).mono fun e w' ⟨he, hw⟩ => ⟨he, hw ▸ Below.refl _ _⟩
    · have hcell : ∀ (j : Nat) x, (xs.map str)[j]? = some x → w.cell? ⟨b, o + j, none⟩ = some (.string x) := fun j x hx => hc j _ (by
        rw [List.getElem?_map] at hx ⊢
        cases hh : xs[j]? with
        | none => rw [hh] at hx; cases hx
        | some y => rw [hh] at hx; injection hx with hx; rw [← hx]; rfl)
      have hbk : b < w.heap.size := by
        obtain ⟨y, ys, rfl⟩ := List.exists_cons_of_ne_nil h0
        have h2 := hcell 0 (str y) rfl
        refine Classical.byContradiction fun hn => ?_
        have : w.heap[b]? = none := by simp; omega
        simp [World.cell?, this] at h2
      have e1 : (xs.map str).map (·.data.toList) = xs := by rw [List.map_map]; conv => rhs; rw [← List.map_id xs]
                                                            exact List.map_congr_left fun x _ => rfl
      have hk := Tryd.strings_Join b o cq (xs.map str) (str sep) w hcell hbk (by simpa using hn) (by simpa using hcq) (by rw [e1]; show (joined xs sep).length ≤ _; omega)
      rw [e1, List.length_map] at hk
      exact hk
theorem names_spec (V : HProp) (q : Option Addr) (cq : Nat) (xs : List (List UInt8)) (hV : Vw V (.slice q xs.length cq) xs.length (xs.map fun x => Value.string (str x))) (hcq : xs.length ≤ cq) (hn : xs.length ≤ 140737488355328) (hj : (joined xs [44]).length ≤ 35184372088000) (pw : Nat) (p : Option Addr) (c : Nat) (acc : List UInt8) (ha : acc.length ≤ 35184372088832) :
    Tri Tryd.prog 45 [.pointer (some ⟨pw, 0, none⟩), .slice q xs.length cq] (wr pw p c acc ++ [V]) (fun v H' => ∃ p' c', v = .tuple #[] ∧ H' = wr pw p' c' (acc ++ (be (joined xs [44]).length 4 ++ joined xs [44])) ++ [V]) := by
  refine tri_of_wp Tryd.func45 rfl Tryd.ntmps45 (by simp) ?_
  refine wp_region' ?_
  refine ops_ro' rfl (ro_move rfl) rfl ?_
  refine ops_ro' rfl (ro_move rfl) rfl ?_
  refine ops_eff' rfl (eff_call Tryd.call35 rfl rfl (Split.cons 2 rfl (Split.nil _)) (join_spec V q cq xs [44] hV hcq hn hj)) rfl ?_
  rintro _ H' ⟨_, ⟨rfl, rfl⟩, hH⟩
  simp only [List.cons_append, List.nil_append, List.eraseIdx_cons_zero, List.eraseIdx_cons_succ, List.set_cons_zero, List.set_cons_succ] at hH
  subst hH
  refine ops_eff' rfl (eff_call Tryd.call69 rfl rfl (Split.cons 1 rfl (Split.cons 1 rfl (Split.nil _))) (text_spec pw p c acc (str (joined xs [44])) (by rw [str_size]; omega) ha)) rfl ?_
  rintro _ H' ⟨_, ⟨p', c', rfl, rfl⟩, hH⟩
  simp only [List.cons_append, List.nil_append, List.eraseIdx_cons_zero, List.eraseIdx_cons_succ, List.set_cons_zero, List.set_cons_succ] at hH
  subst hH
  refine ops_nil ?_
  repeat (first | refine InBlock_normal ?_ | refine NoGoto_normal ?_ | refine Jump_normal ?_)
  refine done_normal (res0 rfl) ?_
  refine ⟨p', c', rfl, ?_⟩
  rw [str_size, List.append_assoc]; rfl

end Go.Proofs.YtigaolglnnjnmaaDoor
