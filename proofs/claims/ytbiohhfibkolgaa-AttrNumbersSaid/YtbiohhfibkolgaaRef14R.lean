/-
  What Right of package strongroomref14 does.
-/
import Derived.Test.YtbiohhfibkolgaaRef14
namespace Go.Proofs.Ytbiohhfibkolgaa
open Go.Sx
set_option linter.unusedVariables false
set_option linter.unusedSimpArgs false
set_option maxRecDepth 100000

theorem three (f k s : Nat) : f &&& k ≠ 0 ∨ (f &&& k = 0 ∧ s = 0) ∨ (f &&& k = 0 ∧ s ≠ 0) := by
  by_cases h : f &&& k = 0 <;> by_cases h2 : s = 0 <;> simp [h, h2]
theorem four (f k u g : Nat) : f &&& k ≠ 0 ∨ (f &&& k = 0 ∧ u = 0 ∧ g = 0) ∨ (f &&& k = 0 ∧ u ≠ 0) ∨ (f &&& k = 0 ∧ u = 0 ∧ g ≠ 0) := by
  by_cases h : f &&& k = 0 <;> by_cases h2 : u = 0 <;> by_cases h3 : g = 0 <;> simp [h, h2, h3]
set_option maxHeartbeats 4000000 in
theorem qright_spec (x : At) (hx : x.Ok) : Tri Try.prog 41 [x.v] [] (fun v H' => v = .bool x.right ∧ H' = []) := by
  refine tri_forget (Ψ := fun v _ => v = .bool x.right) ?_ fun v H h => h
  rcases Classical.em (x.f ≤ 15) with h0 | hF
  all_goals first | (have hG := hF) | rcases three x.f 1 x.s with h1 | h1 | hF
  all_goals first | (have hG := hF) | rcases four x.f 2 x.u x.g with h2 | h2 | hF | hF
  all_goals first | (have hG := hF) | rcases three x.f 4 x.m with h3 | h3 | hF
  all_goals first | (have hG := hF) | rcases four x.f 8 x.a x.t with h4 | h4 | hF | hF
  all_goals
    refine tri_of_wp Try.func41 rfl Try.ntmps41 (by simp) ?_
    refine wp_seq' ?_
    refine wp_region' ?_
    refine ops_eff' rfl (eff_box rfl) rfl ?_
    rintro _ _ ⟨b1, rfl, rfl⟩
    refine ops_ro' rfl (ro_assign rfl) rfl ?_
    refine ops_nil ?_
    repeat (first | refine InBlock_normal ?_ | refine NoGoto_normal ?_ | refine Jump_normal ?_)
    refine Then_normal ?_
    refine wp_seq' ?_
    refine wp_region' ?_
    refine ops_ro' rfl (ro_fieldAddr fa30_0 rfl) rfl ?_
    refine ops_ro' rfl (ro_load sc27 rfl (by first | exact Rd.pick 0 rfl (by first | exact Rd.own rfl | exact Rd.row rfl) | exact Rd.pick 1 rfl (by first | exact Rd.own rfl | exact Rd.row rfl) | exact Rd.pick 2 rfl (by first | exact Rd.own rfl | exact Rd.row rfl) | exact Rd.pick 3 rfl (by first | exact Rd.own rfl | exact Rd.row rfl) | exact Rd.pick 4 rfl (by first | exact Rd.own rfl | exact Rd.row rfl) | exact Rd.pick 5 rfl (by first | exact Rd.own rfl | exact Rd.row rfl) | exact Rd.pick 6 rfl (by first | exact Rd.own rfl | exact Rd.row rfl) | exact Rd.pick 7 rfl (by first | exact Rd.own rfl | exact Rd.row rfl))) rfl ?_
    first | refine ops_ro' rfl (ro_leq rfl rfl (decide_eq_true (by omega))) rfl ?_ | refine ops_ro' rfl (ro_leq rfl rfl (decide_eq_false (by omega))) rfl ?_ | refine ops_skip rfl rfl ?_
    first | refine ops_ro' rfl (ro_move rfl) rfl ?_ | refine ops_skip rfl rfl ?_
    first | refine ops_ro' rfl (ro_fieldAddr fa30_0 rfl) rfl ?_ | refine ops_skip rfl rfl ?_
    first | refine ops_ro' rfl (ro_load sc27 rfl (by first | exact Rd.pick 0 rfl (by first | exact Rd.own rfl | exact Rd.row rfl) | exact Rd.pick 1 rfl (by first | exact Rd.own rfl | exact Rd.row rfl) | exact Rd.pick 2 rfl (by first | exact Rd.own rfl | exact Rd.row rfl) | exact Rd.pick 3 rfl (by first | exact Rd.own rfl | exact Rd.row rfl) | exact Rd.pick 4 rfl (by first | exact Rd.own rfl | exact Rd.row rfl) | exact Rd.pick 5 rfl (by first | exact Rd.own rfl | exact Rd.row rfl) | exact Rd.pick 6 rfl (by first | exact Rd.own rfl | exact Rd.row rfl) | exact Rd.pick 7 rfl (by first | exact Rd.own rfl | exact Rd.row rfl))) rfl ?_ | refine ops_skip rfl rfl ?_
    first | refine ops_ro' rfl (ro_and rfl rfl (and32 hx.f (c := 1) (by decide) rfl)) rfl ?_ | refine ops_skip rfl rfl ?_
    first | refine ops_ro' rfl (ro_neq rfl rfl (decide_eq_true (by omega))) rfl ?_ | refine ops_ro' rfl (ro_neq rfl rfl (decide_eq_false (by omega))) rfl ?_ | refine ops_skip rfl rfl ?_
    first | refine ops_ro' rfl (ro_move rfl) rfl ?_ | refine ops_skip rfl rfl ?_
    first | refine ops_ro' rfl (ro_fieldAddr fa30_1 rfl) rfl ?_ | refine ops_skip rfl rfl ?_
    first | refine ops_ro' rfl (ro_load sc28 rfl (by first | exact Rd.pick 0 rfl (by first | exact Rd.own rfl | exact Rd.row rfl) | exact Rd.pick 1 rfl (by first | exact Rd.own rfl | exact Rd.row rfl) | exact Rd.pick 2 rfl (by first | exact Rd.own rfl | exact Rd.row rfl) | exact Rd.pick 3 rfl (by first | exact Rd.own rfl | exact Rd.row rfl) | exact Rd.pick 4 rfl (by first | exact Rd.own rfl | exact Rd.row rfl) | exact Rd.pick 5 rfl (by first | exact Rd.own rfl | exact Rd.row rfl) | exact Rd.pick 6 rfl (by first | exact Rd.own rfl | exact Rd.row rfl) | exact Rd.pick 7 rfl (by first | exact Rd.own rfl | exact Rd.row rfl))) rfl ?_ | refine ops_skip rfl rfl ?_
    first | refine ops_ro' rfl (ro_eql rfl rfl (decide_eq_true (by omega))) rfl ?_ | refine ops_ro' rfl (ro_eql rfl rfl (decide_eq_false (by omega))) rfl ?_ | refine ops_skip rfl rfl ?_
    first | refine ops_ro' rfl (ro_pick rfl rfl) rfl ?_ | refine ops_skip rfl rfl ?_
    first | refine ops_ro' rfl (ro_pick rfl rfl) rfl ?_ | refine ops_skip rfl rfl ?_
    first | refine ops_ro' rfl (ro_move rfl) rfl ?_ | refine ops_skip rfl rfl ?_
    first | refine ops_ro' rfl (ro_fieldAddr fa30_0 rfl) rfl ?_ | refine ops_skip rfl rfl ?_
    first | refine ops_ro' rfl (ro_load sc27 rfl (by first | exact Rd.pick 0 rfl (by first | exact Rd.own rfl | exact Rd.row rfl) | exact Rd.pick 1 rfl (by first | exact Rd.own rfl | exact Rd.row rfl) | exact Rd.pick 2 rfl (by first | exact Rd.own rfl | exact Rd.row rfl) | exact Rd.pick 3 rfl (by first | exact Rd.own rfl | exact Rd.row rfl) | exact Rd.pick 4 rfl (by first | exact Rd.own rfl | exact Rd.row rfl) | exact Rd.pick 5 rfl (by first | exact Rd.own rfl | exact Rd.row rfl) | exact Rd.pick 6 rfl (by first | exact Rd.own rfl | exact Rd.row rfl) | exact Rd.pick 7 rfl (by first | exact Rd.own rfl | exact Rd.row rfl))) rfl ?_ | refine ops_skip rfl rfl ?_
    first | refine ops_ro' rfl (ro_and rfl rfl (and32 hx.f (c := 2) (by decide) rfl)) rfl ?_ | refine ops_skip rfl rfl ?_
    first | refine ops_ro' rfl (ro_neq rfl rfl (decide_eq_true (by omega))) rfl ?_ | refine ops_ro' rfl (ro_neq rfl rfl (decide_eq_false (by omega))) rfl ?_ | refine ops_skip rfl rfl ?_
    first | refine ops_ro' rfl (ro_move rfl) rfl ?_ | refine ops_skip rfl rfl ?_
    first | refine ops_ro' rfl (ro_fieldAddr fa30_2 rfl) rfl ?_ | refine ops_skip rfl rfl ?_
    first | refine ops_ro' rfl (ro_load sc27 rfl (by first | exact Rd.pick 0 rfl (by first | exact Rd.own rfl | exact Rd.row rfl) | exact Rd.pick 1 rfl (by first | exact Rd.own rfl | exact Rd.row rfl) | exact Rd.pick 2 rfl (by first | exact Rd.own rfl | exact Rd.row rfl) | exact Rd.pick 3 rfl (by first | exact Rd.own rfl | exact Rd.row rfl) | exact Rd.pick 4 rfl (by first | exact Rd.own rfl | exact Rd.row rfl) | exact Rd.pick 5 rfl (by first | exact Rd.own rfl | exact Rd.row rfl) | exact Rd.pick 6 rfl (by first | exact Rd.own rfl | exact Rd.row rfl) | exact Rd.pick 7 rfl (by first | exact Rd.own rfl | exact Rd.row rfl))) rfl ?_ | refine ops_skip rfl rfl ?_
    first | refine ops_ro' rfl (ro_eql rfl rfl (decide_eq_true (by omega))) rfl ?_ | refine ops_ro' rfl (ro_eql rfl rfl (decide_eq_false (by omega))) rfl ?_ | refine ops_skip rfl rfl ?_
    first | refine ops_ro' rfl (ro_move rfl) rfl ?_ | refine ops_skip rfl rfl ?_
    first | refine ops_ro' rfl (ro_fieldAddr fa30_3 rfl) rfl ?_ | refine ops_skip rfl rfl ?_
    first | refine ops_ro' rfl (ro_load sc27 rfl (by first | exact Rd.pick 0 rfl (by first | exact Rd.own rfl | exact Rd.row rfl) | exact Rd.pick 1 rfl (by first | exact Rd.own rfl | exact Rd.row rfl) | exact Rd.pick 2 rfl (by first | exact Rd.own rfl | exact Rd.row rfl) | exact Rd.pick 3 rfl (by first | exact Rd.own rfl | exact Rd.row rfl) | exact Rd.pick 4 rfl (by first | exact Rd.own rfl | exact Rd.row rfl) | exact Rd.pick 5 rfl (by first | exact Rd.own rfl | exact Rd.row rfl) | exact Rd.pick 6 rfl (by first | exact Rd.own rfl | exact Rd.row rfl) | exact Rd.pick 7 rfl (by first | exact Rd.own rfl | exact Rd.row rfl))) rfl ?_ | refine ops_skip rfl rfl ?_
    first | refine ops_ro' rfl (ro_eql rfl rfl (decide_eq_true (by omega))) rfl ?_ | refine ops_ro' rfl (ro_eql rfl rfl (decide_eq_false (by omega))) rfl ?_ | refine ops_skip rfl rfl ?_
    first | refine ops_ro' rfl (ro_pick rfl rfl) rfl ?_ | refine ops_skip rfl rfl ?_
    first | refine ops_ro' rfl (ro_pick rfl rfl) rfl ?_ | refine ops_skip rfl rfl ?_
    first | refine ops_ro' rfl (ro_pick rfl rfl) rfl ?_ | refine ops_skip rfl rfl ?_
    first | refine ops_ro' rfl (ro_move rfl) rfl ?_ | refine ops_skip rfl rfl ?_
    first | refine ops_ro' rfl (ro_fieldAddr fa30_0 rfl) rfl ?_ | refine ops_skip rfl rfl ?_
    first | refine ops_ro' rfl (ro_load sc27 rfl (by first | exact Rd.pick 0 rfl (by first | exact Rd.own rfl | exact Rd.row rfl) | exact Rd.pick 1 rfl (by first | exact Rd.own rfl | exact Rd.row rfl) | exact Rd.pick 2 rfl (by first | exact Rd.own rfl | exact Rd.row rfl) | exact Rd.pick 3 rfl (by first | exact Rd.own rfl | exact Rd.row rfl) | exact Rd.pick 4 rfl (by first | exact Rd.own rfl | exact Rd.row rfl) | exact Rd.pick 5 rfl (by first | exact Rd.own rfl | exact Rd.row rfl) | exact Rd.pick 6 rfl (by first | exact Rd.own rfl | exact Rd.row rfl) | exact Rd.pick 7 rfl (by first | exact Rd.own rfl | exact Rd.row rfl))) rfl ?_ | refine ops_skip rfl rfl ?_
    first | refine ops_ro' rfl (ro_and rfl rfl (and32 hx.f (c := 4) (by decide) rfl)) rfl ?_ | refine ops_skip rfl rfl ?_
    first | refine ops_ro' rfl (ro_neq rfl rfl (decide_eq_true (by omega))) rfl ?_ | refine ops_ro' rfl (ro_neq rfl rfl (decide_eq_false (by omega))) rfl ?_ | refine ops_skip rfl rfl ?_
    first | refine ops_ro' rfl (ro_move rfl) rfl ?_ | refine ops_skip rfl rfl ?_
    first | refine ops_ro' rfl (ro_fieldAddr fa30_4 rfl) rfl ?_ | refine ops_skip rfl rfl ?_
    first | refine ops_ro' rfl (ro_load sc27 rfl (by first | exact Rd.pick 0 rfl (by first | exact Rd.own rfl | exact Rd.row rfl) | exact Rd.pick 1 rfl (by first | exact Rd.own rfl | exact Rd.row rfl) | exact Rd.pick 2 rfl (by first | exact Rd.own rfl | exact Rd.row rfl) | exact Rd.pick 3 rfl (by first | exact Rd.own rfl | exact Rd.row rfl) | exact Rd.pick 4 rfl (by first | exact Rd.own rfl | exact Rd.row rfl) | exact Rd.pick 5 rfl (by first | exact Rd.own rfl | exact Rd.row rfl) | exact Rd.pick 6 rfl (by first | exact Rd.own rfl | exact Rd.row rfl) | exact Rd.pick 7 rfl (by first | exact Rd.own rfl | exact Rd.row rfl))) rfl ?_ | refine ops_skip rfl rfl ?_
    first | refine ops_ro' rfl (ro_eql rfl rfl (decide_eq_true (by omega))) rfl ?_ | refine ops_ro' rfl (ro_eql rfl rfl (decide_eq_false (by omega))) rfl ?_ | refine ops_skip rfl rfl ?_
    first | refine ops_ro' rfl (ro_pick rfl rfl) rfl ?_ | refine ops_skip rfl rfl ?_
    first | refine ops_ro' rfl (ro_pick rfl rfl) rfl ?_ | refine ops_skip rfl rfl ?_
    first | refine ops_ro' rfl (ro_move rfl) rfl ?_ | refine ops_skip rfl rfl ?_
    first | refine ops_ro' rfl (ro_fieldAddr fa30_0 rfl) rfl ?_ | refine ops_skip rfl rfl ?_
    first | refine ops_ro' rfl (ro_load sc27 rfl (by first | exact Rd.pick 0 rfl (by first | exact Rd.own rfl | exact Rd.row rfl) | exact Rd.pick 1 rfl (by first | exact Rd.own rfl | exact Rd.row rfl) | exact Rd.pick 2 rfl (by first | exact Rd.own rfl | exact Rd.row rfl) | exact Rd.pick 3 rfl (by first | exact Rd.own rfl | exact Rd.row rfl) | exact Rd.pick 4 rfl (by first | exact Rd.own rfl | exact Rd.row rfl) | exact Rd.pick 5 rfl (by first | exact Rd.own rfl | exact Rd.row rfl) | exact Rd.pick 6 rfl (by first | exact Rd.own rfl | exact Rd.row rfl) | exact Rd.pick 7 rfl (by first | exact Rd.own rfl | exact Rd.row rfl))) rfl ?_ | refine ops_skip rfl rfl ?_
    first | refine ops_ro' rfl (ro_and rfl rfl (and32 hx.f (c := 8) (by decide) rfl)) rfl ?_ | refine ops_skip rfl rfl ?_
    first | refine ops_ro' rfl (ro_neq rfl rfl (decide_eq_true (by omega))) rfl ?_ | refine ops_ro' rfl (ro_neq rfl rfl (decide_eq_false (by omega))) rfl ?_ | refine ops_skip rfl rfl ?_
    first | refine ops_ro' rfl (ro_move rfl) rfl ?_ | refine ops_skip rfl rfl ?_
    first | refine ops_ro' rfl (ro_fieldAddr fa30_5 rfl) rfl ?_ | refine ops_skip rfl rfl ?_
    first | refine ops_ro' rfl (ro_load sc27 rfl (by first | exact Rd.pick 0 rfl (by first | exact Rd.own rfl | exact Rd.row rfl) | exact Rd.pick 1 rfl (by first | exact Rd.own rfl | exact Rd.row rfl) | exact Rd.pick 2 rfl (by first | exact Rd.own rfl | exact Rd.row rfl) | exact Rd.pick 3 rfl (by first | exact Rd.own rfl | exact Rd.row rfl) | exact Rd.pick 4 rfl (by first | exact Rd.own rfl | exact Rd.row rfl) | exact Rd.pick 5 rfl (by first | exact Rd.own rfl | exact Rd.row rfl) | exact Rd.pick 6 rfl (by first | exact Rd.own rfl | exact Rd.row rfl) | exact Rd.pick 7 rfl (by first | exact Rd.own rfl | exact Rd.row rfl))) rfl ?_ | refine ops_skip rfl rfl ?_
    first | refine ops_ro' rfl (ro_eql rfl rfl (decide_eq_true (by omega))) rfl ?_ | refine ops_ro' rfl (ro_eql rfl rfl (decide_eq_false (by omega))) rfl ?_ | refine ops_skip rfl rfl ?_
    first | refine ops_ro' rfl (ro_move rfl) rfl ?_ | refine ops_skip rfl rfl ?_
    first | refine ops_ro' rfl (ro_fieldAddr fa30_6 rfl) rfl ?_ | refine ops_skip rfl rfl ?_
    first | refine ops_ro' rfl (ro_load sc27 rfl (by first | exact Rd.pick 0 rfl (by first | exact Rd.own rfl | exact Rd.row rfl) | exact Rd.pick 1 rfl (by first | exact Rd.own rfl | exact Rd.row rfl) | exact Rd.pick 2 rfl (by first | exact Rd.own rfl | exact Rd.row rfl) | exact Rd.pick 3 rfl (by first | exact Rd.own rfl | exact Rd.row rfl) | exact Rd.pick 4 rfl (by first | exact Rd.own rfl | exact Rd.row rfl) | exact Rd.pick 5 rfl (by first | exact Rd.own rfl | exact Rd.row rfl) | exact Rd.pick 6 rfl (by first | exact Rd.own rfl | exact Rd.row rfl) | exact Rd.pick 7 rfl (by first | exact Rd.own rfl | exact Rd.row rfl))) rfl ?_ | refine ops_skip rfl rfl ?_
    first | refine ops_ro' rfl (ro_eql rfl rfl (decide_eq_true (by omega))) rfl ?_ | refine ops_ro' rfl (ro_eql rfl rfl (decide_eq_false (by omega))) rfl ?_ | refine ops_skip rfl rfl ?_
    first | refine ops_ro' rfl (ro_pick rfl rfl) rfl ?_ | refine ops_skip rfl rfl ?_
    first | refine ops_ro' rfl (ro_pick rfl rfl) rfl ?_ | refine ops_skip rfl rfl ?_
    first | refine ops_ro' rfl (ro_pick rfl rfl) rfl ?_ | refine ops_skip rfl rfl ?_
    refine ops_ro' rfl (ro_assign rfl) rfl ?_
    refine ops_nil ?_
    repeat (first | refine InBlock_normal ?_ | refine NoGoto_normal ?_ | refine Jump_normal ?_)
    refine Then_normal ?_
    refine wp_ret' ?_
    repeat (first | refine Then_ret ?_ | refine InBlock_ret ?_ | refine NoGoto_ret ?_ | refine Jump_ret ?_)
    refine done_ret (res1 rfl rfl) ?_
    first | exact congrArg Value.bool ((right_good x).2 ⟨by omega, by omega, by omega, by omega, by omega, by omega, by omega⟩).symm | exact congrArg Value.bool (Eq.symm (Bool.eq_false_iff.2 (fun hr => absurd ((right_good x).1 hr) (fun g => by have g0 := g.f; have g1 := g.s; have g2 := g.u; have g3 := g.g; have g4 := g.m; have g5 := g.a; have g6 := g.t; omega))))
theorem qright_of {x : At} {b : Bool} (hx : x.Ok) (hb : x.right = b) : Tri Try.prog 41 [x.v] [] (fun v H' => v = .bool b ∧ H' = []) := hb ▸ qright_spec x hx

end Go.Proofs.Ytbiohhfibkolgaa
