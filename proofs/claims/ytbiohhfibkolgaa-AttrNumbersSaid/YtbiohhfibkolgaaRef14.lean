/-
  What package strongroomref14 does.
-/
import Derived.Test.YtbiohhfibkolgaaRefR
import Derived.Test.YtbiohhfibkolgaaAttrBack
namespace Go.Proofs.Ytbiohhfibkolgaa
open Go.Sx
set_option linter.unusedVariables false
set_option linter.unusedSimpArgs false
set_option maxRecDepth 100000

theorem m_f (x y : At) : ((((x.m2 y).m3 y).m4 y).m5 y).f = x.f := by
  unfold At.m5 At.m4 At.m3 At.m2
  repeat' split
  all_goals rfl
theorem merge_m (x y : At) : ((((x.m2 y).m3 y).m4 y).m5 y).m1 y = x.merge y := by
  unfold At.merge At.m5 At.m4 At.m3 At.m2 At.m1
  by_cases h1 : y.f &&& 1 = 0 <;> by_cases h2 : y.f &&& 2 = 0 <;> by_cases h3 : y.f &&& 4 = 0 <;> by_cases h4 : y.f &&& 8 = 0 <;> simp only [h1, h2, h3, h4, ne_eq, not_true_eq_false, not_false_eq_true, if_true, if_false]
theorem qmerge_run (x y : At) (hx : x.Ok) (hy : y.Ok) :
    Tri Try.prog 39 [x.v, y.v] [] (fun v H' => v = (x.merge y).v) := by
  refine tri_of_wp Try.func39 rfl Try.ntmps39 (by simp) ?_
  refine wp_seq' ?_
  refine wp_region' ?_
  refine ops_eff' rfl (eff_box rfl) rfl ?_
  rintro _ _ ⟨b2, rfl, rfl⟩
  refine ops_eff' rfl (eff_box rfl) rfl ?_
  rintro _ _ ⟨b3, rfl, rfl⟩
  refine ops_eff' rfl (eff_alloc z30) rfl ?_
  rintro _ _ ⟨b4, rfl, rfl⟩
  refine ops_nil ?_
  repeat (first | refine InBlock_normal ?_ | refine NoGoto_normal ?_ | refine Jump_normal ?_)
  refine Then_normal ?_
  refine wp_cut (fun Γ H => Has Γ [(2, .pointer (some ⟨b2, 0, none⟩)), (3, .pointer (some ⟨b3, 0, none⟩)), (4, .pointer (some ⟨b4, 0, none⟩))] ∧ H = [own b4 (.cells At.zero.cs.toArray 30 (0, 0)), own b3 (.cells y.cs.toArray 30 (0, 0)), own b2 (.cells (x.m2 y).cs.toArray 30 (0, 0))]) ?_ ?_
  · refine wp_seq' ?_
    refine wp_region' ?_
    refine ops_ro' rfl (ro_fieldAddr fa30_0 rfl) rfl ?_
    refine ops_ro' rfl (ro_load sc27 rfl (by first | exact Rd.pick 0 rfl (by first | exact Rd.own rfl | exact Rd.row rfl) | exact Rd.pick 1 rfl (by first | exact Rd.own rfl | exact Rd.row rfl) | exact Rd.pick 2 rfl (by first | exact Rd.own rfl | exact Rd.row rfl) | exact Rd.pick 3 rfl (by first | exact Rd.own rfl | exact Rd.row rfl) | exact Rd.pick 4 rfl (by first | exact Rd.own rfl | exact Rd.row rfl) | exact Rd.pick 5 rfl (by first | exact Rd.own rfl | exact Rd.row rfl) | exact Rd.pick 6 rfl (by first | exact Rd.own rfl | exact Rd.row rfl) | exact Rd.pick 7 rfl (by first | exact Rd.own rfl | exact Rd.row rfl))) rfl ?_
    refine ops_ro' rfl (ro_and rfl rfl (and32 hy.f (c := 1) (by decide) rfl)) rfl ?_
    refine ops_ro' rfl (ro_neq rfl rfl rfl) rfl ?_
    refine ops_nil ?_
    repeat (first | refine InBlock_normal ?_ | refine NoGoto_normal ?_ | refine Jump_normal ?_)
    refine Then_normal ?_
    refine wp_cond' rfl (fun hc0 => ?_) (fun hc0 => ?_)
    · try replace hc0 := of_decide_eq_true hc0
      refine wp_region' ?_
      refine ops_ro' rfl (ro_fieldAddr fa30_1 rfl) rfl ?_
      refine ops_ro' rfl (ro_load sc28 rfl (by first | exact Rd.pick 0 rfl (by first | exact Rd.own rfl | exact Rd.row rfl) | exact Rd.pick 1 rfl (by first | exact Rd.own rfl | exact Rd.row rfl) | exact Rd.pick 2 rfl (by first | exact Rd.own rfl | exact Rd.row rfl) | exact Rd.pick 3 rfl (by first | exact Rd.own rfl | exact Rd.row rfl) | exact Rd.pick 4 rfl (by first | exact Rd.own rfl | exact Rd.row rfl) | exact Rd.pick 5 rfl (by first | exact Rd.own rfl | exact Rd.row rfl) | exact Rd.pick 6 rfl (by first | exact Rd.own rfl | exact Rd.row rfl) | exact Rd.pick 7 rfl (by first | exact Rd.own rfl | exact Rd.row rfl))) rfl ?_
      refine ops_ro' rfl (ro_fieldAddr fa30_1 rfl) rfl ?_
      refine ops_eff0 rfl ((by first | exact eff_store 0 sc28 rfl rfl rfl rfl (Nat.le_of_ble_eq_true rfl) (warm_zero _) | exact eff_store 1 sc28 rfl rfl rfl rfl (Nat.le_of_ble_eq_true rfl) (warm_zero _) | exact eff_store 2 sc28 rfl rfl rfl rfl (Nat.le_of_ble_eq_true rfl) (warm_zero _) | exact eff_store 3 sc28 rfl rfl rfl rfl (Nat.le_of_ble_eq_true rfl) (warm_zero _) | exact eff_store 4 sc28 rfl rfl rfl rfl (Nat.le_of_ble_eq_true rfl) (warm_zero _) | exact eff_store 5 sc28 rfl rfl rfl rfl (Nat.le_of_ble_eq_true rfl) (warm_zero _) | exact eff_store 6 sc28 rfl rfl rfl rfl (Nat.le_of_ble_eq_true rfl) (warm_zero _) | exact eff_store 7 sc28 rfl rfl rfl rfl (Nat.le_of_ble_eq_true rfl) (warm_zero _))) rfl ?_
      rintro _ _ rfl
      refine ops_nil ?_
      repeat (first | refine InBlock_normal ?_ | refine NoGoto_normal ?_ | refine Jump_normal ?_)
      refine Then_normal ?_
      exact ⟨Has.cons rfl (Has.cons rfl (Has.cons rfl (Has.nil _))), by rw [At.m2, if_pos (by omega)]; rfl⟩
    · try replace hc0 := of_decide_eq_false hc0
      refine wp_skip' ?_
      repeat (first | refine InBlock_normal ?_ | refine NoGoto_normal ?_ | refine Jump_normal ?_)
      refine Then_normal ?_
      exact ⟨Has.cons rfl (Has.cons rfl (Has.cons rfl (Has.nil _))), by rw [At.m2, if_neg (by omega)] <;> rfl⟩
  rintro Γ H ⟨hΓ, rfl⟩
  refine wp_has hΓ ?_
  refine wp_cut (fun Γ H => Has Γ [(2, .pointer (some ⟨b2, 0, none⟩)), (3, .pointer (some ⟨b3, 0, none⟩)), (4, .pointer (some ⟨b4, 0, none⟩))] ∧ H = [own b4 (.cells At.zero.cs.toArray 30 (0, 0)), own b3 (.cells y.cs.toArray 30 (0, 0)), own b2 (.cells ((x.m2 y).m3 y).cs.toArray 30 (0, 0))]) ?_ ?_
  · refine wp_seq' ?_
    refine wp_region' ?_
    refine ops_ro' rfl (ro_fieldAddr fa30_0 rfl) rfl ?_
    refine ops_ro' rfl (ro_load sc27 rfl (by first | exact Rd.pick 0 rfl (by first | exact Rd.own rfl | exact Rd.row rfl) | exact Rd.pick 1 rfl (by first | exact Rd.own rfl | exact Rd.row rfl) | exact Rd.pick 2 rfl (by first | exact Rd.own rfl | exact Rd.row rfl) | exact Rd.pick 3 rfl (by first | exact Rd.own rfl | exact Rd.row rfl) | exact Rd.pick 4 rfl (by first | exact Rd.own rfl | exact Rd.row rfl) | exact Rd.pick 5 rfl (by first | exact Rd.own rfl | exact Rd.row rfl) | exact Rd.pick 6 rfl (by first | exact Rd.own rfl | exact Rd.row rfl) | exact Rd.pick 7 rfl (by first | exact Rd.own rfl | exact Rd.row rfl))) rfl ?_
    refine ops_ro' rfl (ro_and rfl rfl (and32 hy.f (c := 2) (by decide) rfl)) rfl ?_
    refine ops_ro' rfl (ro_neq rfl rfl rfl) rfl ?_
    refine ops_nil ?_
    repeat (first | refine InBlock_normal ?_ | refine NoGoto_normal ?_ | refine Jump_normal ?_)
    refine Then_normal ?_
    refine wp_cond' rfl (fun hc1 => ?_) (fun hc1 => ?_)
    · try replace hc1 := of_decide_eq_true hc1
      refine wp_seq' ?_
      refine wp_region' ?_
      refine ops_ro' rfl (ro_fieldAddr fa30_2 rfl) rfl ?_
      refine ops_ro' rfl (ro_load sc27 rfl (by first | exact Rd.pick 0 rfl (by first | exact Rd.own rfl | exact Rd.row rfl) | exact Rd.pick 1 rfl (by first | exact Rd.own rfl | exact Rd.row rfl) | exact Rd.pick 2 rfl (by first | exact Rd.own rfl | exact Rd.row rfl) | exact Rd.pick 3 rfl (by first | exact Rd.own rfl | exact Rd.row rfl) | exact Rd.pick 4 rfl (by first | exact Rd.own rfl | exact Rd.row rfl) | exact Rd.pick 5 rfl (by first | exact Rd.own rfl | exact Rd.row rfl) | exact Rd.pick 6 rfl (by first | exact Rd.own rfl | exact Rd.row rfl) | exact Rd.pick 7 rfl (by first | exact Rd.own rfl | exact Rd.row rfl))) rfl ?_
      refine ops_ro' rfl (ro_fieldAddr fa30_2 rfl) rfl ?_
      refine ops_eff0 rfl ((by first | exact eff_store 0 sc27 rfl rfl rfl rfl (Nat.le_of_ble_eq_true rfl) (warm_zero _) | exact eff_store 1 sc27 rfl rfl rfl rfl (Nat.le_of_ble_eq_true rfl) (warm_zero _) | exact eff_store 2 sc27 rfl rfl rfl rfl (Nat.le_of_ble_eq_true rfl) (warm_zero _) | exact eff_store 3 sc27 rfl rfl rfl rfl (Nat.le_of_ble_eq_true rfl) (warm_zero _) | exact eff_store 4 sc27 rfl rfl rfl rfl (Nat.le_of_ble_eq_true rfl) (warm_zero _) | exact eff_store 5 sc27 rfl rfl rfl rfl (Nat.le_of_ble_eq_true rfl) (warm_zero _) | exact eff_store 6 sc27 rfl rfl rfl rfl (Nat.le_of_ble_eq_true rfl) (warm_zero _) | exact eff_store 7 sc27 rfl rfl rfl rfl (Nat.le_of_ble_eq_true rfl) (warm_zero _))) rfl ?_
      rintro _ _ rfl
      refine ops_nil ?_
      repeat (first | refine InBlock_normal ?_ | refine NoGoto_normal ?_ | refine Jump_normal ?_)
      refine Then_normal ?_
      refine wp_region' ?_
      refine ops_ro' rfl (ro_fieldAddr fa30_3 rfl) rfl ?_
      refine ops_ro' rfl (ro_load sc27 rfl (by first | exact Rd.pick 0 rfl (by first | exact Rd.own rfl | exact Rd.row rfl) | exact Rd.pick 1 rfl (by first | exact Rd.own rfl | exact Rd.row rfl) | exact Rd.pick 2 rfl (by first | exact Rd.own rfl | exact Rd.row rfl) | exact Rd.pick 3 rfl (by first | exact Rd.own rfl | exact Rd.row rfl) | exact Rd.pick 4 rfl (by first | exact Rd.own rfl | exact Rd.row rfl) | exact Rd.pick 5 rfl (by first | exact Rd.own rfl | exact Rd.row rfl) | exact Rd.pick 6 rfl (by first | exact Rd.own rfl | exact Rd.row rfl) | exact Rd.pick 7 rfl (by first | exact Rd.own rfl | exact Rd.row rfl))) rfl ?_
      refine ops_ro' rfl (ro_fieldAddr fa30_3 rfl) rfl ?_
      refine ops_eff0 rfl ((by first | exact eff_store 0 sc27 rfl rfl rfl rfl (Nat.le_of_ble_eq_true rfl) (warm_zero _) | exact eff_store 1 sc27 rfl rfl rfl rfl (Nat.le_of_ble_eq_true rfl) (warm_zero _) | exact eff_store 2 sc27 rfl rfl rfl rfl (Nat.le_of_ble_eq_true rfl) (warm_zero _) | exact eff_store 3 sc27 rfl rfl rfl rfl (Nat.le_of_ble_eq_true rfl) (warm_zero _) | exact eff_store 4 sc27 rfl rfl rfl rfl (Nat.le_of_ble_eq_true rfl) (warm_zero _) | exact eff_store 5 sc27 rfl rfl rfl rfl (Nat.le_of_ble_eq_true rfl) (warm_zero _) | exact eff_store 6 sc27 rfl rfl rfl rfl (Nat.le_of_ble_eq_true rfl) (warm_zero _) | exact eff_store 7 sc27 rfl rfl rfl rfl (Nat.le_of_ble_eq_true rfl) (warm_zero _))) rfl ?_
      rintro _ _ rfl
      refine ops_nil ?_
      repeat (first | refine InBlock_normal ?_ | refine NoGoto_normal ?_ | refine Jump_normal ?_)
      refine Then_normal ?_
      exact ⟨Has.cons rfl (Has.cons rfl (Has.cons rfl (Has.nil _))), by rw [At.m3, if_pos (by omega)]; rfl⟩
    · try replace hc1 := of_decide_eq_false hc1
      refine wp_skip' ?_
      repeat (first | refine InBlock_normal ?_ | refine NoGoto_normal ?_ | refine Jump_normal ?_)
      refine Then_normal ?_
      exact ⟨Has.cons rfl (Has.cons rfl (Has.cons rfl (Has.nil _))), by rw [At.m3, if_neg (by omega)] <;> rfl⟩
  rintro Γ H ⟨hΓ, rfl⟩
  refine wp_has hΓ ?_
  refine wp_cut (fun Γ H => Has Γ [(2, .pointer (some ⟨b2, 0, none⟩)), (3, .pointer (some ⟨b3, 0, none⟩)), (4, .pointer (some ⟨b4, 0, none⟩))] ∧ H = [own b4 (.cells At.zero.cs.toArray 30 (0, 0)), own b3 (.cells y.cs.toArray 30 (0, 0)), own b2 (.cells (((x.m2 y).m3 y).m4 y).cs.toArray 30 (0, 0))]) ?_ ?_
  · refine wp_seq' ?_
    refine wp_region' ?_
    refine ops_ro' rfl (ro_fieldAddr fa30_0 rfl) rfl ?_
    refine ops_ro' rfl (ro_load sc27 rfl (by first | exact Rd.pick 0 rfl (by first | exact Rd.own rfl | exact Rd.row rfl) | exact Rd.pick 1 rfl (by first | exact Rd.own rfl | exact Rd.row rfl) | exact Rd.pick 2 rfl (by first | exact Rd.own rfl | exact Rd.row rfl) | exact Rd.pick 3 rfl (by first | exact Rd.own rfl | exact Rd.row rfl) | exact Rd.pick 4 rfl (by first | exact Rd.own rfl | exact Rd.row rfl) | exact Rd.pick 5 rfl (by first | exact Rd.own rfl | exact Rd.row rfl) | exact Rd.pick 6 rfl (by first | exact Rd.own rfl | exact Rd.row rfl) | exact Rd.pick 7 rfl (by first | exact Rd.own rfl | exact Rd.row rfl))) rfl ?_
    refine ops_ro' rfl (ro_and rfl rfl (and32 hy.f (c := 4) (by decide) rfl)) rfl ?_
    refine ops_ro' rfl (ro_neq rfl rfl rfl) rfl ?_
    refine ops_nil ?_
    repeat (first | refine InBlock_normal ?_ | refine NoGoto_normal ?_ | refine Jump_normal ?_)
    refine Then_normal ?_
    refine wp_cond' rfl (fun hc2 => ?_) (fun hc2 => ?_)
    · try replace hc2 := of_decide_eq_true hc2
      refine wp_region' ?_
      refine ops_ro' rfl (ro_fieldAddr fa30_4 rfl) rfl ?_
      refine ops_ro' rfl (ro_load sc27 rfl (by first | exact Rd.pick 0 rfl (by first | exact Rd.own rfl | exact Rd.row rfl) | exact Rd.pick 1 rfl (by first | exact Rd.own rfl | exact Rd.row rfl) | exact Rd.pick 2 rfl (by first | exact Rd.own rfl | exact Rd.row rfl) | exact Rd.pick 3 rfl (by first | exact Rd.own rfl | exact Rd.row rfl) | exact Rd.pick 4 rfl (by first | exact Rd.own rfl | exact Rd.row rfl) | exact Rd.pick 5 rfl (by first | exact Rd.own rfl | exact Rd.row rfl) | exact Rd.pick 6 rfl (by first | exact Rd.own rfl | exact Rd.row rfl) | exact Rd.pick 7 rfl (by first | exact Rd.own rfl | exact Rd.row rfl))) rfl ?_
      refine ops_ro' rfl (ro_fieldAddr fa30_4 rfl) rfl ?_
      refine ops_eff0 rfl ((by first | exact eff_store 0 sc27 rfl rfl rfl rfl (Nat.le_of_ble_eq_true rfl) (warm_zero _) | exact eff_store 1 sc27 rfl rfl rfl rfl (Nat.le_of_ble_eq_true rfl) (warm_zero _) | exact eff_store 2 sc27 rfl rfl rfl rfl (Nat.le_of_ble_eq_true rfl) (warm_zero _) | exact eff_store 3 sc27 rfl rfl rfl rfl (Nat.le_of_ble_eq_true rfl) (warm_zero _) | exact eff_store 4 sc27 rfl rfl rfl rfl (Nat.le_of_ble_eq_true rfl) (warm_zero _) | exact eff_store 5 sc27 rfl rfl rfl rfl (Nat.le_of_ble_eq_true rfl) (warm_zero _) | exact eff_store 6 sc27 rfl rfl rfl rfl (Nat.le_of_ble_eq_true rfl) (warm_zero _) | exact eff_store 7 sc27 rfl rfl rfl rfl (Nat.le_of_ble_eq_true rfl) (warm_zero _))) rfl ?_
      rintro _ _ rfl
      refine ops_nil ?_
      repeat (first | refine InBlock_normal ?_ | refine NoGoto_normal ?_ | refine Jump_normal ?_)
      refine Then_normal ?_
      exact ⟨Has.cons rfl (Has.cons rfl (Has.cons rfl (Has.nil _))), by rw [At.m4, if_pos (by omega)]; rfl⟩
    · try replace hc2 := of_decide_eq_false hc2
      refine wp_skip' ?_
      repeat (first | refine InBlock_normal ?_ | refine NoGoto_normal ?_ | refine Jump_normal ?_)
      refine Then_normal ?_
      exact ⟨Has.cons rfl (Has.cons rfl (Has.cons rfl (Has.nil _))), by rw [At.m4, if_neg (by omega)] <;> rfl⟩
  rintro Γ H ⟨hΓ, rfl⟩
  refine wp_has hΓ ?_
  refine wp_cut (fun Γ H => Has Γ [(2, .pointer (some ⟨b2, 0, none⟩)), (3, .pointer (some ⟨b3, 0, none⟩)), (4, .pointer (some ⟨b4, 0, none⟩))] ∧ H = [own b4 (.cells At.zero.cs.toArray 30 (0, 0)), own b3 (.cells y.cs.toArray 30 (0, 0)), own b2 (.cells ((((x.m2 y).m3 y).m4 y).m5 y).cs.toArray 30 (0, 0))]) ?_ ?_
  · refine wp_seq' ?_
    refine wp_region' ?_
    refine ops_ro' rfl (ro_fieldAddr fa30_0 rfl) rfl ?_
    refine ops_ro' rfl (ro_load sc27 rfl (by first | exact Rd.pick 0 rfl (by first | exact Rd.own rfl | exact Rd.row rfl) | exact Rd.pick 1 rfl (by first | exact Rd.own rfl | exact Rd.row rfl) | exact Rd.pick 2 rfl (by first | exact Rd.own rfl | exact Rd.row rfl) | exact Rd.pick 3 rfl (by first | exact Rd.own rfl | exact Rd.row rfl) | exact Rd.pick 4 rfl (by first | exact Rd.own rfl | exact Rd.row rfl) | exact Rd.pick 5 rfl (by first | exact Rd.own rfl | exact Rd.row rfl) | exact Rd.pick 6 rfl (by first | exact Rd.own rfl | exact Rd.row rfl) | exact Rd.pick 7 rfl (by first | exact Rd.own rfl | exact Rd.row rfl))) rfl ?_
    refine ops_ro' rfl (ro_and rfl rfl (and32 hy.f (c := 8) (by decide) rfl)) rfl ?_
    refine ops_ro' rfl (ro_neq rfl rfl rfl) rfl ?_
    refine ops_nil ?_
    repeat (first | refine InBlock_normal ?_ | refine NoGoto_normal ?_ | refine Jump_normal ?_)
    refine Then_normal ?_
    refine wp_cond' rfl (fun hc3 => ?_) (fun hc3 => ?_)
    · try replace hc3 := of_decide_eq_true hc3
      refine wp_seq' ?_
      refine wp_region' ?_
      refine ops_ro' rfl (ro_fieldAddr fa30_5 rfl) rfl ?_
      refine ops_ro' rfl (ro_load sc27 rfl (by first | exact Rd.pick 0 rfl (by first | exact Rd.own rfl | exact Rd.row rfl) | exact Rd.pick 1 rfl (by first | exact Rd.own rfl | exact Rd.row rfl) | exact Rd.pick 2 rfl (by first | exact Rd.own rfl | exact Rd.row rfl) | exact Rd.pick 3 rfl (by first | exact Rd.own rfl | exact Rd.row rfl) | exact Rd.pick 4 rfl (by first | exact Rd.own rfl | exact Rd.row rfl) | exact Rd.pick 5 rfl (by first | exact Rd.own rfl | exact Rd.row rfl) | exact Rd.pick 6 rfl (by first | exact Rd.own rfl | exact Rd.row rfl) | exact Rd.pick 7 rfl (by first | exact Rd.own rfl | exact Rd.row rfl))) rfl ?_
      refine ops_ro' rfl (ro_fieldAddr fa30_5 rfl) rfl ?_
      refine ops_eff0 rfl ((by first | exact eff_store 0 sc27 rfl rfl rfl rfl (Nat.le_of_ble_eq_true rfl) (warm_zero _) | exact eff_store 1 sc27 rfl rfl rfl rfl (Nat.le_of_ble_eq_true rfl) (warm_zero _) | exact eff_store 2 sc27 rfl rfl rfl rfl (Nat.le_of_ble_eq_true rfl) (warm_zero _) | exact eff_store 3 sc27 rfl rfl rfl rfl (Nat.le_of_ble_eq_true rfl) (warm_zero _) | exact eff_store 4 sc27 rfl rfl rfl rfl (Nat.le_of_ble_eq_true rfl) (warm_zero _) | exact eff_store 5 sc27 rfl rfl rfl rfl (Nat.le_of_ble_eq_true rfl) (warm_zero _) | exact eff_store 6 sc27 rfl rfl rfl rfl (Nat.le_of_ble_eq_true rfl) (warm_zero _) | exact eff_store 7 sc27 rfl rfl rfl rfl (Nat.le_of_ble_eq_true rfl) (warm_zero _))) rfl ?_
      rintro _ _ rfl
      refine ops_nil ?_
      repeat (first | refine InBlock_normal ?_ | refine NoGoto_normal ?_ | refine Jump_normal ?_)
      refine Then_normal ?_
      refine wp_region' ?_
      refine ops_ro' rfl (ro_fieldAddr fa30_6 rfl) rfl ?_
      refine ops_ro' rfl (ro_load sc27 rfl (by first | exact Rd.pick 0 rfl (by first | exact Rd.own rfl | exact Rd.row rfl) | exact Rd.pick 1 rfl (by first | exact Rd.own rfl | exact Rd.row rfl) | exact Rd.pick 2 rfl (by first | exact Rd.own rfl | exact Rd.row rfl) | exact Rd.pick 3 rfl (by first | exact Rd.own rfl | exact Rd.row rfl) | exact Rd.pick 4 rfl (by first | exact Rd.own rfl | exact Rd.row rfl) | exact Rd.pick 5 rfl (by first | exact Rd.own rfl | exact Rd.row rfl) | exact Rd.pick 6 rfl (by first | exact Rd.own rfl | exact Rd.row rfl) | exact Rd.pick 7 rfl (by first | exact Rd.own rfl | exact Rd.row rfl))) rfl ?_
      refine ops_ro' rfl (ro_fieldAddr fa30_6 rfl) rfl ?_
      refine ops_eff0 rfl ((by first | exact eff_store 0 sc27 rfl rfl rfl rfl (Nat.le_of_ble_eq_true rfl) (warm_zero _) | exact eff_store 1 sc27 rfl rfl rfl rfl (Nat.le_of_ble_eq_true rfl) (warm_zero _) | exact eff_store 2 sc27 rfl rfl rfl rfl (Nat.le_of_ble_eq_true rfl) (warm_zero _) | exact eff_store 3 sc27 rfl rfl rfl rfl (Nat.le_of_ble_eq_true rfl) (warm_zero _) | exact eff_store 4 sc27 rfl rfl rfl rfl (Nat.le_of_ble_eq_true rfl) (warm_zero _) | exact eff_store 5 sc27 rfl rfl rfl rfl (Nat.le_of_ble_eq_true rfl) (warm_zero _) | exact eff_store 6 sc27 rfl rfl rfl rfl (Nat.le_of_ble_eq_true rfl) (warm_zero _) | exact eff_store 7 sc27 rfl rfl rfl rfl (Nat.le_of_ble_eq_true rfl) (warm_zero _))) rfl ?_
      rintro _ _ rfl
      refine ops_nil ?_
      repeat (first | refine InBlock_normal ?_ | refine NoGoto_normal ?_ | refine Jump_normal ?_)
      refine Then_normal ?_
      exact ⟨Has.cons rfl (Has.cons rfl (Has.cons rfl (Has.nil _))), by rw [At.m5, if_pos (by omega)]; rfl⟩
    · try replace hc3 := of_decide_eq_false hc3
      refine wp_skip' ?_
      repeat (first | refine InBlock_normal ?_ | refine NoGoto_normal ?_ | refine Jump_normal ?_)
      refine Then_normal ?_
      exact ⟨Has.cons rfl (Has.cons rfl (Has.cons rfl (Has.nil _))), by rw [At.m5, if_neg (by omega)] <;> rfl⟩
  rintro Γ H ⟨hΓ, rfl⟩
  refine wp_has hΓ ?_
  refine wp_seq' ?_
  have hff : (((((x.m2 y).m3 y).m4 y).m5 y)).f < 4294967296 := by rw [m_f]; exact hx.f
  refine wp_region' ?_
  refine ops_ro' rfl (ro_fieldAddr fa30_0 rfl) rfl ?_
  refine ops_ro' rfl (ro_load sc27 rfl (by first | exact Rd.pick 0 rfl (by first | exact Rd.own rfl | exact Rd.row rfl) | exact Rd.pick 1 rfl (by first | exact Rd.own rfl | exact Rd.row rfl) | exact Rd.pick 2 rfl (by first | exact Rd.own rfl | exact Rd.row rfl) | exact Rd.pick 3 rfl (by first | exact Rd.own rfl | exact Rd.row rfl) | exact Rd.pick 4 rfl (by first | exact Rd.own rfl | exact Rd.row rfl) | exact Rd.pick 5 rfl (by first | exact Rd.own rfl | exact Rd.row rfl) | exact Rd.pick 6 rfl (by first | exact Rd.own rfl | exact Rd.row rfl) | exact Rd.pick 7 rfl (by first | exact Rd.own rfl | exact Rd.row rfl))) rfl ?_
  refine ops_ro' rfl (ro_fieldAddr fa30_0 rfl) rfl ?_
  refine ops_ro' rfl (ro_load sc27 rfl (by first | exact Rd.pick 0 rfl (by first | exact Rd.own rfl | exact Rd.row rfl) | exact Rd.pick 1 rfl (by first | exact Rd.own rfl | exact Rd.row rfl) | exact Rd.pick 2 rfl (by first | exact Rd.own rfl | exact Rd.row rfl) | exact Rd.pick 3 rfl (by first | exact Rd.own rfl | exact Rd.row rfl) | exact Rd.pick 4 rfl (by first | exact Rd.own rfl | exact Rd.row rfl) | exact Rd.pick 5 rfl (by first | exact Rd.own rfl | exact Rd.row rfl) | exact Rd.pick 6 rfl (by first | exact Rd.own rfl | exact Rd.row rfl) | exact Rd.pick 7 rfl (by first | exact Rd.own rfl | exact Rd.row rfl))) rfl ?_
  refine ops_ro' rfl (ro_or rfl rfl (or32 hff hy.f)) rfl ?_
  refine ops_ro' rfl (ro_fieldAddr fa30_0 rfl) rfl ?_
  refine ops_eff0 rfl ((by first | exact eff_store 0 sc27 rfl rfl rfl rfl (Nat.le_of_ble_eq_true rfl) (warm_zero _) | exact eff_store 1 sc27 rfl rfl rfl rfl (Nat.le_of_ble_eq_true rfl) (warm_zero _) | exact eff_store 2 sc27 rfl rfl rfl rfl (Nat.le_of_ble_eq_true rfl) (warm_zero _) | exact eff_store 3 sc27 rfl rfl rfl rfl (Nat.le_of_ble_eq_true rfl) (warm_zero _) | exact eff_store 4 sc27 rfl rfl rfl rfl (Nat.le_of_ble_eq_true rfl) (warm_zero _) | exact eff_store 5 sc27 rfl rfl rfl rfl (Nat.le_of_ble_eq_true rfl) (warm_zero _) | exact eff_store 6 sc27 rfl rfl rfl rfl (Nat.le_of_ble_eq_true rfl) (warm_zero _) | exact eff_store 7 sc27 rfl rfl rfl rfl (Nat.le_of_ble_eq_true rfl) (warm_zero _))) rfl ?_
  rintro _ _ rfl
  refine ops_nil ?_
  repeat (first | refine InBlock_normal ?_ | refine NoGoto_normal ?_ | refine Jump_normal ?_)
  refine Then_normal ?_
  refine wp_seq' ?_
  refine wp_region' ?_
  refine ops_ro' rfl (ro_loadA ag30 rfl (by first | exact RdN.of_pick 0 rfl rdn_all | exact RdN.of_pick 1 rfl rdn_all | exact RdN.of_pick 2 rfl rdn_all | exact RdN.of_pick 3 rfl rdn_all | exact RdN.of_pick 4 rfl rdn_all | exact RdN.of_pick 5 rfl rdn_all | exact RdN.of_pick 6 rfl rdn_all | exact RdN.of_pick 7 rfl rdn_all) rfl) rfl ?_
  refine ops_eff0 rfl ((by first | exact eff_storeA 0 ag30 rfl rfl rfl rfl rfl (Nat.le_of_ble_eq_true rfl) (warm_zero _) | exact eff_storeA 1 ag30 rfl rfl rfl rfl rfl (Nat.le_of_ble_eq_true rfl) (warm_zero _) | exact eff_storeA 2 ag30 rfl rfl rfl rfl rfl (Nat.le_of_ble_eq_true rfl) (warm_zero _) | exact eff_storeA 3 ag30 rfl rfl rfl rfl rfl (Nat.le_of_ble_eq_true rfl) (warm_zero _) | exact eff_storeA 4 ag30 rfl rfl rfl rfl rfl (Nat.le_of_ble_eq_true rfl) (warm_zero _) | exact eff_storeA 5 ag30 rfl rfl rfl rfl rfl (Nat.le_of_ble_eq_true rfl) (warm_zero _) | exact eff_storeA 6 ag30 rfl rfl rfl rfl rfl (Nat.le_of_ble_eq_true rfl) (warm_zero _) | exact eff_storeA 7 ag30 rfl rfl rfl rfl rfl (Nat.le_of_ble_eq_true rfl) (warm_zero _))) rfl ?_
  rintro _ _ rfl
  refine ops_nil ?_
  repeat (first | refine InBlock_normal ?_ | refine NoGoto_normal ?_ | refine Jump_normal ?_)
  refine Then_normal ?_
  refine wp_ret' ?_
  repeat (first | refine Then_ret ?_ | refine InBlock_ret ?_ | refine NoGoto_ret ?_ | refine Jump_ret ?_)
  refine done_ret (resv1 rfl (rv_cellA ag30 rfl (by first | exact RdN.of_pick 0 rfl rdn_all | exact RdN.of_pick 1 rfl rdn_all | exact RdN.of_pick 2 rfl rdn_all | exact RdN.of_pick 3 rfl rdn_all | exact RdN.of_pick 4 rfl rdn_all | exact RdN.of_pick 5 rfl rdn_all | exact RdN.of_pick 6 rfl rdn_all | exact RdN.of_pick 7 rfl rdn_all) rfl)) ?_
  rw [← merge_m]; rfl
theorem qmerge_spec (x y : At) (hx : x.Ok) (hy : y.Ok) : Tri Try.prog 39 [x.v, y.v] [] (fun v H' => v = (x.merge y).v ∧ H' = []) := tri_forget (qmerge_run x y hx hy) fun v H h => h


theorem qput_run (x : At) (hx : x.Ok) : Tri Try.prog 40 [.slice none 0 0, x.v] [] (fun v H' => ∃ A, Rowo v x.enc A ∧ ∃ X, H' = [A, X]) := by
  have l1 := x.e1_le
  have l2 := x.e2_le
  have l3 := x.e3_le
  have l4 := x.e4_le
  refine tri_of_wp Try.func40 rfl Try.ntmps40 (by simp) ?_
  refine wp_seq' ?_
  refine wp_region' ?_
  refine ops_eff' rfl (eff_box rfl) rfl ?_
  rintro _ _ ⟨b3, rfl, rfl⟩
  refine ops_ro' rfl (ro_assign rfl) rfl ?_
  refine ops_nil ?_
  repeat (first | refine InBlock_normal ?_ | refine NoGoto_normal ?_ | refine Jump_normal ?_)
  refine Then_normal ?_
  refine wp_seq' ?_
  refine wp_heap (fun w F s => nil_row 5 1 w F s) ?_
  refine wp_region' ?_
  refine ops_ro' rfl (ro_move rfl) rfl ?_
  refine ops_ro' rfl (ro_fieldAddr fa30_0 rfl) rfl ?_
  refine ops_ro' rfl (ro_load sc27 rfl (by first | exact Rd.pick 0 rfl (by first | exact Rd.own rfl | exact Rd.row rfl) | exact Rd.pick 1 rfl (by first | exact Rd.own rfl | exact Rd.row rfl) | exact Rd.pick 2 rfl (by first | exact Rd.own rfl | exact Rd.row rfl) | exact Rd.pick 3 rfl (by first | exact Rd.own rfl | exact Rd.row rfl) | exact Rd.pick 4 rfl (by first | exact Rd.own rfl | exact Rd.row rfl) | exact Rd.pick 5 rfl (by first | exact Rd.own rfl | exact Rd.row rfl) | exact Rd.pick 6 rfl (by first | exact Rd.own rfl | exact Rd.row rfl) | exact Rd.pick 7 rfl (by first | exact Rd.own rfl | exact Rd.row rfl))) rfl ?_
  refine ops_eff' rfl (eff_call Try.call59 rfl rfl (Split.cons 0 rfl (Split.nil _)) (w32_at _ none 0 [] x.f _ rfl Vw.row (by simp))) rfl ?_
  rintro _ H' ⟨_, ⟨_, ⟨p, c, rfl, rfl⟩, rfl⟩, hH⟩
  simp only [List.cons_append, List.nil_append, List.eraseIdx_cons_zero, List.eraseIdx_cons_succ, List.set_cons_zero, List.set_cons_succ] at hH
  subst hH
  refine ops_drop 1 ?_
  rw [List.nil_append]
  refine ops_ro' rfl (ro_assign rfl) rfl ?_
  refine ops_nil ?_
  repeat (first | refine InBlock_normal ?_ | refine NoGoto_normal ?_ | refine Jump_normal ?_)
  refine Then_normal ?_
  refine wp_cut (fun Γ H => ∃ p c, Has Γ [(0, .slice p (be x.f 4 ++ x.e1).length c), (3, .pointer (some ⟨b3, 0, none⟩))] ∧ H = [row 5 1 (.slice p (be x.f 4 ++ x.e1).length c) (be x.f 4 ++ x.e1).length (cel (be x.f 4 ++ x.e1)), own b3 (.cells x.cs.toArray 30 (0, 0))]) ?_ ?_
  · refine wp_seq' ?_
    refine wp_region' ?_
    refine ops_ro' rfl (ro_fieldAddr fa30_0 rfl) rfl ?_
    refine ops_ro' rfl (ro_load sc27 rfl (by first | exact Rd.pick 0 rfl (by first | exact Rd.own rfl | exact Rd.row rfl) | exact Rd.pick 1 rfl (by first | exact Rd.own rfl | exact Rd.row rfl) | exact Rd.pick 2 rfl (by first | exact Rd.own rfl | exact Rd.row rfl) | exact Rd.pick 3 rfl (by first | exact Rd.own rfl | exact Rd.row rfl) | exact Rd.pick 4 rfl (by first | exact Rd.own rfl | exact Rd.row rfl) | exact Rd.pick 5 rfl (by first | exact Rd.own rfl | exact Rd.row rfl) | exact Rd.pick 6 rfl (by first | exact Rd.own rfl | exact Rd.row rfl) | exact Rd.pick 7 rfl (by first | exact Rd.own rfl | exact Rd.row rfl))) rfl ?_
    refine ops_ro' rfl (ro_and rfl rfl (and32 hx.f (c := 1) (by decide) rfl)) rfl ?_
    refine ops_ro' rfl (ro_neq rfl rfl rfl) rfl ?_
    refine ops_nil ?_
    repeat (first | refine InBlock_normal ?_ | refine NoGoto_normal ?_ | refine Jump_normal ?_)
    refine Then_normal ?_
    refine wp_cond' rfl (fun hc0 => ?_) (fun hc0 => ?_)
    · try replace hc0 := of_decide_eq_true hc0
      refine wp_region' ?_
      refine ops_ro' rfl (ro_move rfl) rfl ?_
      refine ops_ro' rfl (ro_fieldAddr fa30_1 rfl) rfl ?_
      refine ops_ro' rfl (ro_load sc28 rfl (by first | exact Rd.pick 0 rfl (by first | exact Rd.own rfl | exact Rd.row rfl) | exact Rd.pick 1 rfl (by first | exact Rd.own rfl | exact Rd.row rfl) | exact Rd.pick 2 rfl (by first | exact Rd.own rfl | exact Rd.row rfl) | exact Rd.pick 3 rfl (by first | exact Rd.own rfl | exact Rd.row rfl) | exact Rd.pick 4 rfl (by first | exact Rd.own rfl | exact Rd.row rfl) | exact Rd.pick 5 rfl (by first | exact Rd.own rfl | exact Rd.row rfl) | exact Rd.pick 6 rfl (by first | exact Rd.own rfl | exact Rd.row rfl) | exact Rd.pick 7 rfl (by first | exact Rd.own rfl | exact Rd.row rfl))) rfl ?_
      refine ops_eff' rfl (eff_call Try.call60 rfl rfl (Split.cons 0 rfl (Split.nil _)) (w64_spec _ _ _ _ _ Vw.row (by simp only [List.length_append, be_length]; omega))) rfl ?_
      rintro _ H' ⟨_, ⟨_, ⟨p', c', rfl, rfl⟩, rfl⟩, hH⟩
      simp only [List.cons_append, List.nil_append, List.eraseIdx_cons_zero, List.eraseIdx_cons_succ, List.set_cons_zero, List.set_cons_succ] at hH
      subst hH
      refine ops_drop 1 ?_
      refine ops_ro' rfl (ro_assign rfl) rfl ?_
      refine ops_nil ?_
      repeat (first | refine InBlock_normal ?_ | refine NoGoto_normal ?_ | refine Jump_normal ?_)
      refine Then_normal ?_
      refine ⟨p', c', ?_, ?_⟩
      · rw [At.e1, if_pos (by omega)]; first | exact Has.cons rfl (Has.cons rfl (Has.nil _)) | (simp only [← List.append_assoc]; exact Has.cons rfl (Has.cons rfl (Has.nil _)))
      · rw [At.e1, if_pos (by omega)]; first | rfl | (simp only [← List.append_assoc]; rfl)
    · try replace hc0 := of_decide_eq_false hc0
      refine wp_skip' ?_
      repeat (first | refine InBlock_normal ?_ | refine NoGoto_normal ?_ | refine Jump_normal ?_)
      refine Then_normal ?_
      refine ⟨p, c, ?_, ?_⟩
      · rw [At.e1, if_neg (by omega), List.append_nil]; exact Has.cons rfl (Has.cons rfl (Has.nil _))
      · rw [At.e1, if_neg (by omega), List.append_nil] <;> rfl
  rintro Γ H ⟨p, c, hΓ, rfl⟩
  refine wp_has hΓ ?_
  refine wp_cut (fun Γ H => ∃ p c, Has Γ [(0, .slice p (be x.f 4 ++ x.e1 ++ x.e2).length c), (3, .pointer (some ⟨b3, 0, none⟩))] ∧ H = [row 5 1 (.slice p (be x.f 4 ++ x.e1 ++ x.e2).length c) (be x.f 4 ++ x.e1 ++ x.e2).length (cel (be x.f 4 ++ x.e1 ++ x.e2)), own b3 (.cells x.cs.toArray 30 (0, 0))]) ?_ ?_
  · refine wp_seq' ?_
    refine wp_region' ?_
    refine ops_ro' rfl (ro_fieldAddr fa30_0 rfl) rfl ?_
    refine ops_ro' rfl (ro_load sc27 rfl (by first | exact Rd.pick 0 rfl (by first | exact Rd.own rfl | exact Rd.row rfl) | exact Rd.pick 1 rfl (by first | exact Rd.own rfl | exact Rd.row rfl) | exact Rd.pick 2 rfl (by first | exact Rd.own rfl | exact Rd.row rfl) | exact Rd.pick 3 rfl (by first | exact Rd.own rfl | exact Rd.row rfl) | exact Rd.pick 4 rfl (by first | exact Rd.own rfl | exact Rd.row rfl) | exact Rd.pick 5 rfl (by first | exact Rd.own rfl | exact Rd.row rfl) | exact Rd.pick 6 rfl (by first | exact Rd.own rfl | exact Rd.row rfl) | exact Rd.pick 7 rfl (by first | exact Rd.own rfl | exact Rd.row rfl))) rfl ?_
    refine ops_ro' rfl (ro_and rfl rfl (and32 hx.f (c := 2) (by decide) rfl)) rfl ?_
    refine ops_ro' rfl (ro_neq rfl rfl rfl) rfl ?_
    refine ops_nil ?_
    repeat (first | refine InBlock_normal ?_ | refine NoGoto_normal ?_ | refine Jump_normal ?_)
    refine Then_normal ?_
    refine wp_cond' rfl (fun hc1 => ?_) (fun hc1 => ?_)
    · try replace hc1 := of_decide_eq_true hc1
      refine wp_draw 7 (by kernel_rfl) (Split.cons 1 rfl (Split.nil _)) ?_
      refine any_ro' (i := 0) (by kernel_rfl) rfl rfl (ro_move rfl) rfl (fun _ _ _ h => h) ?_
      refine any_ro' (i := 1) (by kernel_rfl) rfl rfl (ro_fieldAddr fa30_2 rfl) rfl (fun _ _ _ h => h) ?_
      refine any_ro' (i := 2) (by kernel_rfl) rfl rfl (ro_load sc27 rfl (by first | exact Rd.pick 0 rfl (by first | exact Rd.own rfl | exact Rd.row rfl) | exact Rd.pick 1 rfl (by first | exact Rd.own rfl | exact Rd.row rfl) | exact Rd.pick 2 rfl (by first | exact Rd.own rfl | exact Rd.row rfl) | exact Rd.pick 3 rfl (by first | exact Rd.own rfl | exact Rd.row rfl) | exact Rd.pick 4 rfl (by first | exact Rd.own rfl | exact Rd.row rfl) | exact Rd.pick 5 rfl (by first | exact Rd.own rfl | exact Rd.row rfl) | exact Rd.pick 6 rfl (by first | exact Rd.own rfl | exact Rd.row rfl) | exact Rd.pick 7 rfl (by first | exact Rd.own rfl | exact Rd.row rfl))) rfl (fun _ _ _ h => h) ?_
      refine any_ro' (i := 4) (by kernel_rfl) rfl rfl (ro_fieldAddr fa30_3 rfl) rfl (fun _ _ _ h => h) ?_
      refine any_ro' (i := 5) (by kernel_rfl) rfl rfl (ro_load sc27 rfl (by first | exact Rd.pick 0 rfl (by first | exact Rd.own rfl | exact Rd.row rfl) | exact Rd.pick 1 rfl (by first | exact Rd.own rfl | exact Rd.row rfl) | exact Rd.pick 2 rfl (by first | exact Rd.own rfl | exact Rd.row rfl) | exact Rd.pick 3 rfl (by first | exact Rd.own rfl | exact Rd.row rfl) | exact Rd.pick 4 rfl (by first | exact Rd.own rfl | exact Rd.row rfl) | exact Rd.pick 5 rfl (by first | exact Rd.own rfl | exact Rd.row rfl) | exact Rd.pick 6 rfl (by first | exact Rd.own rfl | exact Rd.row rfl) | exact Rd.pick 7 rfl (by first | exact Rd.own rfl | exact Rd.row rfl))) rfl (fun _ _ _ h => h) ?_
      refine any_eff' (i := 3) (by kernel_rfl) rfl rfl (eff_call Try.call59 rfl rfl (Split.cons 0 rfl (Split.nil _)) (w32_at _ _ _ _ _ _ rfl Vw.row (by simp only [List.length_append, be_length]; omega))) rfl ?_
      rintro _ H' ⟨_, ⟨_, ⟨p1, c1, rfl, rfl⟩, rfl⟩, hH⟩
      simp only [List.cons_append, List.nil_append, List.eraseIdx_cons_zero, List.eraseIdx_cons_succ, List.set_cons_zero, List.set_cons_succ] at hH
      subst hH
      refine any_drop 1 ?_
      refine any_eff' (i := 6) (by kernel_rfl) rfl rfl (eff_call Try.call59 rfl rfl (Split.cons 0 rfl (Split.nil _)) (w32_at _ _ _ _ _ _ rfl Vw.row (by simp only [List.length_append, be_length]; omega))) rfl ?_
      rintro _ H' ⟨_, ⟨_, ⟨p', c', rfl, rfl⟩, rfl⟩, hH⟩
      simp only [List.cons_append, List.nil_append, List.eraseIdx_cons_zero, List.eraseIdx_cons_succ, List.set_cons_zero, List.set_cons_succ] at hH
      subst hH
      refine any_drop 1 ?_
      refine any_unlock (m' := 8) (L' := []) (by kernel_rfl) unlock ?_
      refine any_front 1 rfl ?_
      refine any_ro' (i := 7) (by kernel_rfl) rfl rfl (ro_assign rfl) rfl (fun _ _ _ h => h) ?_
      refine any_doneH (by kernel_rfl) ?_
      repeat (first | refine InBlock_normal ?_ | refine NoGoto_normal ?_ | refine Jump_normal ?_)
      refine Then_normal ?_
      refine ⟨p', c', ?_, ?_⟩
      · rw [At.e2, if_pos (by omega)]; first | exact Has.cons rfl (Has.cons rfl (Has.nil _)) | (simp only [← List.append_assoc]; exact Has.cons rfl (Has.cons rfl (Has.nil _)))
      · rw [At.e2, if_pos (by omega)]; first | rfl | (simp only [← List.append_assoc]; rfl)
    · try replace hc1 := of_decide_eq_false hc1
      refine wp_skip' ?_
      repeat (first | refine InBlock_normal ?_ | refine NoGoto_normal ?_ | refine Jump_normal ?_)
      refine Then_normal ?_
      refine ⟨p, c, ?_, ?_⟩
      · rw [At.e2, if_neg (by omega), List.append_nil]; exact Has.cons rfl (Has.cons rfl (Has.nil _))
      · rw [At.e2, if_neg (by omega), List.append_nil] <;> rfl
  rintro Γ H ⟨p, c, hΓ, rfl⟩
  refine wp_has hΓ ?_
  refine wp_cut (fun Γ H => ∃ p c, Has Γ [(0, .slice p (be x.f 4 ++ x.e1 ++ x.e2 ++ x.e3).length c), (3, .pointer (some ⟨b3, 0, none⟩))] ∧ H = [row 5 1 (.slice p (be x.f 4 ++ x.e1 ++ x.e2 ++ x.e3).length c) (be x.f 4 ++ x.e1 ++ x.e2 ++ x.e3).length (cel (be x.f 4 ++ x.e1 ++ x.e2 ++ x.e3)), own b3 (.cells x.cs.toArray 30 (0, 0))]) ?_ ?_
  · refine wp_seq' ?_
    refine wp_region' ?_
    refine ops_ro' rfl (ro_fieldAddr fa30_0 rfl) rfl ?_
    refine ops_ro' rfl (ro_load sc27 rfl (by first | exact Rd.pick 0 rfl (by first | exact Rd.own rfl | exact Rd.row rfl) | exact Rd.pick 1 rfl (by first | exact Rd.own rfl | exact Rd.row rfl) | exact Rd.pick 2 rfl (by first | exact Rd.own rfl | exact Rd.row rfl) | exact Rd.pick 3 rfl (by first | exact Rd.own rfl | exact Rd.row rfl) | exact Rd.pick 4 rfl (by first | exact Rd.own rfl | exact Rd.row rfl) | exact Rd.pick 5 rfl (by first | exact Rd.own rfl | exact Rd.row rfl) | exact Rd.pick 6 rfl (by first | exact Rd.own rfl | exact Rd.row rfl) | exact Rd.pick 7 rfl (by first | exact Rd.own rfl | exact Rd.row rfl))) rfl ?_
    refine ops_ro' rfl (ro_and rfl rfl (and32 hx.f (c := 4) (by decide) rfl)) rfl ?_
    refine ops_ro' rfl (ro_neq rfl rfl rfl) rfl ?_
    refine ops_nil ?_
    repeat (first | refine InBlock_normal ?_ | refine NoGoto_normal ?_ | refine Jump_normal ?_)
    refine Then_normal ?_
    refine wp_cond' rfl (fun hc2 => ?_) (fun hc2 => ?_)
    · try replace hc2 := of_decide_eq_true hc2
      refine wp_region' ?_
      refine ops_ro' rfl (ro_move rfl) rfl ?_
      refine ops_ro' rfl (ro_fieldAddr fa30_4 rfl) rfl ?_
      refine ops_ro' rfl (ro_load sc27 rfl (by first | exact Rd.pick 0 rfl (by first | exact Rd.own rfl | exact Rd.row rfl) | exact Rd.pick 1 rfl (by first | exact Rd.own rfl | exact Rd.row rfl) | exact Rd.pick 2 rfl (by first | exact Rd.own rfl | exact Rd.row rfl) | exact Rd.pick 3 rfl (by first | exact Rd.own rfl | exact Rd.row rfl) | exact Rd.pick 4 rfl (by first | exact Rd.own rfl | exact Rd.row rfl) | exact Rd.pick 5 rfl (by first | exact Rd.own rfl | exact Rd.row rfl) | exact Rd.pick 6 rfl (by first | exact Rd.own rfl | exact Rd.row rfl) | exact Rd.pick 7 rfl (by first | exact Rd.own rfl | exact Rd.row rfl))) rfl ?_
      refine ops_eff' rfl (eff_call Try.call59 rfl rfl (Split.cons 0 rfl (Split.nil _)) (w32_at _ _ _ _ _ _ rfl Vw.row (by simp only [List.length_append, be_length]; omega))) rfl ?_
      rintro _ H' ⟨_, ⟨_, ⟨p', c', rfl, rfl⟩, rfl⟩, hH⟩
      simp only [List.cons_append, List.nil_append, List.eraseIdx_cons_zero, List.eraseIdx_cons_succ, List.set_cons_zero, List.set_cons_succ] at hH
      subst hH
      refine ops_drop 1 ?_
      refine ops_ro' rfl (ro_assign rfl) rfl ?_
      refine ops_nil ?_
      repeat (first | refine InBlock_normal ?_ | refine NoGoto_normal ?_ | refine Jump_normal ?_)
      refine Then_normal ?_
      refine ⟨p', c', ?_, ?_⟩
      · rw [At.e3, if_pos (by omega)]; first | exact Has.cons rfl (Has.cons rfl (Has.nil _)) | (simp only [← List.append_assoc]; exact Has.cons rfl (Has.cons rfl (Has.nil _)))
      · rw [At.e3, if_pos (by omega)]; first | rfl | (simp only [← List.append_assoc]; rfl)
    · try replace hc2 := of_decide_eq_false hc2
      refine wp_skip' ?_
      repeat (first | refine InBlock_normal ?_ | refine NoGoto_normal ?_ | refine Jump_normal ?_)
      refine Then_normal ?_
      refine ⟨p, c, ?_, ?_⟩
      · rw [At.e3, if_neg (by omega), List.append_nil]; exact Has.cons rfl (Has.cons rfl (Has.nil _))
      · rw [At.e3, if_neg (by omega), List.append_nil] <;> rfl
  rintro Γ H ⟨p, c, hΓ, rfl⟩
  refine wp_has hΓ ?_
  refine wp_cut (fun Γ H => ∃ p c, Has Γ [(0, .slice p (be x.f 4 ++ x.e1 ++ x.e2 ++ x.e3 ++ x.e4).length c), (3, .pointer (some ⟨b3, 0, none⟩))] ∧ H = [row 5 1 (.slice p (be x.f 4 ++ x.e1 ++ x.e2 ++ x.e3 ++ x.e4).length c) (be x.f 4 ++ x.e1 ++ x.e2 ++ x.e3 ++ x.e4).length (cel (be x.f 4 ++ x.e1 ++ x.e2 ++ x.e3 ++ x.e4)), own b3 (.cells x.cs.toArray 30 (0, 0))]) ?_ ?_
  · refine wp_seq' ?_
    refine wp_region' ?_
    refine ops_ro' rfl (ro_fieldAddr fa30_0 rfl) rfl ?_
    refine ops_ro' rfl (ro_load sc27 rfl (by first | exact Rd.pick 0 rfl (by first | exact Rd.own rfl | exact Rd.row rfl) | exact Rd.pick 1 rfl (by first | exact Rd.own rfl | exact Rd.row rfl) | exact Rd.pick 2 rfl (by first | exact Rd.own rfl | exact Rd.row rfl) | exact Rd.pick 3 rfl (by first | exact Rd.own rfl | exact Rd.row rfl) | exact Rd.pick 4 rfl (by first | exact Rd.own rfl | exact Rd.row rfl) | exact Rd.pick 5 rfl (by first | exact Rd.own rfl | exact Rd.row rfl) | exact Rd.pick 6 rfl (by first | exact Rd.own rfl | exact Rd.row rfl) | exact Rd.pick 7 rfl (by first | exact Rd.own rfl | exact Rd.row rfl))) rfl ?_
    refine ops_ro' rfl (ro_and rfl rfl (and32 hx.f (c := 8) (by decide) rfl)) rfl ?_
    refine ops_ro' rfl (ro_neq rfl rfl rfl) rfl ?_
    refine ops_nil ?_
    repeat (first | refine InBlock_normal ?_ | refine NoGoto_normal ?_ | refine Jump_normal ?_)
    refine Then_normal ?_
    refine wp_cond' rfl (fun hc3 => ?_) (fun hc3 => ?_)
    · try replace hc3 := of_decide_eq_true hc3
      refine wp_draw 7 (by kernel_rfl) (Split.cons 1 rfl (Split.nil _)) ?_
      refine any_ro' (i := 0) (by kernel_rfl) rfl rfl (ro_move rfl) rfl (fun _ _ _ h => h) ?_
      refine any_ro' (i := 1) (by kernel_rfl) rfl rfl (ro_fieldAddr fa30_5 rfl) rfl (fun _ _ _ h => h) ?_
      refine any_ro' (i := 2) (by kernel_rfl) rfl rfl (ro_load sc27 rfl (by first | exact Rd.pick 0 rfl (by first | exact Rd.own rfl | exact Rd.row rfl) | exact Rd.pick 1 rfl (by first | exact Rd.own rfl | exact Rd.row rfl) | exact Rd.pick 2 rfl (by first | exact Rd.own rfl | exact Rd.row rfl) | exact Rd.pick 3 rfl (by first | exact Rd.own rfl | exact Rd.row rfl) | exact Rd.pick 4 rfl (by first | exact Rd.own rfl | exact Rd.row rfl) | exact Rd.pick 5 rfl (by first | exact Rd.own rfl | exact Rd.row rfl) | exact Rd.pick 6 rfl (by first | exact Rd.own rfl | exact Rd.row rfl) | exact Rd.pick 7 rfl (by first | exact Rd.own rfl | exact Rd.row rfl))) rfl (fun _ _ _ h => h) ?_
      refine any_ro' (i := 4) (by kernel_rfl) rfl rfl (ro_fieldAddr fa30_6 rfl) rfl (fun _ _ _ h => h) ?_
      refine any_ro' (i := 5) (by kernel_rfl) rfl rfl (ro_load sc27 rfl (by first | exact Rd.pick 0 rfl (by first | exact Rd.own rfl | exact Rd.row rfl) | exact Rd.pick 1 rfl (by first | exact Rd.own rfl | exact Rd.row rfl) | exact Rd.pick 2 rfl (by first | exact Rd.own rfl | exact Rd.row rfl) | exact Rd.pick 3 rfl (by first | exact Rd.own rfl | exact Rd.row rfl) | exact Rd.pick 4 rfl (by first | exact Rd.own rfl | exact Rd.row rfl) | exact Rd.pick 5 rfl (by first | exact Rd.own rfl | exact Rd.row rfl) | exact Rd.pick 6 rfl (by first | exact Rd.own rfl | exact Rd.row rfl) | exact Rd.pick 7 rfl (by first | exact Rd.own rfl | exact Rd.row rfl))) rfl (fun _ _ _ h => h) ?_
      refine any_eff' (i := 3) (by kernel_rfl) rfl rfl (eff_call Try.call59 rfl rfl (Split.cons 0 rfl (Split.nil _)) (w32_at _ _ _ _ _ _ rfl Vw.row (by simp only [List.length_append, be_length]; omega))) rfl ?_
      rintro _ H' ⟨_, ⟨_, ⟨p1, c1, rfl, rfl⟩, rfl⟩, hH⟩
      simp only [List.cons_append, List.nil_append, List.eraseIdx_cons_zero, List.eraseIdx_cons_succ, List.set_cons_zero, List.set_cons_succ] at hH
      subst hH
      refine any_drop 1 ?_
      refine any_eff' (i := 6) (by kernel_rfl) rfl rfl (eff_call Try.call59 rfl rfl (Split.cons 0 rfl (Split.nil _)) (w32_at _ _ _ _ _ _ rfl Vw.row (by simp only [List.length_append, be_length]; omega))) rfl ?_
      rintro _ H' ⟨_, ⟨_, ⟨p', c', rfl, rfl⟩, rfl⟩, hH⟩
      simp only [List.cons_append, List.nil_append, List.eraseIdx_cons_zero, List.eraseIdx_cons_succ, List.set_cons_zero, List.set_cons_succ] at hH
      subst hH
      refine any_drop 1 ?_
      refine any_unlock (m' := 8) (L' := []) (by kernel_rfl) unlock ?_
      refine any_front 1 rfl ?_
      refine any_ro' (i := 7) (by kernel_rfl) rfl rfl (ro_assign rfl) rfl (fun _ _ _ h => h) ?_
      refine any_doneH (by kernel_rfl) ?_
      repeat (first | refine InBlock_normal ?_ | refine NoGoto_normal ?_ | refine Jump_normal ?_)
      refine Then_normal ?_
      refine ⟨p', c', ?_, ?_⟩
      · rw [At.e4, if_pos (by omega)]; first | exact Has.cons rfl (Has.cons rfl (Has.nil _)) | (simp only [← List.append_assoc]; exact Has.cons rfl (Has.cons rfl (Has.nil _)))
      · rw [At.e4, if_pos (by omega)]; first | rfl | (simp only [← List.append_assoc]; rfl)
    · try replace hc3 := of_decide_eq_false hc3
      refine wp_skip' ?_
      repeat (first | refine InBlock_normal ?_ | refine NoGoto_normal ?_ | refine Jump_normal ?_)
      refine Then_normal ?_
      refine ⟨p, c, ?_, ?_⟩
      · rw [At.e4, if_neg (by omega), List.append_nil]; exact Has.cons rfl (Has.cons rfl (Has.nil _))
      · rw [At.e4, if_neg (by omega), List.append_nil] <;> rfl
  rintro Γ H ⟨p, c, hΓ, rfl⟩
  refine wp_has hΓ ?_
  refine wp_seq' ?_
  refine wp_region' ?_
  refine ops_ro' rfl (ro_move rfl) rfl ?_
  refine ops_ro' rfl (ro_assign rfl) rfl ?_
  refine ops_nil ?_
  repeat (first | refine InBlock_normal ?_ | refine NoGoto_normal ?_ | refine Jump_normal ?_)
  refine Then_normal ?_
  refine wp_ret' ?_
  repeat (first | refine Then_ret ?_ | refine InBlock_ret ?_ | refine NoGoto_ret ?_ | refine Jump_ret ?_)
  refine done_ret (res1 rfl rfl) ?_
  exact ⟨_, ⟨p, c, rfl, rfl⟩, _, rfl⟩
theorem qput_spec (x : At) (hx : x.Ok) : Tri Try.prog 40 [.slice none 0 0, x.v] [] (fun v H' => ∃ A, Rowo v x.enc A ∧ H' = [A]) :=
  tri_weak (qput_run x hx) fun v H ⟨A, h1, X, h2⟩ => ⟨_, ⟨A, h1, rfl⟩, fun w F s => by subst h2; exact St_drop 1 s⟩

end Go.Proofs.Ytbiohhfibkolgaa
