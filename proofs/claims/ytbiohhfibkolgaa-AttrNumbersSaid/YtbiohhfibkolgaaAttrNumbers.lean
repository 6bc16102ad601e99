/-
  The walk of AttrNumbers.
-/
import Derived.Test.YtbiohhfibkolgaaAttrTells
import Derived.Test.YtbiohhfibkolgaaSxLock
namespace Go.Proofs.Ytbiohhfibkolgaa
open Go.Sx
set_option linter.unusedVariables false
set_option linter.unusedSimpArgs false
set_option maxRecDepth 100000

abbrev AL : At := ⟨0, 1099511627776, 2, 3, 4, 5, 6⟩
abbrev AF (f : Nat) : At := ⟨f, 1099511627776, 2, 3, 4, 5, 6⟩
abbrev CG (g : Nat) : At := ⟨g, 7, 8, 9, 10, 11, 12⟩
theorem AF_ok {f : Nat} (h : f < 40) : (AF f).Ok := ⟨by simp only; omega, (show 1099511627776 < 18446744073709551616 by decide), (show 2 < 4294967296 by decide), (show 3 < 4294967296 by decide), (show 4 < 4294967296 by decide), (show 5 < 4294967296 by decide), (show 6 < 4294967296 by decide)⟩
theorem CG_ok {g : Nat} (h : g < 16) : (CG g).Ok := ⟨by simp only; omega, (show 7 < 18446744073709551616 by decide), (show 8 < 4294967296 by decide), (show 9 < 4294967296 by decide), (show 10 < 4294967296 by decide), (show 11 < 4294967296 by decide), (show 12 < 4294967296 by decide)⟩
theorem aputNil_spec (x : At) : Tri Try.prog 43 [.pointer none, x.v] [] (fun v H' => v = .tuple #[] ∧ H' = []) := by
  refine tri_forget (Ψ := fun v _ => v = .tuple #[]) ?_ fun v H h => h
  refine tri_of_wp Try.func43 rfl Try.ntmps43 (by simp) ?_
  refine wp_seq' ?_
  refine wp_region' ?_
  refine ops_eff' rfl (eff_box rfl) rfl ?_
  rintro _ _ ⟨b3, rfl, rfl⟩
  refine ops_nil ?_
  repeat (first | refine InBlock_normal ?_ | refine NoGoto_normal ?_ | refine Jump_normal ?_)
  refine Then_normal ?_
  refine wp_seq' ?_
  refine wp_seq' ?_
  refine wp_region' ?_
  refine ops_ro' rfl (ro_move rfl) rfl ?_
  refine ops_ro' rfl (ro_ptrEqlNil Try.underlying49 rfl rfl rfl) rfl ?_
  refine ops_nil ?_
  repeat (first | refine InBlock_normal ?_ | refine NoGoto_normal ?_ | refine Jump_normal ?_)
  refine Then_normal ?_
  refine wp_condT rfl ?_
  refine wp_ret' ?_
  repeat (first | refine Then_ret ?_ | refine InBlock_ret ?_ | refine NoGoto_ret ?_ | refine Jump_ret ?_)
  refine done_ret (res0 rfl) ?_
  rfl
theorem attrNumbers_run (V : HProp) : Tri Try.prog 8 [] [V] (fun v H' => v = .bool true ∧ V ∈ H') := by
  refine tri_of_wp Try.func8 rfl Try.ntmps8 (by simp) ?_
  refine wp_seq' ?_
  refine wp_region' ?_
  refine ops_ro' rfl (ro_assign rfl) rfl ?_
  refine ops_nil ?_
  repeat (first | refine InBlock_normal ?_ | refine NoGoto_normal ?_ | refine Jump_normal ?_)
  refine Then_normal ?_
  refine wp_seq' ?_
  refine wp_region' ?_
  refine ops_ro' rfl (ro_build rfl (show Bld Try.prog 30 _ (At.v (⟨0, 1099511627776, 2, 3, 4, 5, 6⟩ : At)) from bld_struct (cs := At.cs (⟨0, 1099511627776, 2, 3, 4, 5, 6⟩ : At)) st30 rfl)) rfl ?_
  refine ops_eff' rfl (eff_alloc z30) rfl ?_
  rintro _ _ ⟨b1, rfl, rfl⟩
  refine ops_eff0 rfl ((by first | exact eff_storeA 0 ag30 rfl rfl rfl rfl rfl (Nat.le_of_ble_eq_true rfl) (warm_zero _) | exact eff_storeA 1 ag30 rfl rfl rfl rfl rfl (Nat.le_of_ble_eq_true rfl) (warm_zero _) | exact eff_storeA 2 ag30 rfl rfl rfl rfl rfl (Nat.le_of_ble_eq_true rfl) (warm_zero _) | exact eff_storeA 3 ag30 rfl rfl rfl rfl rfl (Nat.le_of_ble_eq_true rfl) (warm_zero _) | exact eff_storeA 4 ag30 rfl rfl rfl rfl rfl (Nat.le_of_ble_eq_true rfl) (warm_zero _) | exact eff_storeA 5 ag30 rfl rfl rfl rfl rfl (Nat.le_of_ble_eq_true rfl) (warm_zero _) | exact eff_storeA 6 ag30 rfl rfl rfl rfl rfl (Nat.le_of_ble_eq_true rfl) (warm_zero _) | exact eff_storeA 7 ag30 rfl rfl rfl rfl rfl (Nat.le_of_ble_eq_true rfl) (warm_zero _))) rfl ?_
  rintro _ _ rfl
  refine ops_nil ?_
  show Then _ _ .normal _ [own b1 (.cells (At.cs AL).toArray 30 (0, 0)), V]
  repeat (first | refine InBlock_normal ?_ | refine NoGoto_normal ?_ | refine Jump_normal ?_)
  refine Then_normal ?_
  refine wp_seq' ?_
  refine wp_seq' ?_
  refine wp_region' ?_
  refine ops_ro' rfl (ro_assign rfl) rfl ?_
  refine ops_nil ?_
  repeat (first | refine InBlock_normal ?_ | refine NoGoto_normal ?_ | refine Jump_normal ?_)
  refine Then_normal ?_
  refine wp_block' ?_
  refine wp_loop' (fun m Γ H => ∃ f, f + m = 40 ∧ Has Γ [(1, .pointer (some ⟨b1, 0, none⟩)), (2, .int .u32 (f : Nat))] ∧ H = [own b1 (.cells (At.cs AL).toArray 30 (0, 0)), V]) (m := 40) ⟨0, by omega, Has.cons rfl (Has.cons rfl (Has.nil _)), rfl⟩ ?_
  rintro m Γ H ⟨f, hf, hΓ, rfl⟩
  refine wp_has hΓ ?_
  refine wp_seq' ?_
  refine wp_seq' ?_
  refine wp_region' ?_
  refine ops_ro' rfl (ro_move rfl) rfl ?_
  refine ops_ro' rfl (ro_lss rfl rfl rfl) rfl ?_
  refine ops_nil ?_
  repeat (first | refine InBlock_normal ?_ | refine NoGoto_normal ?_ | refine Jump_normal ?_)
  refine Then_normal ?_
  refine wp_cond' rfl (fun hc0 => ?_) (fun hc0 => ?_)
  · try replace hc0 := of_decide_eq_true hc0
    have hf40 : f < 40 := by omega
    have ha := AF_ok hf40
    have hb := merge_ok At.zero_ok ha
    refine wp_skip' ?_
    repeat (first | refine InBlock_normal ?_ | refine NoGoto_normal ?_ | refine Jump_normal ?_)
    refine Then_normal ?_
    refine wp_seq' ?_
    refine wp_block' ?_
    refine wp_seq' ?_
    refine wp_region' ?_
    refine ops_ro' rfl (ro_loadA ag30 rfl (by first | exact RdN.of_pick 0 rfl rdn_all | exact RdN.of_pick 1 rfl rdn_all | exact RdN.of_pick 2 rfl rdn_all | exact RdN.of_pick 3 rfl rdn_all | exact RdN.of_pick 4 rfl rdn_all | exact RdN.of_pick 5 rfl rdn_all | exact RdN.of_pick 6 rfl rdn_all | exact RdN.of_pick 7 rfl rdn_all) rfl) rfl ?_
    refine ops_eff' rfl (eff_alloc z30) rfl ?_
    rintro _ _ ⟨b3, rfl, rfl⟩
    refine ops_eff0 rfl ((by first | exact eff_storeA 0 ag30 rfl rfl rfl rfl rfl (Nat.le_of_ble_eq_true rfl) (warm_zero _) | exact eff_storeA 1 ag30 rfl rfl rfl rfl rfl (Nat.le_of_ble_eq_true rfl) (warm_zero _) | exact eff_storeA 2 ag30 rfl rfl rfl rfl rfl (Nat.le_of_ble_eq_true rfl) (warm_zero _) | exact eff_storeA 3 ag30 rfl rfl rfl rfl rfl (Nat.le_of_ble_eq_true rfl) (warm_zero _) | exact eff_storeA 4 ag30 rfl rfl rfl rfl rfl (Nat.le_of_ble_eq_true rfl) (warm_zero _) | exact eff_storeA 5 ag30 rfl rfl rfl rfl rfl (Nat.le_of_ble_eq_true rfl) (warm_zero _) | exact eff_storeA 6 ag30 rfl rfl rfl rfl rfl (Nat.le_of_ble_eq_true rfl) (warm_zero _) | exact eff_storeA 7 ag30 rfl rfl rfl rfl rfl (Nat.le_of_ble_eq_true rfl) (warm_zero _))) rfl ?_
    rintro _ _ rfl
    refine ops_nil ?_
    repeat (first | refine InBlock_normal ?_ | refine NoGoto_normal ?_ | refine Jump_normal ?_)
    refine Then_normal ?_
    refine wp_seq' ?_
    refine wp_region' ?_
    refine ops_ro' rfl (ro_move rfl) rfl ?_
    refine ops_ro' rfl (ro_fieldAddr fa30_0 rfl) rfl ?_
    refine ops_eff0 rfl ((by first | exact eff_store 0 sc27 rfl rfl rfl rfl (Nat.le_of_ble_eq_true rfl) (warm_zero _) | exact eff_store 1 sc27 rfl rfl rfl rfl (Nat.le_of_ble_eq_true rfl) (warm_zero _) | exact eff_store 2 sc27 rfl rfl rfl rfl (Nat.le_of_ble_eq_true rfl) (warm_zero _) | exact eff_store 3 sc27 rfl rfl rfl rfl (Nat.le_of_ble_eq_true rfl) (warm_zero _) | exact eff_store 4 sc27 rfl rfl rfl rfl (Nat.le_of_ble_eq_true rfl) (warm_zero _) | exact eff_store 5 sc27 rfl rfl rfl rfl (Nat.le_of_ble_eq_true rfl) (warm_zero _) | exact eff_store 6 sc27 rfl rfl rfl rfl (Nat.le_of_ble_eq_true rfl) (warm_zero _) | exact eff_store 7 sc27 rfl rfl rfl rfl (Nat.le_of_ble_eq_true rfl) (warm_zero _))) rfl ?_
    rintro _ _ rfl
    refine ops_nil ?_
    show Then _ _ .normal _ [own b3 (.cells (At.cs (AF f)).toArray 30 (0, 0)), own b1 (.cells (At.cs AL).toArray 30 (0, 0)), V]
    repeat (first | refine InBlock_normal ?_ | refine NoGoto_normal ?_ | refine Jump_normal ?_)
    refine Then_normal ?_
    refine wp_seq' ?_
    refine wp_region' ?_
    refine ops_ro' rfl (ro_build rfl (show Bld Try.prog 30 _ (At.v At.zero) from bld_struct (cs := At.cs At.zero) st30 rfl)) rfl ?_
    refine ops_ro' rfl (ro_loadA ag30 rfl (by first | exact RdN.of_pick 0 rfl rdn_all | exact RdN.of_pick 1 rfl rdn_all | exact RdN.of_pick 2 rfl rdn_all | exact RdN.of_pick 3 rfl rdn_all | exact RdN.of_pick 4 rfl rdn_all | exact RdN.of_pick 5 rfl rdn_all | exact RdN.of_pick 6 rfl rdn_all | exact RdN.of_pick 7 rfl rdn_all) rfl) rfl ?_
    refine ops_eff' rfl (eff_call Try.call39 rfl rfl (Split.nil _) (qmerge_spec At.zero (AF f) At.zero_ok ha)) rfl ?_
    rintro _ H' ⟨_, ⟨rfl, rfl⟩, hH⟩
    simp only [List.cons_append, List.nil_append, List.eraseIdx_cons_zero, List.eraseIdx_cons_succ, List.set_cons_zero, List.set_cons_succ] at hH
    subst hH
    refine ops_eff' rfl (eff_alloc z30) rfl ?_
    rintro _ _ ⟨b4, rfl, rfl⟩
    refine ops_eff0 rfl ((by first | exact eff_storeA 0 ag30 rfl rfl rfl rfl rfl (Nat.le_of_ble_eq_true rfl) (warm_zero _) | exact eff_storeA 1 ag30 rfl rfl rfl rfl rfl (Nat.le_of_ble_eq_true rfl) (warm_zero _) | exact eff_storeA 2 ag30 rfl rfl rfl rfl rfl (Nat.le_of_ble_eq_true rfl) (warm_zero _) | exact eff_storeA 3 ag30 rfl rfl rfl rfl rfl (Nat.le_of_ble_eq_true rfl) (warm_zero _) | exact eff_storeA 4 ag30 rfl rfl rfl rfl rfl (Nat.le_of_ble_eq_true rfl) (warm_zero _) | exact eff_storeA 5 ag30 rfl rfl rfl rfl rfl (Nat.le_of_ble_eq_true rfl) (warm_zero _) | exact eff_storeA 6 ag30 rfl rfl rfl rfl rfl (Nat.le_of_ble_eq_true rfl) (warm_zero _) | exact eff_storeA 7 ag30 rfl rfl rfl rfl rfl (Nat.le_of_ble_eq_true rfl) (warm_zero _))) rfl ?_
    rintro _ _ rfl
    refine ops_nil ?_
    show Then _ _ .normal _ [own b4 (.cells (At.cs (At.zero.merge (AF f))).toArray 30 (0, 0)), own b3 (.cells (At.cs (AF f)).toArray 30 (0, 0)), own b1 (.cells (At.cs AL).toArray 30 (0, 0)), V]
    repeat (first | refine InBlock_normal ?_ | refine NoGoto_normal ?_ | refine Jump_normal ?_)
    refine Then_normal ?_
    refine wp_seq' ?_
    refine wp_seq' ?_
    refine wp_draw 34 (by kernel_rfl) (Split.cons 0 rfl (Split.cons 0 rfl (Split.nil _))) ?_
    refine any_ro' (i := 0) (by kernel_rfl) rfl rfl (ro_loadA ag30 rfl (by first | exact RdN.of_pick 0 rfl rdn_all | exact RdN.of_pick 1 rfl rdn_all | exact RdN.of_pick 2 rfl rdn_all | exact RdN.of_pick 3 rfl rdn_all | exact RdN.of_pick 4 rfl rdn_all | exact RdN.of_pick 5 rfl rdn_all | exact RdN.of_pick 6 rfl rdn_all | exact RdN.of_pick 7 rfl rdn_all) rfl) rfl (fun _ _ _ h => h) ?_
    refine any_ro' (i := 3) (by kernel_rfl) rfl rfl (ro_loadA ag30 rfl (by first | exact RdN.of_pick 0 rfl rdn_all | exact RdN.of_pick 1 rfl rdn_all | exact RdN.of_pick 2 rfl rdn_all | exact RdN.of_pick 3 rfl rdn_all | exact RdN.of_pick 4 rfl rdn_all | exact RdN.of_pick 5 rfl rdn_all | exact RdN.of_pick 6 rfl rdn_all | exact RdN.of_pick 7 rfl rdn_all) rfl) rfl (fun _ _ _ h => h) ?_
    refine any_eff' (i := 1) (by kernel_rfl) rfl rfl (eff_call Try.call35 rfl rfl (Split.nil _) (aput14_spec _ ha)) rfl ?_
    rintro _ H' ⟨_, ⟨A, ⟨p, c, rfl, rfl⟩, rfl⟩, hH⟩
    simp only [List.cons_append, List.nil_append, List.eraseIdx_cons_zero, List.eraseIdx_cons_succ, List.set_cons_zero, List.set_cons_succ] at hH
    subst hH
    refine any_lock 0 rfl ?_
    refine any_ro' (i := 2) (by kernel_rfl) rfl rfl (ro_toStr Try.underlying25 Try.underlying5 Try.underlying9 rfl (by first | exact Vw.pick 0 rfl Vw.row | exact Vw.pick 1 rfl Vw.row | exact Vw.pick 2 rfl Vw.row | exact Vw.pick 3 rfl Vw.row | exact Vw.pick 4 rfl Vw.row | exact Vw.pick 5 rfl Vw.row | exact Vw.pick 6 rfl Vw.row | exact Vw.pick 7 rfl Vw.row) rfl) rfl (fun _ _ _ h => h) ?_
    refine any_eff' (i := 4) (by kernel_rfl) rfl rfl (eff_call Try.call40 rfl rfl (Split.nil _) (qput_spec _ ha)) rfl ?_
    rintro _ H' ⟨_, ⟨A, ⟨p, c, rfl, rfl⟩, rfl⟩, hH⟩
    simp only [List.cons_append, List.nil_append, List.eraseIdx_cons_zero, List.eraseIdx_cons_succ, List.set_cons_zero, List.set_cons_succ] at hH
    subst hH
    refine any_lock 0 rfl ?_
    refine any_ro' (i := 5) (by kernel_rfl) rfl rfl (ro_toStr Try.underlying25 Try.underlying5 Try.underlying9 rfl (by first | exact Vw.pick 0 rfl Vw.row | exact Vw.pick 1 rfl Vw.row | exact Vw.pick 2 rfl Vw.row | exact Vw.pick 3 rfl Vw.row | exact Vw.pick 4 rfl Vw.row | exact Vw.pick 5 rfl Vw.row | exact Vw.pick 6 rfl Vw.row | exact Vw.pick 7 rfl Vw.row) rfl) rfl (fun _ _ _ h => h) ?_
    refine any_ro' (i := 6) (by kernel_rfl) rfl rfl (ro_strNeq rfl rfl (decide_eq_false (by simp))) rfl (fun _ _ _ h => h) ?_
    refine any_ro' (i := 7) (by kernel_rfl) rfl rfl (ro_move rfl) rfl (fun _ _ _ h => h) ?_
    refine any_ro' (i := 8) (by kernel_rfl) rfl rfl (ro_loadA ag30 rfl (by first | exact RdN.of_pick 0 rfl rdn_all | exact RdN.of_pick 1 rfl rdn_all | exact RdN.of_pick 2 rfl rdn_all | exact RdN.of_pick 3 rfl rdn_all | exact RdN.of_pick 4 rfl rdn_all | exact RdN.of_pick 5 rfl rdn_all | exact RdN.of_pick 6 rfl rdn_all | exact RdN.of_pick 7 rfl rdn_all) rfl) rfl (fun _ _ _ h => h) ?_
    refine any_ro' (i := 10) (by kernel_rfl) rfl rfl (ro_loadA ag30 rfl (by first | exact RdN.of_pick 0 rfl rdn_all | exact RdN.of_pick 1 rfl rdn_all | exact RdN.of_pick 2 rfl rdn_all | exact RdN.of_pick 3 rfl rdn_all | exact RdN.of_pick 4 rfl rdn_all | exact RdN.of_pick 5 rfl rdn_all | exact RdN.of_pick 6 rfl rdn_all | exact RdN.of_pick 7 rfl rdn_all) rfl) rfl (fun _ _ _ h => h) ?_
    refine any_eff' (i := 9) (by kernel_rfl) rfl rfl (eff_call Try.call32 rfl rfl (Split.nil _) (right_of ha rfl)) rfl ?_
    rintro _ H' ⟨_, ⟨rfl, rfl⟩, hH⟩
    simp only [List.cons_append, List.nil_append, List.eraseIdx_cons_zero, List.eraseIdx_cons_succ, List.set_cons_zero, List.set_cons_succ] at hH
    subst hH
    refine any_eff' (i := 11) (by kernel_rfl) rfl rfl (eff_call Try.call41 rfl rfl (Split.nil _) (qright_of ha rfl)) rfl ?_
    rintro _ H' ⟨_, ⟨rfl, rfl⟩, hH⟩
    simp only [List.cons_append, List.nil_append, List.eraseIdx_cons_zero, List.eraseIdx_cons_succ, List.set_cons_zero, List.set_cons_succ] at hH
    subst hH
    refine any_ro' (i := 12) (by kernel_rfl) rfl rfl (ro_neq_bool Try.underlying4 rfl rfl (c := false) (by simp)) rfl (fun _ _ _ h => h) ?_
    refine any_ro' (i := 13) (by kernel_rfl) rfl rfl (ro_pick rfl rfl) rfl (fun _ _ _ h => h) ?_
    refine any_ro' (i := 14) (by kernel_rfl) rfl rfl (ro_move rfl) rfl (fun _ _ _ h => h) ?_
    refine any_ro' (i := 15) (by kernel_rfl) rfl rfl (ro_loadA ag30 rfl (by first | exact RdN.of_pick 0 rfl rdn_all | exact RdN.of_pick 1 rfl rdn_all | exact RdN.of_pick 2 rfl rdn_all | exact RdN.of_pick 3 rfl rdn_all | exact RdN.of_pick 4 rfl rdn_all | exact RdN.of_pick 5 rfl rdn_all | exact RdN.of_pick 6 rfl rdn_all | exact RdN.of_pick 7 rfl rdn_all) rfl) rfl (fun _ _ _ h => h) ?_
    refine any_ro' (i := 17) (by kernel_rfl) rfl rfl (ro_loadA ag30 rfl (by first | exact RdN.of_pick 0 rfl rdn_all | exact RdN.of_pick 1 rfl rdn_all | exact RdN.of_pick 2 rfl rdn_all | exact RdN.of_pick 3 rfl rdn_all | exact RdN.of_pick 4 rfl rdn_all | exact RdN.of_pick 5 rfl rdn_all | exact RdN.of_pick 6 rfl rdn_all | exact RdN.of_pick 7 rfl rdn_all) rfl) rfl (fun _ _ _ h => h) ?_
    refine any_eff' (i := 16) (by kernel_rfl) rfl rfl (eff_call Try.call32 rfl rfl (Split.nil _) (right_of hb rfl)) rfl ?_
    rintro _ H' ⟨_, ⟨rfl, rfl⟩, hH⟩
    simp only [List.cons_append, List.nil_append, List.eraseIdx_cons_zero, List.eraseIdx_cons_succ, List.set_cons_zero, List.set_cons_succ] at hH
    subst hH
    refine any_eff' (i := 18) (by kernel_rfl) rfl rfl (eff_call Try.call41 rfl rfl (Split.nil _) (qright_of hb rfl)) rfl ?_
    rintro _ H' ⟨_, ⟨rfl, rfl⟩, hH⟩
    simp only [List.cons_append, List.nil_append, List.eraseIdx_cons_zero, List.eraseIdx_cons_succ, List.set_cons_zero, List.set_cons_succ] at hH
    subst hH
    refine any_ro' (i := 19) (by kernel_rfl) rfl rfl (ro_neq_bool Try.underlying4 rfl rfl (c := false) (by simp)) rfl (fun _ _ _ h => h) ?_
    refine any_ro' (i := 20) (by kernel_rfl) rfl rfl (ro_pick rfl rfl) rfl (fun _ _ _ h => h) ?_
    refine any_ro' (i := 21) (by kernel_rfl) rfl rfl (ro_move rfl) rfl (fun _ _ _ h => h) ?_
    refine any_ro' (i := 22) (by kernel_rfl) rfl rfl (ro_build rfl (show Bld Try.prog 30 _ (At.v At.zero) from bld_struct (cs := At.cs At.zero) st30 rfl)) rfl (fun _ _ _ h => h) ?_
    refine any_ro' (i := 23) (by kernel_rfl) rfl rfl (ro_loadA ag30 rfl (by first | exact RdN.of_pick 0 rfl rdn_all | exact RdN.of_pick 1 rfl rdn_all | exact RdN.of_pick 2 rfl rdn_all | exact RdN.of_pick 3 rfl rdn_all | exact RdN.of_pick 4 rfl rdn_all | exact RdN.of_pick 5 rfl rdn_all | exact RdN.of_pick 6 rfl rdn_all | exact RdN.of_pick 7 rfl rdn_all) rfl) rfl (fun _ _ _ h => h) ?_
    refine any_ro' (i := 25) (by kernel_rfl) rfl rfl (ro_loadA ag30 rfl (by first | exact RdN.of_pick 0 rfl rdn_all | exact RdN.of_pick 1 rfl rdn_all | exact RdN.of_pick 2 rfl rdn_all | exact RdN.of_pick 3 rfl rdn_all | exact RdN.of_pick 4 rfl rdn_all | exact RdN.of_pick 5 rfl rdn_all | exact RdN.of_pick 6 rfl rdn_all | exact RdN.of_pick 7 rfl rdn_all) rfl) rfl (fun _ _ _ h => h) ?_
    refine any_eff' (i := 24) (by kernel_rfl) rfl rfl (eff_call Try.call37 rfl rfl (Split.nil _) (merge_spec _ _ At.zero_ok ha)) rfl ?_
    rintro _ H' ⟨_, ⟨rfl, rfl⟩, hH⟩
    simp only [List.cons_append, List.nil_append, List.eraseIdx_cons_zero, List.eraseIdx_cons_succ, List.set_cons_zero, List.set_cons_succ] at hH
    subst hH
    refine any_ro' (i := 26) (by kernel_rfl) rfl rfl (ro_attrNe rfl rfl (c := false) (by simp)) rfl (fun _ _ _ h => h) ?_
    refine any_ro' (i := 27) (by kernel_rfl) rfl rfl (ro_pick rfl rfl) rfl (fun _ _ _ h => h) ?_
    refine any_ro' (i := 28) (by kernel_rfl) rfl rfl (ro_move rfl) rfl (fun _ _ _ h => h) ?_
    refine any_ro' (i := 29) (by kernel_rfl) rfl rfl (ro_loadA ag30 rfl (by first | exact RdN.of_pick 0 rfl rdn_all | exact RdN.of_pick 1 rfl rdn_all | exact RdN.of_pick 2 rfl rdn_all | exact RdN.of_pick 3 rfl rdn_all | exact RdN.of_pick 4 rfl rdn_all | exact RdN.of_pick 5 rfl rdn_all | exact RdN.of_pick 6 rfl rdn_all | exact RdN.of_pick 7 rfl rdn_all) rfl) rfl (fun _ _ _ h => h) ?_
    refine any_eff' (i := 30) (by kernel_rfl) rfl rfl (eff_call Try.call40 rfl rfl (Split.nil _) (qput_spec _ ha)) rfl ?_
    rintro _ H' ⟨_, ⟨A, ⟨p, c, rfl, rfl⟩, rfl⟩, hH⟩
    simp only [List.cons_append, List.nil_append, List.eraseIdx_cons_zero, List.eraseIdx_cons_succ, List.set_cons_zero, List.set_cons_succ] at hH
    subst hH
    refine any_know (fun w F s => row_cap 0 rfl s) ?_
    intro hcx
    have hle := (AF f).enc_le
    refine any_eff' (i := 31) (by kernel_rfl) rfl rfl (eff_call Try.call42 rfl rfl (Split.cons 0 rfl (Split.nil _)) (same_at _ _ _ _ (AF f).enc rfl Vw.row hcx (by omega))) rfl ?_
    rintro _ H' ⟨_, ⟨rfl, rfl⟩, hH⟩
    simp only [List.cons_append, List.nil_append, List.eraseIdx_cons_zero, List.eraseIdx_cons_succ, List.set_cons_zero, List.set_cons_succ] at hH
    subst hH
    refine any_ro' (i := 32) (by kernel_rfl) rfl rfl (ro_not rfl rfl) rfl (fun _ _ _ h => h) ?_
    refine any_ro' (i := 33) (by kernel_rfl) rfl rfl (ro_pick rfl rfl) rfl (fun _ _ _ h => h) ?_
    refine any_done (by kernel_rfl) ?_
    repeat (first | refine InBlock_normal ?_ | refine NoGoto_normal ?_ | refine Jump_normal ?_)
    refine Then_normal ?_
    refine wp_condF rfl ?_
    refine wp_skip' ?_
    repeat (first | refine InBlock_normal ?_ | refine NoGoto_normal ?_ | refine Jump_normal ?_)
    refine Then_normal ?_
    refine wp_seq' ?_
    refine wp_drop 0 ?_
    refine wp_drop 0 ?_
    refine wp_drop 0 ?_
    refine wp_drop 1 ?_
    refine wp_region' ?_
    refine ops_ro' rfl (ro_assign rfl) rfl ?_
    refine ops_nil ?_
    repeat (first | refine InBlock_normal ?_ | refine NoGoto_normal ?_ | refine Jump_normal ?_)
    refine Then_normal ?_
    refine wp_block' ?_
    refine wp_loop' (fun m Γ H => ∃ g, g + m = 16 ∧ Has Γ [(1, .pointer (some ⟨b1, 0, none⟩)), (2, .int .u32 (f : Nat)), (3, .pointer (some ⟨b3, 0, none⟩)), (5, .int .u32 (g : Nat))] ∧ H = [own b3 (.cells (At.cs (AF f)).toArray 30 (0, 0)), own b1 (.cells (At.cs AL).toArray 30 (0, 0)), V]) (m := 16) ⟨0, by omega, Has.cons rfl (Has.cons rfl (Has.cons rfl (Has.cons rfl (Has.nil _)))), rfl⟩ ?_
    rintro m1 Γ H ⟨g, hg, hΓ, rfl⟩
    refine wp_has hΓ ?_
    refine wp_seq' ?_
    refine wp_seq' ?_
    refine wp_region' ?_
    refine ops_ro' rfl (ro_move rfl) rfl ?_
    refine ops_ro' rfl (ro_lss rfl rfl rfl) rfl ?_
    refine ops_nil ?_
    repeat (first | refine InBlock_normal ?_ | refine NoGoto_normal ?_ | refine Jump_normal ?_)
    refine Then_normal ?_
    refine wp_cond' rfl (fun hc2 => ?_) (fun hc2 => ?_)
    · try replace hc2 := of_decide_eq_true hc2
      have hg16 : g < 16 := by omega
      have hc := CG_ok hg16
      refine wp_skip' ?_
      repeat (first | refine InBlock_normal ?_ | refine NoGoto_normal ?_ | refine Jump_normal ?_)
      refine Then_normal ?_
      refine wp_seq' ?_
      refine wp_block' ?_
      refine wp_seq' ?_
      refine wp_region' ?_
      refine ops_ro' rfl (ro_move rfl) rfl ?_
      refine ops_ro' rfl (ro_build rfl (show Bld Try.prog 30 _ (At.v (CG g)) from bld_struct (cs := At.cs (CG g)) st30 rfl)) rfl ?_
      refine ops_eff' rfl (eff_alloc z30) rfl ?_
      rintro _ _ ⟨b6, rfl, rfl⟩
      refine ops_eff0 rfl ((by first | exact eff_storeA 0 ag30 rfl rfl rfl rfl rfl (Nat.le_of_ble_eq_true rfl) (warm_zero _) | exact eff_storeA 1 ag30 rfl rfl rfl rfl rfl (Nat.le_of_ble_eq_true rfl) (warm_zero _) | exact eff_storeA 2 ag30 rfl rfl rfl rfl rfl (Nat.le_of_ble_eq_true rfl) (warm_zero _) | exact eff_storeA 3 ag30 rfl rfl rfl rfl rfl (Nat.le_of_ble_eq_true rfl) (warm_zero _) | exact eff_storeA 4 ag30 rfl rfl rfl rfl rfl (Nat.le_of_ble_eq_true rfl) (warm_zero _) | exact eff_storeA 5 ag30 rfl rfl rfl rfl rfl (Nat.le_of_ble_eq_true rfl) (warm_zero _) | exact eff_storeA 6 ag30 rfl rfl rfl rfl rfl (Nat.le_of_ble_eq_true rfl) (warm_zero _) | exact eff_storeA 7 ag30 rfl rfl rfl rfl rfl (Nat.le_of_ble_eq_true rfl) (warm_zero _))) rfl ?_
      rintro _ _ rfl
      refine ops_nil ?_
      repeat (first | refine InBlock_normal ?_ | refine NoGoto_normal ?_ | refine Jump_normal ?_)
      refine Then_normal ?_
      refine wp_seq' ?_
      refine wp_draw 7 (by kernel_rfl) (Split.cons 0 rfl (Split.cons 0 rfl (Split.nil _))) ?_
      refine any_ro' (i := 0) (by kernel_rfl) rfl rfl (ro_loadA ag30 rfl (by first | exact RdN.of_pick 0 rfl rdn_all | exact RdN.of_pick 1 rfl rdn_all | exact RdN.of_pick 2 rfl rdn_all | exact RdN.of_pick 3 rfl rdn_all | exact RdN.of_pick 4 rfl rdn_all | exact RdN.of_pick 5 rfl rdn_all | exact RdN.of_pick 6 rfl rdn_all | exact RdN.of_pick 7 rfl rdn_all) rfl) rfl (fun _ _ _ h => h) ?_
      refine any_ro' (i := 1) (by kernel_rfl) rfl rfl (ro_loadA ag30 rfl (by first | exact RdN.of_pick 0 rfl rdn_all | exact RdN.of_pick 1 rfl rdn_all | exact RdN.of_pick 2 rfl rdn_all | exact RdN.of_pick 3 rfl rdn_all | exact RdN.of_pick 4 rfl rdn_all | exact RdN.of_pick 5 rfl rdn_all | exact RdN.of_pick 6 rfl rdn_all | exact RdN.of_pick 7 rfl rdn_all) rfl) rfl (fun _ _ _ h => h) ?_
      refine any_ro' (i := 3) (by kernel_rfl) rfl rfl (ro_loadA ag30 rfl (by first | exact RdN.of_pick 0 rfl rdn_all | exact RdN.of_pick 1 rfl rdn_all | exact RdN.of_pick 2 rfl rdn_all | exact RdN.of_pick 3 rfl rdn_all | exact RdN.of_pick 4 rfl rdn_all | exact RdN.of_pick 5 rfl rdn_all | exact RdN.of_pick 6 rfl rdn_all | exact RdN.of_pick 7 rfl rdn_all) rfl) rfl (fun _ _ _ h => h) ?_
      refine any_ro' (i := 4) (by kernel_rfl) rfl rfl (ro_loadA ag30 rfl (by first | exact RdN.of_pick 0 rfl rdn_all | exact RdN.of_pick 1 rfl rdn_all | exact RdN.of_pick 2 rfl rdn_all | exact RdN.of_pick 3 rfl rdn_all | exact RdN.of_pick 4 rfl rdn_all | exact RdN.of_pick 5 rfl rdn_all | exact RdN.of_pick 6 rfl rdn_all | exact RdN.of_pick 7 rfl rdn_all) rfl) rfl (fun _ _ _ h => h) ?_
      refine any_eff' (i := 2) (by kernel_rfl) rfl rfl (eff_call Try.call37 rfl rfl (Split.nil _) (merge_spec (CG g) (AF f) hc ha)) rfl ?_
      rintro _ H' ⟨_, ⟨rfl, rfl⟩, hH⟩
      simp only [List.cons_append, List.nil_append, List.eraseIdx_cons_zero, List.eraseIdx_cons_succ, List.set_cons_zero, List.set_cons_succ] at hH
      subst hH
      refine any_eff' (i := 5) (by kernel_rfl) rfl rfl (eff_call Try.call39 rfl rfl (Split.nil _) (qmerge_spec (CG g) (AF f) hc ha)) rfl ?_
      rintro _ H' ⟨_, ⟨rfl, rfl⟩, hH⟩
      simp only [List.cons_append, List.nil_append, List.eraseIdx_cons_zero, List.eraseIdx_cons_succ, List.set_cons_zero, List.set_cons_succ] at hH
      subst hH
      refine any_ro' (i := 6) (by kernel_rfl) rfl rfl (ro_attrNe rfl rfl (c := false) (by simp)) rfl (fun _ _ _ h => h) ?_
      refine any_done (by kernel_rfl) ?_
      repeat (first | refine InBlock_normal ?_ | refine NoGoto_normal ?_ | refine Jump_normal ?_)
      refine Then_normal ?_
      refine wp_condF rfl ?_
      refine wp_skip' ?_
      repeat (first | refine InBlock_normal ?_ | refine NoGoto_normal ?_ | refine Jump_normal ?_)
      refine Then_normal ?_
      refine wp_drop 0 ?_
      refine wp_region' ?_
      refine ops_ro' rfl (ro_move rfl) rfl ?_
      refine ops_ro' rfl (ro_add rfl rfl (show IntKind.u32.wrap ((g : Int) + 1) = ((g + 1 : Nat) : Int) from by rw [wrap_u32_in (by omega) (by omega)]; omega)) rfl ?_
      refine ops_ro' rfl (ro_assign rfl) rfl ?_
      refine ops_nil ?_
      repeat (first | refine InBlock_normal ?_ | refine NoGoto_normal ?_ | refine Jump_normal ?_)
      refine Then_normal ?_
      exact ⟨m1 - 1, by omega, g + 1, by omega, Has.cons rfl (Has.cons rfl (Has.cons rfl (Has.cons rfl (Has.nil _)))), rfl⟩
    · try replace hc2 := of_decide_eq_false hc2
      refine wp_exit' ?_
      repeat (first | refine Then_exit ?_ | refine NoGoto_exit ?_ | refine Jump_exit ?_ | refine InBlock_here ?_ | refine InBlock_far rfl ?_)
      repeat (first | refine InBlock_normal ?_ | refine NoGoto_normal ?_ | refine Jump_normal ?_)
      refine Then_normal ?_
      refine wp_drop 0 ?_
      refine wp_region' ?_
      refine ops_ro' rfl (ro_move rfl) rfl ?_
      refine ops_ro' rfl (ro_add rfl rfl (show IntKind.u32.wrap ((f : Int) + 1) = ((f + 1 : Nat) : Int) from by rw [wrap_u32_in (by omega) (by omega)]; omega)) rfl ?_
      refine ops_ro' rfl (ro_assign rfl) rfl ?_
      refine ops_nil ?_
      repeat (first | refine InBlock_normal ?_ | refine NoGoto_normal ?_ | refine Jump_normal ?_)
      refine Then_normal ?_
      exact ⟨m - 1, by omega, f + 1, by omega, Has.cons rfl (Has.cons rfl (Has.nil _)), rfl⟩
  · try replace hc0 := of_decide_eq_false hc0
    refine wp_exit' ?_
    repeat (first | refine Then_exit ?_ | refine NoGoto_exit ?_ | refine Jump_exit ?_ | refine InBlock_here ?_ | refine InBlock_far rfl ?_)
    repeat (first | refine InBlock_normal ?_ | refine NoGoto_normal ?_ | refine Jump_normal ?_)
    refine Then_normal ?_
    refine wp_seq' ?_
    refine wp_region' ?_
    refine ops_ro' rfl (ro_loadA ag30 rfl (by first | exact RdN.of_pick 0 rfl rdn_all | exact RdN.of_pick 1 rfl rdn_all | exact RdN.of_pick 2 rfl rdn_all | exact RdN.of_pick 3 rfl rdn_all | exact RdN.of_pick 4 rfl rdn_all | exact RdN.of_pick 5 rfl rdn_all | exact RdN.of_pick 6 rfl rdn_all | exact RdN.of_pick 7 rfl rdn_all) rfl) rfl ?_
    refine ops_eff' rfl (eff_call Try.call43 rfl rfl (Split.nil _) (aputNil_spec AL)) rfl ?_
    rintro _ H' ⟨_, ⟨rfl, rfl⟩, hH⟩
    simp only [List.cons_append, List.nil_append, List.eraseIdx_cons_zero, List.eraseIdx_cons_succ, List.set_cons_zero, List.set_cons_succ] at hH
    subst hH
    refine ops_nil ?_
    repeat (first | refine InBlock_normal ?_ | refine NoGoto_normal ?_ | refine Jump_normal ?_)
    refine Then_normal ?_
    refine wp_seq' ?_
    refine wp_region' ?_
    refine ops_eff' rfl (eff_call Try.call42 rfl rfl (Split.cons 1 rfl (Split.nil _)) (same_at V none 0 0 [] rfl (Vw.nil V) (by decide) (by decide))) rfl ?_
    rintro _ H' ⟨_, ⟨rfl, rfl⟩, hH⟩
    simp only [List.cons_append, List.nil_append, List.eraseIdx_cons_zero, List.eraseIdx_cons_succ, List.set_cons_zero, List.set_cons_succ] at hH
    subst hH
    refine ops_ro' rfl (ro_move rfl) rfl ?_
    refine ops_eff' rfl (eff_buildSlice rfl (sbld (cs := [_, _, _, _]) [(.int .u8 0), (.int .u8 0), (.int .u8 0), (.int .u8 0)] sl25 (by decide) (by kernel_rfl) rfl)) rfl ?_
    rintro _ _ ⟨b69, rfl, rfl⟩
    refine ops_eff' rfl (eff_call Try.call42 rfl rfl (Split.cons 0 rfl (Split.nil _)) (same_at _ _ _ _ ([255, 255, 255, 255] : List UInt8) rfl (Vw.rd (xs := cel ([255, 255, 255, 255] : List UInt8)) rdn_all) (by decide) (by decide))) rfl ?_
    rintro _ H' ⟨_, ⟨rfl, rfl⟩, hH⟩
    simp only [List.cons_append, List.nil_append, List.eraseIdx_cons_zero, List.eraseIdx_cons_succ, List.set_cons_zero, List.set_cons_succ] at hH
    subst hH
    refine ops_ro' rfl (ro_pick rfl rfl) rfl ?_
    refine ops_ro' rfl (ro_move rfl) rfl ?_
    refine ops_eff' rfl (eff_buildSlice rfl (sbld (cs := [_, _, _, _]) [(.int .u8 0), (.int .u8 0), (.int .u8 0), (.int .u8 0)] sl25 (by decide) (by kernel_rfl) rfl)) rfl ?_
    rintro _ _ ⟨b73, rfl, rfl⟩
    refine ops_eff' rfl (eff_call Try.call42 rfl rfl (Split.cons 0 rfl (Split.nil _)) (same_at _ _ _ _ ([0, 0, 0, 16] : List UInt8) rfl (Vw.rd (xs := cel ([0, 0, 0, 16] : List UInt8)) rdn_all) (by decide) (by decide))) rfl ?_
    rintro _ H' ⟨_, ⟨rfl, rfl⟩, hH⟩
    simp only [List.cons_append, List.nil_append, List.eraseIdx_cons_zero, List.eraseIdx_cons_succ, List.set_cons_zero, List.set_cons_succ] at hH
    subst hH
    refine ops_ro' rfl (ro_pick rfl rfl) rfl ?_
    refine ops_ro' rfl (ro_move rfl) rfl ?_
    refine ops_eff' rfl (eff_buildSlice rfl (sbld (cs := [_, _, _, _, _]) [(.int .u8 0), (.int .u8 0), (.int .u8 0), (.int .u8 0), (.int .u8 0)] sl25 (by decide) (by kernel_rfl) rfl)) rfl ?_
    rintro _ _ ⟨b77, rfl, rfl⟩
    refine ops_eff' rfl (eff_call Try.call42 rfl rfl (Split.cons 0 rfl (Split.nil _)) (same_at _ _ _ _ ([0, 0, 0, 15, 1] : List UInt8) rfl (Vw.rd (xs := cel ([0, 0, 0, 15, 1] : List UInt8)) rdn_all) (by decide) (by decide))) rfl ?_
    rintro _ H' ⟨_, ⟨rfl, rfl⟩, hH⟩
    simp only [List.cons_append, List.nil_append, List.eraseIdx_cons_zero, List.eraseIdx_cons_succ, List.set_cons_zero, List.set_cons_succ] at hH
    subst hH
    refine ops_ro' rfl (ro_pick rfl rfl) rfl ?_
    refine ops_ro' rfl (ro_move rfl) rfl ?_
    refine ops_ro' rfl (ro_build rfl (show Bld Try.prog 30 _ (At.v ⟨0, 1, 0, 0, 0, 0, 0⟩) from bld_struct (cs := At.cs ⟨0, 1, 0, 0, 0, 0, 0⟩) st30 rfl)) rfl ?_
    refine ops_eff' rfl (eff_call Try.call32 rfl rfl (Split.nil _) (right_of (x := ⟨0, 1, 0, 0, 0, 0, 0⟩) (b := false) ⟨by decide, by decide, by decide, by decide, by decide, by decide, by decide⟩ (by decide))) rfl ?_
    rintro _ H' ⟨_, ⟨rfl, rfl⟩, hH⟩
    simp only [List.cons_append, List.nil_append, List.eraseIdx_cons_zero, List.eraseIdx_cons_succ, List.set_cons_zero, List.set_cons_succ] at hH
    subst hH
    refine ops_ro' rfl (ro_not rfl rfl) rfl ?_
    refine ops_ro' rfl (ro_pick rfl rfl) rfl ?_
    refine ops_ro' rfl (ro_move rfl) rfl ?_
    refine ops_ro' rfl (ro_build rfl (show Bld Try.prog 30 _ (At.v ⟨16, 0, 0, 0, 0, 0, 0⟩) from bld_struct (cs := At.cs ⟨16, 0, 0, 0, 0, 0, 0⟩) st30 rfl)) rfl ?_
    refine ops_eff' rfl (eff_call Try.call32 rfl rfl (Split.nil _) (right_of (x := ⟨16, 0, 0, 0, 0, 0, 0⟩) (b := false) ⟨by decide, by decide, by decide, by decide, by decide, by decide, by decide⟩ (by decide))) rfl ?_
    rintro _ H' ⟨_, ⟨rfl, rfl⟩, hH⟩
    simp only [List.cons_append, List.nil_append, List.eraseIdx_cons_zero, List.eraseIdx_cons_succ, List.set_cons_zero, List.set_cons_succ] at hH
    subst hH
    refine ops_ro' rfl (ro_not rfl rfl) rfl ?_
    refine ops_ro' rfl (ro_pick rfl rfl) rfl ?_
    refine ops_ro' rfl (ro_move rfl) rfl ?_
    refine ops_eff' rfl (eff_call Try.call33 rfl rfl (Split.nil _) (known_spec)) rfl ?_
    rintro _ H' ⟨_, ⟨rfl, rfl⟩, hH⟩
    simp only [List.cons_append, List.nil_append, List.eraseIdx_cons_zero, List.eraseIdx_cons_succ, List.set_cons_zero, List.set_cons_succ] at hH
    subst hH
    refine ops_ro' rfl (ro_pick rfl rfl) rfl ?_
    refine ops_ro' rfl (ro_assign rfl) rfl ?_
    refine ops_nil ?_
    repeat (first | refine InBlock_normal ?_ | refine NoGoto_normal ?_ | refine Jump_normal ?_)
    refine Then_normal ?_
    refine wp_ret' ?_
    repeat (first | refine Then_ret ?_ | refine InBlock_ret ?_ | refine NoGoto_ret ?_ | refine Jump_ret ?_)
    refine done_ret (res1 rfl rfl) ?_
    exact ⟨rfl, by simp⟩

end Go.Proofs.Ytbiohhfibkolgaa
