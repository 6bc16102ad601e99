/-
  The runs of chapter 21.
-/
import Derived.Test.YtbiohhfibkolgaaSess2
namespace Go.Proofs.Ytbiohhfibkolgaa
open Go.Sx
set_option linter.unusedVariables false
set_option linter.unusedSimpArgs false
set_option maxRecDepth 100000

theorem tdone_spec (bt c : Nat) (E : List En) (hE : E.length = 16) (hc : c < E.length) (seq : Int) (r : Rp) (h1 : 1 ≤ seq) (h2 : seq ≤ 1073741824) (hs : E[c].seq < seq) :
    Tri Try.prog 16 [.pointer (some ⟨bt, 0, none⟩), .int .i64 c, .int .i64 seq, r.v] [tab bt E] (fun v H' => v = .int .i64 0 ∧ H' = [tab bt (E.set c ⟨seq, r⟩)]) :=
  tri_weak (done_run bt c E hE hc seq r h1 h2 hs) fun v H ⟨a, b⟩ => ⟨_, ⟨a, rfl⟩, fun w F s => St_only b s⟩
theorem known21_spec : Tri Try.prog 19 [] [] (fun v H' => v = .bool true ∧ H' = []) := by
  refine tri_forget (Ψ := fun v _ => v = .bool true) ?_ fun v H h => h
  refine tri_of_wp Try.func19 rfl Try.ntmps19 (by simp) ?_
  refine wp_seq' ?_
  refine wp_region' ?_
  refine ops_ro' rfl (ro_assign rfl) rfl ?_
  refine ops_nil ?_
  repeat (first | refine InBlock_normal ?_ | refine NoGoto_normal ?_ | refine Jump_normal ?_)
  refine Then_normal ?_
  refine wp_seq' ?_
  refine wp_region' ?_
  refine ops_eff' rfl (eff_call Try.call14 rfl rfl (Split.nil _) (new_spec)) rfl ?_
  rintro _ H' ⟨_, ⟨bt, rfl, rfl⟩, hH⟩
  simp only [List.cons_append, List.nil_append, List.eraseIdx_cons_zero, List.eraseIdx_cons_succ, List.set_cons_zero, List.set_cons_succ] at hH
  subst hH
  refine ops_ro' rfl (ro_assign rfl) rfl ?_
  refine ops_nil ?_
  repeat (first | refine InBlock_normal ?_ | refine NoGoto_normal ?_ | refine Jump_normal ?_)
  refine Then_normal ?_
  refine wp_seq' ?_
  refine wp_seq' ?_
  refine wp_region' ?_
  refine ops_ro' rfl (ro_move rfl) rfl ?_
  refine ops_ro' rfl (ro_ptrEqlNil Try.underlying23 rfl rfl rfl) rfl ?_
  refine ops_nil ?_
  repeat (first | refine InBlock_normal ?_ | refine NoGoto_normal ?_ | refine Jump_normal ?_)
  refine Then_normal ?_
  refine wp_condF rfl ?_
  refine wp_skip' ?_
  repeat (first | refine InBlock_normal ?_ | refine NoGoto_normal ?_ | refine Jump_normal ?_)
  refine Then_normal ?_
  refine wp_seq' ?_
  refine wp_region' ?_
  refine ops_ro' rfl (ro_move rfl) rfl ?_
  refine ops_ro' rfl (ro_build rfl (show Bld Try.prog 32 _ (Rp.v (⟨0, 3, [], At.zero⟩ : Rp)) from bld_struct (cs := Rp.cs (⟨0, 3, [], At.zero⟩ : Rp)) st32 rfl)) rfl ?_
  refine ops_eff' rfl (eff_call Try.call16 rfl rfl (Split.cons 0 rfl (Split.nil _)) (tdone_spec bt 0 (List.replicate 16 En.zero) rfl (by decide) 1 (⟨0, 3, [], At.zero⟩ : Rp) (by decide) (by decide) (by decide))) rfl ?_
  rintro _ H' ⟨_, ⟨rfl, rfl⟩, hH⟩
  simp only [List.cons_append, List.nil_append, List.eraseIdx_cons_zero, List.eraseIdx_cons_succ, List.set_cons_zero, List.set_cons_succ] at hH
  subst hH
  refine ops_nil ?_
  repeat (first | refine InBlock_normal ?_ | refine NoGoto_normal ?_ | refine Jump_normal ?_)
  refine Then_normal ?_
  refine wp_seq' ?_
  refine wp_region' ?_
  refine ops_ro' rfl (ro_move rfl) rfl ?_
  refine ops_eff' rfl (eff_call Try.call15 rfl rfl (Split.cons 0 rfl (Split.nil _)) (ask_again bt 0 ((List.replicate 16 En.zero).set 0 ⟨1, (⟨0, 3, [], At.zero⟩ : Rp)⟩) rfl (by decide) 1 (by decide) (by decide) rfl)) rfl ?_
  rintro _ H' ⟨_, ⟨rfl, rfl⟩, hH⟩
  simp only [List.cons_append, List.nil_append, List.eraseIdx_cons_zero, List.eraseIdx_cons_succ, List.set_cons_zero, List.set_cons_succ] at hH
  subst hH
  refine ops_ro' rfl (ro_move rfl) rfl ?_
  refine ops_ro' rfl (ro_extract rfl rfl) rfl ?_
  refine ops_ro' rfl (ro_extract rfl rfl) rfl ?_
  refine ops_eff' rfl (eff_alloc z32) rfl ?_
  rintro _ _ ⟨b3, rfl, rfl⟩
  refine ops_ro' rfl (ro_assign rfl) rfl ?_
  refine ops_eff0 rfl ((by first | exact eff_storeA 0 ag32 rfl rfl rfl rfl rfl (Nat.le_of_ble_eq_true rfl) (warm_zero _) | exact eff_storeA 1 ag32 rfl rfl rfl rfl rfl (Nat.le_of_ble_eq_true rfl) (warm_zero _) | exact eff_storeA 2 ag32 rfl rfl rfl rfl rfl (Nat.le_of_ble_eq_true rfl) (warm_zero _) | exact eff_storeA 3 ag32 rfl rfl rfl rfl rfl (Nat.le_of_ble_eq_true rfl) (warm_zero _) | exact eff_storeA 4 ag32 rfl rfl rfl rfl rfl (Nat.le_of_ble_eq_true rfl) (warm_zero _) | exact eff_storeA 5 ag32 rfl rfl rfl rfl rfl (Nat.le_of_ble_eq_true rfl) (warm_zero _) | exact eff_storeA 6 ag32 rfl rfl rfl rfl rfl (Nat.le_of_ble_eq_true rfl) (warm_zero _) | exact eff_storeA 7 ag32 rfl rfl rfl rfl rfl (Nat.le_of_ble_eq_true rfl) (warm_zero _))) rfl ?_
  rintro _ _ rfl
  refine ops_nil ?_
  repeat (first | refine InBlock_normal ?_ | refine NoGoto_normal ?_ | refine Jump_normal ?_)
  refine Then_normal ?_
  refine wp_seq' ?_
  refine wp_region' ?_
  refine ops_ro' rfl (ro_move rfl) rfl ?_
  refine ops_eff' rfl (eff_call Try.call15 rfl rfl (Split.cons 1 rfl (Split.nil _)) (ask_fresh bt 0 ((List.replicate 16 En.zero).set 0 ⟨1, (⟨0, 3, [], At.zero⟩ : Rp)⟩) rfl (by decide) 2 (by decide) (by decide) (by decide))) rfl ?_
  rintro _ H' ⟨_, ⟨rfl, rfl⟩, hH⟩
  simp only [List.cons_append, List.nil_append, List.eraseIdx_cons_zero, List.eraseIdx_cons_succ, List.set_cons_zero, List.set_cons_succ] at hH
  subst hH
  refine ops_ro' rfl (ro_move rfl) rfl ?_
  refine ops_ro' rfl (ro_extract rfl rfl) rfl ?_
  refine ops_ro' rfl (ro_extract rfl rfl) rfl ?_
  refine ops_eff' rfl (eff_alloc z32) rfl ?_
  rintro _ _ ⟨b5, rfl, rfl⟩
  refine ops_ro' rfl (ro_assign rfl) rfl ?_
  refine ops_eff0 rfl ((by first | exact eff_storeA 0 ag32 rfl rfl rfl rfl rfl (Nat.le_of_ble_eq_true rfl) (warm_zero _) | exact eff_storeA 1 ag32 rfl rfl rfl rfl rfl (Nat.le_of_ble_eq_true rfl) (warm_zero _) | exact eff_storeA 2 ag32 rfl rfl rfl rfl rfl (Nat.le_of_ble_eq_true rfl) (warm_zero _) | exact eff_storeA 3 ag32 rfl rfl rfl rfl rfl (Nat.le_of_ble_eq_true rfl) (warm_zero _) | exact eff_storeA 4 ag32 rfl rfl rfl rfl rfl (Nat.le_of_ble_eq_true rfl) (warm_zero _) | exact eff_storeA 5 ag32 rfl rfl rfl rfl rfl (Nat.le_of_ble_eq_true rfl) (warm_zero _) | exact eff_storeA 6 ag32 rfl rfl rfl rfl rfl (Nat.le_of_ble_eq_true rfl) (warm_zero _) | exact eff_storeA 7 ag32 rfl rfl rfl rfl rfl (Nat.le_of_ble_eq_true rfl) (warm_zero _))) rfl ?_
  rintro _ _ rfl
  refine ops_nil ?_
  repeat (first | refine InBlock_normal ?_ | refine NoGoto_normal ?_ | refine Jump_normal ?_)
  refine Then_normal ?_
  refine wp_seq' ?_
  refine wp_region' ?_
  refine ops_ro' rfl (ro_move rfl) rfl ?_
  refine ops_ro' rfl (ro_eql rfl rfl (decide_eq_true rfl)) rfl ?_
  refine ops_ro' rfl (ro_move rfl) rfl ?_
  refine ops_ro' rfl (ro_loadA ag32 rfl (by first | exact RdN.of_pick 0 rfl rdn_all | exact RdN.of_pick 1 rfl rdn_all | exact RdN.of_pick 2 rfl rdn_all | exact RdN.of_pick 3 rfl rdn_all | exact RdN.of_pick 4 rfl rdn_all | exact RdN.of_pick 5 rfl rdn_all | exact RdN.of_pick 6 rfl rdn_all | exact RdN.of_pick 7 rfl rdn_all) rfl) rfl ?_
  refine ops_ro' rfl (ro_build rfl (show Bld Try.prog 32 _ (Rp.v (⟨0, 3, [], At.zero⟩ : Rp)) from bld_struct (cs := Rp.cs (⟨0, 3, [], At.zero⟩ : Rp)) st32 rfl)) rfl ?_
  refine ops_eff' rfl (eff_call Try.call17 rfl rfl (Split.nil _) (kreply_same (⟨0, 3, [], At.zero⟩ : Rp))) rfl ?_
  rintro _ H' ⟨_, ⟨rfl, rfl⟩, hH⟩
  simp only [List.cons_append, List.nil_append, List.eraseIdx_cons_zero, List.eraseIdx_cons_succ, List.set_cons_zero, List.set_cons_succ] at hH
  subst hH
  refine ops_ro' rfl (ro_pick rfl rfl) rfl ?_
  refine ops_ro' rfl (ro_move rfl) rfl ?_
  refine ops_ro' rfl (ro_move rfl) rfl ?_
  refine ops_ro' rfl (ro_eql rfl rfl (decide_eq_true rfl)) rfl ?_
  refine ops_ro' rfl (ro_pick rfl rfl) rfl ?_
  refine ops_ro' rfl (ro_move rfl) rfl ?_
  refine ops_ro' rfl (ro_move rfl) rfl ?_
  refine ops_eff' rfl (eff_call Try.call18 rfl rfl (Split.cons 1 rfl (Split.nil _)) (last_spec bt 0 ((List.replicate 16 En.zero).set 0 ⟨1, (⟨0, 3, [], At.zero⟩ : Rp)⟩) rfl (by decide))) rfl ?_
  rintro _ H' ⟨_, ⟨rfl, rfl⟩, hH⟩
  simp only [List.cons_append, List.nil_append, List.eraseIdx_cons_zero, List.eraseIdx_cons_succ, List.set_cons_zero, List.set_cons_succ] at hH
  subst hH
  refine ops_ro' rfl (ro_eql rfl rfl (decide_eq_true rfl)) rfl ?_
  refine ops_ro' rfl (ro_pick rfl rfl) rfl ?_
  refine ops_ro' rfl (ro_assign rfl) rfl ?_
  refine ops_nil ?_
  repeat (first | refine InBlock_normal ?_ | refine NoGoto_normal ?_ | refine Jump_normal ?_)
  refine Then_normal ?_
  refine wp_ret' ?_
  repeat (first | refine Then_ret ?_ | refine InBlock_ret ?_ | refine NoGoto_ret ?_ | refine Jump_ret ?_)
  refine done_ret (res1 rfl rfl) ?_
  rfl

end Go.Proofs.Ytbiohhfibkolgaa
