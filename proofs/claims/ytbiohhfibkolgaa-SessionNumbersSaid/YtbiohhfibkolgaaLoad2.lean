/-
  Bare replies; Load.
-/
import Derived.Test.YtbiohhfibkolgaaLoad
namespace Go.Proofs.Ytbiohhfibkolgaa
open Go.Sx
set_option linter.unusedVariables false
set_option linter.unusedSimpArgs false
set_option maxRecDepth 100000
set_option maxHeartbeats 4000000

/-- is a reply zero? -/
def Rc.bare (c : Rc) : Bool := decide (c.kind = 0) && decide (c.status = 0) && decide (c.h = []) && decide (c.d.length + c.ns.length = 0) && decide (c.at' = At.zero)
theorem bare_spec21 (r : Rp) (hd : r.c.d.length ≤ 4294967295) (hn : r.c.ns.length ≤ 4294967295) :
    Tri Try.prog 74 [r.v] [] (fun v H' => v = .bool r.c.bare ∧ H' = []) := by
  refine tri_of_wpS Try.func74 rfl Try.ntmps74 (by simp) ?_
  refine wp_seq' ?_
  refine wp_region' ?_
  refine ops_eff' rfl (eff_box rfl) rfl ?_
  rintro _ _ ⟨b1, rfl, rfl⟩
  refine ops_ro' rfl (ro_assign rfl) rfl ?_
  refine ops_nil ?_
  refine Then_normal ?_
  refine wp_seq' ?_
  refine wp_draw 31 (by kernel_rfl) (Split.cons 0 rfl (Split.nil _)) ?_
  refine any_ro' (i := 0) (by kernel_rfl) rfl rfl (ro_fieldAddr fa32_0 rfl) rfl (fun _ _ _ h => h) ?_
  refine any_ro' (i := 1) (by kernel_rfl) rfl rfl (ro_load sc3 rfl (Rd.pick 0 rfl (Rd.own rfl))) rfl (fun _ _ _ h => h) ?_
  refine any_ro' (i := 2) (by kernel_rfl) rfl rfl (ro_eql rfl rfl rfl) rfl (fun _ _ _ h => h) ?_
  refine any_split (i := 3) (by kernel_rfl) rfl rfl rfl rfl (fun _ _ _ h => h) (fun hg6 => ?_) (fun hg6 => ?_)
  · replace hg6 := of_decide_eq_true hg6
    refine any_ro' (i := 4) (by kernel_rfl) rfl rfl (ro_fieldAddr fa32_1 rfl) rfl (fun _ _ _ h => h) ?_
    refine any_ro' (i := 5) (by kernel_rfl) rfl rfl (ro_load sc3 rfl (Rd.pick 0 rfl (Rd.own rfl))) rfl (fun _ _ _ h => h) ?_
    refine any_ro' (i := 6) (by kernel_rfl) rfl rfl (ro_eql rfl rfl rfl) rfl (fun _ _ _ h => h) ?_
    refine any_ro' (i := 7) (by kernel_rfl) rfl rfl (ro_pick rfl rfl) rfl (fun _ _ _ h => h) ?_
    refine any_split (i := 8) (by kernel_rfl) rfl rfl rfl rfl (fun _ _ _ h => h) (fun hg11 => ?_) (fun hg11 => ?_)
    · replace hg11 := of_decide_eq_true hg11
      refine any_ro' (i := 9) (by kernel_rfl) rfl rfl (ro_fieldAddr fa32_2 rfl) rfl (fun _ _ _ h => h) ?_
      refine any_ro' (i := 10) (by kernel_rfl) rfl rfl (ro_load sc9 rfl (Rd.pick 0 rfl (Rd.own rfl))) rfl (fun _ _ _ h => h) ?_
      refine any_ro' (i := 11) (by kernel_rfl) rfl rfl (ro_eqlS rfl rfl rfl) rfl (fun _ _ _ h => h) ?_
      refine any_ro' (i := 12) (by kernel_rfl) rfl rfl (ro_pick rfl rfl) rfl (fun _ _ _ h => h) ?_
      refine any_split (i := 13) (by kernel_rfl) rfl rfl rfl rfl (fun _ _ _ h => h) (fun hg16 => ?_) (fun hg16 => ?_)
      · replace hg16 := of_decide_eq_true hg16
        refine any_ro' (i := 14) (by kernel_rfl) rfl rfl (ro_fieldAddr fa32_3 rfl) rfl (fun _ _ _ h => h) ?_
        refine any_ro' (i := 15) (by kernel_rfl) rfl rfl (ro_load sc25 rfl (Rd.pick 0 rfl (Rd.own rfl))) rfl (fun _ _ _ h => h) ?_
        refine any_ro' (i := 16) (by kernel_rfl) rfl rfl (ro_sliceLen Try.underlying25 rfl) rfl (fun _ _ _ h => h) ?_
        refine any_ro' (i := 17) (by kernel_rfl) rfl rfl (ro_fieldAddr fa32_4 rfl) rfl (fun _ _ _ h => h) ?_
        refine any_ro' (i := 18) (by kernel_rfl) rfl rfl (ro_load sc26 rfl (Rd.pick 0 rfl (Rd.own rfl))) rfl (fun _ _ _ h => h) ?_
        refine any_ro' (i := 19) (by kernel_rfl) rfl rfl (ro_sliceLen Try.underlying26 rfl) rfl (fun _ _ _ h => h) ?_
        refine any_ro' (i := 20) (by kernel_rfl) rfl rfl (ro_add rfl rfl (wrap_addN (by omega))) rfl (fun _ _ _ h => h) ?_
        refine any_ro' (i := 21) (by kernel_rfl) rfl rfl (ro_eql rfl rfl rfl) rfl (fun _ _ _ h => h) ?_
        refine any_ro' (i := 22) (by kernel_rfl) rfl rfl (ro_pick rfl rfl) rfl (fun _ _ _ h => h) ?_
        refine any_split (i := 23) (by kernel_rfl) rfl rfl rfl rfl (fun _ _ _ h => h) (fun hg26 => ?_) (fun hg26 => ?_)
        · replace hg26 := of_decide_eq_true hg26
          refine any_ro' (i := 24) (by kernel_rfl) rfl rfl (ro_fieldAddr fa32_5 rfl) rfl (fun _ _ _ h => h) ?_
          refine any_ro' (i := 25) (by kernel_rfl) rfl rfl (ro_loadA ag30 rfl (RdN.of_pick 0 rfl (rp_at r rdn_all)) rfl) rfl (fun _ _ _ h => h) ?_
          refine any_ro' (i := 26) (by kernel_rfl) rfl rfl (ro_build rfl (bld_struct (cs := At.zero.cs) st30 rfl)) rfl (fun _ _ _ h => h) ?_
          refine any_ro' (i := 27) (by kernel_rfl) rfl rfl (ro_build rfl (bld_struct (cs := At.zero.cs) st30 rfl)) rfl (fun _ _ _ h => h) ?_
          refine any_eff' (i := 28) (by kernel_rfl) rfl rfl (eff_call Try.call37 rfl rfl (by repeat (first | exact Split.nil _ | apply Split.cons 0 rfl | apply Split.cons 1 rfl | apply Split.cons 2 rfl | apply Split.cons 3 rfl | apply Split.cons 4 rfl | apply Split.cons 5 rfl | apply Split.cons 6 rfl | apply Split.cons 7 rfl | apply Split.cons 8 rfl | apply Split.cons 9 rfl | apply Split.cons 10 rfl | apply Split.cons 11 rfl)) (merge_spec At.zero At.zero At.zero_ok At.zero_ok)) rfl ?_
          rintro _ H' ⟨_, ⟨rfl, rfl⟩, hH⟩
          simp only [List.cons_append, List.nil_append, List.eraseIdx_cons_zero, List.eraseIdx_cons_succ, List.set_cons_zero, List.set_cons_succ] at hH
          subst hH
          rw [merge_zero]
          refine any_ro' (i := 29) (by kernel_rfl) rfl rfl (ro_attrEq (x := r.c.at') (y := At.zero) rfl rfl rfl) rfl (fun _ _ _ h => h) ?_
          refine any_ro' (i := 30) (by kernel_rfl) rfl rfl (ro_pick rfl rfl) rfl (fun _ _ _ h => h) ?_
          refine any_unlock (m' := 32) (L' := []) (by kernel_rfl) unlock ?_
          simp only [List.cons_append, List.nil_append, List.append_nil]
          refine any_ro' (i := 31) (by kernel_rfl) rfl rfl (ro_assign rfl) rfl (fun _ _ _ h => h) ?_
          refine any_doneH (by kernel_rfl) ?_
          refine Then_normal ?_
          refine wp_ret' ?_
          refine' doneS_ret (res1 rfl rfl) ?_ ?_
          rotate_left 1
          exact ⟨by rw [Rc.bare, decide_eq_true hg6, decide_eq_true hg11, decide_eq_true hg16, decide_eq_true (p := r.c.d.length + r.c.ns.length = 0) (by omega)]; rfl, rfl⟩
          exact (SubH.nil _)
        · replace hg26 := of_decide_eq_false hg26
          refine any_skip' (i := 24) (by kernel_rfl) rfl rfl rfl (fun _ _ _ h => h) ?_
          refine any_skip' (i := 25) (by kernel_rfl) rfl rfl rfl (fun _ _ _ h => h) ?_
          refine any_skip' (i := 26) (by kernel_rfl) rfl rfl rfl (fun _ _ _ h => h) ?_
          refine any_skip' (i := 27) (by kernel_rfl) rfl rfl rfl (fun _ _ _ h => h) ?_
          refine any_skip' (i := 28) (by kernel_rfl) rfl rfl rfl (fun _ _ _ h => h) ?_
          refine any_skip' (i := 29) (by kernel_rfl) rfl rfl rfl (fun _ _ _ h => h) ?_
          refine any_ro' (i := 30) (by kernel_rfl) rfl rfl (ro_pick rfl rfl) rfl (fun _ _ _ h => h) ?_
          refine any_unlock (m' := 32) (L' := []) (by kernel_rfl) unlock ?_
          simp only [List.cons_append, List.nil_append, List.append_nil]
          refine any_ro' (i := 31) (by kernel_rfl) rfl rfl (ro_assign rfl) rfl (fun _ _ _ h => h) ?_
          refine any_doneH (by kernel_rfl) ?_
          refine Then_normal ?_
          refine wp_ret' ?_
          refine' doneS_ret (res1 rfl rfl) ?_ ?_
          rotate_left 1
          exact ⟨by rw [Rc.bare, decide_eq_false (p := r.c.d.length + r.c.ns.length = 0) (by omega)]; simp, rfl⟩
          exact (SubH.nil _)
      · replace hg16 := of_decide_eq_false hg16
        refine any_skip' (i := 14) (by kernel_rfl) rfl rfl rfl (fun _ _ _ h => h) ?_
        refine any_skip' (i := 15) (by kernel_rfl) rfl rfl rfl (fun _ _ _ h => h) ?_
        refine any_skip' (i := 16) (by kernel_rfl) rfl rfl rfl (fun _ _ _ h => h) ?_
        refine any_skip' (i := 17) (by kernel_rfl) rfl rfl rfl (fun _ _ _ h => h) ?_
        refine any_skip' (i := 18) (by kernel_rfl) rfl rfl rfl (fun _ _ _ h => h) ?_
        refine any_skip' (i := 19) (by kernel_rfl) rfl rfl rfl (fun _ _ _ h => h) ?_
        refine any_skip' (i := 20) (by kernel_rfl) rfl rfl rfl (fun _ _ _ h => h) ?_
        refine any_skip' (i := 21) (by kernel_rfl) rfl rfl rfl (fun _ _ _ h => h) ?_
        refine any_ro' (i := 22) (by kernel_rfl) rfl rfl (ro_pick rfl rfl) rfl (fun _ _ _ h => h) ?_
        refine any_ro' (i := 23) (by kernel_rfl) rfl rfl (ro_move (v := .bool false) rfl) rfl (fun _ _ _ h => h) ?_
        refine any_skip' (i := 24) (by kernel_rfl) rfl rfl rfl (fun _ _ _ h => h) ?_
        refine any_skip' (i := 25) (by kernel_rfl) rfl rfl rfl (fun _ _ _ h => h) ?_
        refine any_skip' (i := 26) (by kernel_rfl) rfl rfl rfl (fun _ _ _ h => h) ?_
        refine any_skip' (i := 27) (by kernel_rfl) rfl rfl rfl (fun _ _ _ h => h) ?_
        refine any_skip' (i := 28) (by kernel_rfl) rfl rfl rfl (fun _ _ _ h => h) ?_
        refine any_skip' (i := 29) (by kernel_rfl) rfl rfl rfl (fun _ _ _ h => h) ?_
        refine any_ro' (i := 30) (by kernel_rfl) rfl rfl (ro_pick rfl rfl) rfl (fun _ _ _ h => h) ?_
        refine any_unlock (m' := 32) (L' := []) (by kernel_rfl) unlock ?_
        simp only [List.cons_append, List.nil_append, List.append_nil]
        refine any_ro' (i := 31) (by kernel_rfl) rfl rfl (ro_assign rfl) rfl (fun _ _ _ h => h) ?_
        refine any_doneH (by kernel_rfl) ?_
        refine Then_normal ?_
        refine wp_ret' ?_
        refine' doneS_ret (res1 rfl rfl) ?_ ?_
        rotate_left 1
        exact ⟨by simp [Rc.bare, *], rfl⟩
        exact (SubH.nil _)
    · replace hg11 := of_decide_eq_false hg11
      refine any_skip' (i := 9) (by kernel_rfl) rfl rfl rfl (fun _ _ _ h => h) ?_
      refine any_skip' (i := 10) (by kernel_rfl) rfl rfl rfl (fun _ _ _ h => h) ?_
      refine any_skip' (i := 11) (by kernel_rfl) rfl rfl rfl (fun _ _ _ h => h) ?_
      refine any_ro' (i := 12) (by kernel_rfl) rfl rfl (ro_pick rfl rfl) rfl (fun _ _ _ h => h) ?_
      refine any_ro' (i := 13) (by kernel_rfl) rfl rfl (ro_move (v := .bool false) rfl) rfl (fun _ _ _ h => h) ?_
      refine any_skip' (i := 14) (by kernel_rfl) rfl rfl rfl (fun _ _ _ h => h) ?_
      refine any_skip' (i := 15) (by kernel_rfl) rfl rfl rfl (fun _ _ _ h => h) ?_
      refine any_skip' (i := 16) (by kernel_rfl) rfl rfl rfl (fun _ _ _ h => h) ?_
      refine any_skip' (i := 17) (by kernel_rfl) rfl rfl rfl (fun _ _ _ h => h) ?_
      refine any_skip' (i := 18) (by kernel_rfl) rfl rfl rfl (fun _ _ _ h => h) ?_
      refine any_skip' (i := 19) (by kernel_rfl) rfl rfl rfl (fun _ _ _ h => h) ?_
      refine any_skip' (i := 20) (by kernel_rfl) rfl rfl rfl (fun _ _ _ h => h) ?_
      refine any_skip' (i := 21) (by kernel_rfl) rfl rfl rfl (fun _ _ _ h => h) ?_
      refine any_ro' (i := 22) (by kernel_rfl) rfl rfl (ro_pick rfl rfl) rfl (fun _ _ _ h => h) ?_
      refine any_ro' (i := 23) (by kernel_rfl) rfl rfl (ro_move (v := .bool false) rfl) rfl (fun _ _ _ h => h) ?_
      refine any_skip' (i := 24) (by kernel_rfl) rfl rfl rfl (fun _ _ _ h => h) ?_
      refine any_skip' (i := 25) (by kernel_rfl) rfl rfl rfl (fun _ _ _ h => h) ?_
      refine any_skip' (i := 26) (by kernel_rfl) rfl rfl rfl (fun _ _ _ h => h) ?_
      refine any_skip' (i := 27) (by kernel_rfl) rfl rfl rfl (fun _ _ _ h => h) ?_
      refine any_skip' (i := 28) (by kernel_rfl) rfl rfl rfl (fun _ _ _ h => h) ?_
      refine any_skip' (i := 29) (by kernel_rfl) rfl rfl rfl (fun _ _ _ h => h) ?_
      refine any_ro' (i := 30) (by kernel_rfl) rfl rfl (ro_pick rfl rfl) rfl (fun _ _ _ h => h) ?_
      refine any_unlock (m' := 32) (L' := []) (by kernel_rfl) unlock ?_
      simp only [List.cons_append, List.nil_append, List.append_nil]
      refine any_ro' (i := 31) (by kernel_rfl) rfl rfl (ro_assign rfl) rfl (fun _ _ _ h => h) ?_
      refine any_doneH (by kernel_rfl) ?_
      refine Then_normal ?_
      refine wp_ret' ?_
      refine' doneS_ret (res1 rfl rfl) ?_ ?_
      rotate_left 1
      exact ⟨by simp [Rc.bare, *], rfl⟩
      exact (SubH.nil _)
  · replace hg6 := of_decide_eq_false hg6
    refine any_skip' (i := 4) (by kernel_rfl) rfl rfl rfl (fun _ _ _ h => h) ?_
    refine any_skip' (i := 5) (by kernel_rfl) rfl rfl rfl (fun _ _ _ h => h) ?_
    refine any_skip' (i := 6) (by kernel_rfl) rfl rfl rfl (fun _ _ _ h => h) ?_
    refine any_ro' (i := 7) (by kernel_rfl) rfl rfl (ro_pick rfl rfl) rfl (fun _ _ _ h => h) ?_
    refine any_ro' (i := 8) (by kernel_rfl) rfl rfl (ro_move (v := .bool false) rfl) rfl (fun _ _ _ h => h) ?_
    refine any_skip' (i := 9) (by kernel_rfl) rfl rfl rfl (fun _ _ _ h => h) ?_
    refine any_skip' (i := 10) (by kernel_rfl) rfl rfl rfl (fun _ _ _ h => h) ?_
    refine any_skip' (i := 11) (by kernel_rfl) rfl rfl rfl (fun _ _ _ h => h) ?_
    refine any_ro' (i := 12) (by kernel_rfl) rfl rfl (ro_pick rfl rfl) rfl (fun _ _ _ h => h) ?_
    refine any_ro' (i := 13) (by kernel_rfl) rfl rfl (ro_move (v := .bool false) rfl) rfl (fun _ _ _ h => h) ?_
    refine any_skip' (i := 14) (by kernel_rfl) rfl rfl rfl (fun _ _ _ h => h) ?_
    refine any_skip' (i := 15) (by kernel_rfl) rfl rfl rfl (fun _ _ _ h => h) ?_
    refine any_skip' (i := 16) (by kernel_rfl) rfl rfl rfl (fun _ _ _ h => h) ?_
    refine any_skip' (i := 17) (by kernel_rfl) rfl rfl rfl (fun _ _ _ h => h) ?_
    refine any_skip' (i := 18) (by kernel_rfl) rfl rfl rfl (fun _ _ _ h => h) ?_
    refine any_skip' (i := 19) (by kernel_rfl) rfl rfl rfl (fun _ _ _ h => h) ?_
    refine any_skip' (i := 20) (by kernel_rfl) rfl rfl rfl (fun _ _ _ h => h) ?_
    refine any_skip' (i := 21) (by kernel_rfl) rfl rfl rfl (fun _ _ _ h => h) ?_
    refine any_ro' (i := 22) (by kernel_rfl) rfl rfl (ro_pick rfl rfl) rfl (fun _ _ _ h => h) ?_
    refine any_ro' (i := 23) (by kernel_rfl) rfl rfl (ro_move (v := .bool false) rfl) rfl (fun _ _ _ h => h) ?_
    refine any_skip' (i := 24) (by kernel_rfl) rfl rfl rfl (fun _ _ _ h => h) ?_
    refine any_skip' (i := 25) (by kernel_rfl) rfl rfl rfl (fun _ _ _ h => h) ?_
    refine any_skip' (i := 26) (by kernel_rfl) rfl rfl rfl (fun _ _ _ h => h) ?_
    refine any_skip' (i := 27) (by kernel_rfl) rfl rfl rfl (fun _ _ _ h => h) ?_
    refine any_skip' (i := 28) (by kernel_rfl) rfl rfl rfl (fun _ _ _ h => h) ?_
    refine any_skip' (i := 29) (by kernel_rfl) rfl rfl rfl (fun _ _ _ h => h) ?_
    refine any_ro' (i := 30) (by kernel_rfl) rfl rfl (ro_pick rfl rfl) rfl (fun _ _ _ h => h) ?_
    refine any_unlock (m' := 32) (L' := []) (by kernel_rfl) unlock ?_
    simp only [List.cons_append, List.nil_append, List.append_nil]
    refine any_ro' (i := 31) (by kernel_rfl) rfl rfl (ro_assign rfl) rfl (fun _ _ _ h => h) ?_
    refine any_doneH (by kernel_rfl) ?_
    refine Then_normal ?_
    refine wp_ret' ?_
    refine' doneS_ret (res1 rfl rfl) ?_ ?_
    rotate_left 1
    exact ⟨by simp [Rc.bare, *], rfl⟩
    exact (SubH.nil _)

end Go.Proofs.Ytbiohhfibkolgaa
