/-
  Package strongroomref14: right, written, read.
-/
import Derived.Test.YtigaolglnnjnmaaSfB
import Derived.Test.YtigaolglnnjnmaaRq1
namespace Go.Proofs.Ytigaolglnnjnmaa
open Go.Sx
set_option linter.unusedVariables false
set_option linter.unusedSimpArgs false
set_option maxRecDepth 100000
set_option maxHeartbeats 4000000

theorem q14right (x : At) (hx : x.Ok) : Tri Try.prog 70 [x.v] [] (fun v H' => v = .bool x.right ∧ H' = []) := by
  refine tri_of_wpS Try.func70 rfl Try.ntmps70 (by simp) ?_
  refine wp_seq' ?_
  refine wp_region' ?_
  refine ops_eff' rfl (eff_box rfl) rfl ?_
  rintro _ _ ⟨b1, rfl, rfl⟩
  refine ops_ro' rfl (ro_assign rfl) rfl ?_
  refine ops_nil ?_
  refine Then_normal ?_
  refine wp_seq' ?_
  refine wp_region' ?_
  refine ops_ro' rfl (ro_fieldAddr fa54_0 rfl) rfl ?_
  refine ops_ro' rfl (ro_load sc40 rfl (Rd.pick 0 rfl (Rd.own rfl))) rfl ?_
  refine ops_ro' rfl (ro_leq rfl rfl rfl) rfl ?_
  refine ops_split rfl rfl rfl (fun hg6 => ?_) (fun hg6 => ?_)
  · replace hg6 := of_decide_eq_true hg6
    refine ops_ro' rfl (ro_fieldAddr fa54_0 rfl) rfl ?_
    refine ops_ro' rfl (ro_load sc40 rfl (Rd.pick 0 rfl (Rd.own rfl))) rfl ?_
    refine ops_ro' rfl (ro_and rfl rfl (and32 hx.f (c := 1) (by decide) rfl)) rfl ?_
    refine ops_ro' rfl (ro_neq rfl rfl rfl) rfl ?_
    refine ops_split rfl rfl rfl (fun hg11 => ?_) (fun hg11 => ?_)
    · replace hg11 := of_decide_eq_true hg11
      refine ops_skip' rfl rfl ?_
      refine ops_skip' rfl rfl ?_
      refine ops_skip' rfl rfl ?_
      refine ops_ro' rfl (ro_pick rfl rfl) rfl ?_
      refine ops_ro' rfl (ro_pick rfl rfl) rfl ?_
      refine ops_ro' rfl (ro_move (v := .bool true) rfl) rfl ?_
      refine ops_ro' rfl (ro_fieldAddr fa54_0 rfl) rfl ?_
      refine ops_ro' rfl (ro_load sc40 rfl (Rd.pick 0 rfl (Rd.own rfl))) rfl ?_
      refine ops_ro' rfl (ro_and rfl rfl (and32 hx.f (c := 2) (by decide) rfl)) rfl ?_
      refine ops_ro' rfl (ro_neq rfl rfl rfl) rfl ?_
      refine ops_split rfl rfl rfl (fun hg22 => ?_) (fun hg22 => ?_)
      · replace hg22 := of_decide_eq_true hg22
        refine ops_skip' rfl rfl ?_
        refine ops_skip' rfl rfl ?_
        refine ops_skip' rfl rfl ?_
        refine ops_skip' rfl rfl ?_
        refine ops_skip' rfl rfl ?_
        refine ops_skip' rfl rfl ?_
        refine ops_skip' rfl rfl ?_
        refine ops_skip' rfl rfl ?_
        refine ops_ro' rfl (ro_pick rfl rfl) rfl ?_
        refine ops_ro' rfl (ro_pick rfl rfl) rfl ?_
        refine ops_ro' rfl (ro_move (v := .bool true) rfl) rfl ?_
        refine ops_ro' rfl (ro_fieldAddr fa54_0 rfl) rfl ?_
        refine ops_ro' rfl (ro_load sc40 rfl (Rd.pick 0 rfl (Rd.own rfl))) rfl ?_
        refine ops_ro' rfl (ro_and rfl rfl (and32 hx.f (c := 4) (by decide) rfl)) rfl ?_
        refine ops_ro' rfl (ro_neq rfl rfl rfl) rfl ?_
        refine ops_split rfl rfl rfl (fun hg38 => ?_) (fun hg38 => ?_)
        · replace hg38 := of_decide_eq_true hg38
          refine ops_skip' rfl rfl ?_
          refine ops_skip' rfl rfl ?_
          refine ops_skip' rfl rfl ?_
          refine ops_ro' rfl (ro_pick rfl rfl) rfl ?_
          refine ops_ro' rfl (ro_pick rfl rfl) rfl ?_
          refine ops_ro' rfl (ro_move (v := .bool true) rfl) rfl ?_
          refine ops_ro' rfl (ro_fieldAddr fa54_0 rfl) rfl ?_
          refine ops_ro' rfl (ro_load sc40 rfl (Rd.pick 0 rfl (Rd.own rfl))) rfl ?_
          refine ops_ro' rfl (ro_and rfl rfl (and32 hx.f (c := 8) (by decide) rfl)) rfl ?_
          refine ops_ro' rfl (ro_neq rfl rfl rfl) rfl ?_
          refine ops_split rfl rfl rfl (fun hg49 => ?_) (fun hg49 => ?_)
          · replace hg49 := of_decide_eq_true hg49
            refine ops_skip' rfl rfl ?_
            refine ops_skip' rfl rfl ?_
            refine ops_skip' rfl rfl ?_
            refine ops_skip' rfl rfl ?_
            refine ops_skip' rfl rfl ?_
            refine ops_skip' rfl rfl ?_
            refine ops_skip' rfl rfl ?_
            refine ops_skip' rfl rfl ?_
            refine ops_ro' rfl (ro_pick rfl rfl) rfl ?_
            refine ops_ro' rfl (ro_pick rfl rfl) rfl ?_
            refine ops_ro' rfl (ro_assign rfl) rfl ?_
            refine ops_nil ?_
            refine Then_normal ?_
            refine wp_ret' ?_
            refine' doneS_ret (res1 rfl rfl) ?_ ?_
            rotate_left 1
            exact ⟨congrArg Value.bool (Eq.symm ((right_good x).2 ⟨by omega, by omega, by omega, by omega, by omega, by omega, by omega⟩)), rfl⟩
            exact (SubH.nil _)
          · replace hg49 := of_decide_eq_false hg49
            refine ops_ro' rfl (ro_fieldAddr fa54_5 rfl) rfl ?_
            refine ops_ro' rfl (ro_load sc40 rfl (Rd.pick 0 rfl (Rd.own rfl))) rfl ?_
            refine ops_ro' rfl (ro_eql rfl rfl rfl) rfl ?_
            refine ops_split rfl rfl rfl (fun hg53 => ?_) (fun hg53 => ?_)
            · replace hg53 := of_decide_eq_true hg53
              refine ops_ro' rfl (ro_fieldAddr fa54_6 rfl) rfl ?_
              refine ops_ro' rfl (ro_load sc40 rfl (Rd.pick 0 rfl (Rd.own rfl))) rfl ?_
              refine ops_ro' rfl (ro_eql rfl rfl rfl) rfl ?_
              refine ops_ro' rfl (ro_pick rfl rfl) rfl ?_
              refine ops_ro' rfl (ro_pick rfl rfl) rfl ?_
              refine ops_ro' rfl (ro_pick rfl rfl) rfl ?_
              refine ops_ro' rfl (ro_assign rfl) rfl ?_
              refine ops_nil ?_
              refine Then_normal ?_
              refine wp_ret' ?_
              refine' doneS_ret (res1 rfl rfl) ?_ ?_
              rotate_left 1
              exact ⟨congrArg Value.bool (Bool.eq_iff_iff.2 (by rw [decide_eq_true_eq, right_good]; exact ⟨fun h => ⟨by omega, by omega, by omega, by omega, by omega, by omega, by omega⟩, fun g => by have g0 := g.f; have g1 := g.s; have g2 := g.u; have g3 := g.g; have g4 := g.m; have g5 := g.a; have g6 := g.t; omega⟩)), rfl⟩
              exact (SubH.nil _)
            · replace hg53 := of_decide_eq_false hg53
              refine ops_skip' rfl rfl ?_
              refine ops_skip' rfl rfl ?_
              refine ops_skip' rfl rfl ?_
              refine ops_ro' rfl (ro_pick rfl rfl) rfl ?_
              refine ops_ro' rfl (ro_pick rfl rfl) rfl ?_
              refine ops_ro' rfl (ro_pick rfl rfl) rfl ?_
              refine ops_ro' rfl (ro_assign rfl) rfl ?_
              refine ops_nil ?_
              refine Then_normal ?_
              refine wp_ret' ?_
              refine' doneS_ret (res1 rfl rfl) ?_ ?_
              rotate_left 1
              exact ⟨congrArg Value.bool (Eq.symm (Bool.eq_false_iff.2 (fun hr => absurd ((right_good x).1 hr) (fun g => by have g0 := g.f; have g1 := g.s; have g2 := g.u; have g3 := g.g; have g4 := g.m; have g5 := g.a; have g6 := g.t; omega)))), rfl⟩
              exact (SubH.nil _)
        · replace hg38 := of_decide_eq_false hg38
          refine ops_ro' rfl (ro_fieldAddr fa54_4 rfl) rfl ?_
          refine ops_ro' rfl (ro_load sc40 rfl (Rd.pick 0 rfl (Rd.own rfl))) rfl ?_
          refine ops_ro' rfl (ro_eql rfl rfl rfl) rfl ?_
          refine ops_ro' rfl (ro_pick rfl rfl) rfl ?_
          refine ops_ro' rfl (ro_pick rfl rfl) rfl ?_
          refine ops_split rfl rfl rfl (fun hg44 => ?_) (fun hg44 => ?_)
          · replace hg44 := of_decide_eq_true hg44
            refine ops_ro' rfl (ro_fieldAddr fa54_0 rfl) rfl ?_
            refine ops_ro' rfl (ro_load sc40 rfl (Rd.pick 0 rfl (Rd.own rfl))) rfl ?_
            refine ops_ro' rfl (ro_and rfl rfl (and32 hx.f (c := 8) (by decide) rfl)) rfl ?_
            refine ops_ro' rfl (ro_neq rfl rfl rfl) rfl ?_
            refine ops_split rfl rfl rfl (fun hg49 => ?_) (fun hg49 => ?_)
            · replace hg49 := of_decide_eq_true hg49
              refine ops_skip' rfl rfl ?_
              refine ops_skip' rfl rfl ?_
              refine ops_skip' rfl rfl ?_
              refine ops_skip' rfl rfl ?_
              refine ops_skip' rfl rfl ?_
              refine ops_skip' rfl rfl ?_
              refine ops_skip' rfl rfl ?_
              refine ops_skip' rfl rfl ?_
              refine ops_ro' rfl (ro_pick rfl rfl) rfl ?_
              refine ops_ro' rfl (ro_pick rfl rfl) rfl ?_
              refine ops_ro' rfl (ro_assign rfl) rfl ?_
              refine ops_nil ?_
              refine Then_normal ?_
              refine wp_ret' ?_
              refine' doneS_ret (res1 rfl rfl) ?_ ?_
              rotate_left 1
              exact ⟨congrArg Value.bool (Eq.symm ((right_good x).2 ⟨by omega, by omega, by omega, by omega, by omega, by omega, by omega⟩)), rfl⟩
              exact (SubH.nil _)
            · replace hg49 := of_decide_eq_false hg49
              refine ops_ro' rfl (ro_fieldAddr fa54_5 rfl) rfl ?_
              refine ops_ro' rfl (ro_load sc40 rfl (Rd.pick 0 rfl (Rd.own rfl))) rfl ?_
              refine ops_ro' rfl (ro_eql rfl rfl rfl) rfl ?_
              refine ops_split rfl rfl rfl (fun hg53 => ?_) (fun hg53 => ?_)
              · replace hg53 := of_decide_eq_true hg53
                refine ops_ro' rfl (ro_fieldAddr fa54_6 rfl) rfl ?_
                refine ops_ro' rfl (ro_load sc40 rfl (Rd.pick 0 rfl (Rd.own rfl))) rfl ?_
                refine ops_ro' rfl (ro_eql rfl rfl rfl) rfl ?_
                refine ops_ro' rfl (ro_pick rfl rfl) rfl ?_
                refine ops_ro' rfl (ro_pick rfl rfl) rfl ?_
                refine ops_ro' rfl (ro_pick rfl rfl) rfl ?_
                refine ops_ro' rfl (ro_assign rfl) rfl ?_
                refine ops_nil ?_
                refine Then_normal ?_
                refine wp_ret' ?_
                refine' doneS_ret (res1 rfl rfl) ?_ ?_
                rotate_left 1
                exact ⟨congrArg Value.bool (Bool.eq_iff_iff.2 (by rw [decide_eq_true_eq, right_good]; exact ⟨fun h => ⟨by omega, by omega, by omega, by omega, by omega, by omega, by omega⟩, fun g => by have g0 := g.f; have g1 := g.s; have g2 := g.u; have g3 := g.g; have g4 := g.m; have g5 := g.a; have g6 := g.t; omega⟩)), rfl⟩
                exact (SubH.nil _)
              · replace hg53 := of_decide_eq_false hg53
                refine ops_skip' rfl rfl ?_
                refine ops_skip' rfl rfl ?_
                refine ops_skip' rfl rfl ?_
                refine ops_ro' rfl (ro_pick rfl rfl) rfl ?_
                refine ops_ro' rfl (ro_pick rfl rfl) rfl ?_
                refine ops_ro' rfl (ro_pick rfl rfl) rfl ?_
                refine ops_ro' rfl (ro_assign rfl) rfl ?_
                refine ops_nil ?_
                refine Then_normal ?_
                refine wp_ret' ?_
                refine' doneS_ret (res1 rfl rfl) ?_ ?_
                rotate_left 1
                exact ⟨congrArg Value.bool (Eq.symm (Bool.eq_false_iff.2 (fun hr => absurd ((right_good x).1 hr) (fun g => by have g0 := g.f; have g1 := g.s; have g2 := g.u; have g3 := g.g; have g4 := g.m; have g5 := g.a; have g6 := g.t; omega)))), rfl⟩
                exact (SubH.nil _)
          · replace hg44 := of_decide_eq_false hg44
            refine ops_skip' rfl rfl ?_
            refine ops_skip' rfl rfl ?_
            refine ops_skip' rfl rfl ?_
            refine ops_skip' rfl rfl ?_
            refine ops_skip' rfl rfl ?_
            refine ops_skip' rfl rfl ?_
            refine ops_skip' rfl rfl ?_
            refine ops_skip' rfl rfl ?_
            refine ops_skip' rfl rfl ?_
            refine ops_skip' rfl rfl ?_
            refine ops_skip' rfl rfl ?_
            refine ops_skip' rfl rfl ?_
            refine ops_skip' rfl rfl ?_
            refine ops_skip' rfl rfl ?_
            refine ops_ro' rfl (ro_pick rfl rfl) rfl ?_
            refine ops_ro' rfl (ro_assign rfl) rfl ?_
            refine ops_nil ?_
            refine Then_normal ?_
            refine wp_ret' ?_
            refine' doneS_ret (res1 rfl rfl) ?_ ?_
            rotate_left 1
            exact ⟨congrArg Value.bool (Eq.symm (Bool.eq_false_iff.2 (fun hr => absurd ((right_good x).1 hr) (fun g => by have g0 := g.f; have g1 := g.s; have g2 := g.u; have g3 := g.g; have g4 := g.m; have g5 := g.a; have g6 := g.t; omega)))), rfl⟩
            exact (SubH.nil _)
      · replace hg22 := of_decide_eq_false hg22
        refine ops_ro' rfl (ro_fieldAddr fa54_2 rfl) rfl ?_
        refine ops_ro' rfl (ro_load sc40 rfl (Rd.pick 0 rfl (Rd.own rfl))) rfl ?_
        refine ops_ro' rfl (ro_eql rfl rfl rfl) rfl ?_
        refine ops_split rfl rfl rfl (fun hg26 => ?_) (fun hg26 => ?_)
        · replace hg26 := of_decide_eq_true hg26
          refine ops_ro' rfl (ro_fieldAddr fa54_3 rfl) rfl ?_
          refine ops_ro' rfl (ro_load sc40 rfl (Rd.pick 0 rfl (Rd.own rfl))) rfl ?_
          refine ops_ro' rfl (ro_eql rfl rfl rfl) rfl ?_
          refine ops_ro' rfl (ro_pick rfl rfl) rfl ?_
          refine ops_ro' rfl (ro_pick rfl rfl) rfl ?_
          refine ops_ro' rfl (ro_pick rfl rfl) rfl ?_
          refine ops_split rfl rfl rfl (fun hg33 => ?_) (fun hg33 => ?_)
          · replace hg33 := of_decide_eq_true hg33
            refine ops_ro' rfl (ro_fieldAddr fa54_0 rfl) rfl ?_
            refine ops_ro' rfl (ro_load sc40 rfl (Rd.pick 0 rfl (Rd.own rfl))) rfl ?_
            refine ops_ro' rfl (ro_and rfl rfl (and32 hx.f (c := 4) (by decide) rfl)) rfl ?_
            refine ops_ro' rfl (ro_neq rfl rfl rfl) rfl ?_
            refine ops_split rfl rfl rfl (fun hg38 => ?_) (fun hg38 => ?_)
            · replace hg38 := of_decide_eq_true hg38
              refine ops_skip' rfl rfl ?_
              refine ops_skip' rfl rfl ?_
              refine ops_skip' rfl rfl ?_
              refine ops_ro' rfl (ro_pick rfl rfl) rfl ?_
              refine ops_ro' rfl (ro_pick rfl rfl) rfl ?_
              refine ops_ro' rfl (ro_move (v := .bool true) rfl) rfl ?_
              refine ops_ro' rfl (ro_fieldAddr fa54_0 rfl) rfl ?_
              refine ops_ro' rfl (ro_load sc40 rfl (Rd.pick 0 rfl (Rd.own rfl))) rfl ?_
              refine ops_ro' rfl (ro_and rfl rfl (and32 hx.f (c := 8) (by decide) rfl)) rfl ?_
              refine ops_ro' rfl (ro_neq rfl rfl rfl) rfl ?_
              refine ops_split rfl rfl rfl (fun hg49 => ?_) (fun hg49 => ?_)
              · replace hg49 := of_decide_eq_true hg49
                refine ops_skip' rfl rfl ?_
                refine ops_skip' rfl rfl ?_
                refine ops_skip' rfl rfl ?_
                refine ops_skip' rfl rfl ?_
                refine ops_skip' rfl rfl ?_
                refine ops_skip' rfl rfl ?_
                refine ops_skip' rfl rfl ?_
                refine ops_skip' rfl rfl ?_
                refine ops_ro' rfl (ro_pick rfl rfl) rfl ?_
                refine ops_ro' rfl (ro_pick rfl rfl) rfl ?_
                refine ops_ro' rfl (ro_assign rfl) rfl ?_
                refine ops_nil ?_
                refine Then_normal ?_
                refine wp_ret' ?_
                refine' doneS_ret (res1 rfl rfl) ?_ ?_
                rotate_left 1
                exact ⟨congrArg Value.bool (Eq.symm ((right_good x).2 ⟨by omega, by omega, by omega, by omega, by omega, by omega, by omega⟩)), rfl⟩
                exact (SubH.nil _)
              · replace hg49 := of_decide_eq_false hg49
                refine ops_ro' rfl (ro_fieldAddr fa54_5 rfl) rfl ?_
                refine ops_ro' rfl (ro_load sc40 rfl (Rd.pick 0 rfl (Rd.own rfl))) rfl ?_
                refine ops_ro' rfl (ro_eql rfl rfl rfl) rfl ?_
                refine ops_split rfl rfl rfl (fun hg53 => ?_) (fun hg53 => ?_)
                · replace hg53 := of_decide_eq_true hg53
                  refine ops_ro' rfl (ro_fieldAddr fa54_6 rfl) rfl ?_
                  refine ops_ro' rfl (ro_load sc40 rfl (Rd.pick 0 rfl (Rd.own rfl))) rfl ?_
                  refine ops_ro' rfl (ro_eql rfl rfl rfl) rfl ?_
                  refine ops_ro' rfl (ro_pick rfl rfl) rfl ?_
                  refine ops_ro' rfl (ro_pick rfl rfl) rfl ?_
                  refine ops_ro' rfl (ro_pick rfl rfl) rfl ?_
                  refine ops_ro' rfl (ro_assign rfl) rfl ?_
                  refine ops_nil ?_
                  refine Then_normal ?_
                  refine wp_ret' ?_
                  refine' doneS_ret (res1 rfl rfl) ?_ ?_
                  rotate_left 1
                  exact ⟨congrArg Value.bool (Bool.eq_iff_iff.2 (by rw [decide_eq_true_eq, right_good]; exact ⟨fun h => ⟨by omega, by omega, by omega, by omega, by omega, by omega, by omega⟩, fun g => by have g0 := g.f; have g1 := g.s; have g2 := g.u; have g3 := g.g; have g4 := g.m; have g5 := g.a; have g6 := g.t; omega⟩)), rfl⟩
                  exact (SubH.nil _)
                · replace hg53 := of_decide_eq_false hg53
                  refine ops_skip' rfl rfl ?_
                  refine ops_skip' rfl rfl ?_
                  refine ops_skip' rfl rfl ?_
                  refine ops_ro' rfl (ro_pick rfl rfl) rfl ?_
                  refine ops_ro' rfl (ro_pick rfl rfl) rfl ?_
                  refine ops_ro' rfl (ro_pick rfl rfl) rfl ?_
                  refine ops_ro' rfl (ro_assign rfl) rfl ?_
                  refine ops_nil ?_
                  refine Then_normal ?_
                  refine wp_ret' ?_
                  refine' doneS_ret (res1 rfl rfl) ?_ ?_
                  rotate_left 1
                  exact ⟨congrArg Value.bool (Eq.symm (Bool.eq_false_iff.2 (fun hr => absurd ((right_good x).1 hr) (fun g => by have g0 := g.f; have g1 := g.s; have g2 := g.u; have g3 := g.g; have g4 := g.m; have g5 := g.a; have g6 := g.t; omega)))), rfl⟩
                  exact (SubH.nil _)
            · replace hg38 := of_decide_eq_false hg38
              refine ops_ro' rfl (ro_fieldAddr fa54_4 rfl) rfl ?_
              refine ops_ro' rfl (ro_load sc40 rfl (Rd.pick 0 rfl (Rd.own rfl))) rfl ?_
              refine ops_ro' rfl (ro_eql rfl rfl rfl) rfl ?_
              refine ops_ro' rfl (ro_pick rfl rfl) rfl ?_
              refine ops_ro' rfl (ro_pick rfl rfl) rfl ?_
              refine ops_split rfl rfl rfl (fun hg44 => ?_) (fun hg44 => ?_)
              · replace hg44 := of_decide_eq_true hg44
                refine ops_ro' rfl (ro_fieldAddr fa54_0 rfl) rfl ?_
                refine ops_ro' rfl (ro_load sc40 rfl (Rd.pick 0 rfl (Rd.own rfl))) rfl ?_
                refine ops_ro' rfl (ro_and rfl rfl (and32 hx.f (c := 8) (by decide) rfl)) rfl ?_
                refine ops_ro' rfl (ro_neq rfl rfl rfl) rfl ?_
                refine ops_split rfl rfl rfl (fun hg49 => ?_) (fun hg49 => ?_)
                · replace hg49 := of_decide_eq_true hg49
                  refine ops_skip' rfl rfl ?_
                  refine ops_skip' rfl rfl ?_
                  refine ops_skip' rfl rfl ?_
                  refine ops_skip' rfl rfl ?_
                  refine ops_skip' rfl rfl ?_
                  refine ops_skip' rfl rfl ?_
                  refine ops_skip' rfl rfl ?_
                  refine ops_skip' rfl rfl ?_
                  refine ops_ro' rfl (ro_pick rfl rfl) rfl ?_
                  refine ops_ro' rfl (ro_pick rfl rfl) rfl ?_
                  refine ops_ro' rfl (ro_assign rfl) rfl ?_
                  refine ops_nil ?_
                  refine Then_normal ?_
                  refine wp_ret' ?_
                  refine' doneS_ret (res1 rfl rfl) ?_ ?_
                  rotate_left 1
                  exact ⟨congrArg Value.bool (Eq.symm ((right_good x).2 ⟨by omega, by omega, by omega, by omega, by omega, by omega, by omega⟩)), rfl⟩
                  exact (SubH.nil _)
                · replace hg49 := of_decide_eq_false hg49
                  refine ops_ro' rfl (ro_fieldAddr fa54_5 rfl) rfl ?_
                  refine ops_ro' rfl (ro_load sc40 rfl (Rd.pick 0 rfl (Rd.own rfl))) rfl ?_
                  refine ops_ro' rfl (ro_eql rfl rfl rfl) rfl ?_
                  refine ops_split rfl rfl rfl (fun hg53 => ?_) (fun hg53 => ?_)
                  · replace hg53 := of_decide_eq_true hg53
                    refine ops_ro' rfl (ro_fieldAddr fa54_6 rfl) rfl ?_
                    refine ops_ro' rfl (ro_load sc40 rfl (Rd.pick 0 rfl (Rd.own rfl))) rfl ?_
                    refine ops_ro' rfl (ro_eql rfl rfl rfl) rfl ?_
                    refine ops_ro' rfl (ro_pick rfl rfl) rfl ?_
                    refine ops_ro' rfl (ro_pick rfl rfl) rfl ?_
                    refine ops_ro' rfl (ro_pick rfl rfl) rfl ?_
                    refine ops_ro' rfl (ro_assign rfl) rfl ?_
                    refine ops_nil ?_
                    refine Then_normal ?_
                    refine wp_ret' ?_
                    refine' doneS_ret (res1 rfl rfl) ?_ ?_
                    rotate_left 1
                    exact ⟨congrArg Value.bool (Bool.eq_iff_iff.2 (by rw [decide_eq_true_eq, right_good]; exact ⟨fun h => ⟨by omega, by omega, by omega, by omega, by omega, by omega, by omega⟩, fun g => by have g0 := g.f; have g1 := g.s; have g2 := g.u; have g3 := g.g; have g4 := g.m; have g5 := g.a; have g6 := g.t; omega⟩)), rfl⟩
                    exact (SubH.nil _)
                  · replace hg53 := of_decide_eq_false hg53
                    refine ops_skip' rfl rfl ?_
                    refine ops_skip' rfl rfl ?_
                    refine ops_skip' rfl rfl ?_
                    refine ops_ro' rfl (ro_pick rfl rfl) rfl ?_
                    refine ops_ro' rfl (ro_pick rfl rfl) rfl ?_
                    refine ops_ro' rfl (ro_pick rfl rfl) rfl ?_
                    refine ops_ro' rfl (ro_assign rfl) rfl ?_
                    refine ops_nil ?_
                    refine Then_normal ?_
                    refine wp_ret' ?_
                    refine' doneS_ret (res1 rfl rfl) ?_ ?_
                    rotate_left 1
                    exact ⟨congrArg Value.bool (Eq.symm (Bool.eq_false_iff.2 (fun hr => absurd ((right_good x).1 hr) (fun g => by have g0 := g.f; have g1 := g.s; have g2 := g.u; have g3 := g.g; have g4 := g.m; have g5 := g.a; have g6 := g.t; omega)))), rfl⟩
                    exact (SubH.nil _)
              · replace hg44 := of_decide_eq_false hg44
                refine ops_skip' rfl rfl ?_
                refine ops_skip' rfl rfl ?_
                refine ops_skip' rfl rfl ?_
                refine ops_skip' rfl rfl ?_
                refine ops_skip' rfl rfl ?_
                refine ops_skip' rfl rfl ?_
                refine ops_skip' rfl rfl ?_
                refine ops_skip' rfl rfl ?_
                refine ops_skip' rfl rfl ?_
                refine ops_skip' rfl rfl ?_
                refine ops_skip' rfl rfl ?_
                refine ops_skip' rfl rfl ?_
                refine ops_skip' rfl rfl ?_
                refine ops_skip' rfl rfl ?_
                refine ops_ro' rfl (ro_pick rfl rfl) rfl ?_
                refine ops_ro' rfl (ro_assign rfl) rfl ?_
                refine ops_nil ?_
                refine Then_normal ?_
                refine wp_ret' ?_
                refine' doneS_ret (res1 rfl rfl) ?_ ?_
                rotate_left 1
                exact ⟨congrArg Value.bool (Eq.symm (Bool.eq_false_iff.2 (fun hr => absurd ((right_good x).1 hr) (fun g => by have g0 := g.f; have g1 := g.s; have g2 := g.u; have g3 := g.g; have g4 := g.m; have g5 := g.a; have g6 := g.t; omega)))), rfl⟩
                exact (SubH.nil _)
          · replace hg33 := of_decide_eq_false hg33
            refine ops_skip' rfl rfl ?_
            refine ops_skip' rfl rfl ?_
            refine ops_skip' rfl rfl ?_
            refine ops_skip' rfl rfl ?_
            refine ops_skip' rfl rfl ?_
            refine ops_skip' rfl rfl ?_
            refine ops_skip' rfl rfl ?_
            refine ops_skip' rfl rfl ?_
            refine ops_skip' rfl rfl ?_
            refine ops_ro' rfl (ro_pick rfl rfl) rfl ?_
            refine ops_ro' rfl (ro_move (v := .bool false) rfl) rfl ?_
            refine ops_skip' rfl rfl ?_
            refine ops_skip' rfl rfl ?_
            refine ops_skip' rfl rfl ?_
            refine ops_skip' rfl rfl ?_
            refine ops_skip' rfl rfl ?_
            refine ops_skip' rfl rfl ?_
            refine ops_skip' rfl rfl ?_
            refine ops_skip' rfl rfl ?_
            refine ops_skip' rfl rfl ?_
            refine ops_skip' rfl rfl ?_
            refine ops_skip' rfl rfl ?_
            refine ops_skip' rfl rfl ?_
            refine ops_skip' rfl rfl ?_
            refine ops_skip' rfl rfl ?_
            refine ops_ro' rfl (ro_pick rfl rfl) rfl ?_
            refine ops_ro' rfl (ro_assign rfl) rfl ?_
            refine ops_nil ?_
            refine Then_normal ?_
            refine wp_ret' ?_
            refine' doneS_ret (res1 rfl rfl) ?_ ?_
            rotate_left 1
            exact ⟨congrArg Value.bool (Eq.symm (Bool.eq_false_iff.2 (fun hr => absurd ((right_good x).1 hr) (fun g => by have g0 := g.f; have g1 := g.s; have g2 := g.u; have g3 := g.g; have g4 := g.m; have g5 := g.a; have g6 := g.t; omega)))), rfl⟩
            exact (SubH.nil _)
        · replace hg26 := of_decide_eq_false hg26
          refine ops_skip' rfl rfl ?_
          refine ops_skip' rfl rfl ?_
          refine ops_skip' rfl rfl ?_
          refine ops_ro' rfl (ro_pick rfl rfl) rfl ?_
          refine ops_ro' rfl (ro_pick rfl rfl) rfl ?_
          refine ops_ro' rfl (ro_pick rfl rfl) rfl ?_
          refine ops_ro' rfl (ro_move (v := .bool false) rfl) rfl ?_
          refine ops_skip' rfl rfl ?_
          refine ops_skip' rfl rfl ?_
          refine ops_skip' rfl rfl ?_
          refine ops_skip' rfl rfl ?_
          refine ops_skip' rfl rfl ?_
          refine ops_skip' rfl rfl ?_
          refine ops_skip' rfl rfl ?_
          refine ops_skip' rfl rfl ?_
          refine ops_skip' rfl rfl ?_
          refine ops_ro' rfl (ro_pick rfl rfl) rfl ?_
          refine ops_ro' rfl (ro_move (v := .bool false) rfl) rfl ?_
          refine ops_skip' rfl rfl ?_
          refine ops_skip' rfl rfl ?_
          refine ops_skip' rfl rfl ?_
          refine ops_skip' rfl rfl ?_
          refine ops_skip' rfl rfl ?_
          refine ops_skip' rfl rfl ?_
          refine ops_skip' rfl rfl ?_
          refine ops_skip' rfl rfl ?_
          refine ops_skip' rfl rfl ?_
          refine ops_skip' rfl rfl ?_
          refine ops_skip' rfl rfl ?_
          refine ops_skip' rfl rfl ?_
          refine ops_skip' rfl rfl ?_
          refine ops_skip' rfl rfl ?_
          refine ops_ro' rfl (ro_pick rfl rfl) rfl ?_
          refine ops_ro' rfl (ro_assign rfl) rfl ?_
          refine ops_nil ?_
          refine Then_normal ?_
          refine wp_ret' ?_
          refine' doneS_ret (res1 rfl rfl) ?_ ?_
          rotate_left 1
          exact ⟨congrArg Value.bool (Eq.symm (Bool.eq_false_iff.2 (fun hr => absurd ((right_good x).1 hr) (fun g => by have g0 := g.f; have g1 := g.s; have g2 := g.u; have g3 := g.g; have g4 := g.m; have g5 := g.a; have g6 := g.t; omega)))), rfl⟩
          exact (SubH.nil _)
    · replace hg11 := of_decide_eq_false hg11
      refine ops_ro' rfl (ro_fieldAddr fa54_1 rfl) rfl ?_
      refine ops_ro' rfl (ro_load sc52 rfl (Rd.pick 0 rfl (Rd.own rfl))) rfl ?_
      refine ops_ro' rfl (ro_eql rfl rfl rfl) rfl ?_
      refine ops_ro' rfl (ro_pick rfl rfl) rfl ?_
      refine ops_ro' rfl (ro_pick rfl rfl) rfl ?_
      refine ops_split rfl rfl rfl (fun hg17 => ?_) (fun hg17 => ?_)
      · replace hg17 := of_decide_eq_true hg17
        refine ops_ro' rfl (ro_fieldAddr fa54_0 rfl) rfl ?_
        refine ops_ro' rfl (ro_load sc40 rfl (Rd.pick 0 rfl (Rd.own rfl))) rfl ?_
        refine ops_ro' rfl (ro_and rfl rfl (and32 hx.f (c := 2) (by decide) rfl)) rfl ?_
        refine ops_ro' rfl (ro_neq rfl rfl rfl) rfl ?_
        refine ops_split rfl rfl rfl (fun hg22 => ?_) (fun hg22 => ?_)
        · replace hg22 := of_decide_eq_true hg22
          refine ops_skip' rfl rfl ?_
          refine ops_skip' rfl rfl ?_
          refine ops_skip' rfl rfl ?_
          refine ops_skip' rfl rfl ?_
          refine ops_skip' rfl rfl ?_
          refine ops_skip' rfl rfl ?_
          refine ops_skip' rfl rfl ?_
          refine ops_skip' rfl rfl ?_
          refine ops_ro' rfl (ro_pick rfl rfl) rfl ?_
          refine ops_ro' rfl (ro_pick rfl rfl) rfl ?_
          refine ops_ro' rfl (ro_move (v := .bool true) rfl) rfl ?_
          refine ops_ro' rfl (ro_fieldAddr fa54_0 rfl) rfl ?_
          refine ops_ro' rfl (ro_load sc40 rfl (Rd.pick 0 rfl (Rd.own rfl))) rfl ?_
          refine ops_ro' rfl (ro_and rfl rfl (and32 hx.f (c := 4) (by decide) rfl)) rfl ?_
          refine ops_ro' rfl (ro_neq rfl rfl rfl) rfl ?_
          refine ops_split rfl rfl rfl (fun hg38 => ?_) (fun hg38 => ?_)
          · replace hg38 := of_decide_eq_true hg38
            refine ops_skip' rfl rfl ?_
            refine ops_skip' rfl rfl ?_
            refine ops_skip' rfl rfl ?_
            refine ops_ro' rfl (ro_pick rfl rfl) rfl ?_
            refine ops_ro' rfl (ro_pick rfl rfl) rfl ?_
            refine ops_ro' rfl (ro_move (v := .bool true) rfl) rfl ?_
            refine ops_ro' rfl (ro_fieldAddr fa54_0 rfl) rfl ?_
            refine ops_ro' rfl (ro_load sc40 rfl (Rd.pick 0 rfl (Rd.own rfl))) rfl ?_
            refine ops_ro' rfl (ro_and rfl rfl (and32 hx.f (c := 8) (by decide) rfl)) rfl ?_
            refine ops_ro' rfl (ro_neq rfl rfl rfl) rfl ?_
            refine ops_split rfl rfl rfl (fun hg49 => ?_) (fun hg49 => ?_)
            · replace hg49 := of_decide_eq_true hg49
              refine ops_skip' rfl rfl ?_
              refine ops_skip' rfl rfl ?_
              refine ops_skip' rfl rfl ?_
              refine ops_skip' rfl rfl ?_
              refine ops_skip' rfl rfl ?_
              refine ops_skip' rfl rfl ?_
              refine ops_skip' rfl rfl ?_
              refine ops_skip' rfl rfl ?_
              refine ops_ro' rfl (ro_pick rfl rfl) rfl ?_
              refine ops_ro' rfl (ro_pick rfl rfl) rfl ?_
              refine ops_ro' rfl (ro_assign rfl) rfl ?_
              refine ops_nil ?_
              refine Then_normal ?_
              refine wp_ret' ?_
              refine' doneS_ret (res1 rfl rfl) ?_ ?_
              rotate_left 1
              exact ⟨congrArg Value.bool (Eq.symm ((right_good x).2 ⟨by omega, by omega, by omega, by omega, by omega, by omega, by omega⟩)), rfl⟩
              exact (SubH.nil _)
            · replace hg49 := of_decide_eq_false hg49
              refine ops_ro' rfl (ro_fieldAddr fa54_5 rfl) rfl ?_
              refine ops_ro' rfl (ro_load sc40 rfl (Rd.pick 0 rfl (Rd.own rfl))) rfl ?_
              refine ops_ro' rfl (ro_eql rfl rfl rfl) rfl ?_
              refine ops_split rfl rfl rfl (fun hg53 => ?_) (fun hg53 => ?_)
              · replace hg53 := of_decide_eq_true hg53
                refine ops_ro' rfl (ro_fieldAddr fa54_6 rfl) rfl ?_
                refine ops_ro' rfl (ro_load sc40 rfl (Rd.pick 0 rfl (Rd.own rfl))) rfl ?_
                refine ops_ro' rfl (ro_eql rfl rfl rfl) rfl ?_
                refine ops_ro' rfl (ro_pick rfl rfl) rfl ?_
                refine ops_ro' rfl (ro_pick rfl rfl) rfl ?_
                refine ops_ro' rfl (ro_pick rfl rfl) rfl ?_
                refine ops_ro' rfl (ro_assign rfl) rfl ?_
                refine ops_nil ?_
                refine Then_normal ?_
                refine wp_ret' ?_
                refine' doneS_ret (res1 rfl rfl) ?_ ?_
                rotate_left 1
                exact ⟨congrArg Value.bool (Bool.eq_iff_iff.2 (by rw [decide_eq_true_eq, right_good]; exact ⟨fun h => ⟨by omega, by omega, by omega, by omega, by omega, by omega, by omega⟩, fun g => by have g0 := g.f; have g1 := g.s; have g2 := g.u; have g3 := g.g; have g4 := g.m; have g5 := g.a; have g6 := g.t; omega⟩)), rfl⟩
                exact (SubH.nil _)
              · replace hg53 := of_decide_eq_false hg53
                refine ops_skip' rfl rfl ?_
                refine ops_skip' rfl rfl ?_
                refine ops_skip' rfl rfl ?_
                refine ops_ro' rfl (ro_pick rfl rfl) rfl ?_
                refine ops_ro' rfl (ro_pick rfl rfl) rfl ?_
                refine ops_ro' rfl (ro_pick rfl rfl) rfl ?_
                refine ops_ro' rfl (ro_assign rfl) rfl ?_
                refine ops_nil ?_
                refine Then_normal ?_
                refine wp_ret' ?_
                refine' doneS_ret (res1 rfl rfl) ?_ ?_
                rotate_left 1
                exact ⟨congrArg Value.bool (Eq.symm (Bool.eq_false_iff.2 (fun hr => absurd ((right_good x).1 hr) (fun g => by have g0 := g.f; have g1 := g.s; have g2 := g.u; have g3 := g.g; have g4 := g.m; have g5 := g.a; have g6 := g.t; omega)))), rfl⟩
                exact (SubH.nil _)
          · replace hg38 := of_decide_eq_false hg38
            refine ops_ro' rfl (ro_fieldAddr fa54_4 rfl) rfl ?_
            refine ops_ro' rfl (ro_load sc40 rfl (Rd.pick 0 rfl (Rd.own rfl))) rfl ?_
            refine ops_ro' rfl (ro_eql rfl rfl rfl) rfl ?_
            refine ops_ro' rfl (ro_pick rfl rfl) rfl ?_
            refine ops_ro' rfl (ro_pick rfl rfl) rfl ?_
            refine ops_split rfl rfl rfl (fun hg44 => ?_) (fun hg44 => ?_)
            · replace hg44 := of_decide_eq_true hg44
              refine ops_ro' rfl (ro_fieldAddr fa54_0 rfl) rfl ?_
              refine ops_ro' rfl (ro_load sc40 rfl (Rd.pick 0 rfl (Rd.own rfl))) rfl ?_
              refine ops_ro' rfl (ro_and rfl rfl (and32 hx.f (c := 8) (by decide) rfl)) rfl ?_
              refine ops_ro' rfl (ro_neq rfl rfl rfl) rfl ?_
              refine ops_split rfl rfl rfl (fun hg49 => ?_) (fun hg49 => ?_)
              · replace hg49 := of_decide_eq_true hg49
                refine ops_skip' rfl rfl ?_
                refine ops_skip' rfl rfl ?_
                refine ops_skip' rfl rfl ?_
                refine ops_skip' rfl rfl ?_
                refine ops_skip' rfl rfl ?_
                refine ops_skip' rfl rfl ?_
                refine ops_skip' rfl rfl ?_
                refine ops_skip' rfl rfl ?_
                refine ops_ro' rfl (ro_pick rfl rfl) rfl ?_
                refine ops_ro' rfl (ro_pick rfl rfl) rfl ?_
                refine ops_ro' rfl (ro_assign rfl) rfl ?_
                refine ops_nil ?_
                refine Then_normal ?_
                refine wp_ret' ?_
                refine' doneS_ret (res1 rfl rfl) ?_ ?_
                rotate_left 1
                exact ⟨congrArg Value.bool (Eq.symm ((right_good x).2 ⟨by omega, by omega, by omega, by omega, by omega, by omega, by omega⟩)), rfl⟩
                exact (SubH.nil _)
              · replace hg49 := of_decide_eq_false hg49
                refine ops_ro' rfl (ro_fieldAddr fa54_5 rfl) rfl ?_
                refine ops_ro' rfl (ro_load sc40 rfl (Rd.pick 0 rfl (Rd.own rfl))) rfl ?_
                refine ops_ro' rfl (ro_eql rfl rfl rfl) rfl ?_
                refine ops_split rfl rfl rfl (fun hg53 => ?_) (fun hg53 => ?_)
                · replace hg53 := of_decide_eq_true hg53
                  refine ops_ro' rfl (ro_fieldAddr fa54_6 rfl) rfl ?_
                  refine ops_ro' rfl (ro_load sc40 rfl (Rd.pick 0 rfl (Rd.own rfl))) rfl ?_
                  refine ops_ro' rfl (ro_eql rfl rfl rfl) rfl ?_
                  refine ops_ro' rfl (ro_pick rfl rfl) rfl ?_
                  refine ops_ro' rfl (ro_pick rfl rfl) rfl ?_
                  refine ops_ro' rfl (ro_pick rfl rfl) rfl ?_
                  refine ops_ro' rfl (ro_assign rfl) rfl ?_
                  refine ops_nil ?_
                  refine Then_normal ?_
                  refine wp_ret' ?_
                  refine' doneS_ret (res1 rfl rfl) ?_ ?_
                  rotate_left 1
                  exact ⟨congrArg Value.bool (Bool.eq_iff_iff.2 (by rw [decide_eq_true_eq, right_good]; exact ⟨fun h => ⟨by omega, by omega, by omega, by omega, by omega, by omega, by omega⟩, fun g => by have g0 := g.f; have g1 := g.s; have g2 := g.u; have g3 := g.g; have g4 := g.m; have g5 := g.a; have g6 := g.t; omega⟩)), rfl⟩
                  exact (SubH.nil _)
                · replace hg53 := of_decide_eq_false hg53
                  refine ops_skip' rfl rfl ?_
                  refine ops_skip' rfl rfl ?_
                  refine ops_skip' rfl rfl ?_
                  refine ops_ro' rfl (ro_pick rfl rfl) rfl ?_
                  refine ops_ro' rfl (ro_pick rfl rfl) rfl ?_
                  refine ops_ro' rfl (ro_pick rfl rfl) rfl ?_
                  refine ops_ro' rfl (ro_assign rfl) rfl ?_
                  refine ops_nil ?_
                  refine Then_normal ?_
                  refine wp_ret' ?_
                  refine' doneS_ret (res1 rfl rfl) ?_ ?_
                  rotate_left 1
                  exact ⟨congrArg Value.bool (Eq.symm (Bool.eq_false_iff.2 (fun hr => absurd ((right_good x).1 hr) (fun g => by have g0 := g.f; have g1 := g.s; have g2 := g.u; have g3 := g.g; have g4 := g.m; have g5 := g.a; have g6 := g.t; omega)))), rfl⟩
                  exact (SubH.nil _)
            · replace hg44 := of_decide_eq_false hg44
              refine ops_skip' rfl rfl ?_
              refine ops_skip' rfl rfl ?_
              refine ops_skip' rfl rfl ?_
              refine ops_skip' rfl rfl ?_
              refine ops_skip' rfl rfl ?_
              refine ops_skip' rfl rfl ?_
              refine ops_skip' rfl rfl ?_
              refine ops_skip' rfl rfl ?_
              refine ops_skip' rfl rfl ?_
              refine ops_skip' rfl rfl ?_
              refine ops_skip' rfl rfl ?_
              refine ops_skip' rfl rfl ?_
              refine ops_skip' rfl rfl ?_
              refine ops_skip' rfl rfl ?_
              refine ops_ro' rfl (ro_pick rfl rfl) rfl ?_
              refine ops_ro' rfl (ro_assign rfl) rfl ?_
              refine ops_nil ?_
              refine Then_normal ?_
              refine wp_ret' ?_
              refine' doneS_ret (res1 rfl rfl) ?_ ?_
              rotate_left 1
              exact ⟨congrArg Value.bool (Eq.symm (Bool.eq_false_iff.2 (fun hr => absurd ((right_good x).1 hr) (fun g => by have g0 := g.f; have g1 := g.s; have g2 := g.u; have g3 := g.g; have g4 := g.m; have g5 := g.a; have g6 := g.t; omega)))), rfl⟩
              exact (SubH.nil _)
        · replace hg22 := of_decide_eq_false hg22
          refine ops_ro' rfl (ro_fieldAddr fa54_2 rfl) rfl ?_
          refine ops_ro' rfl (ro_load sc40 rfl (Rd.pick 0 rfl (Rd.own rfl))) rfl ?_
          refine ops_ro' rfl (ro_eql rfl rfl rfl) rfl ?_
          refine ops_split rfl rfl rfl (fun hg26 => ?_) (fun hg26 => ?_)
          · replace hg26 := of_decide_eq_true hg26
            refine ops_ro' rfl (ro_fieldAddr fa54_3 rfl) rfl ?_
            refine ops_ro' rfl (ro_load sc40 rfl (Rd.pick 0 rfl (Rd.own rfl))) rfl ?_
            refine ops_ro' rfl (ro_eql rfl rfl rfl) rfl ?_
            refine ops_ro' rfl (ro_pick rfl rfl) rfl ?_
            refine ops_ro' rfl (ro_pick rfl rfl) rfl ?_
            refine ops_ro' rfl (ro_pick rfl rfl) rfl ?_
            refine ops_split rfl rfl rfl (fun hg33 => ?_) (fun hg33 => ?_)
            · replace hg33 := of_decide_eq_true hg33
              refine ops_ro' rfl (ro_fieldAddr fa54_0 rfl) rfl ?_
              refine ops_ro' rfl (ro_load sc40 rfl (Rd.pick 0 rfl (Rd.own rfl))) rfl ?_
              refine ops_ro' rfl (ro_and rfl rfl (and32 hx.f (c := 4) (by decide) rfl)) rfl ?_
              refine ops_ro' rfl (ro_neq rfl rfl rfl) rfl ?_
              refine ops_split rfl rfl rfl (fun hg38 => ?_) (fun hg38 => ?_)
              · replace hg38 := of_decide_eq_true hg38
                refine ops_skip' rfl rfl ?_
                refine ops_skip' rfl rfl ?_
                refine ops_skip' rfl rfl ?_
                refine ops_ro' rfl (ro_pick rfl rfl) rfl ?_
                refine ops_ro' rfl (ro_pick rfl rfl) rfl ?_
                refine ops_ro' rfl (ro_move (v := .bool true) rfl) rfl ?_
                refine ops_ro' rfl (ro_fieldAddr fa54_0 rfl) rfl ?_
                refine ops_ro' rfl (ro_load sc40 rfl (Rd.pick 0 rfl (Rd.own rfl))) rfl ?_
                refine ops_ro' rfl (ro_and rfl rfl (and32 hx.f (c := 8) (by decide) rfl)) rfl ?_
                refine ops_ro' rfl (ro_neq rfl rfl rfl) rfl ?_
                refine ops_split rfl rfl rfl (fun hg49 => ?_) (fun hg49 => ?_)
                · replace hg49 := of_decide_eq_true hg49
                  refine ops_skip' rfl rfl ?_
                  refine ops_skip' rfl rfl ?_
                  refine ops_skip' rfl rfl ?_
                  refine ops_skip' rfl rfl ?_
                  refine ops_skip' rfl rfl ?_
                  refine ops_skip' rfl rfl ?_
                  refine ops_skip' rfl rfl ?_
                  refine ops_skip' rfl rfl ?_
                  refine ops_ro' rfl (ro_pick rfl rfl) rfl ?_
                  refine ops_ro' rfl (ro_pick rfl rfl) rfl ?_
                  refine ops_ro' rfl (ro_assign rfl) rfl ?_
                  refine ops_nil ?_
                  refine Then_normal ?_
                  refine wp_ret' ?_
                  refine' doneS_ret (res1 rfl rfl) ?_ ?_
                  rotate_left 1
                  exact ⟨congrArg Value.bool (Eq.symm ((right_good x).2 ⟨by omega, by omega, by omega, by omega, by omega, by omega, by omega⟩)), rfl⟩
                  exact (SubH.nil _)
                · replace hg49 := of_decide_eq_false hg49
                  refine ops_ro' rfl (ro_fieldAddr fa54_5 rfl) rfl ?_
                  refine ops_ro' rfl (ro_load sc40 rfl (Rd.pick 0 rfl (Rd.own rfl))) rfl ?_
                  refine ops_ro' rfl (ro_eql rfl rfl rfl) rfl ?_
                  refine ops_split rfl rfl rfl (fun hg53 => ?_) (fun hg53 => ?_)
                  · replace hg53 := of_decide_eq_true hg53
                    refine ops_ro' rfl (ro_fieldAddr fa54_6 rfl) rfl ?_
                    refine ops_ro' rfl (ro_load sc40 rfl (Rd.pick 0 rfl (Rd.own rfl))) rfl ?_
                    refine ops_ro' rfl (ro_eql rfl rfl rfl) rfl ?_
                    refine ops_ro' rfl (ro_pick rfl rfl) rfl ?_
                    refine ops_ro' rfl (ro_pick rfl rfl) rfl ?_
                    refine ops_ro' rfl (ro_pick rfl rfl) rfl ?_
                    refine ops_ro' rfl (ro_assign rfl) rfl ?_
                    refine ops_nil ?_
                    refine Then_normal ?_
                    refine wp_ret' ?_
                    refine' doneS_ret (res1 rfl rfl) ?_ ?_
                    rotate_left 1
                    exact ⟨congrArg Value.bool (Bool.eq_iff_iff.2 (by rw [decide_eq_true_eq, right_good]; exact ⟨fun h => ⟨by omega, by omega, by omega, by omega, by omega, by omega, by omega⟩, fun g => by have g0 := g.f; have g1 := g.s; have g2 := g.u; have g3 := g.g; have g4 := g.m; have g5 := g.a; have g6 := g.t; omega⟩)), rfl⟩
                    exact (SubH.nil _)
                  · replace hg53 := of_decide_eq_false hg53
                    refine ops_skip' rfl rfl ?_
                    refine ops_skip' rfl rfl ?_
                    refine ops_skip' rfl rfl ?_
                    refine ops_ro' rfl (ro_pick rfl rfl) rfl ?_
                    refine ops_ro' rfl (ro_pick rfl rfl) rfl ?_
                    refine ops_ro' rfl (ro_pick rfl rfl) rfl ?_
                    refine ops_ro' rfl (ro_assign rfl) rfl ?_
                    refine ops_nil ?_
                    refine Then_normal ?_
                    refine wp_ret' ?_
                    refine' doneS_ret (res1 rfl rfl) ?_ ?_
                    rotate_left 1
                    exact ⟨congrArg Value.bool (Eq.symm (Bool.eq_false_iff.2 (fun hr => absurd ((right_good x).1 hr) (fun g => by have g0 := g.f; have g1 := g.s; have g2 := g.u; have g3 := g.g; have g4 := g.m; have g5 := g.a; have g6 := g.t; omega)))), rfl⟩
                    exact (SubH.nil _)
              · replace hg38 := of_decide_eq_false hg38
                refine ops_ro' rfl (ro_fieldAddr fa54_4 rfl) rfl ?_
                refine ops_ro' rfl (ro_load sc40 rfl (Rd.pick 0 rfl (Rd.own rfl))) rfl ?_
                refine ops_ro' rfl (ro_eql rfl rfl rfl) rfl ?_
                refine ops_ro' rfl (ro_pick rfl rfl) rfl ?_
                refine ops_ro' rfl (ro_pick rfl rfl) rfl ?_
                refine ops_split rfl rfl rfl (fun hg44 => ?_) (fun hg44 => ?_)
                · replace hg44 := of_decide_eq_true hg44
                  refine ops_ro' rfl (ro_fieldAddr fa54_0 rfl) rfl ?_
                  refine ops_ro' rfl (ro_load sc40 rfl (Rd.pick 0 rfl (Rd.own rfl))) rfl ?_
                  refine ops_ro' rfl (ro_and rfl rfl (and32 hx.f (c := 8) (by decide) rfl)) rfl ?_
                  refine ops_ro' rfl (ro_neq rfl rfl rfl) rfl ?_
                  refine ops_split rfl rfl rfl (fun hg49 => ?_) (fun hg49 => ?_)
                  · replace hg49 := of_decide_eq_true hg49
                    refine ops_skip' rfl rfl ?_
                    refine ops_skip' rfl rfl ?_
                    refine ops_skip' rfl rfl ?_
                    refine ops_skip' rfl rfl ?_
                    refine ops_skip' rfl rfl ?_
                    refine ops_skip' rfl rfl ?_
                    refine ops_skip' rfl rfl ?_
                    refine ops_skip' rfl rfl ?_
                    refine ops_ro' rfl (ro_pick rfl rfl) rfl ?_
                    refine ops_ro' rfl (ro_pick rfl rfl) rfl ?_
                    refine ops_ro' rfl (ro_assign rfl) rfl ?_
                    refine ops_nil ?_
                    refine Then_normal ?_
                    refine wp_ret' ?_
                    refine' doneS_ret (res1 rfl rfl) ?_ ?_
                    rotate_left 1
                    exact ⟨congrArg Value.bool (Eq.symm ((right_good x).2 ⟨by omega, by omega, by omega, by omega, by omega, by omega, by omega⟩)), rfl⟩
                    exact (SubH.nil _)
                  · replace hg49 := of_decide_eq_false hg49
                    refine ops_ro' rfl (ro_fieldAddr fa54_5 rfl) rfl ?_
                    refine ops_ro' rfl (ro_load sc40 rfl (Rd.pick 0 rfl (Rd.own rfl))) rfl ?_
                    refine ops_ro' rfl (ro_eql rfl rfl rfl) rfl ?_
                    refine ops_split rfl rfl rfl (fun hg53 => ?_) (fun hg53 => ?_)
                    · replace hg53 := of_decide_eq_true hg53
                      refine ops_ro' rfl (ro_fieldAddr fa54_6 rfl) rfl ?_
                      refine ops_ro' rfl (ro_load sc40 rfl (Rd.pick 0 rfl (Rd.own rfl))) rfl ?_
                      refine ops_ro' rfl (ro_eql rfl rfl rfl) rfl ?_
                      refine ops_ro' rfl (ro_pick rfl rfl) rfl ?_
                      refine ops_ro' rfl (ro_pick rfl rfl) rfl ?_
                      refine ops_ro' rfl (ro_pick rfl rfl) rfl ?_
                      refine ops_ro' rfl (ro_assign rfl) rfl ?_
                      refine ops_nil ?_
                      refine Then_normal ?_
                      refine wp_ret' ?_
                      refine' doneS_ret (res1 rfl rfl) ?_ ?_
                      rotate_left 1
                      exact ⟨congrArg Value.bool (Bool.eq_iff_iff.2 (by rw [decide_eq_true_eq, right_good]; exact ⟨fun h => ⟨by omega, by omega, by omega, by omega, by omega, by omega, by omega⟩, fun g => by have g0 := g.f; have g1 := g.s; have g2 := g.u; have g3 := g.g; have g4 := g.m; have g5 := g.a; have g6 := g.t; omega⟩)), rfl⟩
                      exact (SubH.nil _)
                    · replace hg53 := of_decide_eq_false hg53
                      refine ops_skip' rfl rfl ?_
                      refine ops_skip' rfl rfl ?_
                      refine ops_skip' rfl rfl ?_
                      refine ops_ro' rfl (ro_pick rfl rfl) rfl ?_
                      refine ops_ro' rfl (ro_pick rfl rfl) rfl ?_
                      refine ops_ro' rfl (ro_pick rfl rfl) rfl ?_
                      refine ops_ro' rfl (ro_assign rfl) rfl ?_
                      refine ops_nil ?_
                      refine Then_normal ?_
                      refine wp_ret' ?_
                      refine' doneS_ret (res1 rfl rfl) ?_ ?_
                      rotate_left 1
                      exact ⟨congrArg Value.bool (Eq.symm (Bool.eq_false_iff.2 (fun hr => absurd ((right_good x).1 hr) (fun g => by have g0 := g.f; have g1 := g.s; have g2 := g.u; have g3 := g.g; have g4 := g.m; have g5 := g.a; have g6 := g.t; omega)))), rfl⟩
                      exact (SubH.nil _)
                · replace hg44 := of_decide_eq_false hg44
                  refine ops_skip' rfl rfl ?_
                  refine ops_skip' rfl rfl ?_
                  refine ops_skip' rfl rfl ?_
                  refine ops_skip' rfl rfl ?_
                  refine ops_skip' rfl rfl ?_
                  refine ops_skip' rfl rfl ?_
                  refine ops_skip' rfl rfl ?_
                  refine ops_skip' rfl rfl ?_
                  refine ops_skip' rfl rfl ?_
                  refine ops_skip' rfl rfl ?_
                  refine ops_skip' rfl rfl ?_
                  refine ops_skip' rfl rfl ?_
                  refine ops_skip' rfl rfl ?_
                  refine ops_skip' rfl rfl ?_
                  refine ops_ro' rfl (ro_pick rfl rfl) rfl ?_
                  refine ops_ro' rfl (ro_assign rfl) rfl ?_
                  refine ops_nil ?_
                  refine Then_normal ?_
                  refine wp_ret' ?_
                  refine' doneS_ret (res1 rfl rfl) ?_ ?_
                  rotate_left 1
                  exact ⟨congrArg Value.bool (Eq.symm (Bool.eq_false_iff.2 (fun hr => absurd ((right_good x).1 hr) (fun g => by have g0 := g.f; have g1 := g.s; have g2 := g.u; have g3 := g.g; have g4 := g.m; have g5 := g.a; have g6 := g.t; omega)))), rfl⟩
                  exact (SubH.nil _)
            · replace hg33 := of_decide_eq_false hg33
              refine ops_skip' rfl rfl ?_
              refine ops_skip' rfl rfl ?_
              refine ops_skip' rfl rfl ?_
              refine ops_skip' rfl rfl ?_
              refine ops_skip' rfl rfl ?_
              refine ops_skip' rfl rfl ?_
              refine ops_skip' rfl rfl ?_
              refine ops_skip' rfl rfl ?_
              refine ops_skip' rfl rfl ?_
              refine ops_ro' rfl (ro_pick rfl rfl) rfl ?_
              refine ops_ro' rfl (ro_move (v := .bool false) rfl) rfl ?_
              refine ops_skip' rfl rfl ?_
              refine ops_skip' rfl rfl ?_
              refine ops_skip' rfl rfl ?_
              refine ops_skip' rfl rfl ?_
              refine ops_skip' rfl rfl ?_
              refine ops_skip' rfl rfl ?_
              refine ops_skip' rfl rfl ?_
              refine ops_skip' rfl rfl ?_
              refine ops_skip' rfl rfl ?_
              refine ops_skip' rfl rfl ?_
              refine ops_skip' rfl rfl ?_
              refine ops_skip' rfl rfl ?_
              refine ops_skip' rfl rfl ?_
              refine ops_skip' rfl rfl ?_
              refine ops_ro' rfl (ro_pick rfl rfl) rfl ?_
              refine ops_ro' rfl (ro_assign rfl) rfl ?_
              refine ops_nil ?_
              refine Then_normal ?_
              refine wp_ret' ?_
              refine' doneS_ret (res1 rfl rfl) ?_ ?_
              rotate_left 1
              exact ⟨congrArg Value.bool (Eq.symm (Bool.eq_false_iff.2 (fun hr => absurd ((right_good x).1 hr) (fun g => by have g0 := g.f; have g1 := g.s; have g2 := g.u; have g3 := g.g; have g4 := g.m; have g5 := g.a; have g6 := g.t; omega)))), rfl⟩
              exact (SubH.nil _)
          · replace hg26 := of_decide_eq_false hg26
            refine ops_skip' rfl rfl ?_
            refine ops_skip' rfl rfl ?_
            refine ops_skip' rfl rfl ?_
            refine ops_ro' rfl (ro_pick rfl rfl) rfl ?_
            refine ops_ro' rfl (ro_pick rfl rfl) rfl ?_
            refine ops_ro' rfl (ro_pick rfl rfl) rfl ?_
            refine ops_ro' rfl (ro_move (v := .bool false) rfl) rfl ?_
            refine ops_skip' rfl rfl ?_
            refine ops_skip' rfl rfl ?_
            refine ops_skip' rfl rfl ?_
            refine ops_skip' rfl rfl ?_
            refine ops_skip' rfl rfl ?_
            refine ops_skip' rfl rfl ?_
            refine ops_skip' rfl rfl ?_
            refine ops_skip' rfl rfl ?_
            refine ops_skip' rfl rfl ?_
            refine ops_ro' rfl (ro_pick rfl rfl) rfl ?_
            refine ops_ro' rfl (ro_move (v := .bool false) rfl) rfl ?_
            refine ops_skip' rfl rfl ?_
            refine ops_skip' rfl rfl ?_
            refine ops_skip' rfl rfl ?_
            refine ops_skip' rfl rfl ?_
            refine ops_skip' rfl rfl ?_
            refine ops_skip' rfl rfl ?_
            refine ops_skip' rfl rfl ?_
            refine ops_skip' rfl rfl ?_
            refine ops_skip' rfl rfl ?_
            refine ops_skip' rfl rfl ?_
            refine ops_skip' rfl rfl ?_
            refine ops_skip' rfl rfl ?_
            refine ops_skip' rfl rfl ?_
            refine ops_skip' rfl rfl ?_
            refine ops_ro' rfl (ro_pick rfl rfl) rfl ?_
            refine ops_ro' rfl (ro_assign rfl) rfl ?_
            refine ops_nil ?_
            refine Then_normal ?_
            refine wp_ret' ?_
            refine' doneS_ret (res1 rfl rfl) ?_ ?_
            rotate_left 1
            exact ⟨congrArg Value.bool (Eq.symm (Bool.eq_false_iff.2 (fun hr => absurd ((right_good x).1 hr) (fun g => by have g0 := g.f; have g1 := g.s; have g2 := g.u; have g3 := g.g; have g4 := g.m; have g5 := g.a; have g6 := g.t; omega)))), rfl⟩
            exact (SubH.nil _)
      · replace hg17 := of_decide_eq_false hg17
        refine ops_skip' rfl rfl ?_
        refine ops_skip' rfl rfl ?_
        refine ops_skip' rfl rfl ?_
        refine ops_skip' rfl rfl ?_
        refine ops_skip' rfl rfl ?_
        refine ops_skip' rfl rfl ?_
        refine ops_skip' rfl rfl ?_
        refine ops_skip' rfl rfl ?_
        refine ops_skip' rfl rfl ?_
        refine ops_skip' rfl rfl ?_
        refine ops_skip' rfl rfl ?_
        refine ops_skip' rfl rfl ?_
        refine ops_skip' rfl rfl ?_
        refine ops_skip' rfl rfl ?_
        refine ops_ro' rfl (ro_pick rfl rfl) rfl ?_
        refine ops_ro' rfl (ro_move (v := .bool false) rfl) rfl ?_
        refine ops_skip' rfl rfl ?_
        refine ops_skip' rfl rfl ?_
        refine ops_skip' rfl rfl ?_
        refine ops_skip' rfl rfl ?_
        refine ops_skip' rfl rfl ?_
        refine ops_skip' rfl rfl ?_
        refine ops_skip' rfl rfl ?_
        refine ops_skip' rfl rfl ?_
        refine ops_skip' rfl rfl ?_
        refine ops_ro' rfl (ro_pick rfl rfl) rfl ?_
        refine ops_ro' rfl (ro_move (v := .bool false) rfl) rfl ?_
        refine ops_skip' rfl rfl ?_
        refine ops_skip' rfl rfl ?_
        refine ops_skip' rfl rfl ?_
        refine ops_skip' rfl rfl ?_
        refine ops_skip' rfl rfl ?_
        refine ops_skip' rfl rfl ?_
        refine ops_skip' rfl rfl ?_
        refine ops_skip' rfl rfl ?_
        refine ops_skip' rfl rfl ?_
        refine ops_skip' rfl rfl ?_
        refine ops_skip' rfl rfl ?_
        refine ops_skip' rfl rfl ?_
        refine ops_skip' rfl rfl ?_
        refine ops_skip' rfl rfl ?_
        refine ops_ro' rfl (ro_pick rfl rfl) rfl ?_
        refine ops_ro' rfl (ro_assign rfl) rfl ?_
        refine ops_nil ?_
        refine Then_normal ?_
        refine wp_ret' ?_
        refine' doneS_ret (res1 rfl rfl) ?_ ?_
        rotate_left 1
        exact ⟨congrArg Value.bool (Eq.symm (Bool.eq_false_iff.2 (fun hr => absurd ((right_good x).1 hr) (fun g => by have g0 := g.f; have g1 := g.s; have g2 := g.u; have g3 := g.g; have g4 := g.m; have g5 := g.a; have g6 := g.t; omega)))), rfl⟩
        exact (SubH.nil _)
  · replace hg6 := of_decide_eq_false hg6
    refine ops_skip' rfl rfl ?_
    refine ops_skip' rfl rfl ?_
    refine ops_skip' rfl rfl ?_
    refine ops_skip' rfl rfl ?_
    refine ops_skip' rfl rfl ?_
    refine ops_skip' rfl rfl ?_
    refine ops_skip' rfl rfl ?_
    refine ops_skip' rfl rfl ?_
    refine ops_skip' rfl rfl ?_
    refine ops_ro' rfl (ro_pick rfl rfl) rfl ?_
    refine ops_ro' rfl (ro_move (v := .bool false) rfl) rfl ?_
    refine ops_skip' rfl rfl ?_
    refine ops_skip' rfl rfl ?_
    refine ops_skip' rfl rfl ?_
    refine ops_skip' rfl rfl ?_
    refine ops_skip' rfl rfl ?_
    refine ops_skip' rfl rfl ?_
    refine ops_skip' rfl rfl ?_
    refine ops_skip' rfl rfl ?_
    refine ops_skip' rfl rfl ?_
    refine ops_skip' rfl rfl ?_
    refine ops_skip' rfl rfl ?_
    refine ops_skip' rfl rfl ?_
    refine ops_skip' rfl rfl ?_
    refine ops_skip' rfl rfl ?_
    refine ops_ro' rfl (ro_pick rfl rfl) rfl ?_
    refine ops_ro' rfl (ro_move (v := .bool false) rfl) rfl ?_
    refine ops_skip' rfl rfl ?_
    refine ops_skip' rfl rfl ?_
    refine ops_skip' rfl rfl ?_
    refine ops_skip' rfl rfl ?_
    refine ops_skip' rfl rfl ?_
    refine ops_skip' rfl rfl ?_
    refine ops_skip' rfl rfl ?_
    refine ops_skip' rfl rfl ?_
    refine ops_skip' rfl rfl ?_
    refine ops_ro' rfl (ro_pick rfl rfl) rfl ?_
    refine ops_ro' rfl (ro_move (v := .bool false) rfl) rfl ?_
    refine ops_skip' rfl rfl ?_
    refine ops_skip' rfl rfl ?_
    refine ops_skip' rfl rfl ?_
    refine ops_skip' rfl rfl ?_
    refine ops_skip' rfl rfl ?_
    refine ops_skip' rfl rfl ?_
    refine ops_skip' rfl rfl ?_
    refine ops_skip' rfl rfl ?_
    refine ops_skip' rfl rfl ?_
    refine ops_skip' rfl rfl ?_
    refine ops_skip' rfl rfl ?_
    refine ops_skip' rfl rfl ?_
    refine ops_skip' rfl rfl ?_
    refine ops_skip' rfl rfl ?_
    refine ops_ro' rfl (ro_pick rfl rfl) rfl ?_
    refine ops_ro' rfl (ro_assign rfl) rfl ?_
    refine ops_nil ?_
    refine Then_normal ?_
    refine wp_ret' ?_
    refine' doneS_ret (res1 rfl rfl) ?_ ?_
    rotate_left 1
    exact ⟨congrArg Value.bool (Eq.symm (Bool.eq_false_iff.2 (fun hr => absurd ((right_good x).1 hr) (fun g => by have g0 := g.f; have g1 := g.s; have g2 := g.u; have g3 := g.g; have g4 := g.m; have g5 := g.a; have g6 := g.t; omega)))), rfl⟩
    exact (SubH.nil _)


theorem q14put {V : HProp} (p : Option Addr) (c : Nat) (l : List UInt8) (hV : Vw V (.slice p l.length c) l.length (cel l)) (hl : l.length ≤ 100000000) (x : At) (hx : x.Ok) : Tri Try.prog 71 [.slice p l.length c, x.v] [V] (fun v H' => ∃ K, (∃ p' c', v = .slice p' (l ++ x.enc).length c' ∧ K = [row 5 1 (.slice p' (l ++ x.enc).length c') (l ++ x.enc).length (cel (l ++ x.enc))]) ∧ H' = K ++ [V]) := by
  refine tri_of_wpS Try.func71 rfl Try.ntmps71 (by simp) ?_
  refine wp_seq' ?_
  refine wp_region' ?_
  refine ops_eff' rfl (eff_box rfl) rfl ?_
  rintro _ _ ⟨b3, rfl, rfl⟩
  refine ops_ro' rfl (ro_assign rfl) rfl ?_
  refine ops_nil ?_
  refine Then_normal ?_
  refine wp_seq' ?_
  refine wp_region' ?_
  refine ops_ro' rfl (ro_move rfl) rfl ?_
  refine ops_ro' rfl (ro_fieldAddr fa54_0 rfl) rfl ?_
  refine ops_ro' rfl (ro_load sc40 rfl (Rd.pick 0 rfl (Rd.own rfl))) rfl ?_
  refine ops_eff' rfl (eff_callM (Pre := []) Try.call53 rfl rfl (Split.nil _) (qwU32 _ _ l (by first | exact (Vw.pick 0 rfl hV) | exact (Vw.pick 1 rfl hV) | exact (Vw.pick 2 rfl hV) | exact (Vw.pick 3 rfl hV) | exact (Vw.pick 4 rfl hV) | exact (Vw.pick 5 rfl hV) | exact (Vw.pick 6 rfl hV) | exact Vw.pick 0 rfl Vw.row | exact Vw.pick 1 rfl Vw.row | exact Vw.pick 2 rfl Vw.row | exact Vw.pick 3 rfl Vw.row | exact Vw.pick 4 rfl Vw.row | exact Vw.pick 5 rfl Vw.row | exact Vw.pick 6 rfl Vw.row | exact Vw.nil _ | exact Vw.empty _ _) (by omega) x.f)) rfl ?_
  rintro _ H' ⟨_, ⟨p0, c0, rfl, rfl⟩, hH⟩
  simp only [List.cons_append, List.nil_append, List.eraseIdx_cons_zero, List.eraseIdx_cons_succ, List.set_cons_zero, List.set_cons_succ] at hH
  subst hH
  obtain ⟨l0, hl0⟩ : ∃ z, z = l ++ be x.f 4 := ⟨_, rfl⟩
  rw [← hl0]
  have n0 : l0.length = l.length + 4 := by rw [hl0]; simp only [List.length_append, be_length]
  refine ops_ro' rfl (ro_assign rfl) rfl ?_
  refine ops_nil ?_
  refine Then_normal ?_
  refine wp_cutK 1004 (fun Δ LL => ∃ (p1 : Option Addr) (c1 : Nat) (l1 : List UInt8), (l1 = l0 ++ x.e1 ∧ l1.length ≤ l.length + 12) ∧ Δ = [(0, .slice p1 l1.length c1)] ∧ LL = [own b3 (.cells x.cs.toArray 54 (0, 0)), row 5 1 (.slice p1 l1.length c1) l1.length (cel l1), V]) (Has.cons (k := 3) rfl (Has.nil _)) ?_ ?_
  · refine wp_seq' ?_
    refine wp_region' ?_
    refine ops_ro' rfl (ro_fieldAddr fa54_0 rfl) rfl ?_
    refine ops_ro' rfl (ro_load sc40 rfl (Rd.pick 1 rfl (Rd.own rfl))) rfl ?_
    refine ops_ro' rfl (ro_and rfl rfl (and32 hx.f (c := 1) (by decide) rfl)) rfl ?_
    refine ops_ro' rfl (ro_neq rfl rfl rfl) rfl ?_
    refine ops_nil ?_
    refine Then_normal ?_
    refine wp_cond' rfl (fun hc12 => ?_) (fun hc12 => ?_)
    · replace hc12 := of_decide_eq_true hc12
      refine wp_region' ?_
      refine ops_ro' rfl (ro_move rfl) rfl ?_
      refine ops_ro' rfl (ro_fieldAddr fa54_1 rfl) rfl ?_
      refine ops_ro' rfl (ro_load sc52 rfl (Rd.pick 1 rfl (Rd.own rfl))) rfl ?_
      refine ops_eff' rfl (eff_callM (Pre := []) Try.call69 rfl rfl (Split.nil _) (qwU64 _ _ l0 (by first | exact (Vw.pick 0 rfl hV) | exact (Vw.pick 1 rfl hV) | exact (Vw.pick 2 rfl hV) | exact (Vw.pick 3 rfl hV) | exact (Vw.pick 4 rfl hV) | exact (Vw.pick 5 rfl hV) | exact (Vw.pick 6 rfl hV) | exact Vw.pick 0 rfl Vw.row | exact Vw.pick 1 rfl Vw.row | exact Vw.pick 2 rfl Vw.row | exact Vw.pick 3 rfl Vw.row | exact Vw.pick 4 rfl Vw.row | exact Vw.pick 5 rfl Vw.row | exact Vw.pick 6 rfl Vw.row | exact Vw.nil _ | exact Vw.empty _ _) (by omega) x.s)) rfl ?_
      rintro _ H' ⟨_, ⟨p16, c16, rfl, rfl⟩, hH⟩
      simp only [List.cons_append, List.nil_append, List.eraseIdx_cons_zero, List.eraseIdx_cons_succ, List.set_cons_zero, List.set_cons_succ] at hH
      subst hH
      obtain ⟨z16, hz16⟩ : ∃ z, z = l0 ++ be x.s 8 := ⟨_, rfl⟩
      rw [← hz16]
      have hzl16 : z16.length = l0.length + 8 := by rw [hz16]; simp only [List.length_append, be_length]
      refine ops_ro' rfl (ro_assign rfl) rfl ?_
      refine ops_nil ?_
      refine Then_normal ?_
      refine over_cut (kept ⟨p16, c16, z16, ⟨by rw [hz16, At.e1, if_pos (by omega)]; try simp only [List.append_assoc], by omega⟩, rfl, rfl⟩ ?_ ?_ ?_)
      · exact (by repeat (first | exact Has.nil _ | refine Has.cons rfl ?_))
      · exact (by repeat (first | exact Has.nil _ | refine Has.cons rfl ?_))
      · exact (SubH.cons 2 rfl (SubH.cons 0 rfl (SubH.cons 1 rfl (SubH.nil _))))
    · replace hc12 := of_decide_eq_false hc12
      refine wp_skip' ?_
      refine Then_normal ?_
      refine over_cut (kept ⟨p0, c0, l0, ⟨by rw [At.e1, if_neg (by omega), List.append_nil], by omega⟩, rfl, rfl⟩ ?_ ?_ ?_)
      · exact (by repeat (first | exact Has.nil _ | refine Has.cons rfl ?_))
      · exact (by repeat (first | exact Has.nil _ | refine Has.cons rfl ?_))
      · exact (SubH.cons 1 rfl (SubH.cons 0 rfl (SubH.cons 0 rfl (SubH.nil _))))
  · rintro Δ LL ⟨p1, c1, l1, ⟨e1, n1⟩, rfl, rfl⟩
    simp only [List.cons_append, List.nil_append]
    refine wp_cutK 1006 (fun Δ LL => ∃ (p2 : Option Addr) (c2 : Nat) (l2 : List UInt8), (l2 = l1 ++ x.e2 ∧ l2.length ≤ l.length + 20) ∧ Δ = [(0, .slice p2 l2.length c2)] ∧ LL = [own b3 (.cells x.cs.toArray 54 (0, 0)), row 5 1 (.slice p2 l2.length c2) l2.length (cel l2), V]) (Has.cons (k := 3) rfl (Has.nil _)) ?_ ?_
    · refine wp_seq' ?_
      refine wp_region' ?_
      refine ops_ro' rfl (ro_fieldAddr fa54_0 rfl) rfl ?_
      refine ops_ro' rfl (ro_load sc40 rfl (Rd.pick 0 rfl (Rd.own rfl))) rfl ?_
      refine ops_ro' rfl (ro_and rfl rfl (and32 hx.f (c := 2) (by decide) rfl)) rfl ?_
      refine ops_ro' rfl (ro_neq rfl rfl rfl) rfl ?_
      refine ops_nil ?_
      refine Then_normal ?_
      refine wp_cond' rfl (fun hc20 => ?_) (fun hc20 => ?_)
      · replace hc20 := of_decide_eq_true hc20
        refine wp_draw 7 (by kernel_rfl) (Split.cons 0 rfl (Split.nil _)) ?_
        refine any_ro' (i := 0) (by kernel_rfl) rfl rfl (ro_move rfl) rfl (fun _ _ _ h => h) ?_
        refine any_ro' (i := 1) (by kernel_rfl) rfl rfl (ro_fieldAddr fa54_2 rfl) rfl (fun _ _ _ h => h) ?_
        refine any_ro' (i := 2) (by kernel_rfl) rfl rfl (ro_load sc40 rfl (Rd.pick 0 rfl (Rd.own rfl))) rfl (fun _ _ _ h => h) ?_
        refine any_ro' (i := 4) (by kernel_rfl) rfl rfl (ro_fieldAddr fa54_3 rfl) rfl (fun _ _ _ h => h) ?_
        refine any_ro' (i := 5) (by kernel_rfl) rfl rfl (ro_load sc40 rfl (Rd.pick 0 rfl (Rd.own rfl))) rfl (fun _ _ _ h => h) ?_
        refine any_eff' (i := 3) (by kernel_rfl) rfl rfl (eff_callM (Pre := []) Try.call53 rfl rfl (Split.nil _) (qwU32 _ _ l1 (by first | exact (Vw.pick 0 rfl hV) | exact (Vw.pick 1 rfl hV) | exact (Vw.pick 2 rfl hV) | exact (Vw.pick 3 rfl hV) | exact (Vw.pick 4 rfl hV) | exact (Vw.pick 5 rfl hV) | exact (Vw.pick 6 rfl hV) | exact Vw.pick 0 rfl Vw.row | exact Vw.pick 1 rfl Vw.row | exact Vw.pick 2 rfl Vw.row | exact Vw.pick 3 rfl Vw.row | exact Vw.pick 4 rfl Vw.row | exact Vw.pick 5 rfl Vw.row | exact Vw.pick 6 rfl Vw.row | exact Vw.nil _ | exact Vw.empty _ _) (by omega) x.u)) rfl ?_
        rintro _ H' ⟨_, ⟨p24, c24, rfl, rfl⟩, hH⟩
        simp only [List.cons_append, List.nil_append, List.eraseIdx_cons_zero, List.eraseIdx_cons_succ, List.set_cons_zero, List.set_cons_succ] at hH
        subst hH
        obtain ⟨z24, hz24⟩ : ∃ z, z = l1 ++ be x.u 4 := ⟨_, rfl⟩
        rw [← hz24]
        have hzl24 : z24.length = l1.length + 4 := by rw [hz24]; simp only [List.length_append, be_length]
        refine any_eff' (i := 6) (by kernel_rfl) rfl rfl (eff_callM (Pre := []) Try.call53 rfl rfl (Split.nil _) (qwU32 _ _ z24 (by first | exact (Vw.pick 0 rfl hV) | exact (Vw.pick 1 rfl hV) | exact (Vw.pick 2 rfl hV) | exact (Vw.pick 3 rfl hV) | exact (Vw.pick 4 rfl hV) | exact (Vw.pick 5 rfl hV) | exact (Vw.pick 6 rfl hV) | exact Vw.pick 0 rfl Vw.row | exact Vw.pick 1 rfl Vw.row | exact Vw.pick 2 rfl Vw.row | exact Vw.pick 3 rfl Vw.row | exact Vw.pick 4 rfl Vw.row | exact Vw.pick 5 rfl Vw.row | exact Vw.pick 6 rfl Vw.row | exact Vw.nil _ | exact Vw.empty _ _) (by omega) x.g)) rfl ?_
        rintro _ H' ⟨_, ⟨p27, c27, rfl, rfl⟩, hH⟩
        simp only [List.cons_append, List.nil_append, List.eraseIdx_cons_zero, List.eraseIdx_cons_succ, List.set_cons_zero, List.set_cons_succ] at hH
        subst hH
        obtain ⟨z27, hz27⟩ : ∃ z, z = z24 ++ be x.g 4 := ⟨_, rfl⟩
        rw [← hz27]
        have hzl27 : z27.length = z24.length + 4 := by rw [hz27]; simp only [List.length_append, be_length]
        refine any_unlock (m' := 8) (L' := []) (by kernel_rfl) unlock ?_
        simp only [List.cons_append, List.nil_append, List.append_nil]
        refine any_ro' (i := 7) (by kernel_rfl) rfl rfl (ro_assign rfl) rfl (fun _ _ _ h => h) ?_
        refine any_doneH (by kernel_rfl) ?_
        refine Then_normal ?_
        refine over_cut (kept ⟨p27, c27, z27, ⟨by rw [hz27, At.e2, if_pos (by omega)]; rw [hz24]; simp only [List.append_assoc], by omega⟩, rfl, rfl⟩ ?_ ?_ ?_)
        · exact (by repeat (first | exact Has.nil _ | refine Has.cons rfl ?_))
        · exact (by repeat (first | exact Has.nil _ | refine Has.cons rfl ?_))
        · exact (SubH.cons 0 rfl (SubH.cons 0 rfl (SubH.cons 2 rfl (SubH.nil _))))
      · replace hc20 := of_decide_eq_false hc20
        refine wp_skip' ?_
        refine Then_normal ?_
        refine over_cut (kept ⟨p1, c1, l1, ⟨by rw [At.e2, if_neg (by omega), List.append_nil], by omega⟩, rfl, rfl⟩ ?_ ?_ ?_)
        · exact (by repeat (first | exact Has.nil _ | refine Has.cons rfl ?_))
        · exact (by repeat (first | exact Has.nil _ | refine Has.cons rfl ?_))
        · exact SubH.refl _
    · rintro Δ LL ⟨p2, c2, l2, ⟨e2, n2⟩, rfl, rfl⟩
      simp only [List.cons_append, List.nil_append]
      refine wp_cutK 1008 (fun Δ LL => ∃ (p3 : Option Addr) (c3 : Nat) (l3 : List UInt8), (l3 = l2 ++ x.e3 ∧ l3.length ≤ l.length + 24) ∧ Δ = [(0, .slice p3 l3.length c3)] ∧ LL = [own b3 (.cells x.cs.toArray 54 (0, 0)), row 5 1 (.slice p3 l3.length c3) l3.length (cel l3), V]) (Has.cons (k := 3) rfl (Has.nil _)) ?_ ?_
      · refine wp_seq' ?_
        refine wp_region' ?_
        refine ops_ro' rfl (ro_fieldAddr fa54_0 rfl) rfl ?_
        refine ops_ro' rfl (ro_load sc40 rfl (Rd.pick 0 rfl (Rd.own rfl))) rfl ?_
        refine ops_ro' rfl (ro_and rfl rfl (and32 hx.f (c := 4) (by decide) rfl)) rfl ?_
        refine ops_ro' rfl (ro_neq rfl rfl rfl) rfl ?_
        refine ops_nil ?_
        refine Then_normal ?_
        refine wp_cond' rfl (fun hc31 => ?_) (fun hc31 => ?_)
        · replace hc31 := of_decide_eq_true hc31
          refine wp_region' ?_
          refine ops_ro' rfl (ro_move rfl) rfl ?_
          refine ops_ro' rfl (ro_fieldAddr fa54_4 rfl) rfl ?_
          refine ops_ro' rfl (ro_load sc40 rfl (Rd.pick 0 rfl (Rd.own rfl))) rfl ?_
          refine ops_eff' rfl (eff_callM (Pre := []) Try.call53 rfl rfl (Split.nil _) (qwU32 _ _ l2 (by first | exact (Vw.pick 0 rfl hV) | exact (Vw.pick 1 rfl hV) | exact (Vw.pick 2 rfl hV) | exact (Vw.pick 3 rfl hV) | exact (Vw.pick 4 rfl hV) | exact (Vw.pick 5 rfl hV) | exact (Vw.pick 6 rfl hV) | exact Vw.pick 0 rfl Vw.row | exact Vw.pick 1 rfl Vw.row | exact Vw.pick 2 rfl Vw.row | exact Vw.pick 3 rfl Vw.row | exact Vw.pick 4 rfl Vw.row | exact Vw.pick 5 rfl Vw.row | exact Vw.pick 6 rfl Vw.row | exact Vw.nil _ | exact Vw.empty _ _) (by omega) x.m)) rfl ?_
          rintro _ H' ⟨_, ⟨p35, c35, rfl, rfl⟩, hH⟩
          simp only [List.cons_append, List.nil_append, List.eraseIdx_cons_zero, List.eraseIdx_cons_succ, List.set_cons_zero, List.set_cons_succ] at hH
          subst hH
          obtain ⟨z35, hz35⟩ : ∃ z, z = l2 ++ be x.m 4 := ⟨_, rfl⟩
          rw [← hz35]
          have hzl35 : z35.length = l2.length + 4 := by rw [hz35]; simp only [List.length_append, be_length]
          refine ops_ro' rfl (ro_assign rfl) rfl ?_
          refine ops_nil ?_
          refine Then_normal ?_
          refine over_cut (kept ⟨p35, c35, z35, ⟨by rw [hz35, At.e3, if_pos (by omega)]; try simp only [List.append_assoc], by omega⟩, rfl, rfl⟩ ?_ ?_ ?_)
          · exact (by repeat (first | exact Has.nil _ | refine Has.cons rfl ?_))
          · exact (by repeat (first | exact Has.nil _ | refine Has.cons rfl ?_))
          · exact (SubH.cons 1 rfl (SubH.cons 0 rfl (SubH.cons 1 rfl (SubH.nil _))))
        · replace hc31 := of_decide_eq_false hc31
          refine wp_skip' ?_
          refine Then_normal ?_
          refine over_cut (kept ⟨p2, c2, l2, ⟨by rw [At.e3, if_neg (by omega), List.append_nil], by omega⟩, rfl, rfl⟩ ?_ ?_ ?_)
          · exact (by repeat (first | exact Has.nil _ | refine Has.cons rfl ?_))
          · exact (by repeat (first | exact Has.nil _ | refine Has.cons rfl ?_))
          · exact SubH.refl _
      · rintro Δ LL ⟨p3, c3, l3, ⟨e3, n3⟩, rfl, rfl⟩
        simp only [List.cons_append, List.nil_append]
        refine wp_cutK 1010 (fun Δ LL => ∃ (p4 : Option Addr) (c4 : Nat) (l4 : List UInt8), (l4 = l3 ++ x.e4 ∧ l4.length ≤ l.length + 32) ∧ Δ = [(0, .slice p4 l4.length c4)] ∧ LL = [own b3 (.cells x.cs.toArray 54 (0, 0)), row 5 1 (.slice p4 l4.length c4) l4.length (cel l4), V]) (Has.nil _) ?_ ?_
        · refine wp_seq' ?_
          refine wp_region' ?_
          refine ops_ro' rfl (ro_fieldAddr fa54_0 rfl) rfl ?_
          refine ops_ro' rfl (ro_load sc40 rfl (Rd.pick 0 rfl (Rd.own rfl))) rfl ?_
          refine ops_ro' rfl (ro_and rfl rfl (and32 hx.f (c := 8) (by decide) rfl)) rfl ?_
          refine ops_ro' rfl (ro_neq rfl rfl rfl) rfl ?_
          refine ops_nil ?_
          refine Then_normal ?_
          refine wp_cond' rfl (fun hc39 => ?_) (fun hc39 => ?_)
          · replace hc39 := of_decide_eq_true hc39
            refine wp_draw 7 (by kernel_rfl) (Split.cons 0 rfl (Split.nil _)) ?_
            refine any_ro' (i := 0) (by kernel_rfl) rfl rfl (ro_move rfl) rfl (fun _ _ _ h => h) ?_
            refine any_ro' (i := 1) (by kernel_rfl) rfl rfl (ro_fieldAddr fa54_5 rfl) rfl (fun _ _ _ h => h) ?_
            refine any_ro' (i := 2) (by kernel_rfl) rfl rfl (ro_load sc40 rfl (Rd.pick 0 rfl (Rd.own rfl))) rfl (fun _ _ _ h => h) ?_
            refine any_ro' (i := 4) (by kernel_rfl) rfl rfl (ro_fieldAddr fa54_6 rfl) rfl (fun _ _ _ h => h) ?_
            refine any_ro' (i := 5) (by kernel_rfl) rfl rfl (ro_load sc40 rfl (Rd.pick 0 rfl (Rd.own rfl))) rfl (fun _ _ _ h => h) ?_
            refine any_eff' (i := 3) (by kernel_rfl) rfl rfl (eff_callM (Pre := []) Try.call53 rfl rfl (Split.nil _) (qwU32 _ _ l3 (by first | exact (Vw.pick 0 rfl hV) | exact (Vw.pick 1 rfl hV) | exact (Vw.pick 2 rfl hV) | exact (Vw.pick 3 rfl hV) | exact (Vw.pick 4 rfl hV) | exact (Vw.pick 5 rfl hV) | exact (Vw.pick 6 rfl hV) | exact Vw.pick 0 rfl Vw.row | exact Vw.pick 1 rfl Vw.row | exact Vw.pick 2 rfl Vw.row | exact Vw.pick 3 rfl Vw.row | exact Vw.pick 4 rfl Vw.row | exact Vw.pick 5 rfl Vw.row | exact Vw.pick 6 rfl Vw.row | exact Vw.nil _ | exact Vw.empty _ _) (by omega) x.a)) rfl ?_
            rintro _ H' ⟨_, ⟨p43, c43, rfl, rfl⟩, hH⟩
            simp only [List.cons_append, List.nil_append, List.eraseIdx_cons_zero, List.eraseIdx_cons_succ, List.set_cons_zero, List.set_cons_succ] at hH
            subst hH
            obtain ⟨z43, hz43⟩ : ∃ z, z = l3 ++ be x.a 4 := ⟨_, rfl⟩
            rw [← hz43]
            have hzl43 : z43.length = l3.length + 4 := by rw [hz43]; simp only [List.length_append, be_length]
            refine any_eff' (i := 6) (by kernel_rfl) rfl rfl (eff_callM (Pre := []) Try.call53 rfl rfl (Split.nil _) (qwU32 _ _ z43 (by first | exact (Vw.pick 0 rfl hV) | exact (Vw.pick 1 rfl hV) | exact (Vw.pick 2 rfl hV) | exact (Vw.pick 3 rfl hV) | exact (Vw.pick 4 rfl hV) | exact (Vw.pick 5 rfl hV) | exact (Vw.pick 6 rfl hV) | exact Vw.pick 0 rfl Vw.row | exact Vw.pick 1 rfl Vw.row | exact Vw.pick 2 rfl Vw.row | exact Vw.pick 3 rfl Vw.row | exact Vw.pick 4 rfl Vw.row | exact Vw.pick 5 rfl Vw.row | exact Vw.pick 6 rfl Vw.row | exact Vw.nil _ | exact Vw.empty _ _) (by omega) x.t)) rfl ?_
            rintro _ H' ⟨_, ⟨p46, c46, rfl, rfl⟩, hH⟩
            simp only [List.cons_append, List.nil_append, List.eraseIdx_cons_zero, List.eraseIdx_cons_succ, List.set_cons_zero, List.set_cons_succ] at hH
            subst hH
            obtain ⟨z46, hz46⟩ : ∃ z, z = z43 ++ be x.t 4 := ⟨_, rfl⟩
            rw [← hz46]
            have hzl46 : z46.length = z43.length + 4 := by rw [hz46]; simp only [List.length_append, be_length]
            refine any_unlock (m' := 8) (L' := []) (by kernel_rfl) unlock ?_
            simp only [List.cons_append, List.nil_append, List.append_nil]
            refine any_ro' (i := 7) (by kernel_rfl) rfl rfl (ro_assign rfl) rfl (fun _ _ _ h => h) ?_
            refine any_doneH (by kernel_rfl) ?_
            refine Then_normal ?_
            refine over_cut (kept ⟨p46, c46, z46, ⟨by rw [hz46, At.e4, if_pos (by omega)]; rw [hz43]; simp only [List.append_assoc], by omega⟩, rfl, rfl⟩ ?_ ?_ ?_)
            · exact (by repeat (first | exact Has.nil _ | refine Has.cons rfl ?_))
            · exact (by repeat (first | exact Has.nil _ | refine Has.cons rfl ?_))
            · exact (SubH.cons 0 rfl (SubH.cons 0 rfl (SubH.cons 2 rfl (SubH.nil _))))
          · replace hc39 := of_decide_eq_false hc39
            refine wp_skip' ?_
            refine Then_normal ?_
            refine over_cut (kept ⟨p3, c3, l3, ⟨by rw [At.e4, if_neg (by omega), List.append_nil], by omega⟩, rfl, rfl⟩ ?_ ?_ ?_)
            · exact (by repeat (first | exact Has.nil _ | refine Has.cons rfl ?_))
            · exact (by repeat (first | exact Has.nil _ | refine Has.cons rfl ?_))
            · exact SubH.refl _
        · rintro Δ LL ⟨p4, c4, l4, ⟨e4, n4⟩, rfl, rfl⟩
          simp only [List.cons_append, List.nil_append]
          refine wp_seq' ?_
          refine wp_region' ?_
          refine ops_ro' rfl (ro_move rfl) rfl ?_
          refine ops_ro' rfl (ro_assign rfl) rfl ?_
          refine ops_nil ?_
          refine Then_normal ?_
          refine wp_ret' ?_
          refine' doneS_ret (res1 rfl rfl) ?_ ?_
          rotate_left 1
          have HX : l ++ x.enc = l4 := by rw [e4, e3, e2, e1, hl0]; unfold At.enc; simp only [List.append_assoc]
          rw [HX]
          exact ⟨_, ⟨p4, c4, rfl, rfl⟩, rfl⟩
          exact (SubH.cons 1 rfl (SubH.cons 1 rfl (SubH.nil _)))


theorem get_ref {r : R} (h : ¬ r.why = 0) (n : Nat) : (r.get n).1 = r := by rw [R.get, R.take, if_pos h]
theorem s1_rf {r : R} (h : ¬ r.why = 0) (x : At) : (R.s1 (r, x)).1 = r := by unfold R.s1; split; exact get_ref h 8; rfl
theorem s2_rf {r : R} (h : ¬ r.why = 0) (x : At) : (R.s2 (r, x)).1 = r := by unfold R.s2; split; exact (congrArg (fun q : R => (q.get 4).1) (get_ref h 4)).trans (get_ref h 4); rfl
theorem s3_rf {r : R} (h : ¬ r.why = 0) (x : At) : (R.s3 (r, x)).1 = r := by unfold R.s3; split; exact get_ref h 4; rfl
theorem s4_rf {r : R} (h : ¬ r.why = 0) (x : At) : (R.s4 (r, x)).1 = r := by unfold R.s4; split; exact (congrArg (fun q : R => (q.get 4).1) (get_ref h 4)).trans (get_ref h 4); rfl
theorem attrs_q2 {r r1 r3 r4 r5 r6 : R} {x1 x3 x4 x5 x6 : At} (hx1 : ({ At.zero with f := (r.get 4).2 } : At) = x1) (he1 : r1 = R.gate (r.get 4).1 (r.get 4).2) (h3 : (r3, x3) = R.s1 (r1, x1)) (h4 : (r4, x4) = R.s2 (r3, x3)) (h5 : (r5, x5) = R.s3 (r4, x4)) (h6 : (r6, x6) = R.s4 (r5, x5)) :
    r.attrs = if r6.why ≠ 0 then (r6, At.zero) else (r6, x6) := by
  by_cases h1 : r1.why = 0
  · exact attrs_eq hx1 he1 h1 h3 h4 h5 h6
  · have e3 : r3 = r1 := by have := s1_rf h1 x1; rw [← h3] at this; exact this
    subst e3
    have e4 : r4 = r3 := by have := s2_rf h1 x3; rw [← h4] at this; exact this
    subst e4
    have e5 : r5 = r4 := by have := s3_rf h1 x4; rw [← h5] at this; exact this
    subst e5
    have e6 : r6 = r5 := by have := s4_rf h1 x5; rw [← h6] at this; exact this
    subst e6
    unfold R.attrs
    rw [← he1, if_pos h1, if_pos h1]
theorem gate_no {r : R} {f : Nat} (h : ¬ 15 < f ∨ ¬ r.why = 0) : r = R.gate r f := by
  unfold R.gate
  split
  · rename_i h1
    rcases h with h | h
    · exact absurd h1 h
    · unfold R.fail R.refuse; rw [if_neg (by decide), if_neg h]
  · rfl
theorem q14get {V : HProp} (pr : Nat) (q : Option Addr) (cr : Nat) (b : List UInt8) (r : R) (hi : Rin V q cr b) (hr : r.On b) : Tri Try.prog 100 [.pointer (some ⟨pr, 0, none⟩)] ([rq pr (.slice q b.length cr) r] ++ [V]) (fun v H' => ∃ K, (v = r.attrs.2.v ∧ K = [rq pr (.slice q b.length cr) r.attrs.1]) ∧ H' = K ++ [V]) := by
  refine tri_of_wpS Try.func100 rfl Try.ntmps100 (by simp) ?_
  refine wp_seq' ?_
  refine wp_region' ?_
  refine ops_eff' rfl (eff_alloc z54) rfl ?_
  rintro _ _ ⟨b2, rfl, rfl⟩
  refine ops_nil ?_
  refine Then_normal ?_
  refine wp_seq' ?_
  refine wp_region' ?_
  refine ops_ro' rfl (ro_move rfl) rfl ?_
  refine ops_eff' rfl (eff_callM (Pre := [_]) Try.call99 rfl rfl (by repeat (first | exact Split.nil _ | apply Split.cons 0 rfl | apply Split.cons 1 rfl | apply Split.cons 2 rfl | apply Split.cons 3 rfl | apply Split.cons 4 rfl | apply Split.cons 5 rfl | apply Split.cons 6 rfl | apply Split.cons 7 rfl | apply Split.cons 8 rfl | apply Split.cons 9 rfl | apply Split.cons 10 rfl | apply Split.cons 11 rfl)) (qU32 pr q cr b r (by first | exact ⟨Vw.pick 0 rfl hi.vw, hi.cap, hi.len⟩ | exact ⟨Vw.pick 1 rfl hi.vw, hi.cap, hi.len⟩ | exact ⟨Vw.pick 2 rfl hi.vw, hi.cap, hi.len⟩ | exact ⟨Vw.pick 3 rfl hi.vw, hi.cap, hi.len⟩ | exact ⟨Vw.pick 4 rfl hi.vw, hi.cap, hi.len⟩) hr)) rfl ?_
  rintro _ H' ⟨_, ⟨rfl, rfl⟩, hH⟩
  simp only [List.cons_append, List.nil_append, List.eraseIdx_cons_zero, List.eraseIdx_cons_succ, List.set_cons_zero, List.set_cons_succ] at hH
  subst hH
  have hlf := get_lt r 4
  simp only [Nat.reducePow] at hlf
  have hA : ({ At.zero with f := (r.get 4).2 } : At) = { At.zero with f := (r.get 4).2 } := rfl
  have oq := R.on_get hr 4
  generalize e0 : r.get 4 = t0 at *
  obtain ⟨rg, f⟩ := t0
  simp only at *
  refine ops_ro' rfl (ro_build rfl (bld_struct (cs := At.cs { At.zero with f := f }) st54 rfl)) rfl ?_
  refine ops_eff' rfl (eff_alloc z54) rfl ?_
  rintro _ _ ⟨b3, rfl, rfl⟩
  refine ops_eff0 rfl (eff_storeA 0 ag54 rfl rfl rfl rfl rfl (Nat.le_of_ble_eq_true rfl) (warm_zero _)) rfl ?_
  rintro _ _ rfl
  refine ops_nil ?_
  refine Then_normal ?_
  refine wp_cutK 1004 (fun Δ LL => ∃ (r1 : R) (x1 : At), (r1 = R.gate rg f ∧ r1.On b ∧ x1 = { At.zero with f := f }) ∧ Δ = [] ∧ LL = [own b3 (.cells (x1).cs.toArray 54 (0, 0)), rq pr (.slice q b.length cr) r1, own b2 (.cells At.zero.cs.toArray 54 (0, 0)), V]) (Has.cons (k := 0) rfl (Has.cons (k := 2) rfl (Has.cons (k := 3) rfl (Has.nil _)))) ?_ ?_
  · refine wp_seq' ?_
    refine wp_region' ?_
    refine ops_ro' rfl (ro_move rfl) rfl ?_
    refine ops_ro' rfl (ro_nilCheck rfl) rfl ?_
    refine ops_ro' rfl (ro_fieldAddr fa134_2 rfl) rfl ?_
    refine ops_ro' rfl (ro_load sc4 rfl (Rd.pick 1 rfl (Rd.own rfl))) rfl ?_
    refine ops_ro' rfl (ro_not rfl rfl) rfl ?_
    refine ops_split rfl rfl rfl (fun hg12 => ?_) (fun hg12 => ?_)
    · simp only [Bool.and_eq_true, decide_eq_true_eq, Bool.not_eq_true', decide_eq_false_iff_not, bne_iff_ne, ne_eq] at hg12
      refine ops_ro' rfl (ro_fieldAddr fa54_0 rfl) rfl ?_
      refine ops_ro' rfl (ro_load sc40 rfl (Rd.pick 0 rfl (Rd.own rfl))) rfl ?_
      refine ops_ro' rfl (ro_gtr rfl rfl rfl) rfl ?_
      refine ops_ro' rfl (ro_pick rfl rfl) rfl ?_
      refine ops_nil ?_
      refine Then_normal ?_
      refine wp_cond' rfl (fun hc16 => ?_) (fun hc16 => ?_)
      · replace hc16 := of_decide_eq_true hc16
        dsimp only at hc16
        refine wp_region' ?_
        refine ops_ro' rfl (ro_move rfl) rfl ?_
        refine ops_eff' rfl (eff_call Try.call119 rfl rfl (by repeat (first | exact Split.nil _ | apply Split.cons 0 rfl | apply Split.cons 1 rfl | apply Split.cons 2 rfl | apply Split.cons 3 rfl | apply Split.cons 4 rfl | apply Split.cons 5 rfl | apply Split.cons 6 rfl | apply Split.cons 7 rfl | apply Split.cons 8 rfl | apply Split.cons 9 rfl | apply Split.cons 10 rfl | apply Split.cons 11 rfl)) (qfail_spec pr _ rg 12 (by decide))) rfl ?_
        rintro _ H' ⟨_, ⟨rfl, rfl⟩, hH⟩
        simp only [List.cons_append, List.nil_append, List.eraseIdx_cons_zero, List.eraseIdx_cons_succ, List.set_cons_zero, List.set_cons_succ] at hH
        subst hH
        refine ops_nil ?_
        refine Then_normal ?_
        refine over_cut (kept ⟨rg.fail 12, { At.zero with f := f }, ⟨by unfold R.gate; rw [if_pos (by omega)], R.on_fail oq 12, rfl⟩, rfl, rfl⟩ ?_ ?_ ?_)
        · exact (by repeat (first | exact Has.nil _ | refine Has.cons rfl ?_))
        · exact (by repeat (first | exact Has.nil _ | refine Has.cons rfl ?_))
        · exact (SubH.cons 1 rfl (SubH.cons 0 rfl (SubH.cons 0 rfl (SubH.cons 0 rfl (SubH.nil _)))))
      · replace hc16 := of_decide_eq_false hc16
        dsimp only at hc16
        refine wp_skip' ?_
        refine Then_normal ?_
        refine over_cut (kept ⟨rg, { At.zero with f := f }, ⟨gate_no (by first | (left; omega) | (right; simpa using hg12)), oq, rfl⟩, rfl, rfl⟩ ?_ ?_ ?_)
        · exact (by repeat (first | exact Has.nil _ | refine Has.cons rfl ?_))
        · exact (by repeat (first | exact Has.nil _ | refine Has.cons rfl ?_))
        · exact SubH.refl _
    · simp only [Bool.and_eq_false_iff, decide_eq_false_iff_not, Bool.not_eq_false', decide_eq_true_eq] at hg12
      refine ops_skip' rfl rfl ?_
      refine ops_skip' rfl rfl ?_
      refine ops_skip' rfl rfl ?_
      refine ops_ro' rfl (ro_pick rfl rfl) rfl ?_
      refine ops_nil ?_
      refine Then_normal ?_
      refine wp_condF rfl ?_
      refine wp_skip' ?_
      refine Then_normal ?_
      refine over_cut (kept ⟨rg, { At.zero with f := f }, ⟨gate_no (by first | (left; omega) | (right; simpa using hg12)), oq, rfl⟩, rfl, rfl⟩ ?_ ?_ ?_)
      · exact (by repeat (first | exact Has.nil _ | refine Has.cons rfl ?_))
      · exact (by repeat (first | exact Has.nil _ | refine Has.cons rfl ?_))
      · exact SubH.refl _
  · rintro Δ LL ⟨r1, x1, ⟨h1, o1, k1⟩, rfl, rfl⟩
    simp only [List.cons_append, List.nil_append]
    refine wp_cutK 1006 (fun Δ LL => ∃ (r2 : R) (x2 : At), ((r2, x2) = R.s1 (r1, x1) ∧ r2.On b ∧ x2.f = x1.f) ∧ Δ = [] ∧ LL = [own b3 (.cells (x2).cs.toArray 54 (0, 0)), rq pr (.slice q b.length cr) r2, own b2 (.cells At.zero.cs.toArray 54 (0, 0)), V]) (Has.cons (k := 0) rfl (Has.cons (k := 2) rfl (Has.cons (k := 3) rfl (Has.nil _)))) ?_ ?_
    · refine wp_seq' ?_
      have kf : x1.f < 4294967296 := by rw [k1]; exact hlf
      refine wp_region' ?_
      refine ops_ro' rfl (ro_fieldAddr fa54_0 rfl) rfl ?_
      refine ops_ro' rfl (ro_load sc40 rfl (Rd.pick 0 rfl (Rd.own rfl))) rfl ?_
      refine ops_ro' rfl (ro_and rfl rfl (and32 kf (c := 1) (by decide) rfl)) rfl ?_
      refine ops_ro' rfl (ro_neq rfl rfl rfl) rfl ?_
      refine ops_nil ?_
      refine Then_normal ?_
      refine wp_cond' rfl (fun hc22 => ?_) (fun hc22 => ?_)
      · replace hc22 := of_decide_eq_true hc22
        refine wp_region' ?_
        refine ops_ro' rfl (ro_move rfl) rfl ?_
        refine ops_eff' rfl (eff_callM (Pre := [_]) Try.call101 rfl rfl (by repeat (first | exact Split.nil _ | apply Split.cons 0 rfl | apply Split.cons 1 rfl | apply Split.cons 2 rfl | apply Split.cons 3 rfl | apply Split.cons 4 rfl | apply Split.cons 5 rfl | apply Split.cons 6 rfl | apply Split.cons 7 rfl | apply Split.cons 8 rfl | apply Split.cons 9 rfl | apply Split.cons 10 rfl | apply Split.cons 11 rfl)) (qU64 pr q cr b r1 (by first | exact ⟨Vw.pick 0 rfl hi.vw, hi.cap, hi.len⟩ | exact ⟨Vw.pick 1 rfl hi.vw, hi.cap, hi.len⟩ | exact ⟨Vw.pick 2 rfl hi.vw, hi.cap, hi.len⟩ | exact ⟨Vw.pick 3 rfl hi.vw, hi.cap, hi.len⟩ | exact ⟨Vw.pick 4 rfl hi.vw, hi.cap, hi.len⟩) o1)) rfl ?_
        rintro _ H' ⟨_, ⟨rfl, rfl⟩, hH⟩
        simp only [List.cons_append, List.nil_append, List.eraseIdx_cons_zero, List.eraseIdx_cons_succ, List.set_cons_zero, List.set_cons_succ] at hH
        subst hH
        refine ops_ro' rfl (ro_fieldAddr fa54_1 rfl) rfl ?_
        refine ops_eff0 rfl (eff_store 1 sc52 rfl rfl rfl rfl (Nat.le_of_ble_eq_true rfl) (warm_zero _)) rfl ?_
        rintro _ _ rfl
        refine ops_nil ?_
        refine Then_normal ?_
        refine over_cut (kept ⟨(r1.get 8).1, { x1 with s := (r1.get 8).2 }, ⟨by unfold R.s1; rw [if_pos (by show x1.f &&& 1 ≠ 0; omega)], R.on_get o1 8, rfl⟩, rfl, rfl⟩ ?_ ?_ ?_)
        · exact (by repeat (first | exact Has.nil _ | refine Has.cons rfl ?_))
        · exact (by repeat (first | exact Has.nil _ | refine Has.cons rfl ?_))
        · exact (SubH.cons 1 rfl (SubH.cons 0 rfl (SubH.cons 0 rfl (SubH.cons 0 rfl (SubH.nil _)))))
      · replace hc22 := of_decide_eq_false hc22
        refine wp_skip' ?_
        refine Then_normal ?_
        refine over_cut (kept ⟨r1, x1, ⟨by unfold R.s1; rw [if_neg (by show ¬ x1.f &&& 1 ≠ 0; omega)], o1, rfl⟩, rfl, rfl⟩ ?_ ?_ ?_)
        · exact (by repeat (first | exact Has.nil _ | refine Has.cons rfl ?_))
        · exact (by repeat (first | exact Has.nil _ | refine Has.cons rfl ?_))
        · exact SubH.refl _
    · rintro Δ LL ⟨r2, x2, ⟨h2, o2, k2⟩, rfl, rfl⟩
      simp only [List.cons_append, List.nil_append]
      refine wp_cutK 1009 (fun Δ LL => ∃ (r3 : R) (x3 : At), ((r3, x3) = R.s2 (r2, x2) ∧ r3.On b ∧ x3.f = x1.f) ∧ Δ = [] ∧ LL = [own b3 (.cells (x3).cs.toArray 54 (0, 0)), rq pr (.slice q b.length cr) r3, own b2 (.cells At.zero.cs.toArray 54 (0, 0)), V]) (Has.cons (k := 0) rfl (Has.cons (k := 2) rfl (Has.cons (k := 3) rfl (Has.nil _)))) ?_ ?_
      · refine wp_seq' ?_
        refine wp_region' ?_
        refine ops_ro' rfl (ro_fieldAddr fa54_0 rfl) rfl ?_
        refine ops_ro' rfl (ro_load sc40 rfl (Rd.pick 0 rfl (Rd.own rfl))) rfl ?_
        refine ops_ro' rfl (ro_and rfl rfl (and32 (by rw [k2, k1]; exact hlf) (c := 2) (by decide) rfl)) rfl ?_
        refine ops_ro' rfl (ro_neq rfl rfl rfl) rfl ?_
        refine ops_nil ?_
        refine Then_normal ?_
        refine wp_cond' rfl (fun hc29 => ?_) (fun hc29 => ?_)
        · replace hc29 := of_decide_eq_true hc29
          refine wp_seq' ?_
          refine wp_region' ?_
          refine ops_ro' rfl (ro_move rfl) rfl ?_
          refine ops_eff' rfl (eff_callM (Pre := [_]) Try.call99 rfl rfl (by repeat (first | exact Split.nil _ | apply Split.cons 0 rfl | apply Split.cons 1 rfl | apply Split.cons 2 rfl | apply Split.cons 3 rfl | apply Split.cons 4 rfl | apply Split.cons 5 rfl | apply Split.cons 6 rfl | apply Split.cons 7 rfl | apply Split.cons 8 rfl | apply Split.cons 9 rfl | apply Split.cons 10 rfl | apply Split.cons 11 rfl)) (qU32 pr q cr b r2 (by first | exact ⟨Vw.pick 0 rfl hi.vw, hi.cap, hi.len⟩ | exact ⟨Vw.pick 1 rfl hi.vw, hi.cap, hi.len⟩ | exact ⟨Vw.pick 2 rfl hi.vw, hi.cap, hi.len⟩ | exact ⟨Vw.pick 3 rfl hi.vw, hi.cap, hi.len⟩ | exact ⟨Vw.pick 4 rfl hi.vw, hi.cap, hi.len⟩) o2)) rfl ?_
          rintro _ H' ⟨_, ⟨rfl, rfl⟩, hH⟩
          simp only [List.cons_append, List.nil_append, List.eraseIdx_cons_zero, List.eraseIdx_cons_succ, List.set_cons_zero, List.set_cons_succ] at hH
          subst hH
          refine ops_ro' rfl (ro_fieldAddr fa54_2 rfl) rfl ?_
          refine ops_eff0 rfl (eff_store 1 sc40 rfl rfl rfl rfl (Nat.le_of_ble_eq_true rfl) (warm_zero _)) rfl ?_
          rintro _ _ rfl
          refine ops_nil ?_
          refine Then_normal ?_
          refine wp_region' ?_
          refine ops_ro' rfl (ro_move rfl) rfl ?_
          refine ops_eff' rfl (eff_callM (Pre := [_]) Try.call99 rfl rfl (by repeat (first | exact Split.nil _ | apply Split.cons 0 rfl | apply Split.cons 1 rfl | apply Split.cons 2 rfl | apply Split.cons 3 rfl | apply Split.cons 4 rfl | apply Split.cons 5 rfl | apply Split.cons 6 rfl | apply Split.cons 7 rfl | apply Split.cons 8 rfl | apply Split.cons 9 rfl | apply Split.cons 10 rfl | apply Split.cons 11 rfl)) (qU32 pr q cr b (r2.get 4).1 (by first | exact ⟨Vw.pick 0 rfl hi.vw, hi.cap, hi.len⟩ | exact ⟨Vw.pick 1 rfl hi.vw, hi.cap, hi.len⟩ | exact ⟨Vw.pick 2 rfl hi.vw, hi.cap, hi.len⟩ | exact ⟨Vw.pick 3 rfl hi.vw, hi.cap, hi.len⟩ | exact ⟨Vw.pick 4 rfl hi.vw, hi.cap, hi.len⟩) (R.on_get o2 4))) rfl ?_
          rintro _ H' ⟨_, ⟨rfl, rfl⟩, hH⟩
          simp only [List.cons_append, List.nil_append, List.eraseIdx_cons_zero, List.eraseIdx_cons_succ, List.set_cons_zero, List.set_cons_succ] at hH
          subst hH
          refine ops_ro' rfl (ro_fieldAddr fa54_3 rfl) rfl ?_
          refine ops_eff0 rfl (eff_store 1 sc40 rfl rfl rfl rfl (Nat.le_of_ble_eq_true rfl) (warm_zero _)) rfl ?_
          rintro _ _ rfl
          refine ops_nil ?_
          refine Then_normal ?_
          refine over_cut (kept ⟨((r2.get 4).1.get 4).1, { x2 with u := (r2.get 4).2, g := ((r2.get 4).1.get 4).2 }, ⟨by unfold R.s2; rw [if_pos (by show x2.f &&& 2 ≠ 0; omega)], R.on_get (R.on_get o2 4) 4, k2⟩, rfl, rfl⟩ ?_ ?_ ?_)
          · exact (by repeat (first | exact Has.nil _ | refine Has.cons rfl ?_))
          · exact (by repeat (first | exact Has.nil _ | refine Has.cons rfl ?_))
          · exact (SubH.cons 1 rfl (SubH.cons 0 rfl (SubH.cons 0 rfl (SubH.cons 0 rfl (SubH.nil _)))))
        · replace hc29 := of_decide_eq_false hc29
          refine wp_skip' ?_
          refine Then_normal ?_
          refine over_cut (kept ⟨r2, x2, ⟨by unfold R.s2; rw [if_neg (by show ¬ x2.f &&& 2 ≠ 0; omega)], o2, k2⟩, rfl, rfl⟩ ?_ ?_ ?_)
          · exact (by repeat (first | exact Has.nil _ | refine Has.cons rfl ?_))
          · exact (by repeat (first | exact Has.nil _ | refine Has.cons rfl ?_))
          · exact SubH.refl _
      · rintro Δ LL ⟨r3, x3, ⟨h3, o3, k3⟩, rfl, rfl⟩
        simp only [List.cons_append, List.nil_append]
        refine wp_cutK 1011 (fun Δ LL => ∃ (r4 : R) (x4 : At), ((r4, x4) = R.s3 (r3, x3) ∧ r4.On b ∧ x4.f = x1.f) ∧ Δ = [] ∧ LL = [own b3 (.cells (x4).cs.toArray 54 (0, 0)), rq pr (.slice q b.length cr) r4, own b2 (.cells At.zero.cs.toArray 54 (0, 0)), V]) (Has.cons (k := 0) rfl (Has.cons (k := 2) rfl (Has.cons (k := 3) rfl (Has.nil _)))) ?_ ?_
        · refine wp_seq' ?_
          refine wp_region' ?_
          refine ops_ro' rfl (ro_fieldAddr fa54_0 rfl) rfl ?_
          refine ops_ro' rfl (ro_load sc40 rfl (Rd.pick 0 rfl (Rd.own rfl))) rfl ?_
          refine ops_ro' rfl (ro_and rfl rfl (and32 (by rw [k3, k1]; exact hlf) (c := 4) (by decide) rfl)) rfl ?_
          refine ops_ro' rfl (ro_neq rfl rfl rfl) rfl ?_
          refine ops_nil ?_
          refine Then_normal ?_
          refine wp_cond' rfl (fun hc39 => ?_) (fun hc39 => ?_)
          · replace hc39 := of_decide_eq_true hc39
            refine wp_region' ?_
            refine ops_ro' rfl (ro_move rfl) rfl ?_
            refine ops_eff' rfl (eff_callM (Pre := [_]) Try.call99 rfl rfl (by repeat (first | exact Split.nil _ | apply Split.cons 0 rfl | apply Split.cons 1 rfl | apply Split.cons 2 rfl | apply Split.cons 3 rfl | apply Split.cons 4 rfl | apply Split.cons 5 rfl | apply Split.cons 6 rfl | apply Split.cons 7 rfl | apply Split.cons 8 rfl | apply Split.cons 9 rfl | apply Split.cons 10 rfl | apply Split.cons 11 rfl)) (qU32 pr q cr b r3 (by first | exact ⟨Vw.pick 0 rfl hi.vw, hi.cap, hi.len⟩ | exact ⟨Vw.pick 1 rfl hi.vw, hi.cap, hi.len⟩ | exact ⟨Vw.pick 2 rfl hi.vw, hi.cap, hi.len⟩ | exact ⟨Vw.pick 3 rfl hi.vw, hi.cap, hi.len⟩ | exact ⟨Vw.pick 4 rfl hi.vw, hi.cap, hi.len⟩) o3)) rfl ?_
            rintro _ H' ⟨_, ⟨rfl, rfl⟩, hH⟩
            simp only [List.cons_append, List.nil_append, List.eraseIdx_cons_zero, List.eraseIdx_cons_succ, List.set_cons_zero, List.set_cons_succ] at hH
            subst hH
            refine ops_ro' rfl (ro_fieldAddr fa54_4 rfl) rfl ?_
            refine ops_eff0 rfl (eff_store 1 sc40 rfl rfl rfl rfl (Nat.le_of_ble_eq_true rfl) (warm_zero _)) rfl ?_
            rintro _ _ rfl
            refine ops_nil ?_
            refine Then_normal ?_
            refine over_cut (kept ⟨(r3.get 4).1, { x3 with m := (r3.get 4).2 }, ⟨by unfold R.s3; rw [if_pos (by show x3.f &&& 4 ≠ 0; omega)], R.on_get o3 4, k3⟩, rfl, rfl⟩ ?_ ?_ ?_)
            · exact (by repeat (first | exact Has.nil _ | refine Has.cons rfl ?_))
            · exact (by repeat (first | exact Has.nil _ | refine Has.cons rfl ?_))
            · exact (SubH.cons 1 rfl (SubH.cons 0 rfl (SubH.cons 0 rfl (SubH.cons 0 rfl (SubH.nil _)))))
          · replace hc39 := of_decide_eq_false hc39
            refine wp_skip' ?_
            refine Then_normal ?_
            refine over_cut (kept ⟨r3, x3, ⟨by unfold R.s3; rw [if_neg (by show ¬ x3.f &&& 4 ≠ 0; omega)], o3, k3⟩, rfl, rfl⟩ ?_ ?_ ?_)
            · exact (by repeat (first | exact Has.nil _ | refine Has.cons rfl ?_))
            · exact (by repeat (first | exact Has.nil _ | refine Has.cons rfl ?_))
            · exact SubH.refl _
        · rintro Δ LL ⟨r4, x4, ⟨h4, o4, k4⟩, rfl, rfl⟩
          simp only [List.cons_append, List.nil_append]
          refine wp_cutK 1014 (fun Δ LL => ∃ (r5 : R) (x5 : At), ((r5, x5) = R.s4 (r4, x4) ∧ r5.On b) ∧ Δ = [] ∧ LL = [own b3 (.cells (x5).cs.toArray 54 (0, 0)), rq pr (.slice q b.length cr) r5, own b2 (.cells At.zero.cs.toArray 54 (0, 0)), V]) (Has.cons (k := 0) rfl (Has.cons (k := 2) rfl (Has.cons (k := 3) rfl (Has.nil _)))) ?_ ?_
          · refine wp_seq' ?_
            refine wp_region' ?_
            refine ops_ro' rfl (ro_fieldAddr fa54_0 rfl) rfl ?_
            refine ops_ro' rfl (ro_load sc40 rfl (Rd.pick 0 rfl (Rd.own rfl))) rfl ?_
            refine ops_ro' rfl (ro_and rfl rfl (and32 (by rw [k4, k1]; exact hlf) (c := 8) (by decide) rfl)) rfl ?_
            refine ops_ro' rfl (ro_neq rfl rfl rfl) rfl ?_
            refine ops_nil ?_
            refine Then_normal ?_
            refine wp_cond' rfl (fun hc46 => ?_) (fun hc46 => ?_)
            · replace hc46 := of_decide_eq_true hc46
              refine wp_seq' ?_
              refine wp_region' ?_
              refine ops_ro' rfl (ro_move rfl) rfl ?_
              refine ops_eff' rfl (eff_callM (Pre := [_]) Try.call99 rfl rfl (by repeat (first | exact Split.nil _ | apply Split.cons 0 rfl | apply Split.cons 1 rfl | apply Split.cons 2 rfl | apply Split.cons 3 rfl | apply Split.cons 4 rfl | apply Split.cons 5 rfl | apply Split.cons 6 rfl | apply Split.cons 7 rfl | apply Split.cons 8 rfl | apply Split.cons 9 rfl | apply Split.cons 10 rfl | apply Split.cons 11 rfl)) (qU32 pr q cr b r4 (by first | exact ⟨Vw.pick 0 rfl hi.vw, hi.cap, hi.len⟩ | exact ⟨Vw.pick 1 rfl hi.vw, hi.cap, hi.len⟩ | exact ⟨Vw.pick 2 rfl hi.vw, hi.cap, hi.len⟩ | exact ⟨Vw.pick 3 rfl hi.vw, hi.cap, hi.len⟩ | exact ⟨Vw.pick 4 rfl hi.vw, hi.cap, hi.len⟩) o4)) rfl ?_
              rintro _ H' ⟨_, ⟨rfl, rfl⟩, hH⟩
              simp only [List.cons_append, List.nil_append, List.eraseIdx_cons_zero, List.eraseIdx_cons_succ, List.set_cons_zero, List.set_cons_succ] at hH
              subst hH
              refine ops_ro' rfl (ro_fieldAddr fa54_5 rfl) rfl ?_
              refine ops_eff0 rfl (eff_store 1 sc40 rfl rfl rfl rfl (Nat.le_of_ble_eq_true rfl) (warm_zero _)) rfl ?_
              rintro _ _ rfl
              refine ops_nil ?_
              refine Then_normal ?_
              refine wp_region' ?_
              refine ops_ro' rfl (ro_move rfl) rfl ?_
              refine ops_eff' rfl (eff_callM (Pre := [_]) Try.call99 rfl rfl (by repeat (first | exact Split.nil _ | apply Split.cons 0 rfl | apply Split.cons 1 rfl | apply Split.cons 2 rfl | apply Split.cons 3 rfl | apply Split.cons 4 rfl | apply Split.cons 5 rfl | apply Split.cons 6 rfl | apply Split.cons 7 rfl | apply Split.cons 8 rfl | apply Split.cons 9 rfl | apply Split.cons 10 rfl | apply Split.cons 11 rfl)) (qU32 pr q cr b (r4.get 4).1 (by first | exact ⟨Vw.pick 0 rfl hi.vw, hi.cap, hi.len⟩ | exact ⟨Vw.pick 1 rfl hi.vw, hi.cap, hi.len⟩ | exact ⟨Vw.pick 2 rfl hi.vw, hi.cap, hi.len⟩ | exact ⟨Vw.pick 3 rfl hi.vw, hi.cap, hi.len⟩ | exact ⟨Vw.pick 4 rfl hi.vw, hi.cap, hi.len⟩) (R.on_get o4 4))) rfl ?_
              rintro _ H' ⟨_, ⟨rfl, rfl⟩, hH⟩
              simp only [List.cons_append, List.nil_append, List.eraseIdx_cons_zero, List.eraseIdx_cons_succ, List.set_cons_zero, List.set_cons_succ] at hH
              subst hH
              refine ops_ro' rfl (ro_fieldAddr fa54_6 rfl) rfl ?_
              refine ops_eff0 rfl (eff_store 1 sc40 rfl rfl rfl rfl (Nat.le_of_ble_eq_true rfl) (warm_zero _)) rfl ?_
              rintro _ _ rfl
              refine ops_nil ?_
              refine Then_normal ?_
              refine over_cut (kept ⟨((r4.get 4).1.get 4).1, { x4 with a := (r4.get 4).2, t := ((r4.get 4).1.get 4).2 }, ⟨by unfold R.s4; rw [if_pos (by show x4.f &&& 8 ≠ 0; omega)], R.on_get (R.on_get o4 4) 4⟩, rfl, rfl⟩ ?_ ?_ ?_)
              · exact (by repeat (first | exact Has.nil _ | refine Has.cons rfl ?_))
              · exact (by repeat (first | exact Has.nil _ | refine Has.cons rfl ?_))
              · exact (SubH.cons 1 rfl (SubH.cons 0 rfl (SubH.cons 0 rfl (SubH.cons 0 rfl (SubH.nil _)))))
            · replace hc46 := of_decide_eq_false hc46
              refine wp_skip' ?_
              refine Then_normal ?_
              refine over_cut (kept ⟨r4, x4, ⟨by unfold R.s4; rw [if_neg (by show ¬ x4.f &&& 8 ≠ 0; omega)], o4⟩, rfl, rfl⟩ ?_ ?_ ?_)
              · exact (by repeat (first | exact Has.nil _ | refine Has.cons rfl ?_))
              · exact (by repeat (first | exact Has.nil _ | refine Has.cons rfl ?_))
              · exact SubH.refl _
          · rintro Δ LL ⟨r5, x5, ⟨h5, o5⟩, rfl, rfl⟩
            simp only [List.cons_append, List.nil_append]
            refine wp_seq' ?_
            refine wp_seq' ?_
            have HX := attrs_q2 (r := r) (by rw [e0]; exact k1.symm) (by rw [e0]; exact h1) h2 h3 h4 h5
            refine wp_region' ?_
            refine ops_ro' rfl (ro_move rfl) rfl ?_
            refine ops_ro' rfl (ro_nilCheck rfl) rfl ?_
            refine ops_ro' rfl (ro_fieldAddr fa134_2 rfl) rfl ?_
            refine ops_ro' rfl (ro_load sc4 rfl (Rd.pick 1 rfl (Rd.own rfl))) rfl ?_
            refine ops_nil ?_
            refine Then_normal ?_
            refine wp_cond' rfl (fun hc56 => ?_) (fun hc56 => ?_)
            · replace hc56 := of_decide_eq_true hc56
              refine wp_seq' ?_
              refine wp_region' ?_
              refine ops_ro' rfl (ro_build rfl (bld_struct (cs := At.zero.cs) st54 rfl)) rfl ?_
              refine ops_eff0 rfl (eff_storeA 2 ag54 rfl rfl rfl rfl rfl (Nat.le_of_ble_eq_true rfl) (warm_zero _)) rfl ?_
              rintro _ _ rfl
              refine ops_nil ?_
              refine Then_normal ?_
              refine wp_ret' ?_
              refine Then_ret ?_
              refine' doneS_ret (resv1 rfl (rv_cellA ag54 rfl (by first | exact RdN.of_pick 0 rfl rdn_all | exact RdN.of_pick 1 rfl rdn_all | exact RdN.of_pick 2 rfl rdn_all | exact RdN.of_pick 3 rfl rdn_all | exact RdN.of_pick 4 rfl rdn_all | exact RdN.of_pick 5 rfl rdn_all) rfl)) ?_ ?_
              rotate_left 1
              rw [if_pos (by simp_all)] at HX
              rw [HX]
              exact ⟨_, ⟨rfl, rfl⟩, rfl⟩
              exact (SubH.cons 1 rfl (SubH.cons 2 rfl (SubH.nil _)))
            · replace hc56 := of_decide_eq_false hc56
              refine wp_skip' ?_
              refine Then_normal ?_
              refine wp_seq' ?_
              refine wp_region' ?_
              refine ops_ro' rfl (ro_loadA ag54 rfl (RdN.of_pick 0 rfl rdn_all) rfl) rfl ?_
              refine ops_eff0 rfl (eff_storeA 2 ag54 rfl rfl rfl rfl rfl (Nat.le_of_ble_eq_true rfl) (warm_zero _)) rfl ?_
              rintro _ _ rfl
              refine ops_nil ?_
              refine Then_normal ?_
              refine wp_ret' ?_
              refine' doneS_ret (resv1 rfl (rv_cellA ag54 rfl (by first | exact RdN.of_pick 0 rfl rdn_all | exact RdN.of_pick 1 rfl rdn_all | exact RdN.of_pick 2 rfl rdn_all | exact RdN.of_pick 3 rfl rdn_all | exact RdN.of_pick 4 rfl rdn_all | exact RdN.of_pick 5 rfl rdn_all) rfl)) ?_ ?_
              rotate_left 1
              rw [if_neg (by simp_all)] at HX
              rw [HX]
              exact ⟨_, ⟨rfl, rfl⟩, rfl⟩
              exact (SubH.cons 1 rfl (SubH.cons 2 rfl (SubH.nil _)))

end Go.Proofs.Ytigaolglnnjnmaa
