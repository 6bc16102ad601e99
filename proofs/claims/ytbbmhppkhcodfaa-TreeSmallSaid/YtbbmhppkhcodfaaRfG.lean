/-
  Package strongroomref14: Right, Merge.
  Package strongroomref15: Set.
-/
import Derived.Test.YtbbmhppkhcodfaaRfF
namespace Go.Proofs.Ytbbmhppkhcodfaa
open Go.Sx
set_option linter.unusedVariables false
set_option linter.unusedSimpArgs false
set_option maxRecDepth 100000
set_option maxHeartbeats 4000000

/-- what a right one is -/
structure At.Good (x : At) : Prop where
  f : x.f ≤ 15
  s : x.f &&& 1 = 0 → x.s = 0
  u : x.f &&& 2 = 0 → x.u = 0
  g : x.f &&& 2 = 0 → x.g = 0
  m : x.f &&& 4 = 0 → x.m = 0
  a : x.f &&& 8 = 0 → x.a = 0
  t : x.f &&& 8 = 0 → x.t = 0
theorem merge_fields (x y : At) : x.merge y = ⟨x.f ||| y.f, if y.f &&& 1 ≠ 0 then y.s else x.s, if y.f &&& 2 ≠ 0 then y.u else x.u, if y.f &&& 2 ≠ 0 then y.g else x.g,
    if y.f &&& 4 ≠ 0 then y.m else x.m, if y.f &&& 8 ≠ 0 then y.a else x.a, if y.f &&& 8 ≠ 0 then y.t else x.t⟩ := by
  unfold At.merge At.m5 At.m4 At.m3 At.m2 At.m1
  by_cases h1 : y.f &&& 1 = 0 <;> by_cases h2 : y.f &&& 2 = 0 <;> by_cases h3 : y.f &&& 4 = 0 <;> by_cases h4 : y.f &&& 8 = 0 <;> simp only [h1, h2, h3, h4, ne_eq, not_true_eq_false, not_false_eq_true, if_true, if_false]
theorem right_good (x : At) : x.right = true ↔ x.Good := by
  unfold At.right; rw [merge_fields, Bool.and_eq_true, decide_eq_true_eq, decide_eq_true_eq]; obtain ⟨f, s, u, g, m, a, t⟩ := x
  simp only [At.zero, At.mk.injEq, Nat.zero_or, true_and]
  constructor
  · rintro ⟨h0, h1, h2, h3, h4, h5, h6⟩; exact ⟨h0, fun h => by rw [if_neg (by simpa only [ne_eq, Classical.not_not] using h)] at h1; exact h1.symm, fun h => by rw [if_neg (by simpa only [ne_eq, Classical.not_not] using h)] at h2; exact h2.symm, fun h => by rw [if_neg (by simpa only [ne_eq, Classical.not_not] using h)] at h3; exact h3.symm, fun h => by rw [if_neg (by simpa only [ne_eq, Classical.not_not] using h)] at h4; exact h4.symm, fun h => by rw [if_neg (by simpa only [ne_eq, Classical.not_not] using h)] at h5; exact h5.symm, fun h => by rw [if_neg (by simpa only [ne_eq, Classical.not_not] using h)] at h6; exact h6.symm⟩
  · rintro ⟨h0, h1, h2, h3, h4, h5, h6⟩; have hn : ∀ {p : Nat}, ¬ p ≠ 0 → p = 0 := fun h => Classical.not_not.1 h
    have key : ∀ {k v : Nat}, (f &&& k = 0 → v = 0) → (if f &&& k ≠ 0 then v else 0) = v := fun {k v} h => by
      by_cases hk : f &&& k = 0
      · rw [if_neg (by simpa only [ne_eq, Classical.not_not] using hk)]; exact (h hk).symm
      · rw [if_pos hk]
    exact ⟨h0, key h1, key h2, key h3, key h4, key h5, key h6⟩


theorem q14right (x : At) (hx : x.Ok) : Tri Try.prog 93 [x.v] [] (fun v H' => v = .bool x.right ∧ H' = []) := by
  refine tri_of_wpS Try.func93 rfl Try.ntmps93 (by simp) ?_; refine wp_seq' (wp_region' (ops_eff' rfl (eff_box rfl) rfl ?_)); rintro _ _ ⟨b1, rfl, rfl⟩; refine ops_ro' rfl (ro_assign rfl) rfl (ops_nil (Then_normal (wp_seq' (wp_region' (ops_ro' rfl (ro_fieldAddr fa40_0 rfl) rfl ?_))))); refine ops_ro' rfl (ro_load sc37 rfl (Rd.pick 0 rfl (Rd.own rfl))) rfl (ops_ro' rfl (ro_leq rfl rfl rfl) rfl (ops_split rfl rfl rfl (fun hg6 => ?_) (fun hg6 => ?_)))
  · replace hg6 := of_decide_eq_true hg6
    refine ops_ro' rfl (ro_fieldAddr fa40_0 rfl) rfl (ops_ro' rfl (ro_load sc37 rfl (Rd.pick 0 rfl (Rd.own rfl))) rfl (ops_ro' rfl (ro_and rfl rfl (and32 hx.f (c := 1) (by decide) rfl)) rfl (ops_ro' rfl (ro_neq rfl rfl rfl) rfl (ops_split rfl rfl rfl (fun hg11 => ?_) (fun hg11 => ?_)))))
    · replace hg11 := of_decide_eq_true hg11
      refine ops_skip' rfl rfl (ops_skip' rfl rfl (ops_skip' rfl rfl (ops_ro' rfl (ro_pick rfl rfl) rfl (ops_ro' rfl (ro_pick rfl rfl) rfl (ops_ro' rfl (ro_move (v := .bool true) rfl) rfl ?_))))); refine ops_ro' rfl (ro_fieldAddr fa40_0 rfl) rfl (ops_ro' rfl (ro_load sc37 rfl (Rd.pick 0 rfl (Rd.own rfl))) rfl (ops_ro' rfl (ro_and rfl rfl (and32 hx.f (c := 2) (by decide) rfl)) rfl (ops_ro' rfl (ro_neq rfl rfl rfl) rfl (ops_split rfl rfl rfl (fun hg22 => ?_) (fun hg22 => ?_)))))
      · replace hg22 := of_decide_eq_true hg22
        refine ops_skip' rfl rfl (ops_skip' rfl rfl (ops_skip' rfl rfl (ops_skip' rfl rfl (ops_skip' rfl rfl (ops_skip' rfl rfl ?_))))); refine ops_skip' rfl rfl (ops_skip' rfl rfl (ops_ro' rfl (ro_pick rfl rfl) rfl (ops_ro' rfl (ro_pick rfl rfl) rfl (ops_ro' rfl (ro_move (v := .bool true) rfl) rfl (ops_ro' rfl (ro_fieldAddr fa40_0 rfl) rfl ?_))))); refine ops_ro' rfl (ro_load sc37 rfl (Rd.pick 0 rfl (Rd.own rfl))) rfl (ops_ro' rfl (ro_and rfl rfl (and32 hx.f (c := 4) (by decide) rfl)) rfl (ops_ro' rfl (ro_neq rfl rfl rfl) rfl (ops_split rfl rfl rfl (fun hg38 => ?_) (fun hg38 => ?_))))
        · replace hg38 := of_decide_eq_true hg38
          refine ops_skip' rfl rfl (ops_skip' rfl rfl (ops_skip' rfl rfl (ops_ro' rfl (ro_pick rfl rfl) rfl (ops_ro' rfl (ro_pick rfl rfl) rfl (ops_ro' rfl (ro_move (v := .bool true) rfl) rfl ?_))))); refine ops_ro' rfl (ro_fieldAddr fa40_0 rfl) rfl (ops_ro' rfl (ro_load sc37 rfl (Rd.pick 0 rfl (Rd.own rfl))) rfl (ops_ro' rfl (ro_and rfl rfl (and32 hx.f (c := 8) (by decide) rfl)) rfl (ops_ro' rfl (ro_neq rfl rfl rfl) rfl (ops_split rfl rfl rfl (fun hg49 => ?_) (fun hg49 => ?_)))))
          · replace hg49 := of_decide_eq_true hg49
            refine ops_skip' rfl rfl (ops_skip' rfl rfl (ops_skip' rfl rfl (ops_skip' rfl rfl (ops_skip' rfl rfl (ops_skip' rfl rfl ?_))))); refine ops_skip' rfl rfl (ops_skip' rfl rfl (ops_ro' rfl (ro_pick rfl rfl) rfl (ops_ro' rfl (ro_pick rfl rfl) rfl (ops_ro' rfl (ro_assign rfl) rfl (ops_nil ?_))))); refine Then_normal (wp_ret' ?_); refine' doneS_ret (res1 rfl rfl) ?_ ?_
            rotate_left 1
            exact ⟨congrArg Value.bool (Eq.symm ((right_good x).2 ⟨by omega, by omega, by omega, by omega, by omega, by omega, by omega⟩)), rfl⟩
            exact (SubH.nil _)
          · replace hg49 := of_decide_eq_false hg49
            refine ops_ro' rfl (ro_fieldAddr fa40_5 rfl) rfl (ops_ro' rfl (ro_load sc37 rfl (Rd.pick 0 rfl (Rd.own rfl))) rfl (ops_ro' rfl (ro_eql rfl rfl rfl) rfl (ops_split rfl rfl rfl (fun hg53 => ?_) (fun hg53 => ?_))))
            · replace hg53 := of_decide_eq_true hg53
              refine ops_ro' rfl (ro_fieldAddr fa40_6 rfl) rfl (ops_ro' rfl (ro_load sc37 rfl (Rd.pick 0 rfl (Rd.own rfl))) rfl (ops_ro' rfl (ro_eql rfl rfl rfl) rfl (ops_ro' rfl (ro_pick rfl rfl) rfl (ops_ro' rfl (ro_pick rfl rfl) rfl (ops_ro' rfl (ro_pick rfl rfl) rfl ?_))))); refine ops_ro' rfl (ro_assign rfl) rfl (ops_nil (Then_normal (wp_ret' ?_))); refine' doneS_ret (res1 rfl rfl) ?_ ?_
              rotate_left 1
              exact ⟨congrArg Value.bool (Bool.eq_iff_iff.2 (by rw [decide_eq_true_eq, right_good]; exact ⟨fun h => ⟨by omega, by omega, by omega, by omega, by omega, by omega, by omega⟩, fun g => by have g0 := g.f; have g1 := g.s; have g2 := g.u; have g3 := g.g; have g4 := g.m; have g5 := g.a; have g6 := g.t; omega⟩)), rfl⟩
              exact (SubH.nil _)
            · replace hg53 := of_decide_eq_false hg53
              refine ops_skip' rfl rfl (ops_skip' rfl rfl (ops_skip' rfl rfl (ops_ro' rfl (ro_pick rfl rfl) rfl (ops_ro' rfl (ro_pick rfl rfl) rfl (ops_ro' rfl (ro_pick rfl rfl) rfl ?_))))); refine ops_ro' rfl (ro_assign rfl) rfl (ops_nil (Then_normal (wp_ret' ?_))); refine' doneS_ret (res1 rfl rfl) ?_ ?_
              rotate_left 1
              exact ⟨congrArg Value.bool (Eq.symm (Bool.eq_false_iff.2 (fun hr => absurd ((right_good x).1 hr) (fun g => by have g0 := g.f; have g1 := g.s; have g2 := g.u; have g3 := g.g; have g4 := g.m; have g5 := g.a; have g6 := g.t; omega)))), rfl⟩
              exact (SubH.nil _)
        · replace hg38 := of_decide_eq_false hg38
          refine ops_ro' rfl (ro_fieldAddr fa40_4 rfl) rfl (ops_ro' rfl (ro_load sc37 rfl (Rd.pick 0 rfl (Rd.own rfl))) rfl (ops_ro' rfl (ro_eql rfl rfl rfl) rfl (ops_ro' rfl (ro_pick rfl rfl) rfl (ops_ro' rfl (ro_pick rfl rfl) rfl (ops_split rfl rfl rfl (fun hg44 => ?_) (fun hg44 => ?_))))))
          · replace hg44 := of_decide_eq_true hg44
            refine ops_ro' rfl (ro_fieldAddr fa40_0 rfl) rfl (ops_ro' rfl (ro_load sc37 rfl (Rd.pick 0 rfl (Rd.own rfl))) rfl (ops_ro' rfl (ro_and rfl rfl (and32 hx.f (c := 8) (by decide) rfl)) rfl (ops_ro' rfl (ro_neq rfl rfl rfl) rfl (ops_split rfl rfl rfl (fun hg49 => ?_) (fun hg49 => ?_)))))
            · replace hg49 := of_decide_eq_true hg49
              refine ops_skip' rfl rfl (ops_skip' rfl rfl (ops_skip' rfl rfl (ops_skip' rfl rfl (ops_skip' rfl rfl (ops_skip' rfl rfl ?_))))); refine ops_skip' rfl rfl (ops_skip' rfl rfl (ops_ro' rfl (ro_pick rfl rfl) rfl (ops_ro' rfl (ro_pick rfl rfl) rfl (ops_ro' rfl (ro_assign rfl) rfl (ops_nil ?_))))); refine Then_normal (wp_ret' ?_); refine' doneS_ret (res1 rfl rfl) ?_ ?_
              rotate_left 1
              exact ⟨congrArg Value.bool (Eq.symm ((right_good x).2 ⟨by omega, by omega, by omega, by omega, by omega, by omega, by omega⟩)), rfl⟩
              exact (SubH.nil _)
            · replace hg49 := of_decide_eq_false hg49
              refine ops_ro' rfl (ro_fieldAddr fa40_5 rfl) rfl (ops_ro' rfl (ro_load sc37 rfl (Rd.pick 0 rfl (Rd.own rfl))) rfl (ops_ro' rfl (ro_eql rfl rfl rfl) rfl (ops_split rfl rfl rfl (fun hg53 => ?_) (fun hg53 => ?_))))
              · replace hg53 := of_decide_eq_true hg53
                refine ops_ro' rfl (ro_fieldAddr fa40_6 rfl) rfl (ops_ro' rfl (ro_load sc37 rfl (Rd.pick 0 rfl (Rd.own rfl))) rfl (ops_ro' rfl (ro_eql rfl rfl rfl) rfl (ops_ro' rfl (ro_pick rfl rfl) rfl (ops_ro' rfl (ro_pick rfl rfl) rfl (ops_ro' rfl (ro_pick rfl rfl) rfl ?_))))); refine ops_ro' rfl (ro_assign rfl) rfl (ops_nil (Then_normal (wp_ret' ?_))); refine' doneS_ret (res1 rfl rfl) ?_ ?_
                rotate_left 1
                exact ⟨congrArg Value.bool (Bool.eq_iff_iff.2 (by rw [decide_eq_true_eq, right_good]; exact ⟨fun h => ⟨by omega, by omega, by omega, by omega, by omega, by omega, by omega⟩, fun g => by have g0 := g.f; have g1 := g.s; have g2 := g.u; have g3 := g.g; have g4 := g.m; have g5 := g.a; have g6 := g.t; omega⟩)), rfl⟩
                exact (SubH.nil _)
              · replace hg53 := of_decide_eq_false hg53
                refine ops_skip' rfl rfl (ops_skip' rfl rfl (ops_skip' rfl rfl (ops_ro' rfl (ro_pick rfl rfl) rfl (ops_ro' rfl (ro_pick rfl rfl) rfl (ops_ro' rfl (ro_pick rfl rfl) rfl ?_))))); refine ops_ro' rfl (ro_assign rfl) rfl (ops_nil (Then_normal (wp_ret' ?_))); refine' doneS_ret (res1 rfl rfl) ?_ ?_
                rotate_left 1
                exact ⟨congrArg Value.bool (Eq.symm (Bool.eq_false_iff.2 (fun hr => absurd ((right_good x).1 hr) (fun g => by have g0 := g.f; have g1 := g.s; have g2 := g.u; have g3 := g.g; have g4 := g.m; have g5 := g.a; have g6 := g.t; omega)))), rfl⟩
                exact (SubH.nil _)
          · replace hg44 := of_decide_eq_false hg44
            refine ops_skip' rfl rfl (ops_skip' rfl rfl (ops_skip' rfl rfl (ops_skip' rfl rfl (ops_skip' rfl rfl (ops_skip' rfl rfl ?_))))); refine ops_skip' rfl rfl (ops_skip' rfl rfl (ops_skip' rfl rfl (ops_skip' rfl rfl (ops_skip' rfl rfl (ops_skip' rfl rfl ?_))))); refine ops_skip' rfl rfl (ops_skip' rfl rfl (ops_ro' rfl (ro_pick rfl rfl) rfl (ops_ro' rfl (ro_assign rfl) rfl (ops_nil (Then_normal ?_))))); refine wp_ret' ?_; refine' doneS_ret (res1 rfl rfl) ?_ ?_
            rotate_left 1
            exact ⟨congrArg Value.bool (Eq.symm (Bool.eq_false_iff.2 (fun hr => absurd ((right_good x).1 hr) (fun g => by have g0 := g.f; have g1 := g.s; have g2 := g.u; have g3 := g.g; have g4 := g.m; have g5 := g.a; have g6 := g.t; omega)))), rfl⟩
            exact (SubH.nil _)
      · replace hg22 := of_decide_eq_false hg22
        refine ops_ro' rfl (ro_fieldAddr fa40_2 rfl) rfl (ops_ro' rfl (ro_load sc37 rfl (Rd.pick 0 rfl (Rd.own rfl))) rfl (ops_ro' rfl (ro_eql rfl rfl rfl) rfl (ops_split rfl rfl rfl (fun hg26 => ?_) (fun hg26 => ?_))))
        · replace hg26 := of_decide_eq_true hg26
          refine ops_ro' rfl (ro_fieldAddr fa40_3 rfl) rfl (ops_ro' rfl (ro_load sc37 rfl (Rd.pick 0 rfl (Rd.own rfl))) rfl (ops_ro' rfl (ro_eql rfl rfl rfl) rfl (ops_ro' rfl (ro_pick rfl rfl) rfl (ops_ro' rfl (ro_pick rfl rfl) rfl (ops_ro' rfl (ro_pick rfl rfl) rfl ?_))))); refine ops_split rfl rfl rfl (fun hg33 => ?_) (fun hg33 => ?_)
          · replace hg33 := of_decide_eq_true hg33
            refine ops_ro' rfl (ro_fieldAddr fa40_0 rfl) rfl (ops_ro' rfl (ro_load sc37 rfl (Rd.pick 0 rfl (Rd.own rfl))) rfl (ops_ro' rfl (ro_and rfl rfl (and32 hx.f (c := 4) (by decide) rfl)) rfl (ops_ro' rfl (ro_neq rfl rfl rfl) rfl (ops_split rfl rfl rfl (fun hg38 => ?_) (fun hg38 => ?_)))))
            · replace hg38 := of_decide_eq_true hg38
              refine ops_skip' rfl rfl (ops_skip' rfl rfl (ops_skip' rfl rfl (ops_ro' rfl (ro_pick rfl rfl) rfl (ops_ro' rfl (ro_pick rfl rfl) rfl (ops_ro' rfl (ro_move (v := .bool true) rfl) rfl ?_))))); refine ops_ro' rfl (ro_fieldAddr fa40_0 rfl) rfl (ops_ro' rfl (ro_load sc37 rfl (Rd.pick 0 rfl (Rd.own rfl))) rfl (ops_ro' rfl (ro_and rfl rfl (and32 hx.f (c := 8) (by decide) rfl)) rfl (ops_ro' rfl (ro_neq rfl rfl rfl) rfl (ops_split rfl rfl rfl (fun hg49 => ?_) (fun hg49 => ?_)))))
              · replace hg49 := of_decide_eq_true hg49
                refine ops_skip' rfl rfl (ops_skip' rfl rfl (ops_skip' rfl rfl (ops_skip' rfl rfl (ops_skip' rfl rfl (ops_skip' rfl rfl ?_))))); refine ops_skip' rfl rfl (ops_skip' rfl rfl (ops_ro' rfl (ro_pick rfl rfl) rfl (ops_ro' rfl (ro_pick rfl rfl) rfl (ops_ro' rfl (ro_assign rfl) rfl (ops_nil ?_))))); refine Then_normal (wp_ret' ?_); refine' doneS_ret (res1 rfl rfl) ?_ ?_
                rotate_left 1
                exact ⟨congrArg Value.bool (Eq.symm ((right_good x).2 ⟨by omega, by omega, by omega, by omega, by omega, by omega, by omega⟩)), rfl⟩
                exact (SubH.nil _)
              · replace hg49 := of_decide_eq_false hg49
                refine ops_ro' rfl (ro_fieldAddr fa40_5 rfl) rfl (ops_ro' rfl (ro_load sc37 rfl (Rd.pick 0 rfl (Rd.own rfl))) rfl (ops_ro' rfl (ro_eql rfl rfl rfl) rfl (ops_split rfl rfl rfl (fun hg53 => ?_) (fun hg53 => ?_))))
                · replace hg53 := of_decide_eq_true hg53
                  refine ops_ro' rfl (ro_fieldAddr fa40_6 rfl) rfl (ops_ro' rfl (ro_load sc37 rfl (Rd.pick 0 rfl (Rd.own rfl))) rfl (ops_ro' rfl (ro_eql rfl rfl rfl) rfl (ops_ro' rfl (ro_pick rfl rfl) rfl (ops_ro' rfl (ro_pick rfl rfl) rfl (ops_ro' rfl (ro_pick rfl rfl) rfl ?_))))); refine ops_ro' rfl (ro_assign rfl) rfl (ops_nil (Then_normal (wp_ret' ?_))); refine' doneS_ret (res1 rfl rfl) ?_ ?_
                  rotate_left 1
                  exact ⟨congrArg Value.bool (Bool.eq_iff_iff.2 (by rw [decide_eq_true_eq, right_good]; exact ⟨fun h => ⟨by omega, by omega, by omega, by omega, by omega, by omega, by omega⟩, fun g => by have g0 := g.f; have g1 := g.s; have g2 := g.u; have g3 := g.g; have g4 := g.m; have g5 := g.a; have g6 := g.t; omega⟩)), rfl⟩
                  exact (SubH.nil _)
                · replace hg53 := of_decide_eq_false hg53
                  refine ops_skip' rfl rfl (ops_skip' rfl rfl (ops_skip' rfl rfl (ops_ro' rfl (ro_pick rfl rfl) rfl (ops_ro' rfl (ro_pick rfl rfl) rfl (ops_ro' rfl (ro_pick rfl rfl) rfl ?_))))); refine ops_ro' rfl (ro_assign rfl) rfl (ops_nil (Then_normal (wp_ret' ?_))); refine' doneS_ret (res1 rfl rfl) ?_ ?_
                  rotate_left 1
                  exact ⟨congrArg Value.bool (Eq.symm (Bool.eq_false_iff.2 (fun hr => absurd ((right_good x).1 hr) (fun g => by have g0 := g.f; have g1 := g.s; have g2 := g.u; have g3 := g.g; have g4 := g.m; have g5 := g.a; have g6 := g.t; omega)))), rfl⟩
                  exact (SubH.nil _)
            · replace hg38 := of_decide_eq_false hg38
              refine ops_ro' rfl (ro_fieldAddr fa40_4 rfl) rfl (ops_ro' rfl (ro_load sc37 rfl (Rd.pick 0 rfl (Rd.own rfl))) rfl (ops_ro' rfl (ro_eql rfl rfl rfl) rfl (ops_ro' rfl (ro_pick rfl rfl) rfl (ops_ro' rfl (ro_pick rfl rfl) rfl (ops_split rfl rfl rfl (fun hg44 => ?_) (fun hg44 => ?_))))))
              · replace hg44 := of_decide_eq_true hg44
                refine ops_ro' rfl (ro_fieldAddr fa40_0 rfl) rfl (ops_ro' rfl (ro_load sc37 rfl (Rd.pick 0 rfl (Rd.own rfl))) rfl (ops_ro' rfl (ro_and rfl rfl (and32 hx.f (c := 8) (by decide) rfl)) rfl (ops_ro' rfl (ro_neq rfl rfl rfl) rfl (ops_split rfl rfl rfl (fun hg49 => ?_) (fun hg49 => ?_)))))
                · replace hg49 := of_decide_eq_true hg49
                  refine ops_skip' rfl rfl (ops_skip' rfl rfl (ops_skip' rfl rfl (ops_skip' rfl rfl (ops_skip' rfl rfl (ops_skip' rfl rfl ?_))))); refine ops_skip' rfl rfl (ops_skip' rfl rfl (ops_ro' rfl (ro_pick rfl rfl) rfl (ops_ro' rfl (ro_pick rfl rfl) rfl (ops_ro' rfl (ro_assign rfl) rfl (ops_nil ?_))))); refine Then_normal (wp_ret' ?_); refine' doneS_ret (res1 rfl rfl) ?_ ?_
                  rotate_left 1
                  exact ⟨congrArg Value.bool (Eq.symm ((right_good x).2 ⟨by omega, by omega, by omega, by omega, by omega, by omega, by omega⟩)), rfl⟩
                  exact (SubH.nil _)
                · replace hg49 := of_decide_eq_false hg49
                  refine ops_ro' rfl (ro_fieldAddr fa40_5 rfl) rfl (ops_ro' rfl (ro_load sc37 rfl (Rd.pick 0 rfl (Rd.own rfl))) rfl (ops_ro' rfl (ro_eql rfl rfl rfl) rfl (ops_split rfl rfl rfl (fun hg53 => ?_) (fun hg53 => ?_))))
                  · replace hg53 := of_decide_eq_true hg53
                    refine ops_ro' rfl (ro_fieldAddr fa40_6 rfl) rfl (ops_ro' rfl (ro_load sc37 rfl (Rd.pick 0 rfl (Rd.own rfl))) rfl (ops_ro' rfl (ro_eql rfl rfl rfl) rfl (ops_ro' rfl (ro_pick rfl rfl) rfl (ops_ro' rfl (ro_pick rfl rfl) rfl (ops_ro' rfl (ro_pick rfl rfl) rfl ?_))))); refine ops_ro' rfl (ro_assign rfl) rfl (ops_nil (Then_normal (wp_ret' ?_))); refine' doneS_ret (res1 rfl rfl) ?_ ?_
                    rotate_left 1
                    exact ⟨congrArg Value.bool (Bool.eq_iff_iff.2 (by rw [decide_eq_true_eq, right_good]; exact ⟨fun h => ⟨by omega, by omega, by omega, by omega, by omega, by omega, by omega⟩, fun g => by have g0 := g.f; have g1 := g.s; have g2 := g.u; have g3 := g.g; have g4 := g.m; have g5 := g.a; have g6 := g.t; omega⟩)), rfl⟩
                    exact (SubH.nil _)
                  · replace hg53 := of_decide_eq_false hg53
                    refine ops_skip' rfl rfl (ops_skip' rfl rfl (ops_skip' rfl rfl (ops_ro' rfl (ro_pick rfl rfl) rfl (ops_ro' rfl (ro_pick rfl rfl) rfl (ops_ro' rfl (ro_pick rfl rfl) rfl ?_))))); refine ops_ro' rfl (ro_assign rfl) rfl (ops_nil (Then_normal (wp_ret' ?_))); refine' doneS_ret (res1 rfl rfl) ?_ ?_
                    rotate_left 1
                    exact ⟨congrArg Value.bool (Eq.symm (Bool.eq_false_iff.2 (fun hr => absurd ((right_good x).1 hr) (fun g => by have g0 := g.f; have g1 := g.s; have g2 := g.u; have g3 := g.g; have g4 := g.m; have g5 := g.a; have g6 := g.t; omega)))), rfl⟩
                    exact (SubH.nil _)
              · replace hg44 := of_decide_eq_false hg44
                refine ops_skip' rfl rfl (ops_skip' rfl rfl (ops_skip' rfl rfl (ops_skip' rfl rfl (ops_skip' rfl rfl (ops_skip' rfl rfl ?_))))); refine ops_skip' rfl rfl (ops_skip' rfl rfl (ops_skip' rfl rfl (ops_skip' rfl rfl (ops_skip' rfl rfl (ops_skip' rfl rfl ?_))))); refine ops_skip' rfl rfl (ops_skip' rfl rfl (ops_ro' rfl (ro_pick rfl rfl) rfl (ops_ro' rfl (ro_assign rfl) rfl (ops_nil (Then_normal ?_))))); refine wp_ret' ?_; refine' doneS_ret (res1 rfl rfl) ?_ ?_
                rotate_left 1
                exact ⟨congrArg Value.bool (Eq.symm (Bool.eq_false_iff.2 (fun hr => absurd ((right_good x).1 hr) (fun g => by have g0 := g.f; have g1 := g.s; have g2 := g.u; have g3 := g.g; have g4 := g.m; have g5 := g.a; have g6 := g.t; omega)))), rfl⟩
                exact (SubH.nil _)
          · replace hg33 := of_decide_eq_false hg33
            refine ops_skip' rfl rfl (ops_skip' rfl rfl (ops_skip' rfl rfl (ops_skip' rfl rfl (ops_skip' rfl rfl (ops_skip' rfl rfl ?_))))); refine ops_skip' rfl rfl (ops_skip' rfl rfl (ops_skip' rfl rfl (ops_ro' rfl (ro_pick rfl rfl) rfl (ops_ro' rfl (ro_move (v := .bool false) rfl) rfl (ops_skip' rfl rfl ?_))))); refine ops_skip' rfl rfl (ops_skip' rfl rfl (ops_skip' rfl rfl (ops_skip' rfl rfl (ops_skip' rfl rfl (ops_skip' rfl rfl ?_))))); refine ops_skip' rfl rfl (ops_skip' rfl rfl (ops_skip' rfl rfl (ops_skip' rfl rfl (ops_skip' rfl rfl (ops_skip' rfl rfl ?_))))); refine ops_skip' rfl rfl (ops_ro' rfl (ro_pick rfl rfl) rfl (ops_ro' rfl (ro_assign rfl) rfl (ops_nil (Then_normal (wp_ret' ?_))))); refine' doneS_ret (res1 rfl rfl) ?_ ?_
            rotate_left 1
            exact ⟨congrArg Value.bool (Eq.symm (Bool.eq_false_iff.2 (fun hr => absurd ((right_good x).1 hr) (fun g => by have g0 := g.f; have g1 := g.s; have g2 := g.u; have g3 := g.g; have g4 := g.m; have g5 := g.a; have g6 := g.t; omega)))), rfl⟩
            exact (SubH.nil _)
        · replace hg26 := of_decide_eq_false hg26
          refine ops_skip' rfl rfl (ops_skip' rfl rfl (ops_skip' rfl rfl (ops_ro' rfl (ro_pick rfl rfl) rfl (ops_ro' rfl (ro_pick rfl rfl) rfl (ops_ro' rfl (ro_pick rfl rfl) rfl ?_))))); refine ops_ro' rfl (ro_move (v := .bool false) rfl) rfl (ops_skip' rfl rfl (ops_skip' rfl rfl (ops_skip' rfl rfl (ops_skip' rfl rfl (ops_skip' rfl rfl ?_))))); refine ops_skip' rfl rfl (ops_skip' rfl rfl (ops_skip' rfl rfl (ops_skip' rfl rfl (ops_ro' rfl (ro_pick rfl rfl) rfl (ops_ro' rfl (ro_move (v := .bool false) rfl) rfl ?_))))); refine ops_skip' rfl rfl (ops_skip' rfl rfl (ops_skip' rfl rfl (ops_skip' rfl rfl (ops_skip' rfl rfl (ops_skip' rfl rfl ?_))))); refine ops_skip' rfl rfl (ops_skip' rfl rfl (ops_skip' rfl rfl (ops_skip' rfl rfl (ops_skip' rfl rfl (ops_skip' rfl rfl ?_))))); refine ops_skip' rfl rfl (ops_skip' rfl rfl (ops_ro' rfl (ro_pick rfl rfl) rfl (ops_ro' rfl (ro_assign rfl) rfl (ops_nil (Then_normal ?_))))); refine wp_ret' ?_; refine' doneS_ret (res1 rfl rfl) ?_ ?_
          rotate_left 1
          exact ⟨congrArg Value.bool (Eq.symm (Bool.eq_false_iff.2 (fun hr => absurd ((right_good x).1 hr) (fun g => by have g0 := g.f; have g1 := g.s; have g2 := g.u; have g3 := g.g; have g4 := g.m; have g5 := g.a; have g6 := g.t; omega)))), rfl⟩
          exact (SubH.nil _)
    · replace hg11 := of_decide_eq_false hg11
      refine ops_ro' rfl (ro_fieldAddr fa40_1 rfl) rfl (ops_ro' rfl (ro_load sc34 rfl (Rd.pick 0 rfl (Rd.own rfl))) rfl (ops_ro' rfl (ro_eql rfl rfl rfl) rfl (ops_ro' rfl (ro_pick rfl rfl) rfl (ops_ro' rfl (ro_pick rfl rfl) rfl (ops_split rfl rfl rfl (fun hg17 => ?_) (fun hg17 => ?_))))))
      · replace hg17 := of_decide_eq_true hg17
        refine ops_ro' rfl (ro_fieldAddr fa40_0 rfl) rfl (ops_ro' rfl (ro_load sc37 rfl (Rd.pick 0 rfl (Rd.own rfl))) rfl (ops_ro' rfl (ro_and rfl rfl (and32 hx.f (c := 2) (by decide) rfl)) rfl (ops_ro' rfl (ro_neq rfl rfl rfl) rfl (ops_split rfl rfl rfl (fun hg22 => ?_) (fun hg22 => ?_)))))
        · replace hg22 := of_decide_eq_true hg22
          refine ops_skip' rfl rfl (ops_skip' rfl rfl (ops_skip' rfl rfl (ops_skip' rfl rfl (ops_skip' rfl rfl (ops_skip' rfl rfl ?_))))); refine ops_skip' rfl rfl (ops_skip' rfl rfl (ops_ro' rfl (ro_pick rfl rfl) rfl (ops_ro' rfl (ro_pick rfl rfl) rfl (ops_ro' rfl (ro_move (v := .bool true) rfl) rfl (ops_ro' rfl (ro_fieldAddr fa40_0 rfl) rfl ?_))))); refine ops_ro' rfl (ro_load sc37 rfl (Rd.pick 0 rfl (Rd.own rfl))) rfl (ops_ro' rfl (ro_and rfl rfl (and32 hx.f (c := 4) (by decide) rfl)) rfl (ops_ro' rfl (ro_neq rfl rfl rfl) rfl (ops_split rfl rfl rfl (fun hg38 => ?_) (fun hg38 => ?_))))
          · replace hg38 := of_decide_eq_true hg38
            refine ops_skip' rfl rfl (ops_skip' rfl rfl (ops_skip' rfl rfl (ops_ro' rfl (ro_pick rfl rfl) rfl (ops_ro' rfl (ro_pick rfl rfl) rfl (ops_ro' rfl (ro_move (v := .bool true) rfl) rfl ?_))))); refine ops_ro' rfl (ro_fieldAddr fa40_0 rfl) rfl (ops_ro' rfl (ro_load sc37 rfl (Rd.pick 0 rfl (Rd.own rfl))) rfl (ops_ro' rfl (ro_and rfl rfl (and32 hx.f (c := 8) (by decide) rfl)) rfl (ops_ro' rfl (ro_neq rfl rfl rfl) rfl (ops_split rfl rfl rfl (fun hg49 => ?_) (fun hg49 => ?_)))))
            · replace hg49 := of_decide_eq_true hg49
              refine ops_skip' rfl rfl (ops_skip' rfl rfl (ops_skip' rfl rfl (ops_skip' rfl rfl (ops_skip' rfl rfl (ops_skip' rfl rfl ?_))))); refine ops_skip' rfl rfl (ops_skip' rfl rfl (ops_ro' rfl (ro_pick rfl rfl) rfl (ops_ro' rfl (ro_pick rfl rfl) rfl (ops_ro' rfl (ro_assign rfl) rfl (ops_nil ?_))))); refine Then_normal (wp_ret' ?_); refine' doneS_ret (res1 rfl rfl) ?_ ?_
              rotate_left 1
              exact ⟨congrArg Value.bool (Eq.symm ((right_good x).2 ⟨by omega, by omega, by omega, by omega, by omega, by omega, by omega⟩)), rfl⟩
              exact (SubH.nil _)
            · replace hg49 := of_decide_eq_false hg49
              refine ops_ro' rfl (ro_fieldAddr fa40_5 rfl) rfl (ops_ro' rfl (ro_load sc37 rfl (Rd.pick 0 rfl (Rd.own rfl))) rfl (ops_ro' rfl (ro_eql rfl rfl rfl) rfl (ops_split rfl rfl rfl (fun hg53 => ?_) (fun hg53 => ?_))))
              · replace hg53 := of_decide_eq_true hg53
                refine ops_ro' rfl (ro_fieldAddr fa40_6 rfl) rfl (ops_ro' rfl (ro_load sc37 rfl (Rd.pick 0 rfl (Rd.own rfl))) rfl (ops_ro' rfl (ro_eql rfl rfl rfl) rfl (ops_ro' rfl (ro_pick rfl rfl) rfl (ops_ro' rfl (ro_pick rfl rfl) rfl (ops_ro' rfl (ro_pick rfl rfl) rfl ?_))))); refine ops_ro' rfl (ro_assign rfl) rfl (ops_nil (Then_normal (wp_ret' ?_))); refine' doneS_ret (res1 rfl rfl) ?_ ?_
                rotate_left 1
                exact ⟨congrArg Value.bool (Bool.eq_iff_iff.2 (by rw [decide_eq_true_eq, right_good]; exact ⟨fun h => ⟨by omega, by omega, by omega, by omega, by omega, by omega, by omega⟩, fun g => by have g0 := g.f; have g1 := g.s; have g2 := g.u; have g3 := g.g; have g4 := g.m; have g5 := g.a; have g6 := g.t; omega⟩)), rfl⟩
                exact (SubH.nil _)
              · replace hg53 := of_decide_eq_false hg53
                refine ops_skip' rfl rfl (ops_skip' rfl rfl (ops_skip' rfl rfl (ops_ro' rfl (ro_pick rfl rfl) rfl (ops_ro' rfl (ro_pick rfl rfl) rfl (ops_ro' rfl (ro_pick rfl rfl) rfl ?_))))); refine ops_ro' rfl (ro_assign rfl) rfl (ops_nil (Then_normal (wp_ret' ?_))); refine' doneS_ret (res1 rfl rfl) ?_ ?_
                rotate_left 1
                exact ⟨congrArg Value.bool (Eq.symm (Bool.eq_false_iff.2 (fun hr => absurd ((right_good x).1 hr) (fun g => by have g0 := g.f; have g1 := g.s; have g2 := g.u; have g3 := g.g; have g4 := g.m; have g5 := g.a; have g6 := g.t; omega)))), rfl⟩
                exact (SubH.nil _)
          · replace hg38 := of_decide_eq_false hg38
            refine ops_ro' rfl (ro_fieldAddr fa40_4 rfl) rfl (ops_ro' rfl (ro_load sc37 rfl (Rd.pick 0 rfl (Rd.own rfl))) rfl (ops_ro' rfl (ro_eql rfl rfl rfl) rfl (ops_ro' rfl (ro_pick rfl rfl) rfl (ops_ro' rfl (ro_pick rfl rfl) rfl (ops_split rfl rfl rfl (fun hg44 => ?_) (fun hg44 => ?_))))))
            · replace hg44 := of_decide_eq_true hg44
              refine ops_ro' rfl (ro_fieldAddr fa40_0 rfl) rfl (ops_ro' rfl (ro_load sc37 rfl (Rd.pick 0 rfl (Rd.own rfl))) rfl (ops_ro' rfl (ro_and rfl rfl (and32 hx.f (c := 8) (by decide) rfl)) rfl (ops_ro' rfl (ro_neq rfl rfl rfl) rfl (ops_split rfl rfl rfl (fun hg49 => ?_) (fun hg49 => ?_)))))
              · replace hg49 := of_decide_eq_true hg49
                refine ops_skip' rfl rfl (ops_skip' rfl rfl (ops_skip' rfl rfl (ops_skip' rfl rfl (ops_skip' rfl rfl (ops_skip' rfl rfl ?_))))); refine ops_skip' rfl rfl (ops_skip' rfl rfl (ops_ro' rfl (ro_pick rfl rfl) rfl (ops_ro' rfl (ro_pick rfl rfl) rfl (ops_ro' rfl (ro_assign rfl) rfl (ops_nil ?_))))); refine Then_normal (wp_ret' ?_); refine' doneS_ret (res1 rfl rfl) ?_ ?_
                rotate_left 1
                exact ⟨congrArg Value.bool (Eq.symm ((right_good x).2 ⟨by omega, by omega, by omega, by omega, by omega, by omega, by omega⟩)), rfl⟩
                exact (SubH.nil _)
              · replace hg49 := of_decide_eq_false hg49
                refine ops_ro' rfl (ro_fieldAddr fa40_5 rfl) rfl (ops_ro' rfl (ro_load sc37 rfl (Rd.pick 0 rfl (Rd.own rfl))) rfl (ops_ro' rfl (ro_eql rfl rfl rfl) rfl (ops_split rfl rfl rfl (fun hg53 => ?_) (fun hg53 => ?_))))
                · replace hg53 := of_decide_eq_true hg53
                  refine ops_ro' rfl (ro_fieldAddr fa40_6 rfl) rfl (ops_ro' rfl (ro_load sc37 rfl (Rd.pick 0 rfl (Rd.own rfl))) rfl (ops_ro' rfl (ro_eql rfl rfl rfl) rfl (ops_ro' rfl (ro_pick rfl rfl) rfl (ops_ro' rfl (ro_pick rfl rfl) rfl (ops_ro' rfl (ro_pick rfl rfl) rfl ?_))))); refine ops_ro' rfl (ro_assign rfl) rfl (ops_nil (Then_normal (wp_ret' ?_))); refine' doneS_ret (res1 rfl rfl) ?_ ?_
                  rotate_left 1
                  exact ⟨congrArg Value.bool (Bool.eq_iff_iff.2 (by rw [decide_eq_true_eq, right_good]; exact ⟨fun h => ⟨by omega, by omega, by omega, by omega, by omega, by omega, by omega⟩, fun g => by have g0 := g.f; have g1 := g.s; have g2 := g.u; have g3 := g.g; have g4 := g.m; have g5 := g.a; have g6 := g.t; omega⟩)), rfl⟩
                  exact (SubH.nil _)
                · replace hg53 := of_decide_eq_false hg53
                  refine ops_skip' rfl rfl (ops_skip' rfl rfl (ops_skip' rfl rfl (ops_ro' rfl (ro_pick rfl rfl) rfl (ops_ro' rfl (ro_pick rfl rfl) rfl (ops_ro' rfl (ro_pick rfl rfl) rfl ?_))))); refine ops_ro' rfl (ro_assign rfl) rfl (ops_nil (Then_normal (wp_ret' ?_))); refine' doneS_ret (res1 rfl rfl) ?_ ?_
                  rotate_left 1
                  exact ⟨congrArg Value.bool (Eq.symm (Bool.eq_false_iff.2 (fun hr => absurd ((right_good x).1 hr) (fun g => by have g0 := g.f; have g1 := g.s; have g2 := g.u; have g3 := g.g; have g4 := g.m; have g5 := g.a; have g6 := g.t; omega)))), rfl⟩
                  exact (SubH.nil _)
            · replace hg44 := of_decide_eq_false hg44
              refine ops_skip' rfl rfl (ops_skip' rfl rfl (ops_skip' rfl rfl (ops_skip' rfl rfl (ops_skip' rfl rfl (ops_skip' rfl rfl ?_))))); refine ops_skip' rfl rfl (ops_skip' rfl rfl (ops_skip' rfl rfl (ops_skip' rfl rfl (ops_skip' rfl rfl (ops_skip' rfl rfl ?_))))); refine ops_skip' rfl rfl (ops_skip' rfl rfl (ops_ro' rfl (ro_pick rfl rfl) rfl (ops_ro' rfl (ro_assign rfl) rfl (ops_nil (Then_normal ?_))))); refine wp_ret' ?_; refine' doneS_ret (res1 rfl rfl) ?_ ?_
              rotate_left 1
              exact ⟨congrArg Value.bool (Eq.symm (Bool.eq_false_iff.2 (fun hr => absurd ((right_good x).1 hr) (fun g => by have g0 := g.f; have g1 := g.s; have g2 := g.u; have g3 := g.g; have g4 := g.m; have g5 := g.a; have g6 := g.t; omega)))), rfl⟩
              exact (SubH.nil _)
        · replace hg22 := of_decide_eq_false hg22
          refine ops_ro' rfl (ro_fieldAddr fa40_2 rfl) rfl (ops_ro' rfl (ro_load sc37 rfl (Rd.pick 0 rfl (Rd.own rfl))) rfl (ops_ro' rfl (ro_eql rfl rfl rfl) rfl (ops_split rfl rfl rfl (fun hg26 => ?_) (fun hg26 => ?_))))
          · replace hg26 := of_decide_eq_true hg26
            refine ops_ro' rfl (ro_fieldAddr fa40_3 rfl) rfl (ops_ro' rfl (ro_load sc37 rfl (Rd.pick 0 rfl (Rd.own rfl))) rfl (ops_ro' rfl (ro_eql rfl rfl rfl) rfl (ops_ro' rfl (ro_pick rfl rfl) rfl (ops_ro' rfl (ro_pick rfl rfl) rfl (ops_ro' rfl (ro_pick rfl rfl) rfl ?_))))); refine ops_split rfl rfl rfl (fun hg33 => ?_) (fun hg33 => ?_)
            · replace hg33 := of_decide_eq_true hg33
              refine ops_ro' rfl (ro_fieldAddr fa40_0 rfl) rfl (ops_ro' rfl (ro_load sc37 rfl (Rd.pick 0 rfl (Rd.own rfl))) rfl (ops_ro' rfl (ro_and rfl rfl (and32 hx.f (c := 4) (by decide) rfl)) rfl (ops_ro' rfl (ro_neq rfl rfl rfl) rfl (ops_split rfl rfl rfl (fun hg38 => ?_) (fun hg38 => ?_)))))
              · replace hg38 := of_decide_eq_true hg38
                refine ops_skip' rfl rfl (ops_skip' rfl rfl (ops_skip' rfl rfl (ops_ro' rfl (ro_pick rfl rfl) rfl (ops_ro' rfl (ro_pick rfl rfl) rfl (ops_ro' rfl (ro_move (v := .bool true) rfl) rfl ?_))))); refine ops_ro' rfl (ro_fieldAddr fa40_0 rfl) rfl (ops_ro' rfl (ro_load sc37 rfl (Rd.pick 0 rfl (Rd.own rfl))) rfl (ops_ro' rfl (ro_and rfl rfl (and32 hx.f (c := 8) (by decide) rfl)) rfl (ops_ro' rfl (ro_neq rfl rfl rfl) rfl (ops_split rfl rfl rfl (fun hg49 => ?_) (fun hg49 => ?_)))))
                · replace hg49 := of_decide_eq_true hg49
                  refine ops_skip' rfl rfl (ops_skip' rfl rfl (ops_skip' rfl rfl (ops_skip' rfl rfl (ops_skip' rfl rfl (ops_skip' rfl rfl ?_))))); refine ops_skip' rfl rfl (ops_skip' rfl rfl (ops_ro' rfl (ro_pick rfl rfl) rfl (ops_ro' rfl (ro_pick rfl rfl) rfl (ops_ro' rfl (ro_assign rfl) rfl (ops_nil ?_))))); refine Then_normal (wp_ret' ?_); refine' doneS_ret (res1 rfl rfl) ?_ ?_
                  rotate_left 1
                  exact ⟨congrArg Value.bool (Eq.symm ((right_good x).2 ⟨by omega, by omega, by omega, by omega, by omega, by omega, by omega⟩)), rfl⟩
                  exact (SubH.nil _)
                · replace hg49 := of_decide_eq_false hg49
                  refine ops_ro' rfl (ro_fieldAddr fa40_5 rfl) rfl (ops_ro' rfl (ro_load sc37 rfl (Rd.pick 0 rfl (Rd.own rfl))) rfl (ops_ro' rfl (ro_eql rfl rfl rfl) rfl (ops_split rfl rfl rfl (fun hg53 => ?_) (fun hg53 => ?_))))
                  · replace hg53 := of_decide_eq_true hg53
                    refine ops_ro' rfl (ro_fieldAddr fa40_6 rfl) rfl (ops_ro' rfl (ro_load sc37 rfl (Rd.pick 0 rfl (Rd.own rfl))) rfl (ops_ro' rfl (ro_eql rfl rfl rfl) rfl (ops_ro' rfl (ro_pick rfl rfl) rfl (ops_ro' rfl (ro_pick rfl rfl) rfl (ops_ro' rfl (ro_pick rfl rfl) rfl ?_))))); refine ops_ro' rfl (ro_assign rfl) rfl (ops_nil (Then_normal (wp_ret' ?_))); refine' doneS_ret (res1 rfl rfl) ?_ ?_
                    rotate_left 1
                    exact ⟨congrArg Value.bool (Bool.eq_iff_iff.2 (by rw [decide_eq_true_eq, right_good]; exact ⟨fun h => ⟨by omega, by omega, by omega, by omega, by omega, by omega, by omega⟩, fun g => by have g0 := g.f; have g1 := g.s; have g2 := g.u; have g3 := g.g; have g4 := g.m; have g5 := g.a; have g6 := g.t; omega⟩)), rfl⟩
                    exact (SubH.nil _)
                  · replace hg53 := of_decide_eq_false hg53
                    refine ops_skip' rfl rfl (ops_skip' rfl rfl (ops_skip' rfl rfl (ops_ro' rfl (ro_pick rfl rfl) rfl (ops_ro' rfl (ro_pick rfl rfl) rfl (ops_ro' rfl (ro_pick rfl rfl) rfl ?_))))); refine ops_ro' rfl (ro_assign rfl) rfl (ops_nil (Then_normal (wp_ret' ?_))); refine' doneS_ret (res1 rfl rfl) ?_ ?_
                    rotate_left 1
                    exact ⟨congrArg Value.bool (Eq.symm (Bool.eq_false_iff.2 (fun hr => absurd ((right_good x).1 hr) (fun g => by have g0 := g.f; have g1 := g.s; have g2 := g.u; have g3 := g.g; have g4 := g.m; have g5 := g.a; have g6 := g.t; omega)))), rfl⟩
                    exact (SubH.nil _)
              · replace hg38 := of_decide_eq_false hg38
                refine ops_ro' rfl (ro_fieldAddr fa40_4 rfl) rfl (ops_ro' rfl (ro_load sc37 rfl (Rd.pick 0 rfl (Rd.own rfl))) rfl (ops_ro' rfl (ro_eql rfl rfl rfl) rfl (ops_ro' rfl (ro_pick rfl rfl) rfl (ops_ro' rfl (ro_pick rfl rfl) rfl (ops_split rfl rfl rfl (fun hg44 => ?_) (fun hg44 => ?_))))))
                · replace hg44 := of_decide_eq_true hg44
                  refine ops_ro' rfl (ro_fieldAddr fa40_0 rfl) rfl (ops_ro' rfl (ro_load sc37 rfl (Rd.pick 0 rfl (Rd.own rfl))) rfl (ops_ro' rfl (ro_and rfl rfl (and32 hx.f (c := 8) (by decide) rfl)) rfl (ops_ro' rfl (ro_neq rfl rfl rfl) rfl (ops_split rfl rfl rfl (fun hg49 => ?_) (fun hg49 => ?_)))))
                  · replace hg49 := of_decide_eq_true hg49
                    refine ops_skip' rfl rfl (ops_skip' rfl rfl (ops_skip' rfl rfl (ops_skip' rfl rfl (ops_skip' rfl rfl (ops_skip' rfl rfl ?_))))); refine ops_skip' rfl rfl (ops_skip' rfl rfl (ops_ro' rfl (ro_pick rfl rfl) rfl (ops_ro' rfl (ro_pick rfl rfl) rfl (ops_ro' rfl (ro_assign rfl) rfl (ops_nil ?_))))); refine Then_normal (wp_ret' ?_); refine' doneS_ret (res1 rfl rfl) ?_ ?_
                    rotate_left 1
                    exact ⟨congrArg Value.bool (Eq.symm ((right_good x).2 ⟨by omega, by omega, by omega, by omega, by omega, by omega, by omega⟩)), rfl⟩
                    exact (SubH.nil _)
                  · replace hg49 := of_decide_eq_false hg49
                    refine ops_ro' rfl (ro_fieldAddr fa40_5 rfl) rfl (ops_ro' rfl (ro_load sc37 rfl (Rd.pick 0 rfl (Rd.own rfl))) rfl (ops_ro' rfl (ro_eql rfl rfl rfl) rfl (ops_split rfl rfl rfl (fun hg53 => ?_) (fun hg53 => ?_))))
                    · replace hg53 := of_decide_eq_true hg53
                      refine ops_ro' rfl (ro_fieldAddr fa40_6 rfl) rfl (ops_ro' rfl (ro_load sc37 rfl (Rd.pick 0 rfl (Rd.own rfl))) rfl (ops_ro' rfl (ro_eql rfl rfl rfl) rfl (ops_ro' rfl (ro_pick rfl rfl) rfl (ops_ro' rfl (ro_pick rfl rfl) rfl (ops_ro' rfl (ro_pick rfl rfl) rfl ?_))))); refine ops_ro' rfl (ro_assign rfl) rfl (ops_nil (Then_normal (wp_ret' ?_))); refine' doneS_ret (res1 rfl rfl) ?_ ?_
                      rotate_left 1
                      exact ⟨congrArg Value.bool (Bool.eq_iff_iff.2 (by rw [decide_eq_true_eq, right_good]; exact ⟨fun h => ⟨by omega, by omega, by omega, by omega, by omega, by omega, by omega⟩, fun g => by have g0 := g.f; have g1 := g.s; have g2 := g.u; have g3 := g.g; have g4 := g.m; have g5 := g.a; have g6 := g.t; omega⟩)), rfl⟩
                      exact (SubH.nil _)
                    · replace hg53 := of_decide_eq_false hg53
                      refine ops_skip' rfl rfl (ops_skip' rfl rfl (ops_skip' rfl rfl (ops_ro' rfl (ro_pick rfl rfl) rfl (ops_ro' rfl (ro_pick rfl rfl) rfl (ops_ro' rfl (ro_pick rfl rfl) rfl ?_))))); refine ops_ro' rfl (ro_assign rfl) rfl (ops_nil (Then_normal (wp_ret' ?_))); refine' doneS_ret (res1 rfl rfl) ?_ ?_
                      rotate_left 1
                      exact ⟨congrArg Value.bool (Eq.symm (Bool.eq_false_iff.2 (fun hr => absurd ((right_good x).1 hr) (fun g => by have g0 := g.f; have g1 := g.s; have g2 := g.u; have g3 := g.g; have g4 := g.m; have g5 := g.a; have g6 := g.t; omega)))), rfl⟩
                      exact (SubH.nil _)
                · replace hg44 := of_decide_eq_false hg44
                  refine ops_skip' rfl rfl (ops_skip' rfl rfl (ops_skip' rfl rfl (ops_skip' rfl rfl (ops_skip' rfl rfl (ops_skip' rfl rfl ?_))))); refine ops_skip' rfl rfl (ops_skip' rfl rfl (ops_skip' rfl rfl (ops_skip' rfl rfl (ops_skip' rfl rfl (ops_skip' rfl rfl ?_))))); refine ops_skip' rfl rfl (ops_skip' rfl rfl (ops_ro' rfl (ro_pick rfl rfl) rfl (ops_ro' rfl (ro_assign rfl) rfl (ops_nil (Then_normal ?_))))); refine wp_ret' ?_; refine' doneS_ret (res1 rfl rfl) ?_ ?_
                  rotate_left 1
                  exact ⟨congrArg Value.bool (Eq.symm (Bool.eq_false_iff.2 (fun hr => absurd ((right_good x).1 hr) (fun g => by have g0 := g.f; have g1 := g.s; have g2 := g.u; have g3 := g.g; have g4 := g.m; have g5 := g.a; have g6 := g.t; omega)))), rfl⟩
                  exact (SubH.nil _)
            · replace hg33 := of_decide_eq_false hg33
              refine ops_skip' rfl rfl (ops_skip' rfl rfl (ops_skip' rfl rfl (ops_skip' rfl rfl (ops_skip' rfl rfl (ops_skip' rfl rfl ?_))))); refine ops_skip' rfl rfl (ops_skip' rfl rfl (ops_skip' rfl rfl (ops_ro' rfl (ro_pick rfl rfl) rfl (ops_ro' rfl (ro_move (v := .bool false) rfl) rfl (ops_skip' rfl rfl ?_))))); refine ops_skip' rfl rfl (ops_skip' rfl rfl (ops_skip' rfl rfl (ops_skip' rfl rfl (ops_skip' rfl rfl (ops_skip' rfl rfl ?_))))); refine ops_skip' rfl rfl (ops_skip' rfl rfl (ops_skip' rfl rfl (ops_skip' rfl rfl (ops_skip' rfl rfl (ops_skip' rfl rfl ?_))))); refine ops_skip' rfl rfl (ops_ro' rfl (ro_pick rfl rfl) rfl (ops_ro' rfl (ro_assign rfl) rfl (ops_nil (Then_normal (wp_ret' ?_))))); refine' doneS_ret (res1 rfl rfl) ?_ ?_
              rotate_left 1
              exact ⟨congrArg Value.bool (Eq.symm (Bool.eq_false_iff.2 (fun hr => absurd ((right_good x).1 hr) (fun g => by have g0 := g.f; have g1 := g.s; have g2 := g.u; have g3 := g.g; have g4 := g.m; have g5 := g.a; have g6 := g.t; omega)))), rfl⟩
              exact (SubH.nil _)
          · replace hg26 := of_decide_eq_false hg26
            refine ops_skip' rfl rfl (ops_skip' rfl rfl (ops_skip' rfl rfl (ops_ro' rfl (ro_pick rfl rfl) rfl (ops_ro' rfl (ro_pick rfl rfl) rfl (ops_ro' rfl (ro_pick rfl rfl) rfl ?_))))); refine ops_ro' rfl (ro_move (v := .bool false) rfl) rfl (ops_skip' rfl rfl (ops_skip' rfl rfl (ops_skip' rfl rfl (ops_skip' rfl rfl (ops_skip' rfl rfl ?_))))); refine ops_skip' rfl rfl (ops_skip' rfl rfl (ops_skip' rfl rfl (ops_skip' rfl rfl (ops_ro' rfl (ro_pick rfl rfl) rfl (ops_ro' rfl (ro_move (v := .bool false) rfl) rfl ?_))))); refine ops_skip' rfl rfl (ops_skip' rfl rfl (ops_skip' rfl rfl (ops_skip' rfl rfl (ops_skip' rfl rfl (ops_skip' rfl rfl ?_))))); refine ops_skip' rfl rfl (ops_skip' rfl rfl (ops_skip' rfl rfl (ops_skip' rfl rfl (ops_skip' rfl rfl (ops_skip' rfl rfl ?_))))); refine ops_skip' rfl rfl (ops_skip' rfl rfl (ops_ro' rfl (ro_pick rfl rfl) rfl (ops_ro' rfl (ro_assign rfl) rfl (ops_nil (Then_normal ?_))))); refine wp_ret' ?_; refine' doneS_ret (res1 rfl rfl) ?_ ?_
            rotate_left 1
            exact ⟨congrArg Value.bool (Eq.symm (Bool.eq_false_iff.2 (fun hr => absurd ((right_good x).1 hr) (fun g => by have g0 := g.f; have g1 := g.s; have g2 := g.u; have g3 := g.g; have g4 := g.m; have g5 := g.a; have g6 := g.t; omega)))), rfl⟩
            exact (SubH.nil _)
      · replace hg17 := of_decide_eq_false hg17
        refine ops_skip' rfl rfl (ops_skip' rfl rfl (ops_skip' rfl rfl (ops_skip' rfl rfl (ops_skip' rfl rfl (ops_skip' rfl rfl ?_))))); refine ops_skip' rfl rfl (ops_skip' rfl rfl (ops_skip' rfl rfl (ops_skip' rfl rfl (ops_skip' rfl rfl (ops_skip' rfl rfl ?_))))); refine ops_skip' rfl rfl (ops_skip' rfl rfl (ops_ro' rfl (ro_pick rfl rfl) rfl (ops_ro' rfl (ro_move (v := .bool false) rfl) rfl (ops_skip' rfl rfl (ops_skip' rfl rfl ?_))))); refine ops_skip' rfl rfl (ops_skip' rfl rfl (ops_skip' rfl rfl (ops_skip' rfl rfl (ops_skip' rfl rfl (ops_skip' rfl rfl ?_))))); refine ops_skip' rfl rfl (ops_ro' rfl (ro_pick rfl rfl) rfl (ops_ro' rfl (ro_move (v := .bool false) rfl) rfl (ops_skip' rfl rfl (ops_skip' rfl rfl (ops_skip' rfl rfl ?_))))); refine ops_skip' rfl rfl (ops_skip' rfl rfl (ops_skip' rfl rfl (ops_skip' rfl rfl (ops_skip' rfl rfl (ops_skip' rfl rfl ?_))))); refine ops_skip' rfl rfl (ops_skip' rfl rfl (ops_skip' rfl rfl (ops_skip' rfl rfl (ops_skip' rfl rfl (ops_ro' rfl (ro_pick rfl rfl) rfl ?_))))); refine ops_ro' rfl (ro_assign rfl) rfl (ops_nil (Then_normal (wp_ret' ?_))); refine' doneS_ret (res1 rfl rfl) ?_ ?_
        rotate_left 1
        exact ⟨congrArg Value.bool (Eq.symm (Bool.eq_false_iff.2 (fun hr => absurd ((right_good x).1 hr) (fun g => by have g0 := g.f; have g1 := g.s; have g2 := g.u; have g3 := g.g; have g4 := g.m; have g5 := g.a; have g6 := g.t; omega)))), rfl⟩
        exact (SubH.nil _)
  · replace hg6 := of_decide_eq_false hg6
    refine ops_skip' rfl rfl (ops_skip' rfl rfl (ops_skip' rfl rfl (ops_skip' rfl rfl (ops_skip' rfl rfl (ops_skip' rfl rfl ?_))))); refine ops_skip' rfl rfl (ops_skip' rfl rfl (ops_skip' rfl rfl (ops_ro' rfl (ro_pick rfl rfl) rfl (ops_ro' rfl (ro_move (v := .bool false) rfl) rfl (ops_skip' rfl rfl ?_))))); refine ops_skip' rfl rfl (ops_skip' rfl rfl (ops_skip' rfl rfl (ops_skip' rfl rfl (ops_skip' rfl rfl (ops_skip' rfl rfl ?_))))); refine ops_skip' rfl rfl (ops_skip' rfl rfl (ops_skip' rfl rfl (ops_skip' rfl rfl (ops_skip' rfl rfl (ops_skip' rfl rfl ?_))))); refine ops_skip' rfl rfl (ops_ro' rfl (ro_pick rfl rfl) rfl (ops_ro' rfl (ro_move (v := .bool false) rfl) rfl (ops_skip' rfl rfl (ops_skip' rfl rfl (ops_skip' rfl rfl ?_))))); refine ops_skip' rfl rfl (ops_skip' rfl rfl (ops_skip' rfl rfl (ops_skip' rfl rfl (ops_skip' rfl rfl (ops_skip' rfl rfl ?_))))); refine ops_ro' rfl (ro_pick rfl rfl) rfl (ops_ro' rfl (ro_move (v := .bool false) rfl) rfl (ops_skip' rfl rfl (ops_skip' rfl rfl (ops_skip' rfl rfl (ops_skip' rfl rfl ?_))))); refine ops_skip' rfl rfl (ops_skip' rfl rfl (ops_skip' rfl rfl (ops_skip' rfl rfl (ops_skip' rfl rfl (ops_skip' rfl rfl ?_))))); refine ops_skip' rfl rfl (ops_skip' rfl rfl (ops_skip' rfl rfl (ops_skip' rfl rfl (ops_ro' rfl (ro_pick rfl rfl) rfl (ops_ro' rfl (ro_assign rfl) rfl ?_))))); refine ops_nil (Then_normal (wp_ret' ?_)); refine' doneS_ret (res1 rfl rfl) ?_ ?_
    rotate_left 1
    exact ⟨congrArg Value.bool (Eq.symm (Bool.eq_false_iff.2 (fun hr => absurd ((right_good x).1 hr) (fun g => by have g0 := g.f; have g1 := g.s; have g2 := g.u; have g3 := g.g; have g4 := g.m; have g5 := g.a; have g6 := g.t; omega)))), rfl⟩
    exact (SubH.nil _)


theorem m_f (x y : At) : ((((x.m2 y).m3 y).m4 y).m5 y).f = x.f := by
  unfold At.m5 At.m4 At.m3 At.m2
  repeat' split
  all_goals rfl
theorem merge_m (x y : At) : ((((x.m2 y).m3 y).m4 y).m5 y).m1 y = x.merge y := by
  unfold At.merge At.m5 At.m4 At.m3 At.m2 At.m1
  by_cases h1 : y.f &&& 1 = 0 <;> by_cases h2 : y.f &&& 2 = 0 <;> by_cases h3 : y.f &&& 4 = 0 <;> by_cases h4 : y.f &&& 8 = 0 <;> simp only [h1, h2, h3, h4, ne_eq, not_true_eq_false, not_false_eq_true, if_true, if_false]
theorem qmerge_run (x y : At) (hx : x.Ok) (hy : y.Ok) :
    Tri Try.prog 94 [x.v, y.v] [] (fun v H' => v = (x.merge y).v) := by
  refine tri_of_wp Try.func94 rfl Try.ntmps94 (by simp) ?_; refine wp_seq' (wp_region' (ops_eff' rfl (eff_box rfl) rfl ?_)); rintro _ _ ⟨b2, rfl, rfl⟩; refine ops_eff' rfl (eff_box rfl) rfl ?_; rintro _ _ ⟨b3, rfl, rfl⟩; refine ops_eff' rfl (eff_alloc z40) rfl ?_; rintro _ _ ⟨b4, rfl, rfl⟩; refine ops_nil ?_
  repeat (first | refine InBlock_normal ?_ | refine NoGoto_normal ?_ | refine Jump_normal ?_)
  refine Then_normal ?_; refine wp_cut (fun Γ H => Has Γ [(2, .pointer (some ⟨b2, 0, none⟩)), (3, .pointer (some ⟨b3, 0, none⟩)), (4, .pointer (some ⟨b4, 0, none⟩))] ∧ H = [own b4 (.cells At.zero.cs.toArray 40 (0, 0)), own b3 (.cells y.cs.toArray 40 (0, 0)), own b2 (.cells (x.m2 y).cs.toArray 40 (0, 0))]) ?_ ?_
  · refine wp_seq' (wp_region' (ops_ro' rfl (ro_fieldAddr fa40_0 rfl) rfl (ops_ro' rfl (ro_load sc37 rfl (Rd.pick 1 rfl (by first | exact Rd.own rfl | exact Rd.row rfl))) rfl (ops_ro' rfl (ro_and rfl rfl (and32 hy.f (c := 1) (by decide) rfl)) rfl (ops_ro' rfl (ro_neq rfl rfl rfl) rfl ?_))))); refine ops_nil ?_
    repeat (first | refine InBlock_normal ?_ | refine NoGoto_normal ?_ | refine Jump_normal ?_)
    refine Then_normal (wp_cond' rfl (fun hc0 => ?_) (fun hc0 => ?_))
    · try replace hc0 := of_decide_eq_true hc0
      refine wp_region' (ops_ro' rfl (ro_fieldAddr fa40_1 rfl) rfl (ops_ro' rfl (ro_load sc34 rfl (Rd.pick 1 rfl (by first | exact Rd.own rfl | exact Rd.row rfl))) rfl (ops_ro' rfl (ro_fieldAddr fa40_1 rfl) rfl (ops_eff0 rfl ((eff_store 2 sc34 rfl rfl rfl rfl (Nat.le_of_ble_eq_true rfl) (warm_zero _))) rfl ?_)))); rintro _ _ rfl; refine ops_nil ?_
      repeat (first | refine InBlock_normal ?_ | refine NoGoto_normal ?_ | refine Jump_normal ?_)
      refine Then_normal ?_; exact ⟨Has.cons rfl (Has.cons rfl (Has.cons rfl (Has.nil _))), by rw [At.m2, if_pos (by omega)]; rfl⟩
    · try replace hc0 := of_decide_eq_false hc0
      refine wp_skip' ?_
      repeat (first | refine InBlock_normal ?_ | refine NoGoto_normal ?_ | refine Jump_normal ?_)
      refine Then_normal ?_; exact ⟨Has.cons rfl (Has.cons rfl (Has.cons rfl (Has.nil _))), by rw [At.m2, if_neg (by omega)] <;> rfl⟩
  rintro Γ H ⟨hΓ, rfl⟩; refine wp_has hΓ ?_; refine wp_cut (fun Γ H => Has Γ [(2, .pointer (some ⟨b2, 0, none⟩)), (3, .pointer (some ⟨b3, 0, none⟩)), (4, .pointer (some ⟨b4, 0, none⟩))] ∧ H = [own b4 (.cells At.zero.cs.toArray 40 (0, 0)), own b3 (.cells y.cs.toArray 40 (0, 0)), own b2 (.cells ((x.m2 y).m3 y).cs.toArray 40 (0, 0))]) ?_ ?_
  · refine wp_seq' (wp_region' (ops_ro' rfl (ro_fieldAddr fa40_0 rfl) rfl (ops_ro' rfl (ro_load sc37 rfl (Rd.pick 1 rfl (by first | exact Rd.own rfl | exact Rd.row rfl))) rfl (ops_ro' rfl (ro_and rfl rfl (and32 hy.f (c := 2) (by decide) rfl)) rfl (ops_ro' rfl (ro_neq rfl rfl rfl) rfl ?_))))); refine ops_nil ?_
    repeat (first | refine InBlock_normal ?_ | refine NoGoto_normal ?_ | refine Jump_normal ?_)
    refine Then_normal (wp_cond' rfl (fun hc1 => ?_) (fun hc1 => ?_))
    · try replace hc1 := of_decide_eq_true hc1
      refine wp_seq' (wp_region' (ops_ro' rfl (ro_fieldAddr fa40_2 rfl) rfl (ops_ro' rfl (ro_load sc37 rfl (Rd.pick 1 rfl (by first | exact Rd.own rfl | exact Rd.row rfl))) rfl (ops_ro' rfl (ro_fieldAddr fa40_2 rfl) rfl (ops_eff0 rfl ((eff_store 2 sc37 rfl rfl rfl rfl (Nat.le_of_ble_eq_true rfl) (warm_zero _))) rfl ?_))))); rintro _ _ rfl; refine ops_nil ?_
      repeat (first | refine InBlock_normal ?_ | refine NoGoto_normal ?_ | refine Jump_normal ?_)
      refine Then_normal (wp_region' (ops_ro' rfl (ro_fieldAddr fa40_3 rfl) rfl (ops_ro' rfl (ro_load sc37 rfl (Rd.pick 1 rfl (by first | exact Rd.own rfl | exact Rd.row rfl))) rfl (ops_ro' rfl (ro_fieldAddr fa40_3 rfl) rfl (ops_eff0 rfl ((eff_store 2 sc37 rfl rfl rfl rfl (Nat.le_of_ble_eq_true rfl) (warm_zero _))) rfl ?_))))); rintro _ _ rfl; refine ops_nil ?_
      repeat (first | refine InBlock_normal ?_ | refine NoGoto_normal ?_ | refine Jump_normal ?_)
      refine Then_normal ?_; exact ⟨Has.cons rfl (Has.cons rfl (Has.cons rfl (Has.nil _))), by rw [At.m3, if_pos (by omega)]; rfl⟩
    · try replace hc1 := of_decide_eq_false hc1
      refine wp_skip' ?_
      repeat (first | refine InBlock_normal ?_ | refine NoGoto_normal ?_ | refine Jump_normal ?_)
      refine Then_normal ?_; exact ⟨Has.cons rfl (Has.cons rfl (Has.cons rfl (Has.nil _))), by rw [At.m3, if_neg (by omega)] <;> rfl⟩
  rintro Γ H ⟨hΓ, rfl⟩; refine wp_has hΓ ?_; refine wp_cut (fun Γ H => Has Γ [(2, .pointer (some ⟨b2, 0, none⟩)), (3, .pointer (some ⟨b3, 0, none⟩)), (4, .pointer (some ⟨b4, 0, none⟩))] ∧ H = [own b4 (.cells At.zero.cs.toArray 40 (0, 0)), own b3 (.cells y.cs.toArray 40 (0, 0)), own b2 (.cells (((x.m2 y).m3 y).m4 y).cs.toArray 40 (0, 0))]) ?_ ?_
  · refine wp_seq' (wp_region' (ops_ro' rfl (ro_fieldAddr fa40_0 rfl) rfl (ops_ro' rfl (ro_load sc37 rfl (Rd.pick 1 rfl (by first | exact Rd.own rfl | exact Rd.row rfl))) rfl (ops_ro' rfl (ro_and rfl rfl (and32 hy.f (c := 4) (by decide) rfl)) rfl (ops_ro' rfl (ro_neq rfl rfl rfl) rfl ?_))))); refine ops_nil ?_
    repeat (first | refine InBlock_normal ?_ | refine NoGoto_normal ?_ | refine Jump_normal ?_)
    refine Then_normal (wp_cond' rfl (fun hc2 => ?_) (fun hc2 => ?_))
    · try replace hc2 := of_decide_eq_true hc2
      refine wp_region' (ops_ro' rfl (ro_fieldAddr fa40_4 rfl) rfl (ops_ro' rfl (ro_load sc37 rfl (Rd.pick 1 rfl (by first | exact Rd.own rfl | exact Rd.row rfl))) rfl (ops_ro' rfl (ro_fieldAddr fa40_4 rfl) rfl (ops_eff0 rfl ((eff_store 2 sc37 rfl rfl rfl rfl (Nat.le_of_ble_eq_true rfl) (warm_zero _))) rfl ?_)))); rintro _ _ rfl; refine ops_nil ?_
      repeat (first | refine InBlock_normal ?_ | refine NoGoto_normal ?_ | refine Jump_normal ?_)
      refine Then_normal ?_; exact ⟨Has.cons rfl (Has.cons rfl (Has.cons rfl (Has.nil _))), by rw [At.m4, if_pos (by omega)]; rfl⟩
    · try replace hc2 := of_decide_eq_false hc2
      refine wp_skip' ?_
      repeat (first | refine InBlock_normal ?_ | refine NoGoto_normal ?_ | refine Jump_normal ?_)
      refine Then_normal ?_; exact ⟨Has.cons rfl (Has.cons rfl (Has.cons rfl (Has.nil _))), by rw [At.m4, if_neg (by omega)] <;> rfl⟩
  rintro Γ H ⟨hΓ, rfl⟩; refine wp_has hΓ ?_; refine wp_cut (fun Γ H => Has Γ [(2, .pointer (some ⟨b2, 0, none⟩)), (3, .pointer (some ⟨b3, 0, none⟩)), (4, .pointer (some ⟨b4, 0, none⟩))] ∧ H = [own b4 (.cells At.zero.cs.toArray 40 (0, 0)), own b3 (.cells y.cs.toArray 40 (0, 0)), own b2 (.cells ((((x.m2 y).m3 y).m4 y).m5 y).cs.toArray 40 (0, 0))]) ?_ ?_
  · refine wp_seq' (wp_region' (ops_ro' rfl (ro_fieldAddr fa40_0 rfl) rfl (ops_ro' rfl (ro_load sc37 rfl (Rd.pick 1 rfl (by first | exact Rd.own rfl | exact Rd.row rfl))) rfl (ops_ro' rfl (ro_and rfl rfl (and32 hy.f (c := 8) (by decide) rfl)) rfl (ops_ro' rfl (ro_neq rfl rfl rfl) rfl ?_))))); refine ops_nil ?_
    repeat (first | refine InBlock_normal ?_ | refine NoGoto_normal ?_ | refine Jump_normal ?_)
    refine Then_normal (wp_cond' rfl (fun hc3 => ?_) (fun hc3 => ?_))
    · try replace hc3 := of_decide_eq_true hc3
      refine wp_seq' (wp_region' (ops_ro' rfl (ro_fieldAddr fa40_5 rfl) rfl (ops_ro' rfl (ro_load sc37 rfl (Rd.pick 1 rfl (by first | exact Rd.own rfl | exact Rd.row rfl))) rfl (ops_ro' rfl (ro_fieldAddr fa40_5 rfl) rfl (ops_eff0 rfl ((eff_store 2 sc37 rfl rfl rfl rfl (Nat.le_of_ble_eq_true rfl) (warm_zero _))) rfl ?_))))); rintro _ _ rfl; refine ops_nil ?_
      repeat (first | refine InBlock_normal ?_ | refine NoGoto_normal ?_ | refine Jump_normal ?_)
      refine Then_normal (wp_region' (ops_ro' rfl (ro_fieldAddr fa40_6 rfl) rfl (ops_ro' rfl (ro_load sc37 rfl (Rd.pick 1 rfl (by first | exact Rd.own rfl | exact Rd.row rfl))) rfl (ops_ro' rfl (ro_fieldAddr fa40_6 rfl) rfl (ops_eff0 rfl ((eff_store 2 sc37 rfl rfl rfl rfl (Nat.le_of_ble_eq_true rfl) (warm_zero _))) rfl ?_))))); rintro _ _ rfl; refine ops_nil ?_
      repeat (first | refine InBlock_normal ?_ | refine NoGoto_normal ?_ | refine Jump_normal ?_)
      refine Then_normal ?_; exact ⟨Has.cons rfl (Has.cons rfl (Has.cons rfl (Has.nil _))), by rw [At.m5, if_pos (by omega)]; rfl⟩
    · try replace hc3 := of_decide_eq_false hc3
      refine wp_skip' ?_
      repeat (first | refine InBlock_normal ?_ | refine NoGoto_normal ?_ | refine Jump_normal ?_)
      refine Then_normal ?_; exact ⟨Has.cons rfl (Has.cons rfl (Has.cons rfl (Has.nil _))), by rw [At.m5, if_neg (by omega)] <;> rfl⟩
  rintro Γ H ⟨hΓ, rfl⟩; refine wp_has hΓ ?_; refine wp_seq' ?_; have hff : (((((x.m2 y).m3 y).m4 y).m5 y)).f < 4294967296 := by rw [m_f]; exact hx.f
  refine wp_region' (ops_ro' rfl (ro_fieldAddr fa40_0 rfl) rfl (ops_ro' rfl (ro_load sc37 rfl (Rd.pick 2 rfl (by first | exact Rd.own rfl | exact Rd.row rfl))) rfl (ops_ro' rfl (ro_fieldAddr fa40_0 rfl) rfl (ops_ro' rfl (ro_load sc37 rfl (Rd.pick 1 rfl (by first | exact Rd.own rfl | exact Rd.row rfl))) rfl (ops_ro' rfl (ro_or rfl rfl (or32 hff hy.f)) rfl ?_))))); refine ops_ro' rfl (ro_fieldAddr fa40_0 rfl) rfl (ops_eff0 rfl ((eff_store 2 sc37 rfl rfl rfl rfl (Nat.le_of_ble_eq_true rfl) (warm_zero _))) rfl ?_); rintro _ _ rfl; refine ops_nil ?_
  repeat (first | refine InBlock_normal ?_ | refine NoGoto_normal ?_ | refine Jump_normal ?_)
  refine Then_normal (wp_seq' (wp_region' (ops_ro' rfl (ro_loadA ag40 rfl (RdN.of_pick 2 rfl rdn_all) rfl) rfl (ops_eff0 rfl ((eff_storeA 0 ag40 rfl rfl rfl rfl rfl (Nat.le_of_ble_eq_true rfl) (warm_zero _))) rfl ?_)))); rintro _ _ rfl; refine ops_nil ?_
  repeat (first | refine InBlock_normal ?_ | refine NoGoto_normal ?_ | refine Jump_normal ?_)
  refine Then_normal (wp_ret' ?_)
  repeat (first | refine Then_ret ?_ | refine InBlock_ret ?_ | refine NoGoto_ret ?_ | refine Jump_ret ?_)
  refine done_ret (resv1 rfl (rv_cellA ag40 rfl (RdN.of_pick 0 rfl rdn_all) rfl)) ?_; rw [← merge_m]; rfl
theorem qmerge_spec (x y : At) (hx : x.Ok) (hy : y.Ok) : Tri Try.prog 94 [x.v, y.v] [] (fun v H' => v = (x.merge y).v ∧ H' = []) := tri_forget (qmerge_run x y hx hy) fun v H h => h

end Go.Proofs.Ytbbmhppkhcodfaa
namespace Go.Proofs.Ytbbmhppkhcodfaa
open Go.Sx
set_option linter.unusedVariables false
set_option linter.unusedSimpArgs false
set_option maxRecDepth 100000
set_option maxHeartbeats 4000000

def Th.att (x : Th) (a : At) : Th := { x with a := a }
theorem set_same {α : Type} {l : List α} {i : Nat} {x : α} (h : l[i]? = some x) : l.set i x = l := by
  refine List.ext_getElem? fun j => ?_
  rw [List.getElem?_set]
  split
  · rename_i e; subst e; rw [if_pos (List.getElem?_eq_some_iff.1 h).1, h]
  · rfl
theorem ths_same {l : List Th} {i : Nat} {x y : Th} (h : l[i]? = some x) (hy : thB y = thB x) : ths (l.set i y) = ths l := by
  unfold ths; rw [List.map_set, hy, set_same (by rw [List.getElem?_map, h]; rfl)]
theorem ratt_close {w : Rt} {p : Option Addr} {c i : Nat} {x y : Th} {V : List HProp} (hi : w.L[i]? = some x) (hy : thB y = thB x) : SubH ([own w.tb (.cells ([.slice p (w.L).length c, .int .i64 ((w.next : Nat) : Int)] : List Value).toArray 74 (0, 0)), row 109 12 (.slice p w.L.length c) w.L.length (flat Th.cs (w.L.set i y)), ths w.L] ++ V) (rtree ⟨w.tb, p, c, w.next, w.L.set i y⟩ :: V) := fun u F s => by
  refine rtree_shut (w := ⟨w.tb, p, c, w.next, w.L.set i y⟩) ?_; have e : (w.L.set i y).length = w.L.length := List.length_set
  show sat u (star (St (own w.tb (.cells ([.slice p (w.L.set i y).length c, .int .i64 ((w.next : Nat) : Int)] : List Value).toArray 74 (0, 0)) :: row 109 12 (.slice p (w.L.set i y).length c) (w.L.set i y).length (flat Th.cs (w.L.set i y)) :: ths (w.L.set i y) :: V)) F)
  rw [e, ths_same hi hy]; exact s
theorem flat_att {l : List Th} {i : Nat} {y : Th} {a : At} (hi : l[i]? = some y) : over (flat Th.cs l) (0 + i * 12 + 5) a.cs = flat Th.cs (l.set i (y.att a)) := by
  rw [Nat.zero_add]; exact flat_part Th.len hi (Nat.le_refl 12) (by simp only [Th.att, Th.cs, At.cs, over]; rfl)
theorem flat_att0 {l : List Th} {i : Nat} {y : Th} {a : At} (hi : l[i]? = some (y.att a)) : (flat Th.cs l).set (0 + i * 12 + 5 + 1) (.int .u64 0) = flat Th.cs (l.set i (y.att { a with s := 0 })) := by
  rw [show 0 + i * 12 + 5 + 1 = i * 12 + 6 by omega]; exact flat_set Th.len hi (by omega) rfl
/-- what Set does -/
def SetW (w : Rt) (id : Int) (bw : At) (w' : Rt) (e : Int) : Prop :=
  (tAt w.L id = none ∧ e = 22 ∧ w' = w) ∨ ∃ i x, w.L[i]? = some x ∧ tAt w.L id = some x ∧
    ((bw.right = false ∧ e = 1 ∧ w' = w) ∨ (bw.right = true ∧ bw.f &&& 1 ≠ 0 ∧ x.dir = true ∧ e = 23 ∧ w' = w) ∨ (bw.right = true ∧ bw.f &&& 1 ≠ 0 ∧ x.dir = false ∧ szR w.L x bw.s = e ∧ e ≠ 0 ∧ w' = w) ∨
     (bw.right = true ∧ e = 0 ∧ w'.tb = w.tb ∧ w'.next = w.next ∧ ∃ y, w'.L = w.L.set i (y.att { x.a.merge bw with s := 0 }) ∧
       ((bw.f &&& 1 = 0 ∧ y = x) ∨ (bw.f &&& 1 ≠ 0 ∧ x.dir = false ∧ szR w.L x bw.s = 0 ∧ ∃ p c, y = x.with p c (szd x.b bw.s)))))
theorem rset_spec {V : HProp} {w : Rt} (hfew : w.L.length ≤ 100000) (hs : (w.L.map fun y : Th => y.b.length).sum ≤ 1048576) (hok : ∀ x ∈ w.L, x.a.Ok) (id : Int) (bw : At) (hbw : bw.Ok) :
    Tri Try.prog 64 [w.v, .int .i64 id, bw.v] [rtree w] (fun v H' => ∃ w' e, v = .int .i64 e ∧ SetW w id bw w' e ∧ H' = [rtree w']) := by
  rcases atI_cases w.L id with ⟨ha2, ht⟩ | ⟨i, x, ha2, hxi, ht, hxk⟩
  · skip; refine tri_of_wpS Try.func64 rfl Try.ntmps64 (by simp) ?_; refine wp_seq' (wp_region' (ops_eff' rfl (eff_box rfl) rfl ?_)); rintro _ _ ⟨b5, rfl, rfl⟩; refine ops_ro' rfl (ro_assign rfl) rfl (ops_nil (Then_normal (wp_seq' (wp_region' (ops_ro' rfl (ro_move rfl) rfl ?_))))); refine ops_ro' rfl (ro_move rfl) rfl (ops_eff' rfl (eff_callM (Pre := []) Try.call89 rfl rfl (Split.nil _) (rat_spec (Rv.pick 1 rfl (rtree_rv hfew)) id)) rfl ?_); rintro _ H' ⟨_, ⟨rfl, rfl⟩, hH⟩; simp only [zA, zB, zC, zD, zE, zF] at hH; subst hH; rw [ha2]; refine ops_ro' rfl (ro_assign rfl) rfl (ops_nil (Then_normal (wp_seq' (wp_seq' (wp_region' ?_))))); refine ops_ro' rfl (ro_move rfl) rfl (ops_ro' rfl (ro_lss rfl rfl (decide_eq_true (by omega))) rfl (ops_nil (Then_normal (wp_condT rfl ?_)))); refine wp_seq' (wp_region' (ops_ro' rfl (ro_assign rfl) rfl (ops_nil (Then_normal (wp_ret' ?_))))); refine Then_ret ?_; refine' doneS_ret (res1 rfl rfl) ?_ ?_
    rotate_left 1
    exact ⟨w, 22, rfl, .inl ⟨ht, rfl, rfl⟩, rfl⟩
    exact (SubH.cons 1 rfl (SubH.nil _))
  · have hi := (List.getElem?_eq_some_iff.1 hxi).1
    have hxa := hok x (List.mem_of_getElem? hxi)
    refine tri_of_wpS Try.func64 rfl Try.ntmps64 (by simp) ?_; refine wp_seq' (wp_region' (ops_eff' rfl (eff_box rfl) rfl ?_)); rintro _ _ ⟨b5, rfl, rfl⟩; refine ops_ro' rfl (ro_assign rfl) rfl (ops_nil (Then_normal (wp_seq' (wp_region' (ops_ro' rfl (ro_move rfl) rfl ?_))))); refine ops_ro' rfl (ro_move rfl) rfl (ops_eff' rfl (eff_callM (Pre := []) Try.call89 rfl rfl (Split.nil _) (rat_spec (Rv.pick 1 rfl (rtree_rv hfew)) id)) rfl ?_); rintro _ H' ⟨_, ⟨rfl, rfl⟩, hH⟩; simp only [zA, zB, zC, zD, zE, zF] at hH; subst hH; rw [ha2]; refine ops_ro' rfl (ro_assign rfl) rfl (ops_nil (Then_normal (wp_seq' (wp_seq' (wp_region' ?_))))); refine ops_ro' rfl (ro_move rfl) rfl (ops_ro' rfl (ro_lss rfl rfl (decide_eq_false (by omega))) rfl (ops_nil (Then_normal (wp_condF rfl ?_)))); refine wp_skip' ?_; refine Then_normal (wp_seq' (wp_seq' (wp_region' (ops_ro' rfl (ro_loadA ag40 rfl (RdN.of_pick 0 rfl rdn_all) rfl) rfl (ops_eff' rfl (eff_call Try.call93 rfl rfl (by repeat (first | exact Split.nil _ | apply Split.cons 0 rfl | apply Split.cons 1 rfl | apply Split.cons 2 rfl | apply Split.cons 3 rfl | apply Split.cons 4 rfl | apply Split.cons 5 rfl | apply Split.cons 6 rfl | apply Split.cons 7 rfl)) (q14right bw hbw)) rfl ?_))))); rintro _ H' ⟨_, ⟨rfl, rfl⟩, hH⟩; simp only [zA, zB, zC, zD, zE, zF] at hH; subst hH; refine ops_ro' rfl (ro_not rfl rfl) rfl (ops_nil (Then_normal (wp_cond' rfl (fun hc16 => ?_) (fun hc16 => ?_))))
    · simp only [Bool.and_eq_true, decide_eq_true_eq, Bool.not_eq_true', decide_eq_false_iff_not, bne_iff_ne, ne_eq] at hc16; have hr : bw.right = false := by simpa using hc16
      refine wp_seq' (wp_region' (ops_ro' rfl (ro_assign rfl) rfl (ops_nil (Then_normal (wp_ret' ?_))))); refine Then_ret ?_; refine' doneS_ret (res1 rfl rfl) ?_ ?_
      rotate_left 1
      exact ⟨w, 1, rfl, .inr ⟨i, x, hxi, ht, .inl ⟨hr, rfl, rfl⟩⟩, rfl⟩
      exact (SubH.cons 1 rfl (SubH.nil _))
    · simp only [Bool.and_eq_false_iff, decide_eq_false_iff_not, Bool.not_eq_false', decide_eq_true_eq] at hc16; have hr : bw.right = true := by simpa using hc16
      refine wp_skip' ?_; refine Then_normal ?_; refine wp_cutK 1012 (fun Δ LL => ∃ (q1 : Option Addr) (k1 : Nat) (l1 : List Th) (y1 : Th), (l1 = w.L.set i y1 ∧ y1.a = x.a ∧ bw.right = true ∧ ((bw.f &&& 1 = 0 ∧ y1 = x) ∨ (bw.f &&& 1 ≠ 0 ∧ x.dir = false ∧ szR w.L x bw.s = 0 ∧ ∃ p c, y1 = x.with p c (szd x.b bw.s)))) ∧ Δ = [] ∧ LL = [own b5 (.cells bw.cs.toArray 40 (0, 0)), rtree (⟨w.tb, q1, k1, w.next, l1⟩ : Rt)]) (Has.cons (k := 0) rfl (Has.cons (k := 5) rfl (Has.cons (k := 7) rfl (Has.nil _)))) ?_ ?_
      · refine wp_seq' (wp_region' (ops_ro' rfl (ro_fieldAddr fa40_0 rfl) rfl (ops_ro' rfl (ro_load sc37 rfl (Rd.pick 0 rfl (Rd.own rfl))) rfl (ops_ro' rfl (ro_and rfl rfl (and32 hbw.f (by decide) rfl)) rfl (ops_ro' rfl (ro_neq rfl rfl rfl) rfl ?_))))); refine ops_nil (Then_normal (wp_cond' rfl (fun hc20 => ?_) (fun hc20 => ?_)))
        · replace hc20 := of_decide_eq_true hc20
          dsimp only at hc20; refine wp_seq' (wp_seq' ?_); have hls := (rtree_rv hfew).ls
          refine wp_know (fun u F s => vw_ptr (Vw.pick (H := [_, rtree w]) 1 rfl hls) s (by omega)) ?_; rintro ⟨b0, o0, hwp⟩; rw [hwp] at hls; refine wp_region' (ops_ro' rfl (ro_move rfl) rfl (ops_ro' rfl (ro_nilCheck rfl) rfl (ops_ro' rfl (ro_fieldAddr fa74_0 rfl) rfl (ops_ro' rfl (ro_load sc72 rfl (Rd.pick 1 rfl (((rtree_rv hfew).cs 0 _ rfl)))) rfl ?_))))
          try rw [hwp]
          refine ops_ro' rfl (ro_move rfl) rfl (ops_ro' rfl (ro_indexSlice sl72 rfl rfl rfl (by omega)) rfl (ops_ro' rfl (ro_fieldAddr fa109_3 rfl) rfl (ops_ro' rfl (ro_load sc4 rfl (Rd.pick 1 rfl ((Rd.elem (j := 3) (vw_rdn hls) Th.len hxi rfl)))) rfl (ops_nil (Then_normal ?_))))); refine wp_cond' rfl (fun hc28 => ?_) (fun hc28 => ?_)
          · skip; refine wp_seq' (wp_region' (ops_ro' rfl (ro_assign rfl) rfl (ops_nil (Then_normal (wp_ret' ?_))))); refine Then_ret ?_; refine Then_ret ?_; refine' doneS_ret (res1 rfl rfl) ?_ ?_
            rotate_left 1
            exact ⟨w, 23, rfl, .inr ⟨i, x, hxi, ht, .inr (.inl ⟨hr, by omega, by simpa using hc28, rfl, rfl⟩)⟩, rfl⟩
            exact (SubH.cons 1 rfl (SubH.nil _))
          · skip; have hd : x.dir = false := by simpa using hc28
            refine wp_skip' ?_; refine Then_normal (wp_seq' (wp_region' (ops_ro' rfl (ro_move rfl) rfl (ops_ro' rfl (ro_move rfl) rfl (ops_ro' rfl (ro_fieldAddr fa40_1 rfl) rfl ?_))))); refine ops_ro' rfl (ro_load sc34 rfl (Rd.pick 0 rfl (Rd.own rfl))) rfl (ops_eff' rfl (eff_call Try.call91 rfl rfl (by repeat (first | exact Split.nil _ | apply Split.cons 0 rfl | apply Split.cons 1 rfl | apply Split.cons 2 rfl | apply Split.cons 3 rfl | apply Split.cons 4 rfl | apply Split.cons 5 rfl | apply Split.cons 6 rfl | apply Split.cons 7 rfl)) (rsize_spec hfew hs hxi bw.s hbw.s)) rfl ?_); rintro _ H' ⟨_, ⟨w1, e1, rfl, hR, rfl⟩, hH⟩; simp only [zA, zB, zC, zD, zE, zF] at hH; subst hH; refine ops_ro' rfl (ro_assign rfl) rfl (ops_nil (Then_normal (wp_seq' (wp_region' (ops_ro' rfl (ro_move rfl) rfl ?_))))); refine ops_ro' rfl (ro_neq rfl rfl rfl) rfl (ops_nil (Then_normal (wp_cond' rfl (fun hc35 => ?_) (fun hc35 => ?_))))
            · replace hc35 := of_decide_eq_true hc35
              refine wp_seq' (wp_region' (ops_ro' rfl (ro_move rfl) rfl (ops_ro' rfl (ro_assign rfl) rfl (ops_nil (Then_normal ?_))))); refine wp_ret' ?_; refine Then_ret ?_; refine' doneS_ret (res1 rfl rfl) ?_ ?_
              rotate_left 1
              rcases hR with ⟨h1, rfl, h3⟩ | ⟨h1, _⟩
              · exact ⟨_, e1, rfl, .inr ⟨i, x, hxi, ht, .inr (.inr (.inl ⟨hr, by omega, hd, h3.symm, h1, rfl⟩))⟩, rfl⟩
              · exact absurd h1 (by omega)
              exact (SubH.cons 0 rfl (SubH.nil _))
            · replace hc35 := of_decide_eq_false hc35
              obtain ⟨hz0, tb2, nx2, p1, c1, hl1⟩ : szR w.L x bw.s = 0 ∧ w1.tb = w.tb ∧ w1.next = w.next ∧ ∃ p c, w1.L = w.L.set i (x.with p c (szd x.b bw.s)) := by
                rcases hR with ⟨h1, _⟩ | ⟨_, h2⟩
                · exact absurd h1 (by omega)
                · exact h2
              clear hR; obtain ⟨tb1, q1, k1, nx1, l1⟩ := w1
              simp only at tb2 nx2 hl1
              subst tb2; subst nx2; refine wp_skip' ?_; refine Then_normal (over_cut (kept ⟨q1, k1, l1, x.with p1 c1 (szd x.b bw.s), ⟨hl1, rfl, hr, .inr ⟨by omega, hd, hz0, p1, c1, rfl⟩⟩, rfl, rfl⟩ ?_ ?_ ?_))
              · exact (by repeat (first | exact Has.nil _ | refine Has.cons rfl ?_))
              · exact (by repeat (first | exact Has.nil _ | refine Has.cons rfl ?_))
              · exact (SubH.cons 1 rfl (SubH.cons 0 rfl (SubH.nil _)))
        · replace hc20 := of_decide_eq_false hc20
          dsimp only at hc20; refine wp_skip' ?_; refine Then_normal (over_cut (kept ⟨w.p, w.c, w.L, x, ⟨(set_same hxi).symm, rfl, hr, .inl ⟨by omega, rfl⟩⟩, rfl, rfl⟩ ?_ ?_ ?_))
          · exact (by repeat (first | exact Has.nil _ | refine Has.cons rfl ?_))
          · exact (by repeat (first | exact Has.nil _ | refine Has.cons rfl ?_))
          · exact SubH.refl _
      · rintro Δ LL ⟨q1, k1, l1, y1, ⟨hl1, hya, hr, hy⟩, rfl, rfl⟩; simp only [zA, zB]; refine wp_seq' ?_; have hll : l1.length = w.L.length := by rw [hl1, List.length_set]
        have hxi1 : l1[i]? = some y1 := by rw [hl1]; exact List.getElem?_set_self hi
        refine wp_sub' (L := [rtree (⟨w.tb, q1, k1, w.next, l1⟩ : Rt), own b5 (.cells bw.cs.toArray 40 (0, 0))]) (by repeat (first | exact SubH.nil _ | refine SubH.cons 0 rfl ?_ | refine SubH.cons 1 rfl ?_ | refine SubH.cons 2 rfl ?_ | refine SubH.cons 3 rfl ?_ | refine SubH.cons 4 rfl ?_ | refine SubH.cons 5 rfl ?_ | refine SubH.cons 6 rfl ?_ | refine SubH.cons 7 rfl ?_ | refine SubH.rown ?_)) ?_; refine wp_heap (H' := rtL (⟨w.tb, q1, k1, w.next, l1⟩ : Rt) ++ [own b5 (.cells bw.cs.toArray 40 (0, 0))]) (fun u F s => rtree_open s) ?_; simp only [rtL, zA, zB]; refine wp_sub' (L := [own w.tb (.cells ([.slice q1 (l1).length k1, .int .i64 ((w.next : Nat) : Int)] : List Value).toArray 74 (0, 0)), row 109 12 (.slice q1 (l1).length k1) (l1).length (flat Th.cs (l1)), ths l1, own b5 (.cells bw.cs.toArray 40 (0, 0))]) (by repeat (first | exact SubH.nil _ | refine SubH.cons 0 rfl ?_ | refine SubH.cons 1 rfl ?_ | refine SubH.cons 2 rfl ?_ | refine SubH.cons 3 rfl ?_ | refine SubH.cons 4 rfl ?_ | refine SubH.cons 5 rfl ?_ | refine SubH.cons 6 rfl ?_ | refine SubH.cons 7 rfl ?_ | refine SubH.rown ?_)) ?_; refine wp_region' (ops_ro' rfl (ro_move rfl) rfl (ops_eff' rfl (eff_lit sl72 rfl (sbld (cs := flat Th.cs []) [] sl72 (by decide) (by kernel_rfl) rfl) rfl (by decide)) rfl ?_)); rintro _ _ ⟨b38, rfl, rfl⟩; refine ops_ro' rfl (ro_move rfl) rfl (ops_ro' rfl (ro_nilCheck rfl) rfl (ops_ro' rfl (ro_fieldAddr fa74_0 rfl) rfl (ops_ro' rfl (ro_load sc72 rfl (Rd.pick 1 rfl (Rd.own rfl))) rfl (ops_eff' rfl (eff_appF (f := Th.cs) (l := []) (l2 := l1) 0 sl72 (.inl ⟨109, Try.underlying72⟩) rfl rfl rfl (Src.flatv Th.len Th.one (Vw.pick 1 rfl Vw.row)) (by first | omega | (simp only [List.length_append, List.length_cons, List.length_nil, List.length_take, List.length_drop] at *; omega)) (by first | omega | (simp only [List.length_append, List.length_cons, List.length_nil, List.length_take, List.length_drop] at *; omega))) rfl ?_)))); rintro _ _ ⟨p43, c43, rfl, hn43, rfl⟩; simp only [zE, zF, zB]; refine ops_ro' rfl (ro_nilCheck rfl) rfl (ops_ro' rfl (ro_fieldAddr fa74_0 rfl) rfl (ops_eff0 rfl (eff_store 1 sc72 rfl rfl rfl rfl (Nat.le_of_ble_eq_true rfl) (warm_zero _)) rfl ?_)); rintro _ _ rfl; refine ops_nil (Then_normal (wp_seq' (wp_sub' (L := [own w.tb (.cells ([.slice p43 (l1).length c43, .int .i64 ((w.next : Nat) : Int)] : List Value).toArray 74 (0, 0)), row 109 12 (.slice p43 (l1).length c43) (l1).length (flat Th.cs (l1)), ths l1, own b5 (.cells bw.cs.toArray 40 (0, 0))]) (by repeat (first | exact SubH.nil _ | refine SubH.cons 0 rfl ?_ | refine SubH.cons 1 rfl ?_ | refine SubH.cons 2 rfl ?_ | refine SubH.cons 3 rfl ?_ | refine SubH.cons 4 rfl ?_ | refine SubH.cons 5 rfl ?_ | refine SubH.cons 6 rfl ?_ | refine SubH.cons 7 rfl ?_ | refine SubH.rown ?_)) ?_))); refine wp_know (p := l1.length ≠ 0 → ∃ b, p43 = some ⟨b, 0, none⟩) (fun u F s h0 => row_ptr' 1 rfl s h0) ?_; intro hp43; obtain ⟨b1, rfl⟩ := hp43 (by omega)
        have hyok : y1.a.Ok := by rw [hya]; exact hxa
        refine wp_draw 15 (by kernel_rfl) (Split.cons 0 rfl (Split.cons 0 rfl (Split.cons 1 rfl (Split.nil _)))) ?_; refine any_ro' (i := 0) (by kernel_rfl) rfl rfl (ro_move rfl) rfl (fun _ _ _ h => h) ?_; refine any_ro' (i := 1) (by kernel_rfl) rfl rfl (ro_nilCheck rfl) rfl (fun _ _ _ h => h) ?_; refine any_ro' (i := 2) (by kernel_rfl) rfl rfl (ro_fieldAddr fa74_0 rfl) rfl (fun _ _ _ h => h) ?_; refine any_ro' (i := 3) (by kernel_rfl) rfl rfl (ro_load sc72 rfl (Rd.pick 0 rfl (Rd.own rfl))) rfl (fun _ _ _ h => h) ?_; refine any_ro' (i := 4) (by kernel_rfl) rfl rfl (ro_move rfl) rfl (fun _ _ _ h => h) ?_; refine any_ro' (i := 5) (by kernel_rfl) rfl rfl (ro_move rfl) rfl (fun _ _ _ h => h) ?_; refine any_ro' (i := 6) (by kernel_rfl) rfl rfl (ro_nilCheck rfl) rfl (fun _ _ _ h => h) ?_; refine any_ro' (i := 7) (by kernel_rfl) rfl rfl (ro_fieldAddr fa74_0 rfl) rfl (fun _ _ _ h => h) ?_; refine any_ro' (i := 8) (by kernel_rfl) rfl rfl (ro_load sc72 rfl (Rd.pick 0 rfl (Rd.own rfl))) rfl (fun _ _ _ h => h) ?_; refine any_ro' (i := 9) (by kernel_rfl) rfl rfl (ro_move rfl) rfl (fun _ _ _ h => h) ?_; refine any_ro' (i := 10) (by kernel_rfl) rfl rfl (ro_indexSlice sl72 rfl rfl rfl (by omega)) rfl (fun _ _ _ h => h) ?_; refine any_ro' (i := 11) (by kernel_rfl) rfl rfl (ro_fieldAddr fa109_5 rfl) rfl (fun _ _ _ h => h) ?_; refine any_ro' (i := 12) (by kernel_rfl) rfl rfl (ro_loadA ag40 rfl (RdN.of_pick 1 rfl ((th_at (vw_rdn Vw.row) hxi1))) rfl) rfl (fun _ _ _ h => h) ?_; refine any_ro' (i := 13) (by kernel_rfl) rfl rfl (ro_loadA ag40 rfl (RdN.of_pick 2 rfl rdn_all) rfl) rfl (fun _ _ _ h => h) ?_; refine any_eff' (i := 14) (by kernel_rfl) rfl rfl (eff_call Try.call94 rfl rfl (by repeat (first | exact Split.nil _ | apply Split.cons 0 rfl | apply Split.cons 1 rfl | apply Split.cons 2 rfl | apply Split.cons 3 rfl | apply Split.cons 4 rfl | apply Split.cons 5 rfl | apply Split.cons 6 rfl | apply Split.cons 7 rfl)) (qmerge_spec y1.a bw hyok hbw)) rfl ?_; rintro _ H' ⟨_, ⟨rfl, rfl⟩, hH⟩; simp only [zA, zB, zC, zD, zE, zF] at hH; subst hH; refine any_unlock (m' := 18) (L' := []) (by kernel_rfl) unlock ?_; simp only [zA, zB, List.append_nil]; refine any_ro' (i := 15) (by kernel_rfl) rfl rfl (ro_indexSlice sl72 rfl rfl rfl (by omega)) rfl (fun _ _ _ h => h) ?_; refine any_ro' (i := 16) (by kernel_rfl) rfl rfl (ro_fieldAddr fa109_5 rfl) rfl (fun _ _ _ h => h) ?_; refine any_eff0 (i := 17) (by kernel_rfl) rfl rfl (eff_storeRowA 1 ag40 rfl rfl rfl rfl rfl (by rw [flat_len Th.len]; simp only [At.cs, List.length_cons, List.length_nil]; omega)) rfl ?_; rintro _ _ rfl; simp only [zE, zF]; rw [flat_att hxi1]; refine any_doneH (by kernel_rfl) ?_; refine Then_normal (wp_seq' ?_); have hxi2 : (l1.set i (y1.att (y1.a.merge bw)))[i]? = some (y1.att (y1.a.merge bw)) := List.getElem?_set_self (by omega)
        refine wp_sub' (L := [own w.tb (.cells ([.slice (some ⟨b1, 0, none⟩) (l1).length c43, .int .i64 ((w.next : Nat) : Int)] : List Value).toArray 74 (0, 0)), row 109 12 (.slice (some ⟨b1, 0, none⟩) l1.length c43) l1.length (flat Th.cs (l1.set i (y1.att (y1.a.merge bw)))), ths l1]) (by repeat (first | exact SubH.nil _ | refine SubH.cons 0 rfl ?_ | refine SubH.cons 1 rfl ?_ | refine SubH.cons 2 rfl ?_ | refine SubH.cons 3 rfl ?_ | refine SubH.cons 4 rfl ?_ | refine SubH.cons 5 rfl ?_ | refine SubH.cons 6 rfl ?_ | refine SubH.cons 7 rfl ?_ | refine SubH.rown ?_)) ?_; refine wp_region' (ops_ro' rfl (ro_move rfl) rfl (ops_ro' rfl (ro_nilCheck rfl) rfl (ops_ro' rfl (ro_fieldAddr fa74_0 rfl) rfl (ops_ro' rfl (ro_load sc72 rfl (Rd.pick 0 rfl (Rd.own rfl))) rfl (ops_ro' rfl (ro_move rfl) rfl ?_))))); refine ops_ro' rfl (ro_indexSlice sl72 rfl rfl rfl (by omega)) rfl (ops_ro' rfl (ro_fieldAddr fa109_5 rfl) rfl (ops_ro' rfl (ro_fieldAddr fa40_1 rfl) rfl (ops_eff0 rfl (eff_storeRow 1 sc34 rfl rfl rfl rfl (by rw [flat_len Th.len, List.length_set]; omega)) rfl ?_))); rintro _ _ rfl; simp only [zE, zF]; rw [flat_att0 hxi2, List.set_set]; refine ops_nil (Then_normal (wp_seq' (wp_region' (ops_ro' rfl (ro_assign rfl) rfl (ops_nil ?_))))); refine Then_normal (wp_ret' ?_); refine doneS_pre3 (H2 := [rtree (⟨w.tb, (some ⟨b1, 0, none⟩), c43, w.next, (l1.set i (y1.att { (y1.a.merge bw) with s := 0 }))⟩ : Rt)]) (fun u F s => ratt_close (w := ⟨w.tb, (some ⟨b1, 0, none⟩), c43, w.next, l1⟩) (V := []) hxi1 (y := (y1.att { (y1.a.merge bw) with s := 0 })) rfl u F (((by repeat (first | exact SubH.nil _ | refine SubH.cons 0 rfl ?_ | refine SubH.cons 1 rfl ?_ | refine SubH.cons 2 rfl ?_ | refine SubH.cons 3 rfl ?_ | refine SubH.cons 4 rfl ?_ | refine SubH.cons 5 rfl ?_ | refine SubH.cons 6 rfl ?_ | refine SubH.cons 7 rfl ?_ | refine SubH.rown ?_)) : SubH _ [own w.tb (.cells ([.slice (some ⟨b1, 0, none⟩) (l1).length c43, .int .i64 ((w.next : Nat) : Int)] : List Value).toArray 74 (0, 0)), row 109 12 (.slice (some ⟨b1, 0, none⟩) l1.length c43) l1.length (flat Th.cs (l1.set i (y1.att { (y1.a.merge bw) with s := 0 }))), ths l1]) u F s)) ?_; refine' doneS_ret (res1 rfl rfl) ?_ ?_
        rotate_left 1
        exact ⟨(⟨w.tb, (some ⟨b1, 0, none⟩), c43, w.next, (l1.set i (y1.att { (y1.a.merge bw) with s := 0 }))⟩ : Rt), 0, rfl, .inr ⟨i, x, hxi, ht, .inr (.inr (.inr ⟨hr, rfl, rfl, rfl, y1, (by show l1.set i _ = _; rw [hl1, List.set_set, hya]), hy⟩))⟩, rfl⟩
        exact SubH.refl _

end Go.Proofs.Ytbbmhppkhcodfaa
