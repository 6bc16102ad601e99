/-
  The helpers of the laws of attributes.
-/
import Derived.Test.YtbiohhfibkolgaaPAttr
namespace Go.Proofs.Ytbiohhfibkolgaa
open Go.Sx
set_option linter.unusedVariables false
set_option linter.unusedSimpArgs false
set_option maxRecDepth 100000

theorem At.enc_le (x : At) : x.enc.length ≤ 32 := by
  have l1 := x.e1_le; have l2 := x.e2_le; have l3 := x.e3_le; have l4 := x.e4_le
  simp only [At.enc, List.length_append, be_length]; omega
theorem right_of {x : At} {b : Bool} (hx : x.Ok) (hb : x.right = b) : Tri Try.prog 32 [x.v] [] (fun v H' => v = .bool b ∧ H' = []) := hb ▸ right_spec x hx
theorem St_only {H : List HProp} {A : HProp} (h : A ∈ H) {w : World} {F : HProp} (s : sat w (star (St H) F)) : sat w (star (St [A]) F) := by
  obtain ⟨i, hi⟩ := List.mem_iff_getElem?.1 h
  rw [St_pick hi, star_comm A, star_assoc] at s
  rw [St_cons, St_nil, star_comm A, emp_star]
  exact sat_star_right s
theorem tri_only {f : FuncId} {args : List Value} {Pre : List HProp} {Ψ : Value → List HProp → Prop} {Φ : Value → HProp → Prop} (h : Tri Try.prog f args Pre Ψ) (hp : ∀ v H, Ψ v H → ∃ A, A ∈ H ∧ Φ v A) : Tri Try.prog f args Pre (fun v H' => ∃ A, Φ v A ∧ H' = [A]) :=
  tri_weak h fun v H q => by
    obtain ⟨A, ha, hq⟩ := hp v H q
    exact ⟨[A], ⟨A, hq, rfl⟩, fun w F s => St_only ha s⟩
/-- what put does -/
theorem put_run (x : At) (hx : x.Ok) : Tri Try.prog 35 [x.v] [] (fun v H' => ∃ p c b1 pw p' c', v = .slice p x.enc.length c ∧ H' = [row 5 1 (.slice p x.enc.length c) x.enc.length (cel x.enc)] ++ wr pw p' c' x.enc ++ [own b1 (.cells x.cs.toArray 30 (0, 0))]) := by
  refine tri_of_wp Try.func35 rfl Try.ntmps35 (by simp) ?_
  refine wp_seq' ?_
  refine wp_region' ?_
  refine ops_eff' rfl (eff_box rfl) rfl ?_
  rintro _ _ ⟨b1, rfl, rfl⟩
  refine ops_ro' rfl (ro_assign rfl) rfl ?_
  refine ops_nil ?_
  repeat (first | refine InBlock_normal ?_ | refine NoGoto_normal ?_ | refine Jump_normal ?_)
  refine Then_normal ?_
  refine wp_seq' ?_
  refine wp_region' ?_
  refine ops_eff' rfl (eff_call Try.call22 rfl rfl (Split.nil _) (newWriter_spec)) rfl ?_
  rintro _ H' ⟨_, ⟨pw, rfl, rfl⟩, hH⟩
  simp only [List.cons_append, List.nil_append, List.eraseIdx_cons_zero, List.eraseIdx_cons_succ, List.set_cons_zero, List.set_cons_succ] at hH
  subst hH
  refine ops_ro' rfl (ro_assign rfl) rfl ?_
  refine ops_nil ?_
  repeat (first | refine InBlock_normal ?_ | refine NoGoto_normal ?_ | refine Jump_normal ?_)
  refine Then_normal ?_
  refine wp_seq' ?_
  refine wp_seq' ?_
  refine wp_region' ?_
  refine ops_ro' rfl (ro_move rfl) rfl ?_
  refine ops_ro' rfl (ro_ptrEqlNil Try.underlying49 rfl rfl rfl) rfl ?_
  refine ops_nil ?_
  repeat (first | refine InBlock_normal ?_ | refine NoGoto_normal ?_ | refine Jump_normal ?_)
  refine Then_normal ?_
  refine wp_condF rfl ?_
  refine wp_skip' ?_
  repeat (first | refine InBlock_normal ?_ | refine NoGoto_normal ?_ | refine Jump_normal ?_)
  refine Then_normal ?_
  refine wp_seq' ?_
  refine wp_region' ?_
  refine ops_ro' rfl (ro_move rfl) rfl ?_
  refine ops_ro' rfl (ro_loadA ag30 rfl (by first | exact RdN.of_pick 0 rfl rdn_all | exact RdN.of_pick 1 rfl rdn_all | exact RdN.of_pick 2 rfl rdn_all | exact RdN.of_pick 3 rfl rdn_all | exact RdN.of_pick 4 rfl rdn_all | exact RdN.of_pick 5 rfl rdn_all | exact RdN.of_pick 6 rfl rdn_all | exact RdN.of_pick 7 rfl rdn_all) rfl) rfl ?_
  refine ops_eff' rfl (eff_call Try.call43 rfl rfl (by first | exact Split.cons 0 rfl (Split.cons 0 rfl (Split.nil _)) | exact Split.cons 1 rfl (Split.cons 1 rfl (Split.nil _)) | exact Split.cons 2 rfl (Split.cons 2 rfl (Split.nil _)) | exact Split.cons 3 rfl (Split.cons 3 rfl (Split.nil _)) | exact Split.cons 4 rfl (Split.cons 4 rfl (Split.nil _)) | exact Split.cons 5 rfl (Split.cons 5 rfl (Split.nil _)) | exact Split.cons 6 rfl (Split.cons 6 rfl (Split.nil _)) | exact Split.cons 7 rfl (Split.cons 7 rfl (Split.nil _)) | exact Split.cons 0 rfl (Split.cons 1 rfl (Split.nil _)) | exact Split.cons 0 rfl (Split.cons 2 rfl (Split.nil _)) | exact Split.cons 0 rfl (Split.cons 3 rfl (Split.nil _)) | exact Split.cons 0 rfl (Split.cons 4 rfl (Split.nil _)) | exact Split.cons 0 rfl (Split.cons 5 rfl (Split.nil _)) | exact Split.cons 0 rfl (Split.cons 6 rfl (Split.nil _)) | exact Split.cons 1 rfl (Split.cons 0 rfl (Split.nil _)) | exact Split.cons 1 rfl (Split.cons 2 rfl (Split.nil _)) | exact Split.cons 1 rfl (Split.cons 3 rfl (Split.nil _)) | exact Split.cons 1 rfl (Split.cons 4 rfl (Split.nil _)) | exact Split.cons 1 rfl (Split.cons 5 rfl (Split.nil _)) | exact Split.cons 1 rfl (Split.cons 6 rfl (Split.nil _)) | exact Split.cons 2 rfl (Split.cons 0 rfl (Split.nil _)) | exact Split.cons 2 rfl (Split.cons 1 rfl (Split.nil _)) | exact Split.cons 2 rfl (Split.cons 3 rfl (Split.nil _)) | exact Split.cons 2 rfl (Split.cons 4 rfl (Split.nil _)) | exact Split.cons 2 rfl (Split.cons 5 rfl (Split.nil _)) | exact Split.cons 2 rfl (Split.cons 6 rfl (Split.nil _)) | exact Split.cons 3 rfl (Split.cons 0 rfl (Split.nil _)) | exact Split.cons 3 rfl (Split.cons 1 rfl (Split.nil _)) | exact Split.cons 3 rfl (Split.cons 2 rfl (Split.nil _)) | exact Split.cons 3 rfl (Split.cons 4 rfl (Split.nil _)) | exact Split.cons 3 rfl (Split.cons 5 rfl (Split.nil _)) | exact Split.cons 3 rfl (Split.cons 6 rfl (Split.nil _)) | exact Split.cons 4 rfl (Split.cons 0 rfl (Split.nil _)) | exact Split.cons 4 rfl (Split.cons 1 rfl (Split.nil _)) | exact Split.cons 4 rfl (Split.cons 2 rfl (Split.nil _)) | exact Split.cons 4 rfl (Split.cons 3 rfl (Split.nil _)) | exact Split.cons 4 rfl (Split.cons 5 rfl (Split.nil _)) | exact Split.cons 4 rfl (Split.cons 6 rfl (Split.nil _)) | exact Split.cons 5 rfl (Split.cons 0 rfl (Split.nil _)) | exact Split.cons 5 rfl (Split.cons 1 rfl (Split.nil _)) | exact Split.cons 5 rfl (Split.cons 2 rfl (Split.nil _)) | exact Split.cons 5 rfl (Split.cons 3 rfl (Split.nil _)) | exact Split.cons 5 rfl (Split.cons 4 rfl (Split.nil _)) | exact Split.cons 5 rfl (Split.cons 6 rfl (Split.nil _)) | exact Split.cons 6 rfl (Split.cons 0 rfl (Split.nil _)) | exact Split.cons 6 rfl (Split.cons 1 rfl (Split.nil _)) | exact Split.cons 6 rfl (Split.cons 2 rfl (Split.nil _)) | exact Split.cons 6 rfl (Split.cons 3 rfl (Split.nil _)) | exact Split.cons 6 rfl (Split.cons 4 rfl (Split.nil _)) | exact Split.cons 6 rfl (Split.cons 5 rfl (Split.nil _)) | exact Split.cons 7 rfl (Split.cons 0 rfl (Split.nil _)) | exact Split.cons 7 rfl (Split.cons 1 rfl (Split.nil _)) | exact Split.cons 7 rfl (Split.cons 2 rfl (Split.nil _)) | exact Split.cons 7 rfl (Split.cons 3 rfl (Split.nil _)) | exact Split.cons 7 rfl (Split.cons 4 rfl (Split.nil _)) | exact Split.cons 7 rfl (Split.cons 5 rfl (Split.nil _)) | exact Split.cons 7 rfl (Split.cons 6 rfl (Split.nil _))) (aput_spec _ _ _ [] x hx (by simp))) rfl ?_
  rintro _ H' ⟨_, ⟨p', c', rfl, rfl⟩, hH⟩
  simp only [List.cons_append, List.nil_append, List.eraseIdx_cons_zero, List.eraseIdx_cons_succ, List.set_cons_zero, List.set_cons_succ] at hH
  subst hH
  refine ops_nil ?_
  repeat (first | refine InBlock_normal ?_ | refine NoGoto_normal ?_ | refine Jump_normal ?_)
  refine Then_normal ?_
  refine wp_seq' ?_
  refine wp_region' ?_
  refine ops_ro' rfl (ro_move rfl) rfl ?_
  refine ops_eff' rfl (eff_call Try.call24 rfl rfl (by first | exact Split.cons 0 rfl (Split.cons 0 rfl (Split.nil _)) | exact Split.cons 1 rfl (Split.cons 1 rfl (Split.nil _)) | exact Split.cons 2 rfl (Split.cons 2 rfl (Split.nil _)) | exact Split.cons 3 rfl (Split.cons 3 rfl (Split.nil _)) | exact Split.cons 4 rfl (Split.cons 4 rfl (Split.nil _)) | exact Split.cons 5 rfl (Split.cons 5 rfl (Split.nil _)) | exact Split.cons 6 rfl (Split.cons 6 rfl (Split.nil _)) | exact Split.cons 7 rfl (Split.cons 7 rfl (Split.nil _)) | exact Split.cons 0 rfl (Split.cons 1 rfl (Split.nil _)) | exact Split.cons 0 rfl (Split.cons 2 rfl (Split.nil _)) | exact Split.cons 0 rfl (Split.cons 3 rfl (Split.nil _)) | exact Split.cons 0 rfl (Split.cons 4 rfl (Split.nil _)) | exact Split.cons 0 rfl (Split.cons 5 rfl (Split.nil _)) | exact Split.cons 0 rfl (Split.cons 6 rfl (Split.nil _)) | exact Split.cons 1 rfl (Split.cons 0 rfl (Split.nil _)) | exact Split.cons 1 rfl (Split.cons 2 rfl (Split.nil _)) | exact Split.cons 1 rfl (Split.cons 3 rfl (Split.nil _)) | exact Split.cons 1 rfl (Split.cons 4 rfl (Split.nil _)) | exact Split.cons 1 rfl (Split.cons 5 rfl (Split.nil _)) | exact Split.cons 1 rfl (Split.cons 6 rfl (Split.nil _)) | exact Split.cons 2 rfl (Split.cons 0 rfl (Split.nil _)) | exact Split.cons 2 rfl (Split.cons 1 rfl (Split.nil _)) | exact Split.cons 2 rfl (Split.cons 3 rfl (Split.nil _)) | exact Split.cons 2 rfl (Split.cons 4 rfl (Split.nil _)) | exact Split.cons 2 rfl (Split.cons 5 rfl (Split.nil _)) | exact Split.cons 2 rfl (Split.cons 6 rfl (Split.nil _)) | exact Split.cons 3 rfl (Split.cons 0 rfl (Split.nil _)) | exact Split.cons 3 rfl (Split.cons 1 rfl (Split.nil _)) | exact Split.cons 3 rfl (Split.cons 2 rfl (Split.nil _)) | exact Split.cons 3 rfl (Split.cons 4 rfl (Split.nil _)) | exact Split.cons 3 rfl (Split.cons 5 rfl (Split.nil _)) | exact Split.cons 3 rfl (Split.cons 6 rfl (Split.nil _)) | exact Split.cons 4 rfl (Split.cons 0 rfl (Split.nil _)) | exact Split.cons 4 rfl (Split.cons 1 rfl (Split.nil _)) | exact Split.cons 4 rfl (Split.cons 2 rfl (Split.nil _)) | exact Split.cons 4 rfl (Split.cons 3 rfl (Split.nil _)) | exact Split.cons 4 rfl (Split.cons 5 rfl (Split.nil _)) | exact Split.cons 4 rfl (Split.cons 6 rfl (Split.nil _)) | exact Split.cons 5 rfl (Split.cons 0 rfl (Split.nil _)) | exact Split.cons 5 rfl (Split.cons 1 rfl (Split.nil _)) | exact Split.cons 5 rfl (Split.cons 2 rfl (Split.nil _)) | exact Split.cons 5 rfl (Split.cons 3 rfl (Split.nil _)) | exact Split.cons 5 rfl (Split.cons 4 rfl (Split.nil _)) | exact Split.cons 5 rfl (Split.cons 6 rfl (Split.nil _)) | exact Split.cons 6 rfl (Split.cons 0 rfl (Split.nil _)) | exact Split.cons 6 rfl (Split.cons 1 rfl (Split.nil _)) | exact Split.cons 6 rfl (Split.cons 2 rfl (Split.nil _)) | exact Split.cons 6 rfl (Split.cons 3 rfl (Split.nil _)) | exact Split.cons 6 rfl (Split.cons 4 rfl (Split.nil _)) | exact Split.cons 6 rfl (Split.cons 5 rfl (Split.nil _)) | exact Split.cons 7 rfl (Split.cons 0 rfl (Split.nil _)) | exact Split.cons 7 rfl (Split.cons 1 rfl (Split.nil _)) | exact Split.cons 7 rfl (Split.cons 2 rfl (Split.nil _)) | exact Split.cons 7 rfl (Split.cons 3 rfl (Split.nil _)) | exact Split.cons 7 rfl (Split.cons 4 rfl (Split.nil _)) | exact Split.cons 7 rfl (Split.cons 5 rfl (Split.nil _)) | exact Split.cons 7 rfl (Split.cons 6 rfl (Split.nil _))) (done_spec _ _ _ ([] ++ x.enc) (by have := x.enc_le; simp; omega))) rfl ?_
  rintro _ H' ⟨_, ⟨p'', c'', rfl, hal, rfl⟩, hH⟩
  simp only [List.cons_append, List.nil_append, List.eraseIdx_cons_zero, List.eraseIdx_cons_succ, List.set_cons_zero, List.set_cons_succ] at hH
  subst hH
  refine ops_ro' rfl (ro_assign rfl) rfl ?_
  refine ops_nil ?_
  repeat (first | refine InBlock_normal ?_ | refine NoGoto_normal ?_ | refine Jump_normal ?_)
  refine Then_normal ?_
  refine wp_ret' ?_
  repeat (first | refine Then_ret ?_ | refine InBlock_ret ?_ | refine NoGoto_ret ?_ | refine Jump_ret ?_)
  refine done_ret (res1 rfl rfl) ?_
  exact ⟨p'', c'', b1, pw, p', c', rfl, rfl⟩
theorem aput14_spec (x : At) (hx : x.Ok) : Tri Try.prog 35 [x.v] [] (fun v H' => ∃ A, (∃ p c, v = .slice p x.enc.length c ∧ A = row 5 1 (.slice p x.enc.length c) x.enc.length (cel x.enc)) ∧ H' = [A]) :=
  tri_only (put_run x hx) fun v H ⟨p, c, b1, pw, p', c', h1, h2⟩ => ⟨_, by subst h2; exact .head _, p, c, h1, rfl⟩


theorem known_spec : Tri Try.prog 33 [] [] (fun v H' => v = .bool true ∧ H' = []) := by
  refine tri_forget (Ψ := fun v _ => v = .bool true) ?_ fun v H h => h
  refine tri_of_wp Try.func33 rfl Try.ntmps33 (by simp) ?_
  refine wp_seq' ?_
  refine wp_region' ?_
  refine ops_ro' rfl (ro_assign rfl) rfl ?_
  refine ops_nil ?_
  repeat (first | refine InBlock_normal ?_ | refine NoGoto_normal ?_ | refine Jump_normal ?_)
  refine Then_normal ?_
  refine wp_seq' ?_
  refine wp_region' ?_
  refine ops_ro' rfl (ro_build rfl (show Bld Try.prog 30 _ (At.v ⟨4, 0, 0, 0, 420, 0, 0⟩) from bld_struct (cs := At.cs ⟨4, 0, 0, 0, 420, 0, 0⟩) st30 rfl)) rfl ?_
  refine ops_eff' rfl (eff_call Try.call35 rfl rfl (Split.nil _) (aput14_spec ⟨4, 0, 0, 0, 420, 0, 0⟩ ⟨by decide, by decide, by decide, by decide, by decide, by decide, by decide⟩)) rfl ?_
  rintro _ H' ⟨_, ⟨A, ⟨p, c, rfl, rfl⟩, rfl⟩, hH⟩
  simp only [List.cons_append, List.nil_append, List.eraseIdx_cons_zero, List.eraseIdx_cons_succ, List.set_cons_zero, List.set_cons_succ] at hH
  subst hH
  refine ops_ro' rfl (ro_toStr Try.underlying25 Try.underlying5 Try.underlying9 rfl (by first | exact Vw.pick 0 rfl Vw.row | exact Vw.pick 1 rfl Vw.row | exact Vw.pick 2 rfl Vw.row | exact Vw.pick 3 rfl Vw.row | exact Vw.pick 4 rfl Vw.row | exact Vw.pick 5 rfl Vw.row | exact Vw.pick 6 rfl Vw.row | exact Vw.pick 7 rfl Vw.row) rfl) rfl ?_
  refine ops_ro' rfl (ro_strEql rfl rfl (decide_eq_true (by kernel_rfl))) rfl ?_
  refine ops_ro' rfl (ro_move rfl) rfl ?_
  refine ops_ro' rfl (ro_build rfl (show Bld Try.prog 30 [] At.zero.v from bld_struct (cs := At.zero.cs) st30 rfl)) rfl ?_
  refine ops_eff' rfl (eff_call Try.call32 rfl rfl (Split.nil _) (right_of (b := true) At.zero_ok (by kernel_rfl))) rfl ?_
  rintro _ H' ⟨_, ⟨rfl, rfl⟩, hH⟩
  simp only [List.cons_append, List.nil_append, List.eraseIdx_cons_zero, List.eraseIdx_cons_succ, List.set_cons_zero, List.set_cons_succ] at hH
  subst hH
  refine ops_ro' rfl (ro_pick rfl rfl) rfl ?_
  refine ops_ro' rfl (ro_move rfl) rfl ?_
  refine ops_eff' rfl (eff_call Try.call36 rfl rfl (Split.nil _) (agetNil_spec)) rfl ?_
  rintro _ H' ⟨_, ⟨rfl, rfl⟩, hH⟩
  simp only [List.cons_append, List.nil_append, List.eraseIdx_cons_zero, List.eraseIdx_cons_succ, List.set_cons_zero, List.set_cons_succ] at hH
  subst hH
  refine ops_ro' rfl (ro_build rfl (show Bld Try.prog 30 [] At.zero.v from bld_struct (cs := At.zero.cs) st30 rfl)) rfl ?_
  refine ops_ro' rfl (ro_attrEq rfl rfl (c := true) (by kernel_rfl)) rfl ?_
  refine ops_ro' rfl (ro_pick rfl rfl) rfl ?_
  refine ops_ro' rfl (ro_assign rfl) rfl ?_
  refine ops_nil ?_
  repeat (first | refine InBlock_normal ?_ | refine NoGoto_normal ?_ | refine Jump_normal ?_)
  refine Then_normal ?_
  refine wp_ret' ?_
  repeat (first | refine Then_ret ?_ | refine InBlock_ret ?_ | refine NoGoto_ret ?_ | refine Jump_ret ?_)
  refine done_ret (res1 rfl rfl) ?_
  rfl

end Go.Proofs.Ytbiohhfibkolgaa
