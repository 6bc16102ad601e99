/-
  Payloads of law 11.
-/
import Derived.Test.YtigaolglnnjnmaaAuthF
import Derived.Test.YtigaolglnnjnmaaQw
namespace Go.Proofs.Ytigaolglnnjnmaa
open Go.Sx
set_option linter.unusedVariables false
set_option linter.unusedSimpArgs false
set_option maxRecDepth 100000
set_option maxHeartbeats 4000000

structure Ak where
  kind : Int
  n : Int
  user : List UInt8
  pass : List UInt8
  name : List UInt8
  b : List UInt8
  p : Option Addr
  c : Nat
def Ak.cs (x : Ak) : List Value := [.int .i64 x.kind, .int .i64 x.n, .string (str x.user), .string (str x.pass), .string (str x.name), .slice x.p x.b.length x.c]
theorem Ak.len (x : Ak) : x.cs.length = 6 := rfl
/-- the payload of an ask -/
def payB (x : Ak) : List UInt8 :=
  if x.kind = 1 then (if x.n.tmod 5 = 1 then [5] ++ be (x.name.take 66).length 4 ++ (x.name.take 66) else [5] ++ be tAuth.length 4 ++ tAuth)
  else if x.kind = 2 then [50] ++ be (x.user.take 66).length 4 ++ (x.user.take 66) ++ be tConn.length 4 ++ tConn ++ be tPass.length 4 ++ tPass ++ [b8 (if decide (x.n.tmod 7 = 1) = true then 1 else 0)] ++ be (x.pass.take 66).length 4 ++ (x.pass.take 66)
  else if x.kind = 3 then [50] ++ be (x.user.take 66).length 4 ++ (x.user.take 66) ++ be tConn.length 4 ++ tConn ++ be (x.name.take 66).length 4 ++ (x.name.take 66)
  else if x.kind = 4 then [50] ++ be (x.user.take 66).length 4 ++ (x.user.take 66) ++ be (x.name.take 66).length 4 ++ (x.name.take 66) ++ be tPass.length 4 ++ tPass
  else if x.kind = 5 then [b8 x.n] else x.b.take 100
theorem SubH.emp {H L : List HProp} (h : SubH H L) : SubH H (Go.Sx.emp :: L) := fun w F s => by rw [St_cons, emp_star]; exact h w F s
theorem payload_run (V : HProp) (kd n : Int) (us ps nm b : List UInt8) (pb : Option Addr) (cb : Nat) (hB : Vw V (.slice pb b.length cb) b.length (cel b)) (hcb : b.length ≤ cb) : Tri Try.prog 16 [.agg (Ak.cs ⟨kd, n, us, ps, nm, b, pb, cb⟩).toArray] [V]
    (fun v H' => ∃ A p c, v = .slice p (payB ⟨kd, n, us, ps, nm, b, pb, cb⟩).length c ∧ Vw (St [A, V]) (.slice p (payB ⟨kd, n, us, ps, nm, b, pb, cb⟩).length c) (payB ⟨kd, n, us, ps, nm, b, pb, cb⟩).length (cel (payB ⟨kd, n, us, ps, nm, b, pb, cb⟩)) ∧ (payB ⟨kd, n, us, ps, nm, b, pb, cb⟩).length ≤ c ∧ H' = [A, V]) := by
  refine tri_of_wpS Try.func16 rfl Try.ntmps16 (by simp) ?_
  refine wp_seq' ?_
  refine wp_region' ?_
  refine ops_eff' rfl (eff_box rfl) rfl ?_
  rintro _ _ ⟨b1, rfl, rfl⟩
  refine ops_ro' rfl (ro_assign rfl) rfl ?_
  refine ops_nil ?_
  refine Then_normal ?_
  refine wp_seq' ?_
  refine wp_region' ?_
  refine ops_ro' rfl (ro_fieldAddr fa35_2 rfl) rfl ?_
  refine ops_ro' rfl (ro_load sc9 rfl (Rd.pick 0 rfl (Rd.own rfl))) rfl ?_
  refine ops_eff' rfl (eff_call Try.call25 rfl rfl (by repeat (first | exact Split.nil _ | apply Split.cons 0 rfl | apply Split.cons 1 rfl | apply Split.cons 2 rfl | apply Split.cons 3 rfl | apply Split.cons 4 rfl | apply Split.cons 5 rfl | apply Split.cons 6 rfl | apply Split.cons 7 rfl | apply Split.cons 8 rfl | apply Split.cons 9 rfl | apply Split.cons 10 rfl | apply Split.cons 11 rfl)) (kHead us 66)) rfl ?_
  rintro _ H' ⟨_, ⟨rfl, rfl⟩, hH⟩
  simp only [List.cons_append, List.nil_append, List.eraseIdx_cons_zero, List.eraseIdx_cons_succ, List.set_cons_zero, List.set_cons_succ] at hH
  subst hH
  refine ops_ro' rfl (ro_assign rfl) rfl ?_
  refine ops_nil ?_
  refine Then_normal ?_
  refine wp_seq' ?_
  refine wp_region' ?_
  refine ops_ro' rfl (ro_fieldAddr fa35_3 rfl) rfl ?_
  refine ops_ro' rfl (ro_load sc9 rfl (Rd.pick 0 rfl (Rd.own rfl))) rfl ?_
  refine ops_eff' rfl (eff_call Try.call25 rfl rfl (by repeat (first | exact Split.nil _ | apply Split.cons 0 rfl | apply Split.cons 1 rfl | apply Split.cons 2 rfl | apply Split.cons 3 rfl | apply Split.cons 4 rfl | apply Split.cons 5 rfl | apply Split.cons 6 rfl | apply Split.cons 7 rfl | apply Split.cons 8 rfl | apply Split.cons 9 rfl | apply Split.cons 10 rfl | apply Split.cons 11 rfl)) (kHead ps 66)) rfl ?_
  rintro _ H' ⟨_, ⟨rfl, rfl⟩, hH⟩
  simp only [List.cons_append, List.nil_append, List.eraseIdx_cons_zero, List.eraseIdx_cons_succ, List.set_cons_zero, List.set_cons_succ] at hH
  subst hH
  refine ops_ro' rfl (ro_assign rfl) rfl ?_
  refine ops_nil ?_
  refine Then_normal ?_
  refine wp_seq' ?_
  refine wp_region' ?_
  refine ops_ro' rfl (ro_fieldAddr fa35_4 rfl) rfl ?_
  refine ops_ro' rfl (ro_load sc9 rfl (Rd.pick 0 rfl (Rd.own rfl))) rfl ?_
  refine ops_eff' rfl (eff_call Try.call25 rfl rfl (by repeat (first | exact Split.nil _ | apply Split.cons 0 rfl | apply Split.cons 1 rfl | apply Split.cons 2 rfl | apply Split.cons 3 rfl | apply Split.cons 4 rfl | apply Split.cons 5 rfl | apply Split.cons 6 rfl | apply Split.cons 7 rfl | apply Split.cons 8 rfl | apply Split.cons 9 rfl | apply Split.cons 10 rfl | apply Split.cons 11 rfl)) (kHead nm 66)) rfl ?_
  rintro _ H' ⟨_, ⟨rfl, rfl⟩, hH⟩
  simp only [List.cons_append, List.nil_append, List.eraseIdx_cons_zero, List.eraseIdx_cons_succ, List.set_cons_zero, List.set_cons_succ] at hH
  subst hH
  have hul : (us.take 66).length ≤ 66 := by rw [List.length_take]; omega
  have hpl : (ps.take 66).length ≤ 66 := by rw [List.length_take]; omega
  have hnl : (nm.take 66).length ≤ 66 := by rw [List.length_take]; omega
  refine ops_ro' rfl (ro_assign rfl) rfl ?_
  refine ops_nil ?_
  refine Then_normal ?_
  refine wp_seq' ?_
  refine wp_region' ?_
  refine ops_eff' rfl (eff_lit sl32 rfl (sbld (cs := cel [50]) [(.int .u8 0)] sl32 (by decide) (by kernel_rfl) rfl) rfl (by decide)) rfl ?_
  rintro _ _ ⟨b17, rfl, rfl⟩
  refine ops_ro' rfl (ro_move rfl) rfl ?_
  refine ops_eff' rfl (eff_callM (Pre := []) Try.call44 rfl rfl (Split.nil _) (qwText _ _ [50] (by first | exact (Vw.pick 0 rfl hB) | exact (Vw.pick 1 rfl hB) | exact (Vw.pick 2 rfl hB) | exact (Vw.pick 3 rfl hB) | exact (Vw.pick 4 rfl hB) | exact (Vw.pick 5 rfl hB) | exact (Vw.pick 6 rfl hB) | exact (Vw.pick 7 rfl hB) | exact (Vw.pick 8 rfl hB) | exact (Vw.pick 9 rfl hB) | exact Vw.pick 0 rfl Vw.row | exact Vw.pick 1 rfl Vw.row | exact Vw.pick 2 rfl Vw.row | exact Vw.pick 3 rfl Vw.row | exact Vw.pick 4 rfl Vw.row | exact Vw.pick 5 rfl Vw.row | exact Vw.pick 6 rfl Vw.row | exact Vw.pick 7 rfl Vw.row | exact Vw.pick 8 rfl Vw.row | exact Vw.pick 9 rfl Vw.row | exact Vw.nil _ | exact Vw.empty _ _) (by simp only [List.length_append, be_length, List.length_cons, List.length_nil, tConn, tPass, tAuth]; omega) (us.take 66) (by simp only [List.length_append, be_length, List.length_cons, List.length_nil, tConn, tPass, tAuth]; omega))) rfl ?_
  rintro _ H' ⟨_, ⟨p19, c19, rfl, rfl⟩, hH⟩
  simp only [List.cons_append, List.nil_append, List.eraseIdx_cons_zero, List.eraseIdx_cons_succ, List.set_cons_zero, List.set_cons_succ] at hH
  subst hH
  refine ops_ro' rfl (ro_assign rfl) rfl ?_
  refine ops_nil ?_
  refine Then_normal ?_
  refine wp_seq' ?_
  refine wp_seq' ?_
  refine wp_region' ?_
  refine ops_ro' rfl (ro_fieldAddr fa35_0 rfl) rfl ?_
  refine ops_ro' rfl (ro_load sc3 rfl (Rd.pick 2 rfl (Rd.own rfl))) rfl ?_
  refine ops_nil ?_
  refine Then_normal ?_
  refine wp_block' ?_
  refine wp_seq' ?_
  refine wp_region' ?_
  refine ops_ro' rfl (ro_eql rfl rfl rfl) rfl ?_
  refine ops_ro' rfl (ro_assign rfl) rfl ?_
  refine ops_nil ?_
  refine Then_normal ?_
  refine wp_cond' rfl (fun hc22 => ?_) (fun hc22 => ?_)
  · replace hc22 := of_decide_eq_true hc22
    dsimp only at hc22
    refine wp_seq' ?_
    refine wp_seq' ?_
    refine wp_region' ?_
    refine ops_ro' rfl (ro_fieldAddr fa35_1 rfl) rfl ?_
    refine ops_ro' rfl (ro_load sc3 rfl (Rd.pick 2 rfl (Rd.own rfl))) rfl ?_
    refine ops_ro' rfl (ro_rem rfl rfl (by omega) rfl) rfl ?_
    refine ops_ro' rfl (ro_eql rfl rfl rfl) rfl ?_
    refine ops_nil ?_
    refine Then_normal ?_
    refine wp_cond' rfl (fun hc27 => ?_) (fun hc27 => ?_)
    · replace hc27 := of_decide_eq_true hc27
      dsimp only at hc27
      refine wp_seq' ?_
      refine wp_region' ?_
      refine ops_eff' rfl (eff_lit sl32 rfl (sbld (cs := cel [5]) [(.int .u8 0)] sl32 (by decide) (by kernel_rfl) rfl) rfl (by decide)) rfl ?_
      rintro _ _ ⟨b28, rfl, rfl⟩
      refine ops_ro' rfl (ro_move rfl) rfl ?_
      refine ops_eff' rfl (eff_callM (Pre := []) Try.call44 rfl rfl (Split.nil _) (qwText _ _ [5] (by first | exact (Vw.pick 0 rfl hB) | exact (Vw.pick 1 rfl hB) | exact (Vw.pick 2 rfl hB) | exact (Vw.pick 3 rfl hB) | exact (Vw.pick 4 rfl hB) | exact (Vw.pick 5 rfl hB) | exact (Vw.pick 6 rfl hB) | exact (Vw.pick 7 rfl hB) | exact (Vw.pick 8 rfl hB) | exact (Vw.pick 9 rfl hB) | exact Vw.pick 0 rfl Vw.row | exact Vw.pick 1 rfl Vw.row | exact Vw.pick 2 rfl Vw.row | exact Vw.pick 3 rfl Vw.row | exact Vw.pick 4 rfl Vw.row | exact Vw.pick 5 rfl Vw.row | exact Vw.pick 6 rfl Vw.row | exact Vw.pick 7 rfl Vw.row | exact Vw.pick 8 rfl Vw.row | exact Vw.pick 9 rfl Vw.row | exact Vw.nil _ | exact Vw.empty _ _) (by simp only [List.length_append, be_length, List.length_cons, List.length_nil, tConn, tPass, tAuth]; omega) (nm.take 66) (by simp only [List.length_append, be_length, List.length_cons, List.length_nil, tConn, tPass, tAuth]; omega))) rfl ?_
      rintro _ H' ⟨_, ⟨p30, c30, rfl, rfl⟩, hH⟩
      simp only [List.cons_append, List.nil_append, List.eraseIdx_cons_zero, List.eraseIdx_cons_succ, List.set_cons_zero, List.set_cons_succ] at hH
      subst hH
      refine ops_know (fun w F s => row_caps 0 rfl s) ?_
      intro hcp
      refine ops_ro' rfl (ro_assign rfl) rfl ?_
      refine ops_nil ?_
      refine Then_normal ?_
      refine wp_ret' ?_
      refine Then_ret ?_
      refine InBlock_ret ?_
      refine Then_ret ?_
      refine' doneS_ret (res1 rfl rfl) ?_ ?_
      rotate_left 1
      have HX : payB ⟨kd, n, us, ps, nm, b, pb, cb⟩ = [5] ++ be (nm.take 66).length 4 ++ (nm.take 66) := by unfold payB; simp only; rw [if_pos hc22, if_pos hc27]
      rw [HX]
      exact ⟨row 5 1 (.slice p30 ([5] ++ be (nm.take 66).length 4 ++ (nm.take 66)).length c30) ([5] ++ be (nm.take 66).length 4 ++ (nm.take 66)).length (cel ([5] ++ be (nm.take 66).length 4 ++ (nm.take 66))), p30, c30, rfl, Vw.pick 0 rfl Vw.row, hcp, rfl⟩
      exact (SubH.cons 0 rfl (SubH.cons 4 rfl (SubH.nil _)))
    · replace hc27 := of_decide_eq_false hc27
      dsimp only at hc27
      refine wp_skip' ?_
      refine Then_normal ?_
      refine wp_seq' ?_
      refine wp_region' ?_
      refine ops_eff' rfl (eff_lit sl32 rfl (sbld (cs := cel [5]) [(.int .u8 0)] sl32 (by decide) (by kernel_rfl) rfl) rfl (by decide)) rfl ?_
      rintro _ _ ⟨b31, rfl, rfl⟩
      refine ops_eff' rfl (eff_callM (Pre := []) Try.call44 rfl rfl (Split.nil _) (qwText _ _ [5] (by first | exact (Vw.pick 0 rfl hB) | exact (Vw.pick 1 rfl hB) | exact (Vw.pick 2 rfl hB) | exact (Vw.pick 3 rfl hB) | exact (Vw.pick 4 rfl hB) | exact (Vw.pick 5 rfl hB) | exact (Vw.pick 6 rfl hB) | exact (Vw.pick 7 rfl hB) | exact (Vw.pick 8 rfl hB) | exact (Vw.pick 9 rfl hB) | exact Vw.pick 0 rfl Vw.row | exact Vw.pick 1 rfl Vw.row | exact Vw.pick 2 rfl Vw.row | exact Vw.pick 3 rfl Vw.row | exact Vw.pick 4 rfl Vw.row | exact Vw.pick 5 rfl Vw.row | exact Vw.pick 6 rfl Vw.row | exact Vw.pick 7 rfl Vw.row | exact Vw.pick 8 rfl Vw.row | exact Vw.pick 9 rfl Vw.row | exact Vw.nil _ | exact Vw.empty _ _) (by simp only [List.length_append, be_length, List.length_cons, List.length_nil, tConn, tPass, tAuth]; omega) tAuth (by simp only [List.length_append, be_length, List.length_cons, List.length_nil, tConn, tPass, tAuth]; omega))) rfl ?_
      rintro _ H' ⟨_, ⟨p32, c32, rfl, rfl⟩, hH⟩
      simp only [List.cons_append, List.nil_append, List.eraseIdx_cons_zero, List.eraseIdx_cons_succ, List.set_cons_zero, List.set_cons_succ] at hH
      subst hH
      refine ops_know (fun w F s => row_caps 0 rfl s) ?_
      intro hcp
      refine ops_ro' rfl (ro_assign rfl) rfl ?_
      refine ops_nil ?_
      refine Then_normal ?_
      refine wp_ret' ?_
      refine InBlock_ret ?_
      refine Then_ret ?_
      refine' doneS_ret (res1 rfl rfl) ?_ ?_
      rotate_left 1
      have HX : payB ⟨kd, n, us, ps, nm, b, pb, cb⟩ = [5] ++ be tAuth.length 4 ++ tAuth := by unfold payB; simp only; rw [if_pos hc22, if_neg hc27]
      rw [HX]
      exact ⟨row 5 1 (.slice p32 ([5] ++ be tAuth.length 4 ++ tAuth).length c32) ([5] ++ be tAuth.length 4 ++ tAuth).length (cel ([5] ++ be tAuth.length 4 ++ tAuth)), p32, c32, rfl, Vw.pick 0 rfl Vw.row, hcp, rfl⟩
      exact (SubH.cons 0 rfl (SubH.cons 4 rfl (SubH.nil _)))
  · replace hc22 := of_decide_eq_false hc22
    dsimp only at hc22
    refine wp_seq' ?_
    refine wp_region' ?_
    refine ops_ro' rfl (ro_eql rfl rfl rfl) rfl ?_
    refine ops_ro' rfl (ro_assign rfl) rfl ?_
    refine ops_nil ?_
    refine Then_normal ?_
    refine wp_cond' rfl (fun hc33 => ?_) (fun hc33 => ?_)
    · replace hc33 := of_decide_eq_true hc33
      dsimp only at hc33
      refine wp_seq' ?_
      refine wp_region' ?_
      refine ops_ro' rfl (ro_move rfl) rfl ?_
      refine ops_eff' rfl (eff_callM (Pre := []) Try.call44 rfl rfl (Split.nil _) (qwText _ _ _ (by first | exact (Vw.pick 0 rfl hB) | exact (Vw.pick 1 rfl hB) | exact (Vw.pick 2 rfl hB) | exact (Vw.pick 3 rfl hB) | exact (Vw.pick 4 rfl hB) | exact (Vw.pick 5 rfl hB) | exact (Vw.pick 6 rfl hB) | exact (Vw.pick 7 rfl hB) | exact (Vw.pick 8 rfl hB) | exact (Vw.pick 9 rfl hB) | exact Vw.pick 0 rfl Vw.row | exact Vw.pick 1 rfl Vw.row | exact Vw.pick 2 rfl Vw.row | exact Vw.pick 3 rfl Vw.row | exact Vw.pick 4 rfl Vw.row | exact Vw.pick 5 rfl Vw.row | exact Vw.pick 6 rfl Vw.row | exact Vw.pick 7 rfl Vw.row | exact Vw.pick 8 rfl Vw.row | exact Vw.pick 9 rfl Vw.row | exact Vw.nil _ | exact Vw.empty _ _) (by simp only [List.length_append, be_length, List.length_cons, List.length_nil, tConn, tPass, tAuth]; omega) tConn (by simp only [List.length_append, be_length, List.length_cons, List.length_nil, tConn, tPass, tAuth]; omega))) rfl ?_
      rintro _ H' ⟨_, ⟨p36, c36, rfl, rfl⟩, hH⟩
      simp only [List.cons_append, List.nil_append, List.eraseIdx_cons_zero, List.eraseIdx_cons_succ, List.set_cons_zero, List.set_cons_succ] at hH
      subst hH
      refine ops_eff' rfl (eff_callM (Pre := []) Try.call44 rfl rfl (Split.nil _) (qwText _ _ _ (by first | exact (Vw.pick 0 rfl hB) | exact (Vw.pick 1 rfl hB) | exact (Vw.pick 2 rfl hB) | exact (Vw.pick 3 rfl hB) | exact (Vw.pick 4 rfl hB) | exact (Vw.pick 5 rfl hB) | exact (Vw.pick 6 rfl hB) | exact (Vw.pick 7 rfl hB) | exact (Vw.pick 8 rfl hB) | exact (Vw.pick 9 rfl hB) | exact Vw.pick 0 rfl Vw.row | exact Vw.pick 1 rfl Vw.row | exact Vw.pick 2 rfl Vw.row | exact Vw.pick 3 rfl Vw.row | exact Vw.pick 4 rfl Vw.row | exact Vw.pick 5 rfl Vw.row | exact Vw.pick 6 rfl Vw.row | exact Vw.pick 7 rfl Vw.row | exact Vw.pick 8 rfl Vw.row | exact Vw.pick 9 rfl Vw.row | exact Vw.nil _ | exact Vw.empty _ _) (by simp only [List.length_append, be_length, List.length_cons, List.length_nil, tConn, tPass, tAuth]; omega) tPass (by simp only [List.length_append, be_length, List.length_cons, List.length_nil, tConn, tPass, tAuth]; omega))) rfl ?_
      rintro _ H' ⟨_, ⟨p37, c37, rfl, rfl⟩, hH⟩
      simp only [List.cons_append, List.nil_append, List.eraseIdx_cons_zero, List.eraseIdx_cons_succ, List.set_cons_zero, List.set_cons_succ] at hH
      subst hH
      refine ops_ro' rfl (ro_assign rfl) rfl ?_
      refine ops_nil ?_
      refine Then_normal ?_
      refine wp_seq' ?_
      refine wp_region' ?_
      refine ops_ro' rfl (ro_move rfl) rfl ?_
      refine ops_ro' rfl (ro_fieldAddr fa35_1 rfl) rfl ?_
      refine ops_ro' rfl (ro_load sc3 rfl (Rd.pick 4 rfl (Rd.own rfl))) rfl ?_
      refine ops_ro' rfl (ro_rem rfl rfl (by omega) rfl) rfl ?_
      refine ops_ro' rfl (ro_eql rfl rfl rfl) rfl ?_
      refine ops_eff' rfl (eff_callM (Pre := []) Try.call45 rfl rfl (Split.nil _) (qwBool _ _ _ (by first | exact (Vw.pick 0 rfl hB) | exact (Vw.pick 1 rfl hB) | exact (Vw.pick 2 rfl hB) | exact (Vw.pick 3 rfl hB) | exact (Vw.pick 4 rfl hB) | exact (Vw.pick 5 rfl hB) | exact (Vw.pick 6 rfl hB) | exact (Vw.pick 7 rfl hB) | exact (Vw.pick 8 rfl hB) | exact (Vw.pick 9 rfl hB) | exact Vw.pick 0 rfl Vw.row | exact Vw.pick 1 rfl Vw.row | exact Vw.pick 2 rfl Vw.row | exact Vw.pick 3 rfl Vw.row | exact Vw.pick 4 rfl Vw.row | exact Vw.pick 5 rfl Vw.row | exact Vw.pick 6 rfl Vw.row | exact Vw.pick 7 rfl Vw.row | exact Vw.pick 8 rfl Vw.row | exact Vw.pick 9 rfl Vw.row | exact Vw.nil _ | exact Vw.empty _ _) (by simp only [List.length_append, be_length, List.length_cons, List.length_nil, tConn, tPass, tAuth]; omega) _)) rfl ?_
      rintro _ H' ⟨_, ⟨p43, c43, rfl, rfl⟩, hH⟩
      simp only [List.cons_append, List.nil_append, List.eraseIdx_cons_zero, List.eraseIdx_cons_succ, List.set_cons_zero, List.set_cons_succ] at hH
      subst hH
      refine ops_ro' rfl (ro_move rfl) rfl ?_
      refine ops_eff' rfl (eff_callM (Pre := []) Try.call44 rfl rfl (Split.nil _) (qwText _ _ _ (by first | exact (Vw.pick 0 rfl hB) | exact (Vw.pick 1 rfl hB) | exact (Vw.pick 2 rfl hB) | exact (Vw.pick 3 rfl hB) | exact (Vw.pick 4 rfl hB) | exact (Vw.pick 5 rfl hB) | exact (Vw.pick 6 rfl hB) | exact (Vw.pick 7 rfl hB) | exact (Vw.pick 8 rfl hB) | exact (Vw.pick 9 rfl hB) | exact Vw.pick 0 rfl Vw.row | exact Vw.pick 1 rfl Vw.row | exact Vw.pick 2 rfl Vw.row | exact Vw.pick 3 rfl Vw.row | exact Vw.pick 4 rfl Vw.row | exact Vw.pick 5 rfl Vw.row | exact Vw.pick 6 rfl Vw.row | exact Vw.pick 7 rfl Vw.row | exact Vw.pick 8 rfl Vw.row | exact Vw.pick 9 rfl Vw.row | exact Vw.nil _ | exact Vw.empty _ _) (by simp only [List.length_append, be_length, List.length_cons, List.length_nil, tConn, tPass, tAuth]; omega) (ps.take 66) (by simp only [List.length_append, be_length, List.length_cons, List.length_nil, tConn, tPass, tAuth]; omega))) rfl ?_
      rintro _ H' ⟨_, ⟨p45, c45, rfl, rfl⟩, hH⟩
      simp only [List.cons_append, List.nil_append, List.eraseIdx_cons_zero, List.eraseIdx_cons_succ, List.set_cons_zero, List.set_cons_succ] at hH
      subst hH
      refine ops_know (fun w F s => row_caps 0 rfl s) ?_
      intro hcp
      refine ops_ro' rfl (ro_assign rfl) rfl ?_
      refine ops_nil ?_
      refine Then_normal ?_
      refine wp_ret' ?_
      refine InBlock_ret ?_
      refine Then_ret ?_
      refine' doneS_ret (res1 rfl rfl) ?_ ?_
      rotate_left 1
      have HX : payB ⟨kd, n, us, ps, nm, b, pb, cb⟩ = [50] ++ be (us.take 66).length 4 ++ (us.take 66) ++ be tConn.length 4 ++ tConn ++ be tPass.length 4 ++ tPass ++ [b8 (if decide (n.tmod 7 = 1) = true then 1 else 0)] ++ be (ps.take 66).length 4 ++ (ps.take 66) := by unfold payB; simp only; rw [if_neg (by omega), if_pos hc33]
      rw [HX]
      exact ⟨row 5 1 (.slice p45 ([50] ++ be (us.take 66).length 4 ++ (us.take 66) ++ be tConn.length 4 ++ tConn ++ be tPass.length 4 ++ tPass ++ [b8 (if decide (n.tmod 7 = 1) = true then 1 else 0)] ++ be (ps.take 66).length 4 ++ (ps.take 66)).length c45) ([50] ++ be (us.take 66).length 4 ++ (us.take 66) ++ be tConn.length 4 ++ tConn ++ be tPass.length 4 ++ tPass ++ [b8 (if decide (n.tmod 7 = 1) = true then 1 else 0)] ++ be (ps.take 66).length 4 ++ (ps.take 66)).length (cel ([50] ++ be (us.take 66).length 4 ++ (us.take 66) ++ be tConn.length 4 ++ tConn ++ be tPass.length 4 ++ tPass ++ [b8 (if decide (n.tmod 7 = 1) = true then 1 else 0)] ++ be (ps.take 66).length 4 ++ (ps.take 66))), p45, c45, rfl, Vw.pick 0 rfl Vw.row, hcp, rfl⟩
      exact (SubH.cons 0 rfl (SubH.cons 6 rfl (SubH.nil _)))
    · replace hc33 := of_decide_eq_false hc33
      dsimp only at hc33
      refine wp_seq' ?_
      refine wp_region' ?_
      refine ops_ro' rfl (ro_eql rfl rfl rfl) rfl ?_
      refine ops_ro' rfl (ro_assign rfl) rfl ?_
      refine ops_nil ?_
      refine Then_normal ?_
      refine wp_cond' rfl (fun hc46 => ?_) (fun hc46 => ?_)
      · replace hc46 := of_decide_eq_true hc46
        dsimp only at hc46
        refine wp_seq' ?_
        refine wp_region' ?_
        refine ops_ro' rfl (ro_move rfl) rfl ?_
        refine ops_eff' rfl (eff_callM (Pre := []) Try.call44 rfl rfl (Split.nil _) (qwText _ _ _ (by first | exact (Vw.pick 0 rfl hB) | exact (Vw.pick 1 rfl hB) | exact (Vw.pick 2 rfl hB) | exact (Vw.pick 3 rfl hB) | exact (Vw.pick 4 rfl hB) | exact (Vw.pick 5 rfl hB) | exact (Vw.pick 6 rfl hB) | exact (Vw.pick 7 rfl hB) | exact (Vw.pick 8 rfl hB) | exact (Vw.pick 9 rfl hB) | exact Vw.pick 0 rfl Vw.row | exact Vw.pick 1 rfl Vw.row | exact Vw.pick 2 rfl Vw.row | exact Vw.pick 3 rfl Vw.row | exact Vw.pick 4 rfl Vw.row | exact Vw.pick 5 rfl Vw.row | exact Vw.pick 6 rfl Vw.row | exact Vw.pick 7 rfl Vw.row | exact Vw.pick 8 rfl Vw.row | exact Vw.pick 9 rfl Vw.row | exact Vw.nil _ | exact Vw.empty _ _) (by simp only [List.length_append, be_length, List.length_cons, List.length_nil, tConn, tPass, tAuth]; omega) tConn (by simp only [List.length_append, be_length, List.length_cons, List.length_nil, tConn, tPass, tAuth]; omega))) rfl ?_
        rintro _ H' ⟨_, ⟨p49, c49, rfl, rfl⟩, hH⟩
        simp only [List.cons_append, List.nil_append, List.eraseIdx_cons_zero, List.eraseIdx_cons_succ, List.set_cons_zero, List.set_cons_succ] at hH
        subst hH
        refine ops_ro' rfl (ro_move rfl) rfl ?_
        refine ops_eff' rfl (eff_callM (Pre := []) Try.call44 rfl rfl (Split.nil _) (qwText _ _ _ (by first | exact (Vw.pick 0 rfl hB) | exact (Vw.pick 1 rfl hB) | exact (Vw.pick 2 rfl hB) | exact (Vw.pick 3 rfl hB) | exact (Vw.pick 4 rfl hB) | exact (Vw.pick 5 rfl hB) | exact (Vw.pick 6 rfl hB) | exact (Vw.pick 7 rfl hB) | exact (Vw.pick 8 rfl hB) | exact (Vw.pick 9 rfl hB) | exact Vw.pick 0 rfl Vw.row | exact Vw.pick 1 rfl Vw.row | exact Vw.pick 2 rfl Vw.row | exact Vw.pick 3 rfl Vw.row | exact Vw.pick 4 rfl Vw.row | exact Vw.pick 5 rfl Vw.row | exact Vw.pick 6 rfl Vw.row | exact Vw.pick 7 rfl Vw.row | exact Vw.pick 8 rfl Vw.row | exact Vw.pick 9 rfl Vw.row | exact Vw.nil _ | exact Vw.empty _ _) (by simp only [List.length_append, be_length, List.length_cons, List.length_nil, tConn, tPass, tAuth]; omega) (nm.take 66) (by simp only [List.length_append, be_length, List.length_cons, List.length_nil, tConn, tPass, tAuth]; omega))) rfl ?_
        rintro _ H' ⟨_, ⟨p51, c51, rfl, rfl⟩, hH⟩
        simp only [List.cons_append, List.nil_append, List.eraseIdx_cons_zero, List.eraseIdx_cons_succ, List.set_cons_zero, List.set_cons_succ] at hH
        subst hH
        refine ops_know (fun w F s => row_caps 0 rfl s) ?_
        intro hcp
        refine ops_ro' rfl (ro_assign rfl) rfl ?_
        refine ops_nil ?_
        refine Then_normal ?_
        refine wp_ret' ?_
        refine InBlock_ret ?_
        refine Then_ret ?_
        refine' doneS_ret (res1 rfl rfl) ?_ ?_
        rotate_left 1
        have HX : payB ⟨kd, n, us, ps, nm, b, pb, cb⟩ = [50] ++ be (us.take 66).length 4 ++ (us.take 66) ++ be tConn.length 4 ++ tConn ++ be (nm.take 66).length 4 ++ (nm.take 66) := by unfold payB; simp only; rw [if_neg (by omega), if_neg (by omega), if_pos hc46]
        rw [HX]
        exact ⟨row 5 1 (.slice p51 ([50] ++ be (us.take 66).length 4 ++ (us.take 66) ++ be tConn.length 4 ++ tConn ++ be (nm.take 66).length 4 ++ (nm.take 66)).length c51) ([50] ++ be (us.take 66).length 4 ++ (us.take 66) ++ be tConn.length 4 ++ tConn ++ be (nm.take 66).length 4 ++ (nm.take 66)).length (cel ([50] ++ be (us.take 66).length 4 ++ (us.take 66) ++ be tConn.length 4 ++ tConn ++ be (nm.take 66).length 4 ++ (nm.take 66))), p51, c51, rfl, Vw.pick 0 rfl Vw.row, hcp, rfl⟩
        exact (SubH.cons 0 rfl (SubH.cons 4 rfl (SubH.nil _)))
      · replace hc46 := of_decide_eq_false hc46
        dsimp only at hc46
        refine wp_seq' ?_
        refine wp_region' ?_
        refine ops_ro' rfl (ro_eql rfl rfl rfl) rfl ?_
        refine ops_ro' rfl (ro_assign rfl) rfl ?_
        refine ops_nil ?_
        refine Then_normal ?_
        refine wp_cond' rfl (fun hc52 => ?_) (fun hc52 => ?_)
        · replace hc52 := of_decide_eq_true hc52
          dsimp only at hc52
          refine wp_seq' ?_
          refine wp_region' ?_
          refine ops_ro' rfl (ro_move rfl) rfl ?_
          refine ops_ro' rfl (ro_move rfl) rfl ?_
          refine ops_eff' rfl (eff_callM (Pre := []) Try.call44 rfl rfl (Split.nil _) (qwText _ _ _ (by first | exact (Vw.pick 0 rfl hB) | exact (Vw.pick 1 rfl hB) | exact (Vw.pick 2 rfl hB) | exact (Vw.pick 3 rfl hB) | exact (Vw.pick 4 rfl hB) | exact (Vw.pick 5 rfl hB) | exact (Vw.pick 6 rfl hB) | exact (Vw.pick 7 rfl hB) | exact (Vw.pick 8 rfl hB) | exact (Vw.pick 9 rfl hB) | exact Vw.pick 0 rfl Vw.row | exact Vw.pick 1 rfl Vw.row | exact Vw.pick 2 rfl Vw.row | exact Vw.pick 3 rfl Vw.row | exact Vw.pick 4 rfl Vw.row | exact Vw.pick 5 rfl Vw.row | exact Vw.pick 6 rfl Vw.row | exact Vw.pick 7 rfl Vw.row | exact Vw.pick 8 rfl Vw.row | exact Vw.pick 9 rfl Vw.row | exact Vw.nil _ | exact Vw.empty _ _) (by simp only [List.length_append, be_length, List.length_cons, List.length_nil, tConn, tPass, tAuth]; omega) (nm.take 66) (by simp only [List.length_append, be_length, List.length_cons, List.length_nil, tConn, tPass, tAuth]; omega))) rfl ?_
          rintro _ H' ⟨_, ⟨p56, c56, rfl, rfl⟩, hH⟩
          simp only [List.cons_append, List.nil_append, List.eraseIdx_cons_zero, List.eraseIdx_cons_succ, List.set_cons_zero, List.set_cons_succ] at hH
          subst hH
          refine ops_eff' rfl (eff_callM (Pre := []) Try.call44 rfl rfl (Split.nil _) (qwText _ _ _ (by first | exact (Vw.pick 0 rfl hB) | exact (Vw.pick 1 rfl hB) | exact (Vw.pick 2 rfl hB) | exact (Vw.pick 3 rfl hB) | exact (Vw.pick 4 rfl hB) | exact (Vw.pick 5 rfl hB) | exact (Vw.pick 6 rfl hB) | exact (Vw.pick 7 rfl hB) | exact (Vw.pick 8 rfl hB) | exact (Vw.pick 9 rfl hB) | exact Vw.pick 0 rfl Vw.row | exact Vw.pick 1 rfl Vw.row | exact Vw.pick 2 rfl Vw.row | exact Vw.pick 3 rfl Vw.row | exact Vw.pick 4 rfl Vw.row | exact Vw.pick 5 rfl Vw.row | exact Vw.pick 6 rfl Vw.row | exact Vw.pick 7 rfl Vw.row | exact Vw.pick 8 rfl Vw.row | exact Vw.pick 9 rfl Vw.row | exact Vw.nil _ | exact Vw.empty _ _) (by simp only [List.length_append, be_length, List.length_cons, List.length_nil, tConn, tPass, tAuth]; omega) tPass (by simp only [List.length_append, be_length, List.length_cons, List.length_nil, tConn, tPass, tAuth]; omega))) rfl ?_
          rintro _ H' ⟨_, ⟨p57, c57, rfl, rfl⟩, hH⟩
          simp only [List.cons_append, List.nil_append, List.eraseIdx_cons_zero, List.eraseIdx_cons_succ, List.set_cons_zero, List.set_cons_succ] at hH
          subst hH
          refine ops_know (fun w F s => row_caps 0 rfl s) ?_
          intro hcp
          refine ops_ro' rfl (ro_assign rfl) rfl ?_
          refine ops_nil ?_
          refine Then_normal ?_
          refine wp_ret' ?_
          refine InBlock_ret ?_
          refine Then_ret ?_
          refine' doneS_ret (res1 rfl rfl) ?_ ?_
          rotate_left 1
          have HX : payB ⟨kd, n, us, ps, nm, b, pb, cb⟩ = [50] ++ be (us.take 66).length 4 ++ (us.take 66) ++ be (nm.take 66).length 4 ++ (nm.take 66) ++ be tPass.length 4 ++ tPass := by unfold payB; simp only; rw [if_neg (by omega), if_neg (by omega), if_neg (by omega), if_pos hc52]
          rw [HX]
          exact ⟨row 5 1 (.slice p57 ([50] ++ be (us.take 66).length 4 ++ (us.take 66) ++ be (nm.take 66).length 4 ++ (nm.take 66) ++ be tPass.length 4 ++ tPass).length c57) ([50] ++ be (us.take 66).length 4 ++ (us.take 66) ++ be (nm.take 66).length 4 ++ (nm.take 66) ++ be tPass.length 4 ++ tPass).length (cel ([50] ++ be (us.take 66).length 4 ++ (us.take 66) ++ be (nm.take 66).length 4 ++ (nm.take 66) ++ be tPass.length 4 ++ tPass)), p57, c57, rfl, Vw.pick 0 rfl Vw.row, hcp, rfl⟩
          exact (SubH.cons 0 rfl (SubH.cons 4 rfl (SubH.nil _)))
        · replace hc52 := of_decide_eq_false hc52
          dsimp only at hc52
          refine wp_seq' ?_
          refine wp_region' ?_
          refine ops_ro' rfl (ro_eql rfl rfl rfl) rfl ?_
          refine ops_ro' rfl (ro_assign rfl) rfl ?_
          refine ops_nil ?_
          refine Then_normal ?_
          refine wp_cond' rfl (fun hc58 => ?_) (fun hc58 => ?_)
          · replace hc58 := of_decide_eq_true hc58
            dsimp only at hc58
            refine wp_seq' ?_
            refine wp_region' ?_
            refine ops_ro' rfl (ro_fieldAddr fa35_1 rfl) rfl ?_
            refine ops_ro' rfl (ro_load sc3 rfl (Rd.pick 2 rfl (Rd.own rfl))) rfl ?_
            refine ops_ro' rfl (ro_conv Try.underlying3 Try.underlying5 rfl (conv_b8 n)) rfl ?_
            refine ops_eff' rfl (eff_lit sl32 rfl (sbld (cs := cel [b8 n]) [(.int .u8 0)] sl32 (by decide) (by kernel_rfl) rfl) rfl (by decide)) rfl ?_
            rintro _ _ ⟨b63, rfl, rfl⟩
            refine ops_ro' rfl (ro_assign rfl) rfl ?_
            refine ops_nil ?_
            refine Then_normal ?_
            refine wp_ret' ?_
            refine InBlock_ret ?_
            refine Then_ret ?_
            refine' doneS_ret (res1 rfl rfl) ?_ ?_
            rotate_left 1
            have HX : payB ⟨kd, n, us, ps, nm, b, pb, cb⟩ = [b8 n] := by unfold payB; simp only; rw [if_neg (by omega), if_neg (by omega), if_neg (by omega), if_neg (by omega), if_pos hc58]
            rw [HX]
            exact ⟨row 5 1 (.slice (some ⟨b63, 0, none⟩) 1 1) 1 (cel [b8 n]), some ⟨b63, 0, none⟩, 1, rfl, Vw.pick 0 rfl Vw.row, Nat.le_refl _, rfl⟩
            exact (SubH.cons 0 rfl (SubH.cons 3 rfl (SubH.nil _)))
          · replace hc58 := of_decide_eq_false hc58
            dsimp only at hc58
            refine wp_skip' ?_
            refine InBlock_normal ?_
            refine Then_normal ?_
            refine wp_seq' ?_
            refine wp_region' ?_
            refine ops_ro' rfl (ro_fieldAddr fa35_5 rfl) rfl ?_
            refine ops_ro' rfl (ro_load sc32 rfl (Rd.pick 2 rfl (Rd.own rfl))) rfl ?_
            refine ops_eff' rfl (eff_call Try.call22 rfl rfl (by repeat (first | exact Split.nil _ | apply Split.cons 0 rfl | apply Split.cons 1 rfl | apply Split.cons 2 rfl | apply Split.cons 3 rfl | apply Split.cons 4 rfl | apply Split.cons 5 rfl | apply Split.cons 6 rfl | apply Split.cons 7 rfl | apply Split.cons 8 rfl | apply Split.cons 9 rfl | apply Split.cons 10 rfl | apply Split.cons 11 rfl)) (kCut V pb cb b 100 hB hcb)) rfl ?_
            rintro _ H' ⟨_, ⟨_, ⟨p66, c66, rfl, hv66, hc66, rfl⟩, rfl⟩, hH⟩
            simp only [List.cons_append, List.nil_append, List.eraseIdx_cons_zero, List.eraseIdx_cons_succ, List.set_cons_zero, List.set_cons_succ] at hH
            subst hH
            refine ops_ro' rfl (ro_assign rfl) rfl ?_
            refine ops_nil ?_
            refine Then_normal ?_
            refine wp_ret' ?_
            have HX : payB ⟨kd, n, us, ps, nm, b, pb, cb⟩ = b.take 100 := by unfold payB; simp only; rw [if_neg (by omega), if_neg (by omega), if_neg (by omega), if_neg (by omega), if_neg (by omega)]
            rw [HX]
            refine' doneS_ret (res1 rfl rfl) ?_ ?_
            rotate_left 1
            exact ⟨row 5 1 (.slice none 0 0) 0 [], p66, c66, rfl, Vw.pick 1 rfl hv66, hc66, rfl⟩
            exact (SubH.rown (SubH.cons 0 rfl (SubH.nil _)))

end Go.Proofs.Ytigaolglnnjnmaa
