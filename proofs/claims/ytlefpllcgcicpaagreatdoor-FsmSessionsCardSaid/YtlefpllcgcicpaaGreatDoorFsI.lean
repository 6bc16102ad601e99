/-
  Package fsm: open.
  Package fsm: what asks a handle.
-/
import Derived.Test.YtlefpllcgcicpaaGreatDoorFsG
namespace Go.Proofs.YtlefpllcgcicpaaGreatDoor
open Go.Sx
set_option linter.unusedVariables false
set_option linter.unusedSimpArgs false
set_option maxRecDepth 100000
set_option maxHeartbeats 4000000

theorem one_ok : (⟨1, 0, 0, 0, 0, 0, 0⟩ : At).Ok := ⟨by decide, by decide, by decide, by decide, by decide, by decide, by decide⟩
theorem bare_ok {a : At} (h : a.Ok) : (bareA a).Ok := ⟨Nat.lt_of_le_of_lt Nat.and_le_left h.f, (by show (0 : Nat) < 18446744073709551616; decide), h.u, h.g, h.m, h.a, h.t⟩
theorem open16_spec {V : HProp} {mb tb : Nat} {t : Tr} {hs : List Hd} {r : Nd} (hW : Wf t r) (htb : t.tb = tb) (hH : HsOk hs) (s : Nat) (hs16 : s < 16) (q : Qr) (hq : q.Ok) (hP : Ml V) (hnx : t.next ≤ 9223372036854775806) : Tri Tryz.prog 64 [.pointer (some ⟨mb, 0, none⟩), .int .i64 (s : Int), q.v] [oMa mb tb hs, tree t, St (hs.map rowN), V]
    (fun v H' => ∃ t' hs' k, v = (k.rep none 0 none 0).v ∧ openR t r hs s q t' hs' k ∧ (∃ r', Wf t' r') ∧ t'.tb = tb ∧ t'.next ≤ t.next + 1 ∧ HsOk hs' ∧ H' = [oMa mb tb hs', tree t', St (hs'.map rowN), V]) := by
  have hl := hH.len
  have hdl := wf_dl2 hW
  cases hf : freeH hs s with
  | none =>
    refine tri_of_wpS Tryz.func64 rfl Tryz.ntmps64 (by simp) ?_
    refine wp_seq' ?_
    refine wp_region' ?_
    refine ops_eff' rfl (eff_box rfl) rfl ?_
    rintro _ _ ⟨b5, rfl, rfl⟩
    refine ops_eff' rfl (eff_alloc z32) rfl ?_
    rintro _ _ ⟨b6, rfl, rfl⟩
    refine ops_nil ?_
    refine Then_normal ?_
    refine wp_seq' ?_
    refine wp_region' ?_
    refine ops_ro' rfl (ro_move rfl) rfl ?_
    refine ops_ro' rfl (ro_move rfl) rfl ?_
    refine ops_eff' rfl (eff_callM (Pre := []) Tryz.call124 rfl rfl (Split.nil _) (free_spec (by first | exact hv_pick 0 rfl hv_own | exact hv_pick 1 rfl hv_own | exact hv_pick 2 rfl hv_own | exact hv_pick 3 rfl hv_own | exact hv_pick 4 rfl hv_own | exact hv_pick 5 rfl hv_own) hl s hs16)) rfl ?_
    rintro _ H' ⟨_, ⟨rfl, rfl⟩, hH⟩
    simp only [List.cons_append, List.nil_append, List.eraseIdx_cons_zero, List.eraseIdx_cons_succ, List.set_cons_zero, List.set_cons_succ] at hH
    subst hH
    rw [hf]
    dsimp only [freeV]
    refine ops_ro' rfl (ro_move rfl) rfl ?_
    refine ops_ro' rfl (ro_extract rfl rfl) rfl ?_
    refine ops_ro' rfl (ro_extract rfl rfl) rfl ?_
    refine ops_ro' rfl (ro_assign rfl) rfl ?_
    refine ops_ro' rfl (ro_assign rfl) rfl ?_
    refine ops_nil ?_
    refine Then_normal ?_
    refine wp_seq' ?_
    refine wp_seq' ?_
    refine wp_region' ?_
    refine ops_ro' rfl (ro_fieldAddr fa35_7 rfl) rfl ?_
    refine ops_ro' rfl (ro_load sc27 rfl (Rd.pick 1 rfl (Rd.own rfl))) rfl ?_
    refine ops_ro' rfl (ro_and rfl rfl (and32 hq.fl (c := 3) (by decide) rfl)) rfl ?_
    refine ops_ro' rfl (ro_eql rfl rfl rfl) rfl ?_
    refine ops_split rfl rfl rfl (fun hg24 => ?_) (fun hg24 => ?_)
    · replace hg24 := of_decide_eq_true hg24
      refine ops_skip' rfl rfl ?_
      refine ops_skip' rfl rfl ?_
      refine ops_skip' rfl rfl ?_
      refine ops_skip' rfl rfl ?_
      refine ops_ro' rfl (ro_pick rfl rfl) rfl ?_
      refine ops_ro' rfl (ro_move (v := .bool true) rfl) rfl ?_
      refine ops_skip' rfl rfl ?_
      refine ops_skip' rfl rfl ?_
      refine ops_ro' rfl (ro_pick rfl rfl) rfl ?_
      refine ops_nil ?_
      refine Then_normal ?_
      refine wp_condT rfl ?_
      refine wp_seq' ?_
      refine wp_region' ?_
      refine ops_eff' rfl (eff_call Tryz.call28 rfl rfl (by repeat (first | exact Split.nil _ | apply Split.cons 0 rfl | apply Split.cons 1 rfl | apply Split.cons 2 rfl | apply Split.cons 3 rfl | apply Split.cons 4 rfl | apply Split.cons 5 rfl | apply Split.cons 6 rfl | apply Split.cons 7 rfl | apply Split.cons 8 rfl | apply Split.cons 9 rfl | apply Split.cons 10 rfl | apply Split.cons 11 rfl)) (status_spec 4)) rfl ?_
      rintro _ H' ⟨_, ⟨rfl, rfl⟩, hH⟩
      simp only [List.cons_append, List.nil_append, List.eraseIdx_cons_zero, List.eraseIdx_cons_succ, List.set_cons_zero, List.set_cons_succ] at hH
      subst hH
      refine ops_eff0 rfl (eff_storeA 0 ag32 rfl rfl rfl rfl rfl (Nat.le_of_ble_eq_true rfl) (warm_zero _)) rfl ?_
      rintro _ _ rfl
      simp only [List.set_cons_zero, List.set_cons_succ]
      refine ops_nil ?_
      refine Then_normal ?_
      refine wp_ret' ?_
      refine Then_ret ?_
      refine' doneS_ret (resv1 rfl (rv_cellA ag32 rfl (by first | exact RdN.of_pick 0 rfl rdn_all | exact RdN.of_pick 1 rfl rdn_all | exact RdN.of_pick 2 rfl rdn_all | exact RdN.of_pick 3 rfl rdn_all | exact RdN.of_pick 4 rfl rdn_all | exact RdN.of_pick 5 rfl rdn_all) rfl)) ?_ ?_
      rotate_left 1
      exact ⟨t, hs, Rk.stat 4, rfl, (by unfold openR; rw [hf]; exact ⟨rfl, rfl, rfl⟩), ⟨r, hW⟩, htb, by omega, hH, rfl⟩
      exact (SubH.cons 2 rfl (SubH.cons 2 rfl (SubH.cons 2 rfl (SubH.cons 2 rfl (SubH.nil _)))))
    · replace hg24 := of_decide_eq_false hg24
      refine ops_ro' rfl (ro_fieldAddr fa35_8 rfl) rfl ?_
      refine ops_ro' rfl (ro_loadA ag30 rfl (RdN.of_pick 1 rfl (rdn_sub 7)) rfl) rfl ?_
      refine ops_eff' rfl (eff_call Tryz.call30 rfl rfl (by repeat (first | exact Split.nil _ | apply Split.cons 0 rfl | apply Split.cons 1 rfl | apply Split.cons 2 rfl | apply Split.cons 3 rfl | apply Split.cons 4 rfl | apply Split.cons 5 rfl | apply Split.cons 6 rfl | apply Split.cons 7 rfl | apply Split.cons 8 rfl | apply Split.cons 9 rfl | apply Split.cons 10 rfl | apply Split.cons 11 rfl)) (right_spec q.a hq.a)) rfl ?_
      rintro _ H' ⟨_, ⟨rfl, rfl⟩, hH⟩
      simp only [List.cons_append, List.nil_append, List.eraseIdx_cons_zero, List.eraseIdx_cons_succ, List.set_cons_zero, List.set_cons_succ] at hH
      subst hH
      refine ops_ro' rfl (ro_not rfl rfl) rfl ?_
      refine ops_ro' rfl (ro_pick rfl rfl) rfl ?_
      refine ops_split rfl rfl rfl (fun hg30 => ?_) (fun hg30 => ?_)
      · simp only [Bool.and_eq_true, decide_eq_true_eq, Bool.not_eq_true', decide_eq_false_iff_not, bne_iff_ne, ne_eq] at hg30
        refine ops_skip' rfl rfl ?_
        refine ops_skip' rfl rfl ?_
        refine ops_ro' rfl (ro_pick rfl rfl) rfl ?_
        refine ops_nil ?_
        refine Then_normal ?_
        refine wp_condT rfl ?_
        refine wp_seq' ?_
        refine wp_region' ?_
        refine ops_eff' rfl (eff_call Tryz.call28 rfl rfl (by repeat (first | exact Split.nil _ | apply Split.cons 0 rfl | apply Split.cons 1 rfl | apply Split.cons 2 rfl | apply Split.cons 3 rfl | apply Split.cons 4 rfl | apply Split.cons 5 rfl | apply Split.cons 6 rfl | apply Split.cons 7 rfl | apply Split.cons 8 rfl | apply Split.cons 9 rfl | apply Split.cons 10 rfl | apply Split.cons 11 rfl)) (status_spec 4)) rfl ?_
        rintro _ H' ⟨_, ⟨rfl, rfl⟩, hH⟩
        simp only [List.cons_append, List.nil_append, List.eraseIdx_cons_zero, List.eraseIdx_cons_succ, List.set_cons_zero, List.set_cons_succ] at hH
        subst hH
        refine ops_eff0 rfl (eff_storeA 0 ag32 rfl rfl rfl rfl rfl (Nat.le_of_ble_eq_true rfl) (warm_zero _)) rfl ?_
        rintro _ _ rfl
        simp only [List.set_cons_zero, List.set_cons_succ]
        refine ops_nil ?_
        refine Then_normal ?_
        refine wp_ret' ?_
        refine Then_ret ?_
        refine' doneS_ret (resv1 rfl (rv_cellA ag32 rfl (by first | exact RdN.of_pick 0 rfl rdn_all | exact RdN.of_pick 1 rfl rdn_all | exact RdN.of_pick 2 rfl rdn_all | exact RdN.of_pick 3 rfl rdn_all | exact RdN.of_pick 4 rfl rdn_all | exact RdN.of_pick 5 rfl rdn_all) rfl)) ?_ ?_
        rotate_left 1
        exact ⟨t, hs, Rk.stat 4, rfl, (by unfold openR; rw [hf]; exact ⟨rfl, rfl, rfl⟩), ⟨r, hW⟩, htb, by omega, hH, rfl⟩
        exact (SubH.cons 2 rfl (SubH.cons 2 rfl (SubH.cons 2 rfl (SubH.cons 2 rfl (SubH.nil _)))))
      · simp only [Bool.and_eq_false_iff, decide_eq_false_iff_not, Bool.not_eq_false', decide_eq_true_eq] at hg30
        refine ops_ro' rfl (ro_move rfl) rfl ?_
        refine ops_ro' rfl (ro_not rfl rfl) rfl ?_
        refine ops_ro' rfl (ro_pick rfl rfl) rfl ?_
        refine ops_nil ?_
        refine Then_normal ?_
        refine wp_condT rfl ?_
        refine wp_seq' ?_
        refine wp_region' ?_
        refine ops_eff' rfl (eff_call Tryz.call28 rfl rfl (by repeat (first | exact Split.nil _ | apply Split.cons 0 rfl | apply Split.cons 1 rfl | apply Split.cons 2 rfl | apply Split.cons 3 rfl | apply Split.cons 4 rfl | apply Split.cons 5 rfl | apply Split.cons 6 rfl | apply Split.cons 7 rfl | apply Split.cons 8 rfl | apply Split.cons 9 rfl | apply Split.cons 10 rfl | apply Split.cons 11 rfl)) (status_spec 4)) rfl ?_
        rintro _ H' ⟨_, ⟨rfl, rfl⟩, hH⟩
        simp only [List.cons_append, List.nil_append, List.eraseIdx_cons_zero, List.eraseIdx_cons_succ, List.set_cons_zero, List.set_cons_succ] at hH
        subst hH
        refine ops_eff0 rfl (eff_storeA 0 ag32 rfl rfl rfl rfl rfl (Nat.le_of_ble_eq_true rfl) (warm_zero _)) rfl ?_
        rintro _ _ rfl
        simp only [List.set_cons_zero, List.set_cons_succ]
        refine ops_nil ?_
        refine Then_normal ?_
        refine wp_ret' ?_
        refine Then_ret ?_
        refine' doneS_ret (resv1 rfl (rv_cellA ag32 rfl (by first | exact RdN.of_pick 0 rfl rdn_all | exact RdN.of_pick 1 rfl rdn_all | exact RdN.of_pick 2 rfl rdn_all | exact RdN.of_pick 3 rfl rdn_all | exact RdN.of_pick 4 rfl rdn_all | exact RdN.of_pick 5 rfl rdn_all) rfl)) ?_ ?_
        rotate_left 1
        exact ⟨t, hs, Rk.stat 4, rfl, (by unfold openR; rw [hf]; exact ⟨rfl, rfl, rfl⟩), ⟨r, hW⟩, htb, by omega, hH, rfl⟩
        exact (SubH.cons 2 rfl (SubH.cons 2 rfl (SubH.cons 2 rfl (SubH.cons 2 rfl (SubH.nil _)))))
  | some i =>
    have hi := free_lt hf
    refine tri_of_wpS Tryz.func64 rfl Tryz.ntmps64 (by simp) ?_
    refine wp_seq' ?_
    refine wp_region' ?_
    refine ops_eff' rfl (eff_box rfl) rfl ?_
    rintro _ _ ⟨b5, rfl, rfl⟩
    refine ops_eff' rfl (eff_alloc z32) rfl ?_
    rintro _ _ ⟨b6, rfl, rfl⟩
    refine ops_nil ?_
    refine Then_normal ?_
    refine wp_seq' ?_
    refine wp_region' ?_
    refine ops_ro' rfl (ro_move rfl) rfl ?_
    refine ops_ro' rfl (ro_move rfl) rfl ?_
    refine ops_eff' rfl (eff_callM (Pre := []) Tryz.call124 rfl rfl (Split.nil _) (free_spec (by first | exact hv_pick 0 rfl hv_own | exact hv_pick 1 rfl hv_own | exact hv_pick 2 rfl hv_own | exact hv_pick 3 rfl hv_own | exact hv_pick 4 rfl hv_own | exact hv_pick 5 rfl hv_own) hl s hs16)) rfl ?_
    rintro _ H' ⟨_, ⟨rfl, rfl⟩, hH⟩
    simp only [List.cons_append, List.nil_append, List.eraseIdx_cons_zero, List.eraseIdx_cons_succ, List.set_cons_zero, List.set_cons_succ] at hH
    subst hH
    rw [hf]
    dsimp only [freeV]
    refine ops_ro' rfl (ro_move rfl) rfl ?_
    refine ops_ro' rfl (ro_extract rfl rfl) rfl ?_
    refine ops_ro' rfl (ro_extract rfl rfl) rfl ?_
    refine ops_ro' rfl (ro_assign rfl) rfl ?_
    refine ops_ro' rfl (ro_assign rfl) rfl ?_
    refine ops_nil ?_
    refine Then_normal ?_
    refine wp_seq' ?_
    refine wp_seq' ?_
    refine wp_region' ?_
    refine ops_ro' rfl (ro_fieldAddr fa35_7 rfl) rfl ?_
    refine ops_ro' rfl (ro_load sc27 rfl (Rd.pick 1 rfl (Rd.own rfl))) rfl ?_
    refine ops_ro' rfl (ro_and rfl rfl (and32 hq.fl (c := 3) (by decide) rfl)) rfl ?_
    refine ops_ro' rfl (ro_eql rfl rfl rfl) rfl ?_
    refine ops_split rfl rfl rfl (fun hg24 => ?_) (fun hg24 => ?_)
    · replace hg24 := of_decide_eq_true hg24
      refine ops_skip' rfl rfl ?_
      refine ops_skip' rfl rfl ?_
      refine ops_skip' rfl rfl ?_
      refine ops_skip' rfl rfl ?_
      refine ops_ro' rfl (ro_pick rfl rfl) rfl ?_
      refine ops_ro' rfl (ro_move (v := .bool true) rfl) rfl ?_
      refine ops_skip' rfl rfl ?_
      refine ops_skip' rfl rfl ?_
      refine ops_ro' rfl (ro_pick rfl rfl) rfl ?_
      refine ops_nil ?_
      refine Then_normal ?_
      refine wp_condT rfl ?_
      refine wp_seq' ?_
      refine wp_region' ?_
      refine ops_eff' rfl (eff_call Tryz.call28 rfl rfl (by repeat (first | exact Split.nil _ | apply Split.cons 0 rfl | apply Split.cons 1 rfl | apply Split.cons 2 rfl | apply Split.cons 3 rfl | apply Split.cons 4 rfl | apply Split.cons 5 rfl | apply Split.cons 6 rfl | apply Split.cons 7 rfl | apply Split.cons 8 rfl | apply Split.cons 9 rfl | apply Split.cons 10 rfl | apply Split.cons 11 rfl)) (status_spec 4)) rfl ?_
      rintro _ H' ⟨_, ⟨rfl, rfl⟩, hH⟩
      simp only [List.cons_append, List.nil_append, List.eraseIdx_cons_zero, List.eraseIdx_cons_succ, List.set_cons_zero, List.set_cons_succ] at hH
      subst hH
      refine ops_eff0 rfl (eff_storeA 0 ag32 rfl rfl rfl rfl rfl (Nat.le_of_ble_eq_true rfl) (warm_zero _)) rfl ?_
      rintro _ _ rfl
      simp only [List.set_cons_zero, List.set_cons_succ]
      refine ops_nil ?_
      refine Then_normal ?_
      refine wp_ret' ?_
      refine Then_ret ?_
      refine' doneS_ret (resv1 rfl (rv_cellA ag32 rfl (by first | exact RdN.of_pick 0 rfl rdn_all | exact RdN.of_pick 1 rfl rdn_all | exact RdN.of_pick 2 rfl rdn_all | exact RdN.of_pick 3 rfl rdn_all | exact RdN.of_pick 4 rfl rdn_all | exact RdN.of_pick 5 rfl rdn_all) rfl)) ?_ ?_
      rotate_left 1
      exact ⟨t, hs, Rk.stat 4, rfl, (by unfold openR; rw [hf]; dsimp only; rw [if_pos (by first | exact .inl (by omega) | exact .inr (.inl (by simpa using hg30)) | exact .inr (.inl (by simp_all)))]; exact ⟨rfl, rfl, rfl⟩), ⟨r, hW⟩, htb, by omega, hH, rfl⟩
      exact (SubH.cons 2 rfl (SubH.cons 2 rfl (SubH.cons 2 rfl (SubH.cons 2 rfl (SubH.nil _)))))
    · replace hg24 := of_decide_eq_false hg24
      refine ops_ro' rfl (ro_fieldAddr fa35_8 rfl) rfl ?_
      refine ops_ro' rfl (ro_loadA ag30 rfl (RdN.of_pick 1 rfl (rdn_sub 7)) rfl) rfl ?_
      refine ops_eff' rfl (eff_call Tryz.call30 rfl rfl (by repeat (first | exact Split.nil _ | apply Split.cons 0 rfl | apply Split.cons 1 rfl | apply Split.cons 2 rfl | apply Split.cons 3 rfl | apply Split.cons 4 rfl | apply Split.cons 5 rfl | apply Split.cons 6 rfl | apply Split.cons 7 rfl | apply Split.cons 8 rfl | apply Split.cons 9 rfl | apply Split.cons 10 rfl | apply Split.cons 11 rfl)) (right_spec q.a hq.a)) rfl ?_
      rintro _ H' ⟨_, ⟨rfl, rfl⟩, hH⟩
      simp only [List.cons_append, List.nil_append, List.eraseIdx_cons_zero, List.eraseIdx_cons_succ, List.set_cons_zero, List.set_cons_succ] at hH
      subst hH
      refine ops_ro' rfl (ro_not rfl rfl) rfl ?_
      refine ops_ro' rfl (ro_pick rfl rfl) rfl ?_
      refine ops_split rfl rfl rfl (fun hg30 => ?_) (fun hg30 => ?_)
      · simp only [Bool.and_eq_true, decide_eq_true_eq, Bool.not_eq_true', decide_eq_false_iff_not, bne_iff_ne, ne_eq] at hg30
        refine ops_skip' rfl rfl ?_
        refine ops_skip' rfl rfl ?_
        refine ops_ro' rfl (ro_pick rfl rfl) rfl ?_
        refine ops_nil ?_
        refine Then_normal ?_
        refine wp_condT rfl ?_
        refine wp_seq' ?_
        refine wp_region' ?_
        refine ops_eff' rfl (eff_call Tryz.call28 rfl rfl (by repeat (first | exact Split.nil _ | apply Split.cons 0 rfl | apply Split.cons 1 rfl | apply Split.cons 2 rfl | apply Split.cons 3 rfl | apply Split.cons 4 rfl | apply Split.cons 5 rfl | apply Split.cons 6 rfl | apply Split.cons 7 rfl | apply Split.cons 8 rfl | apply Split.cons 9 rfl | apply Split.cons 10 rfl | apply Split.cons 11 rfl)) (status_spec 4)) rfl ?_
        rintro _ H' ⟨_, ⟨rfl, rfl⟩, hH⟩
        simp only [List.cons_append, List.nil_append, List.eraseIdx_cons_zero, List.eraseIdx_cons_succ, List.set_cons_zero, List.set_cons_succ] at hH
        subst hH
        refine ops_eff0 rfl (eff_storeA 0 ag32 rfl rfl rfl rfl rfl (Nat.le_of_ble_eq_true rfl) (warm_zero _)) rfl ?_
        rintro _ _ rfl
        simp only [List.set_cons_zero, List.set_cons_succ]
        refine ops_nil ?_
        refine Then_normal ?_
        refine wp_ret' ?_
        refine Then_ret ?_
        refine' doneS_ret (resv1 rfl (rv_cellA ag32 rfl (by first | exact RdN.of_pick 0 rfl rdn_all | exact RdN.of_pick 1 rfl rdn_all | exact RdN.of_pick 2 rfl rdn_all | exact RdN.of_pick 3 rfl rdn_all | exact RdN.of_pick 4 rfl rdn_all | exact RdN.of_pick 5 rfl rdn_all) rfl)) ?_ ?_
        rotate_left 1
        exact ⟨t, hs, Rk.stat 4, rfl, (by unfold openR; rw [hf]; dsimp only; rw [if_pos (by first | exact .inl (by omega) | exact .inr (.inl (by simpa using hg30)) | exact .inr (.inl (by simp_all)))]; exact ⟨rfl, rfl, rfl⟩), ⟨r, hW⟩, htb, by omega, hH, rfl⟩
        exact (SubH.cons 2 rfl (SubH.cons 2 rfl (SubH.cons 2 rfl (SubH.cons 2 rfl (SubH.nil _)))))
      · simp only [Bool.and_eq_false_iff, decide_eq_false_iff_not, Bool.not_eq_false', decide_eq_true_eq] at hg30
        refine ops_ro' rfl (ro_move rfl) rfl ?_
        refine ops_ro' rfl (ro_not rfl rfl) rfl ?_
        refine ops_ro' rfl (ro_pick rfl rfl) rfl ?_
        refine ops_nil ?_
        refine Then_normal ?_
        refine wp_condF rfl ?_
        refine wp_skip' ?_
        refine Then_normal ?_
        refine wp_seq' ?_
        refine wp_region' ?_
        refine ops_ro' rfl (ro_fieldAddr fa35_1 rfl) rfl ?_
        refine ops_ro' rfl (ro_load sc9 rfl (Rd.pick 1 rfl (Rd.own rfl))) rfl ?_
        refine ops_eff' rfl (eff_call Tryz.call31 rfl rfl (by repeat (first | exact Split.nil _ | apply Split.cons 0 rfl | apply Split.cons 1 rfl | apply Split.cons 2 rfl | apply Split.cons 3 rfl | apply Split.cons 4 rfl | apply Split.cons 5 rfl | apply Split.cons 6 rfl | apply Split.cons 7 rfl | apply Split.cons 8 rfl | apply Split.cons 9 rfl | apply Split.cons 10 rfl | apply Split.cons 11 rfl)) (ptSplit_spec V hP q.path hq.path)) rfl ?_
        rintro _ H' ⟨_, ⟨_, ⟨p38, c38, rfl, rfl⟩, rfl⟩, hH⟩
        simp only [List.cons_append, List.nil_append, List.eraseIdx_cons_zero, List.eraseIdx_cons_succ, List.set_cons_zero, List.set_cons_succ] at hH
        subst hH
        have hfew := pSplit_few q.path
        have hlast := pSplit_last q.path
        obtain ⟨pp, hpp⟩ : ∃ z, pSplit q.path = z := ⟨_, rfl⟩
        rw [hpp] at hfew hlast ⊢
        refine ops_ro' rfl (ro_move rfl) rfl ?_
        refine ops_ro' rfl (ro_extract rfl rfl) rfl ?_
        refine ops_ro' rfl (ro_extract rfl rfl) rfl ?_
        refine ops_ro' rfl (ro_assign rfl) rfl ?_
        refine ops_ro' rfl (ro_assign rfl) rfl ?_
        refine ops_nil ?_
        refine Then_normal ?_
        refine wp_seq' ?_
        refine wp_seq' ?_
        refine wp_region' ?_
        refine ops_ro' rfl (ro_move rfl) rfl ?_
        refine ops_ro' rfl (ro_neq rfl rfl rfl) rfl ?_
        refine ops_nil ?_
        refine Then_normal ?_
        refine wp_cond' rfl (fun hc42 => ?_) (fun hc42 => ?_)
        · replace hc42 := of_decide_eq_true hc42
          refine wp_seq' ?_
          refine wp_region' ?_
          refine ops_eff' rfl (eff_call Tryz.call28 rfl rfl (by repeat (first | exact Split.nil _ | apply Split.cons 0 rfl | apply Split.cons 1 rfl | apply Split.cons 2 rfl | apply Split.cons 3 rfl | apply Split.cons 4 rfl | apply Split.cons 5 rfl | apply Split.cons 6 rfl | apply Split.cons 7 rfl | apply Split.cons 8 rfl | apply Split.cons 9 rfl | apply Split.cons 10 rfl | apply Split.cons 11 rfl)) (status_spec 4)) rfl ?_
          rintro _ H' ⟨_, ⟨rfl, rfl⟩, hH⟩
          simp only [List.cons_append, List.nil_append, List.eraseIdx_cons_zero, List.eraseIdx_cons_succ, List.set_cons_zero, List.set_cons_succ] at hH
          subst hH
          refine ops_eff0 rfl (eff_storeA 2 ag32 rfl rfl rfl rfl rfl (Nat.le_of_ble_eq_true rfl) (warm_zero _)) rfl ?_
          rintro _ _ rfl
          simp only [List.set_cons_zero, List.set_cons_succ]
          refine ops_nil ?_
          refine Then_normal ?_
          refine wp_ret' ?_
          refine Then_ret ?_
          refine' doneS_ret (resv1 rfl (rv_cellA ag32 rfl (by first | exact RdN.of_pick 0 rfl rdn_all | exact RdN.of_pick 1 rfl rdn_all | exact RdN.of_pick 2 rfl rdn_all | exact RdN.of_pick 3 rfl rdn_all | exact RdN.of_pick 4 rfl rdn_all | exact RdN.of_pick 5 rfl rdn_all) rfl)) ?_ ?_
          rotate_left 1
          exact ⟨t, hs, Rk.stat 4, rfl, (by unfold openR; rw [hf]; dsimp only; rw [if_pos (.inr (.inr (by rw [hpp]; omega)))]; exact ⟨rfl, rfl, rfl⟩), ⟨r, hW⟩, htb, by omega, hH, rfl⟩
          exact (SubH.cons 4 rfl (SubH.cons 4 rfl (SubH.cons 4 rfl (SubH.cons 1 rfl (SubH.nil _)))))
        · replace hc42 := of_decide_eq_false hc42
          have hrt : q.a.right = true := by first | assumption | simp_all
          have hpe : pp.2 = 0 := by omega
          have hf3 : ¬ q.flags &&& 3 = 0 := by omega
          refine wp_skip' ?_
          refine Then_normal ?_
          refine wp_seq' ?_
          refine wp_know (fun w F s => row_caps 0 rfl s) ?_
          intro hpc
          refine wp_region' ?_
          refine ops_ro' rfl (ro_move rfl) rfl ?_
          refine ops_ro' rfl (ro_nilCheck rfl) rfl ?_
          refine ops_ro' rfl (ro_fieldAddr fa71_0 rfl) rfl ?_
          refine ops_ro' rfl (ro_load sc51 rfl (Rd.pick 4 rfl (Rd.own rfl))) rfl ?_
          refine ops_ro' rfl (ro_move rfl) rfl ?_
          refine ops_eff' rfl (eff_callM (Pre := []) Tryz.call39 rfl rfl (Split.nil _) (tri_argc htb (look_spec (by first | exact Tv.pick 0 rfl (tree_tv t) | exact Tv.pick 1 rfl (tree_tv t) | exact Tv.pick 2 rfl (tree_tv t) | exact Tv.pick 3 rfl (tree_tv t) | exact Tv.pick 4 rfl (tree_tv t) | exact Tv.pick 5 rfl (tree_tv t)) hW _ _ pp.1 (by first | exact Vw.pick 0 rfl Vw.row | exact Vw.pick 1 rfl Vw.row | exact Vw.pick 2 rfl Vw.row | exact Vw.pick 3 rfl Vw.row | exact Vw.pick 4 rfl Vw.row | exact Vw.pick 5 rfl Vw.row | exact Vw.nil _ | exact Vw.empty _ _) hfew))) rfl ?_
          rintro _ H' ⟨_, ⟨rfl, rfl⟩, hH⟩
          simp only [List.cons_append, List.nil_append, List.eraseIdx_cons_zero, List.eraseIdx_cons_succ, List.set_cons_zero, List.set_cons_succ] at hH
          subst hH
          obtain ⟨⟨id1, e1⟩, hz1⟩ : ∃ z : Int × Int, lookO (fnd t.ns r pp.1) = z := ⟨_, rfl⟩
          rw [hz1]
          dsimp only
          refine ops_ro' rfl (ro_move rfl) rfl ?_
          refine ops_ro' rfl (ro_extract rfl rfl) rfl ?_
          refine ops_ro' rfl (ro_extract rfl rfl) rfl ?_
          refine ops_ro' rfl (ro_assign rfl) rfl ?_
          refine ops_ro' rfl (ro_assign rfl) rfl ?_
          refine ops_nil ?_
          refine Then_normal ?_
          refine wp_seq' ?_
          refine wp_region' ?_
          refine ops_ro' rfl (ro_assign rfl) rfl ?_
          refine ops_nil ?_
          refine Then_normal ?_
          refine wp_cutK 1018 (fun Δ LL => ∃ (t2 : Tr) (r2 : Nd) (id2 : Int), (Wf t2 r2 ∧ t2.tb = tb ∧ t2.next ≤ t.next + 1 ∧ (∀ t3 hs3 k3, openT t2 hs s i q id2 t3 hs3 k3 → openR t r hs s q t3 hs3 k3)) ∧ Δ = [(11, .int .i64 id2)] ∧ LL = [own b6 (.cells ((Rk.rep ⟨0, 0, [], [], [], At.zero⟩ none 0 none 0).cs).toArray 32 (0, 0)), own b5 (.cells (q.cs).toArray 35 (0, 0)), oMa mb tb hs, tree t2, St (hs.map rowN), V]) (Has.cons (k := 0) rfl (Has.cons (k := 1) rfl (Has.cons (k := 5) rfl (Has.cons (k := 6) rfl (Has.cons (k := 7) rfl (Has.nil _)))))) ?_ ?_
          · refine wp_block' ?_
            refine wp_seq' ?_
            refine wp_region' ?_
            refine ops_ro' rfl (ro_move rfl) rfl ?_
            refine ops_ro' rfl (ro_eql rfl rfl rfl) rfl ?_
            refine ops_split rfl rfl rfl (fun hg56 => ?_) (fun hg56 => ?_)
            · replace hg56 := of_decide_eq_true hg56
              refine ops_ro' rfl (ro_move rfl) rfl ?_
              refine ops_ro' rfl (ro_nilCheck rfl) rfl ?_
              refine ops_ro' rfl (ro_fieldAddr fa71_0 rfl) rfl ?_
              refine ops_ro' rfl (ro_load sc51 rfl (Rd.pick 4 rfl (Rd.own rfl))) rfl ?_
              refine ops_ro' rfl (ro_move rfl) rfl ?_
              refine ops_eff' rfl (eff_callM (Pre := []) Tryz.call100 rfl rfl (Split.nil _) (tri_argc htb (dir_spec (by first | exact Tv.pick 0 rfl (tree_tv t) | exact Tv.pick 1 rfl (tree_tv t) | exact Tv.pick 2 rfl (tree_tv t) | exact Tv.pick 3 rfl (tree_tv t) | exact Tv.pick 4 rfl (tree_tv t) | exact Tv.pick 5 rfl (tree_tv t)) id1))) rfl ?_
              rintro _ H' ⟨_, ⟨rfl, rfl⟩, hH⟩
              simp only [List.cons_append, List.nil_append, List.eraseIdx_cons_zero, List.eraseIdx_cons_succ, List.set_cons_zero, List.set_cons_succ] at hH
              subst hH
              obtain ⟨d1, hd1⟩ : ∃ z, dirO (byId t.ns id1) = z := ⟨_, rfl⟩
              try rw [hd1]
              refine ops_split rfl rfl rfl (fun hg63 => ?_) (fun hg63 => ?_)
              · skip
                refine ops_skip' rfl rfl ?_
                refine ops_skip' rfl rfl ?_
                refine ops_skip' rfl rfl ?_
                refine ops_skip' rfl rfl ?_
                refine ops_skip' rfl rfl ?_
                refine ops_skip' rfl rfl ?_
                refine ops_ro' rfl (ro_pick rfl rfl) rfl ?_
                refine ops_ro' rfl (ro_pick rfl rfl) rfl ?_
                refine ops_ro' rfl (ro_assign rfl) rfl ?_
                refine ops_nil ?_
                refine Then_normal ?_
                refine wp_condT rfl ?_
                refine wp_seq' ?_
                refine wp_region' ?_
                refine ops_eff' rfl (eff_call Tryz.call28 rfl rfl (by repeat (first | exact Split.nil _ | apply Split.cons 0 rfl | apply Split.cons 1 rfl | apply Split.cons 2 rfl | apply Split.cons 3 rfl | apply Split.cons 4 rfl | apply Split.cons 5 rfl | apply Split.cons 6 rfl | apply Split.cons 7 rfl | apply Split.cons 8 rfl | apply Split.cons 9 rfl | apply Split.cons 10 rfl | apply Split.cons 11 rfl)) (status_spec 4)) rfl ?_
                rintro _ H' ⟨_, ⟨rfl, rfl⟩, hH⟩
                simp only [List.cons_append, List.nil_append, List.eraseIdx_cons_zero, List.eraseIdx_cons_succ, List.set_cons_zero, List.set_cons_succ] at hH
                subst hH
                refine ops_eff0 rfl (eff_storeA 2 ag32 rfl rfl rfl rfl rfl (Nat.le_of_ble_eq_true rfl) (warm_zero _)) rfl ?_
                rintro _ _ rfl
                simp only [List.set_cons_zero, List.set_cons_succ]
                refine ops_nil ?_
                refine Then_normal ?_
                refine wp_ret' ?_
                refine InBlock_ret ?_
                refine Then_ret ?_
                refine' doneS_ret (resv1 rfl (rv_cellA ag32 rfl (by first | exact RdN.of_pick 0 rfl rdn_all | exact RdN.of_pick 1 rfl rdn_all | exact RdN.of_pick 2 rfl rdn_all | exact RdN.of_pick 3 rfl rdn_all | exact RdN.of_pick 4 rfl rdn_all | exact RdN.of_pick 5 rfl rdn_all) rfl)) ?_ ?_
                rotate_left 1
                exact ⟨t, hs, Rk.stat 4, rfl, (by unfold openR; rw [hf]; dsimp only; rw [if_neg (by rintro (h | h | h) <;> first | omega | (rw [h] at hrt; cases hrt) | (rw [hpp] at h; omega)), hpp, hz1]; dsimp only; rw [if_pos (by omega), hd1, if_pos (by first | exact .inr (by omega) | exact .inl (by simpa using hg63) | exact .inl (by simp_all))]; exact ⟨rfl, rfl, rfl⟩), ⟨r, hW⟩, htb, by omega, hH, rfl⟩
                exact (SubH.cons 4 rfl (SubH.cons 4 rfl (SubH.cons 4 rfl (SubH.cons 1 rfl (SubH.nil _)))))
              · skip
                refine ops_ro' rfl (ro_fieldAddr fa35_7 rfl) rfl ?_
                refine ops_ro' rfl (ro_load sc27 rfl (Rd.pick 3 rfl (Rd.own rfl))) rfl ?_
                refine ops_ro' rfl (ro_move rfl) rfl ?_
                refine ops_ro' rfl (ro_and rfl rfl (and32 hq.fl (c := 40) (by decide) rfl)) rfl ?_
                refine ops_ro' rfl (ro_move rfl) rfl ?_
                refine ops_ro' rfl (ro_eql rfl rfl rfl) rfl ?_
                refine ops_ro' rfl (ro_pick rfl rfl) rfl ?_
                refine ops_ro' rfl (ro_pick rfl rfl) rfl ?_
                refine ops_ro' rfl (ro_assign rfl) rfl ?_
                refine ops_nil ?_
                refine Then_normal ?_
                refine wp_cond' rfl (fun hc53 => ?_) (fun hc53 => ?_)
                · replace hc53 := of_decide_eq_true hc53
                  refine wp_seq' ?_
                  refine wp_region' ?_
                  refine ops_eff' rfl (eff_call Tryz.call28 rfl rfl (by repeat (first | exact Split.nil _ | apply Split.cons 0 rfl | apply Split.cons 1 rfl | apply Split.cons 2 rfl | apply Split.cons 3 rfl | apply Split.cons 4 rfl | apply Split.cons 5 rfl | apply Split.cons 6 rfl | apply Split.cons 7 rfl | apply Split.cons 8 rfl | apply Split.cons 9 rfl | apply Split.cons 10 rfl | apply Split.cons 11 rfl)) (status_spec 4)) rfl ?_
                  rintro _ H' ⟨_, ⟨rfl, rfl⟩, hH⟩
                  simp only [List.cons_append, List.nil_append, List.eraseIdx_cons_zero, List.eraseIdx_cons_succ, List.set_cons_zero, List.set_cons_succ] at hH
                  subst hH
                  refine ops_eff0 rfl (eff_storeA 2 ag32 rfl rfl rfl rfl rfl (Nat.le_of_ble_eq_true rfl) (warm_zero _)) rfl ?_
                  rintro _ _ rfl
                  simp only [List.set_cons_zero, List.set_cons_succ]
                  refine ops_nil ?_
                  refine Then_normal ?_
                  refine wp_ret' ?_
                  refine InBlock_ret ?_
                  refine Then_ret ?_
                  refine' doneS_ret (resv1 rfl (rv_cellA ag32 rfl (by first | exact RdN.of_pick 0 rfl rdn_all | exact RdN.of_pick 1 rfl rdn_all | exact RdN.of_pick 2 rfl rdn_all | exact RdN.of_pick 3 rfl rdn_all | exact RdN.of_pick 4 rfl rdn_all | exact RdN.of_pick 5 rfl rdn_all) rfl)) ?_ ?_
                  rotate_left 1
                  exact ⟨t, hs, Rk.stat 4, rfl, (by unfold openR; rw [hf]; dsimp only; rw [if_neg (by rintro (h | h | h) <;> first | omega | (rw [h] at hrt; cases hrt) | (rw [hpp] at h; omega)), hpp, hz1]; dsimp only; rw [if_pos (by omega), hd1, if_pos (by first | exact .inr (by omega) | exact .inl (by simpa using hg63) | exact .inl (by simp_all))]; exact ⟨rfl, rfl, rfl⟩), ⟨r, hW⟩, htb, by omega, hH, rfl⟩
                  exact (SubH.cons 4 rfl (SubH.cons 4 rfl (SubH.cons 4 rfl (SubH.cons 1 rfl (SubH.nil _)))))
                · replace hc53 := of_decide_eq_false hc53
                  refine wp_seq' ?_
                  refine wp_region' ?_
                  refine ops_ro' rfl (ro_move rfl) rfl ?_
                  refine ops_ro' rfl (ro_neq rfl rfl (decide_eq_false (by omega))) rfl ?_
                  refine ops_ro' rfl (ro_move (v := .bool false) rfl) rfl ?_
                  refine ops_skip' rfl rfl ?_
                  refine ops_skip' rfl rfl ?_
                  refine ops_skip' rfl rfl ?_
                  refine ops_skip' rfl rfl ?_
                  refine ops_ro' rfl (ro_pick rfl rfl) rfl ?_
                  refine ops_ro' rfl (ro_assign rfl) rfl ?_
                  refine ops_nil ?_
                  refine Then_normal ?_
                  refine wp_condF rfl ?_
                  refine wp_seq' ?_
                  refine wp_region' ?_
                  refine ops_ro' rfl (ro_move rfl) rfl ?_
                  refine ops_ro' rfl (ro_neq rfl rfl (decide_eq_false (by omega))) rfl ?_
                  refine ops_ro' rfl (ro_assign rfl) rfl ?_
                  refine ops_nil ?_
                  refine Then_normal ?_
                  refine wp_condF rfl ?_
                  refine wp_skip' ?_
                  refine InBlock_normal ?_
                  refine Then_normal ?_
                  refine over_cut (kept ⟨t, r, id1, ⟨hW, htb, by omega, fun t3 hs3 k3 h3 => (by unfold openR; rw [hf]; dsimp only; rw [if_neg (by rintro (h | h | h) <;> first | omega | (rw [h] at hrt; cases hrt) | (rw [hpp] at h; omega)), hpp, hz1]; dsimp only; rw [if_pos (by omega), hd1, if_neg (by rintro (h | h) <;> first | omega | simp_all)]; exact h3)⟩, rfl, rfl⟩ ?_ ?_ ?_)
                  · exact (by repeat (first | exact Has.nil _ | refine Has.cons rfl ?_))
                  · exact (by repeat (first | exact Has.nil _ | refine Has.cons rfl ?_))
                  · exact (SubH.cons 2 rfl (SubH.cons 2 rfl (SubH.cons 2 rfl (SubH.cons 2 rfl (SubH.cons 2 rfl (SubH.cons 1 rfl (SubH.nil _)))))))
            · replace hg56 := of_decide_eq_false hg56
              refine ops_skip' rfl rfl ?_
              refine ops_skip' rfl rfl ?_
              refine ops_skip' rfl rfl ?_
              refine ops_skip' rfl rfl ?_
              refine ops_skip' rfl rfl ?_
              refine ops_skip' rfl rfl ?_
              obtain ⟨d1, hd1⟩ : ∃ z, dirO (byId t.ns id1) = z := ⟨_, rfl⟩
              try rw [hd1]
              refine ops_skip' rfl rfl ?_
              refine ops_skip' rfl rfl ?_
              refine ops_skip' rfl rfl ?_
              refine ops_skip' rfl rfl ?_
              refine ops_skip' rfl rfl ?_
              refine ops_skip' rfl rfl ?_
              refine ops_skip' rfl rfl ?_
              refine ops_skip' rfl rfl ?_
              refine ops_ro' rfl (ro_pick rfl rfl) rfl ?_
              refine ops_ro' rfl (ro_assign rfl) rfl ?_
              refine ops_nil ?_
              refine Then_normal ?_
              refine wp_condF rfl ?_
              refine wp_seq' ?_
              refine wp_region' ?_
              refine ops_ro' rfl (ro_move rfl) rfl ?_
              refine ops_ro' rfl (ro_neq rfl rfl (decide_eq_true (by omega))) rfl ?_
              refine ops_ro' rfl (ro_move (v := .bool true) rfl) rfl ?_
              refine ops_ro' rfl (ro_fieldAddr fa35_7 rfl) rfl ?_
              refine ops_ro' rfl (ro_load sc27 rfl (Rd.pick 3 rfl (Rd.own rfl))) rfl ?_
              refine ops_ro' rfl (ro_and rfl rfl (and32 hq.fl (c := 8) (by decide) rfl)) rfl ?_
              refine ops_ro' rfl (ro_eql rfl rfl rfl) rfl ?_
              refine ops_ro' rfl (ro_pick rfl rfl) rfl ?_
              refine ops_ro' rfl (ro_assign rfl) rfl ?_
              refine ops_nil ?_
              refine Then_normal ?_
              refine wp_cond' rfl (fun hc73 => ?_) (fun hc73 => ?_)
              · replace hc73 := of_decide_eq_true hc73
                refine wp_seq' ?_
                refine wp_region' ?_
                refine ops_eff' rfl (eff_call Tryz.call28 rfl rfl (by repeat (first | exact Split.nil _ | apply Split.cons 0 rfl | apply Split.cons 1 rfl | apply Split.cons 2 rfl | apply Split.cons 3 rfl | apply Split.cons 4 rfl | apply Split.cons 5 rfl | apply Split.cons 6 rfl | apply Split.cons 7 rfl | apply Split.cons 8 rfl | apply Split.cons 9 rfl | apply Split.cons 10 rfl | apply Split.cons 11 rfl)) (status_spec 2)) rfl ?_
                rintro _ H' ⟨_, ⟨rfl, rfl⟩, hH⟩
                simp only [List.cons_append, List.nil_append, List.eraseIdx_cons_zero, List.eraseIdx_cons_succ, List.set_cons_zero, List.set_cons_succ] at hH
                subst hH
                refine ops_eff0 rfl (eff_storeA 2 ag32 rfl rfl rfl rfl rfl (Nat.le_of_ble_eq_true rfl) (warm_zero _)) rfl ?_
                rintro _ _ rfl
                simp only [List.set_cons_zero, List.set_cons_succ]
                refine ops_nil ?_
                refine Then_normal ?_
                refine wp_ret' ?_
                refine InBlock_ret ?_
                refine Then_ret ?_
                refine' doneS_ret (resv1 rfl (rv_cellA ag32 rfl (by first | exact RdN.of_pick 0 rfl rdn_all | exact RdN.of_pick 1 rfl rdn_all | exact RdN.of_pick 2 rfl rdn_all | exact RdN.of_pick 3 rfl rdn_all | exact RdN.of_pick 4 rfl rdn_all | exact RdN.of_pick 5 rfl rdn_all) rfl)) ?_ ?_
                rotate_left 1
                exact ⟨t, hs, Rk.stat 2, rfl, (by unfold openR; rw [hf]; dsimp only; rw [if_neg (by rintro (h | h | h) <;> first | omega | (rw [h] at hrt; cases hrt) | (rw [hpp] at h; omega)), hpp, hz1]; dsimp only; rw [if_neg (by omega), if_pos (by omega)]; exact ⟨rfl, rfl, rfl⟩), ⟨r, hW⟩, htb, by omega, hH, rfl⟩
                exact (SubH.cons 4 rfl (SubH.cons 4 rfl (SubH.cons 4 rfl (SubH.cons 1 rfl (SubH.nil _)))))
              · replace hc73 := of_decide_eq_false hc73
                refine wp_seq' ?_
                refine wp_region' ?_
                refine ops_ro' rfl (ro_move rfl) rfl ?_
                refine ops_ro' rfl (ro_neq rfl rfl (decide_eq_true (by omega))) rfl ?_
                refine ops_ro' rfl (ro_assign rfl) rfl ?_
                refine ops_nil ?_
                refine Then_normal ?_
                refine wp_condT rfl ?_
                refine wp_seq' ?_
                refine wp_seq' ?_
                refine wp_region' ?_
                refine ops_ro' rfl (ro_move rfl) rfl ?_
                refine ops_ro' rfl (ro_nilCheck rfl) rfl ?_
                refine ops_ro' rfl (ro_fieldAddr fa71_0 rfl) rfl ?_
                refine ops_ro' rfl (ro_load sc51 rfl (Rd.pick 4 rfl (Rd.own rfl))) rfl ?_
                refine ops_ro' rfl (ro_move rfl) rfl ?_
                refine ops_eff' rfl (eff_call Tryz.call34 rfl rfl (by repeat (first | exact Split.nil _ | apply Split.cons 0 rfl | apply Split.cons 1 rfl | apply Split.cons 2 rfl | apply Split.cons 3 rfl | apply Split.cons 4 rfl | apply Split.cons 5 rfl | apply Split.cons 6 rfl | apply Split.cons 7 rfl | apply Split.cons 8 rfl | apply Split.cons 9 rfl | apply Split.cons 10 rfl | apply Split.cons 11 rfl)) (tri_argc htb (make_spec (V := row 9 1 (.slice p38 pp.1.length c38) pp.1.length (txs pp.1)) hW hnx _ _ pp.1 Vw.row hpc hfew (by omega) false))) rfl ?_
                rintro _ H' ⟨_, ⟨t1, r1, i1, e2, rfl, hR1, hW1, rfl⟩, hH⟩
                simp only [List.cons_append, List.nil_append, List.eraseIdx_cons_zero, List.eraseIdx_cons_succ, List.set_cons_zero, List.set_cons_succ] at hH
                subst hH
                obtain ⟨hnx1, htb1⟩ := make_nx hR1
                have htb1 : t1.tb = tb := by rw [htb1, htb]
                refine ops_ro' rfl (ro_move rfl) rfl ?_
                refine ops_ro' rfl (ro_extract rfl rfl) rfl ?_
                refine ops_ro' rfl (ro_extract rfl rfl) rfl ?_
                refine ops_ro' rfl (ro_assign rfl) rfl ?_
                refine ops_ro' rfl (ro_assign rfl) rfl ?_
                refine ops_nil ?_
                refine Then_normal ?_
                refine wp_seq' ?_
                refine wp_region' ?_
                refine ops_ro' rfl (ro_move rfl) rfl ?_
                refine ops_ro' rfl (ro_neq rfl rfl rfl) rfl ?_
                refine ops_nil ?_
                refine Then_normal ?_
                refine wp_cond' rfl (fun hc96 => ?_) (fun hc96 => ?_)
                · replace hc96 := of_decide_eq_true hc96
                  refine wp_seq' ?_
                  refine wp_region' ?_
                  refine ops_ro' rfl (ro_move rfl) rfl ?_
                  refine ops_eff' rfl (eff_call Tryz.call32 rfl rfl (by repeat (first | exact Split.nil _ | apply Split.cons 0 rfl | apply Split.cons 1 rfl | apply Split.cons 2 rfl | apply Split.cons 3 rfl | apply Split.cons 4 rfl | apply Split.cons 5 rfl | apply Split.cons 6 rfl | apply Split.cons 7 rfl | apply Split.cons 8 rfl | apply Split.cons 9 rfl | apply Split.cons 10 rfl | apply Split.cons 11 rfl)) (of_spec e2)) rfl ?_
                  rintro _ H' ⟨_, ⟨rfl, rfl⟩, hH⟩
                  simp only [List.cons_append, List.nil_append, List.eraseIdx_cons_zero, List.eraseIdx_cons_succ, List.set_cons_zero, List.set_cons_succ] at hH
                  subst hH
                  refine ops_eff0 rfl (eff_storeA 3 ag32 rfl rfl rfl rfl rfl (Nat.le_of_ble_eq_true rfl) (warm_zero _)) rfl ?_
                  rintro _ _ rfl
                  simp only [List.set_cons_zero, List.set_cons_succ]
                  refine ops_nil ?_
                  refine Then_normal ?_
                  refine wp_ret' ?_
                  refine Then_ret ?_
                  refine InBlock_ret ?_
                  refine Then_ret ?_
                  refine' doneS_ret (resv1 rfl (rv_cellA ag32 rfl (by first | exact RdN.of_pick 0 rfl rdn_all | exact RdN.of_pick 1 rfl rdn_all | exact RdN.of_pick 2 rfl rdn_all | exact RdN.of_pick 3 rfl rdn_all | exact RdN.of_pick 4 rfl rdn_all | exact RdN.of_pick 5 rfl rdn_all) rfl)) ?_ ?_
                  rotate_left 1
                  exact ⟨t1, hs, ofK e2, (by rw [← ofE_rep]; rfl), (by unfold openR; rw [hf]; dsimp only; rw [if_neg (by rintro (h | h | h) <;> first | omega | (rw [h] at hrt; cases hrt) | (rw [hpp] at h; omega)), hpp, hz1]; dsimp only; rw [if_neg (by omega), if_neg (by omega)]; exact ⟨t1, r1, i1, e2, hR1, by rw [if_pos (by omega)]; exact ⟨rfl, rfl, rfl⟩⟩), ⟨r1, hW1⟩, htb1, by omega, hH, rfl⟩
                  exact (SubH.cons 5 rfl (SubH.cons 0 rfl (SubH.cons 4 rfl (SubH.cons 1 rfl (SubH.nil _)))))
                · replace hc96 := of_decide_eq_false hc96
                  refine wp_skip' ?_
                  refine Then_normal ?_
                  refine wp_draw 9 (by kernel_rfl) (Split.cons 4 rfl (Split.cons 4 rfl (Split.nil _))) ?_
                  refine any_ro' (i := 0) (by kernel_rfl) rfl rfl (ro_move rfl) rfl (fun _ _ _ h => h) ?_
                  refine any_ro' (i := 1) (by kernel_rfl) rfl rfl (ro_nilCheck rfl) rfl (fun _ _ _ h => h) ?_
                  refine any_ro' (i := 2) (by kernel_rfl) rfl rfl (ro_fieldAddr fa71_0 rfl) rfl (fun _ _ _ h => h) ?_
                  refine any_ro' (i := 3) (by kernel_rfl) rfl rfl (ro_load sc51 rfl (Rd.pick 1 rfl (Rd.own rfl))) rfl (fun _ _ _ h => h) ?_
                  refine any_ro' (i := 4) (by kernel_rfl) rfl rfl (ro_move rfl) rfl (fun _ _ _ h => h) ?_
                  refine any_ro' (i := 5) (by kernel_rfl) rfl rfl (ro_fieldAddr fa35_8 rfl) rfl (fun _ _ _ h => h) ?_
                  refine any_ro' (i := 6) (by kernel_rfl) rfl rfl (ro_loadA ag30 rfl (RdN.of_pick 0 rfl (rdn_sub 7)) rfl) rfl (fun _ _ _ h => h) ?_
                  refine any_eff' (i := 7) (by kernel_rfl) rfl rfl (eff_call Tryz.call36 rfl rfl (by repeat (first | exact Split.nil _ | apply Split.cons 0 rfl | apply Split.cons 1 rfl | apply Split.cons 2 rfl | apply Split.cons 3 rfl | apply Split.cons 4 rfl | apply Split.cons 5 rfl | apply Split.cons 6 rfl | apply Split.cons 7 rfl | apply Split.cons 8 rfl | apply Split.cons 9 rfl | apply Split.cons 10 rfl | apply Split.cons 11 rfl)) (fbare_spec q.a hq.a)) rfl ?_
                  rintro _ H' ⟨_, ⟨rfl, rfl⟩, hH⟩
                  simp only [List.cons_append, List.nil_append, List.eraseIdx_cons_zero, List.eraseIdx_cons_succ, List.set_cons_zero, List.set_cons_succ] at hH
                  subst hH
                  refine any_eff' (i := 8) (by kernel_rfl) rfl rfl (eff_call Tryz.call35 rfl rfl (by repeat (first | exact Split.nil _ | apply Split.cons 0 rfl | apply Split.cons 1 rfl | apply Split.cons 2 rfl | apply Split.cons 3 rfl | apply Split.cons 4 rfl | apply Split.cons 5 rfl | apply Split.cons 6 rfl | apply Split.cons 7 rfl | apply Split.cons 8 rfl | apply Split.cons 9 rfl | apply Split.cons 10 rfl | apply Split.cons 11 rfl)) (tri_argc htb1 (set_spec hW1 i1 (bareA q.a) (bare_ok hq.a)))) rfl ?_
                  rintro _ H' ⟨_, ⟨t2, e3, rfl, hR2, rfl⟩, hH⟩
                  simp only [List.cons_append, List.nil_append, List.eraseIdx_cons_zero, List.eraseIdx_cons_succ, List.set_cons_zero, List.set_cons_succ] at hH
                  subst hH
                  obtain ⟨⟨r2, hW2⟩, hnx2, htb2, _⟩ := set_wf hW1 (bare_ok hq.a) hR2
                  have htb2 : t2.tb = tb := by rw [htb2, htb1]
                  refine any_done (by kernel_rfl) ?_
                  refine InBlock_normal ?_
                  refine Then_normal ?_
                  refine over_cut (kept ⟨t2, r2, i1, ⟨hW2, htb2, by omega, fun t3 hs3 k3 h3 => (by unfold openR; rw [hf]; dsimp only; rw [if_neg (by rintro (h | h | h) <;> first | omega | (rw [h] at hrt; cases hrt) | (rw [hpp] at h; omega)), hpp, hz1]; dsimp only; rw [if_neg (by omega), if_neg (by omega)]; exact ⟨t1, r1, i1, e2, hR1, by rw [if_neg (by omega)]; exact ⟨t2, e3, hR2, h3⟩⟩)⟩, rfl, rfl⟩ ?_ ?_ ?_)
                  · exact (by repeat (first | exact Has.nil _ | refine Has.cons rfl ?_))
                  · exact (by repeat (first | exact Has.nil _ | refine Has.cons rfl ?_))
                  · exact (SubH.cons 5 rfl (SubH.cons 0 rfl (SubH.cons 0 rfl (SubH.cons 0 rfl (SubH.cons 2 rfl (SubH.cons 1 rfl (SubH.nil _)))))))
          · rintro Δ LL ⟨t2, r2, id2, ⟨hW2, htb2, hnx2, hO2⟩, rfl, rfl⟩
            simp only [List.cons_append, List.nil_append]
            refine wp_cutK 1021 (fun Δ LL => ∃ (t3 : Tr), ((∃ r3, Wf t3 r3) ∧ t3.tb = tb ∧ t3.next ≤ t.next + 1 ∧ openR t r hs s q t3 (hs.set (s * 16 + i) (⟨true, id2, false, q.flags &&& 7, none, 0, []⟩ : Hd)) (hdlK i)) ∧ Δ = [] ∧ LL = [own b6 (.cells ((Rk.rep ⟨0, 0, [], [], [], At.zero⟩ none 0 none 0).cs).toArray 32 (0, 0)), own b5 (.cells (q.cs).toArray 35 (0, 0)), oMa mb tb hs, tree t3, St (hs.map rowN), V]) (Has.cons (k := 0) rfl (Has.cons (k := 1) rfl (Has.cons (k := 5) rfl (Has.cons (k := 6) rfl (Has.cons (k := 7) rfl (Has.cons (k := 11) rfl (Has.nil _))))))) ?_ ?_
            · refine wp_seq' ?_
              refine wp_region' ?_
              refine ops_ro' rfl (ro_assign rfl) rfl ?_
              refine ops_nil ?_
              refine Then_normal ?_
              refine wp_seq' ?_
              refine wp_region' ?_
              refine ops_ro' rfl (ro_fieldAddr fa35_7 rfl) rfl ?_
              refine ops_ro' rfl (ro_load sc27 rfl (Rd.pick 1 rfl (Rd.own rfl))) rfl ?_
              refine ops_ro' rfl (ro_move rfl) rfl ?_
              refine ops_ro' rfl (ro_and rfl rfl (and32 hq.fl (c := 18) (by decide) rfl)) rfl ?_
              refine ops_ro' rfl (ro_move rfl) rfl ?_
              refine ops_ro' rfl (ro_eql rfl rfl rfl) rfl ?_
              refine ops_nil ?_
              refine Then_normal ?_
              refine wp_cond' rfl (fun hc113 => ?_) (fun hc113 => ?_)
              · replace hc113 := of_decide_eq_true hc113
                refine wp_region' ?_
                refine ops_ro' rfl (ro_move rfl) rfl ?_
                refine ops_ro' rfl (ro_nilCheck rfl) rfl ?_
                refine ops_ro' rfl (ro_fieldAddr fa71_0 rfl) rfl ?_
                refine ops_ro' rfl (ro_load sc51 rfl (Rd.pick 2 rfl (Rd.own rfl))) rfl ?_
                refine ops_ro' rfl (ro_move rfl) rfl ?_
                refine ops_ro' rfl (ro_build rfl (bld_struct (cs := (⟨1, 0, 0, 0, 0, 0, 0⟩ : At).cs) st30 rfl)) rfl ?_
                refine ops_eff' rfl (eff_call Tryz.call35 rfl rfl (by repeat (first | exact Split.nil _ | apply Split.cons 0 rfl | apply Split.cons 1 rfl | apply Split.cons 2 rfl | apply Split.cons 3 rfl | apply Split.cons 4 rfl | apply Split.cons 5 rfl | apply Split.cons 6 rfl | apply Split.cons 7 rfl | apply Split.cons 8 rfl | apply Split.cons 9 rfl | apply Split.cons 10 rfl | apply Split.cons 11 rfl)) (tri_argc htb2 (set_spec hW2 id2 ⟨1, 0, 0, 0, 0, 0, 0⟩ one_ok))) rfl ?_
                rintro _ H' ⟨_, ⟨t3, e4, rfl, hR3, rfl⟩, hH⟩
                simp only [List.cons_append, List.nil_append, List.eraseIdx_cons_zero, List.eraseIdx_cons_succ, List.set_cons_zero, List.set_cons_succ] at hH
                subst hH
                obtain ⟨hW3, hnx3, htb3, _⟩ := set_wf hW2 one_ok hR3
                have htb3 : t3.tb = tb := by rw [htb3, htb2]
                refine ops_nil ?_
                refine Then_normal ?_
                refine over_cut (kept ⟨t3, ⟨hW3, htb3, by omega, hO2 _ _ _ ⟨by rw [if_pos (by omega)]; exact ⟨e4, hR3⟩, rfl, rfl⟩⟩, rfl, rfl⟩ ?_ ?_ ?_)
                · exact (by repeat (first | exact Has.nil _ | refine Has.cons rfl ?_))
                · exact (by repeat (first | exact Has.nil _ | refine Has.cons rfl ?_))
                · exact (SubH.cons 1 rfl (SubH.cons 1 rfl (SubH.cons 1 rfl (SubH.cons 0 rfl (SubH.cons 0 rfl (SubH.cons 0 rfl (SubH.nil _)))))))
              · replace hc113 := of_decide_eq_false hc113
                refine wp_skip' ?_
                refine Then_normal ?_
                refine over_cut (kept ⟨t2, ⟨⟨r2, hW2⟩, htb2, by omega, hO2 _ _ _ ⟨by rw [if_neg (by omega)], rfl, rfl⟩⟩, rfl, rfl⟩ ?_ ?_ ?_)
                · exact (by repeat (first | exact Has.nil _ | refine Has.cons rfl ?_))
                · exact (by repeat (first | exact Has.nil _ | refine Has.cons rfl ?_))
                · exact SubH.refl _
            · rintro Δ LL ⟨t3, ⟨hW3, htb3, hnx3, hO3⟩, rfl, rfl⟩
              simp only [List.cons_append, List.nil_append]
              refine wp_seq' ?_
              refine wp_draw 11 (by kernel_rfl) (Split.all _) ?_
              refine any_ro' (i := 0) (by kernel_rfl) rfl rfl (ro_move rfl) rfl (fun _ _ _ h => h) ?_
              refine any_ro' (i := 1) (by kernel_rfl) rfl rfl (ro_move rfl) rfl (fun _ _ _ h => h) ?_
              refine any_ro' (i := 2) (by kernel_rfl) rfl rfl (ro_move rfl) rfl (fun _ _ _ h => h) ?_
              refine any_ro' (i := 3) (by kernel_rfl) rfl rfl (ro_move rfl) rfl (fun _ _ _ h => h) ?_
              refine any_ro' (i := 4) (by kernel_rfl) rfl rfl (ro_fieldAddr fa35_7 rfl) rfl (fun _ _ _ h => h) ?_
              refine any_ro' (i := 5) (by kernel_rfl) rfl rfl (ro_load sc27 rfl (Rd.pick 1 rfl (Rd.own rfl))) rfl (fun _ _ _ h => h) ?_
              refine any_ro' (i := 6) (by kernel_rfl) rfl rfl (ro_and rfl rfl (and32 hq.fl (c := 7) (by decide) rfl)) rfl (fun _ _ _ h => h) ?_
              refine any_ro' (i := 7) (by kernel_rfl) rfl rfl (ro_build rfl (bld_struct (cs := ((⟨true, id2, false, q.flags &&& 7, none, 0, []⟩ : Hd)).cs) st67 rfl)) rfl (fun _ _ _ h => h) ?_
              refine any_ro' (i := 8) (by kernel_rfl) rfl rfl (ro_nilCheck rfl) rfl (fun _ _ _ h => h) ?_
              refine any_ro' (i := 9) (by kernel_rfl) rfl rfl (ro_fieldAddr fa71_1 rfl) rfl (fun _ _ _ h => h) ?_
              refine any_ro' (i := 10) (by kernel_rfl) rfl rfl (ro_indexArr Tryz.underlying69 (fun w => Tryz.sizeOf68 w) rfl rfl rfl (by omega)) rfl (fun _ _ _ h => h) ?_
              refine any_unlock (m' := 13) (L' := []) (by kernel_rfl) unlock ?_
              simp only [List.cons_append, List.nil_append, List.append_nil]
              refine any_ro' (i := 11) (by kernel_rfl) rfl rfl (ro_indexArr Tryz.underlying68 (fun w => Tryz.sizeOf67 w) rfl rfl rfl (by omega)) rfl (fun _ _ _ h => h) ?_
              refine any_eff0 (i := 12) (by kernel_rfl) rfl rfl (eff_storeA 2 ag67 rfl rfl rfl rfl rfl (by simp only [List.length_cons, flat_len Hd.len, Hd.len, hl]; omega) (warm_zero _)) rfl ?_
              rintro _ _ rfl
              simp only [List.set_cons_zero, List.set_cons_succ]
              rw [ma_set (y := (⟨true, id2, false, q.flags &&& 7, none, 0, []⟩ : Hd)) hl hs16 hi]
              refine any_doneH (by kernel_rfl) ?_
              refine Then_normal ?_
              refine wp_seq' ?_
              refine wp_heap (fun w F s => nil_row 87 8 w F s) ?_
              refine wp_sub' (L := [St (hs.map rowN), rowN (⟨true, id2, false, q.flags &&& 7, none, 0, []⟩ : Hd), own b6 (.cells ((Rk.rep ⟨0, 0, [], [], [], At.zero⟩ none 0 none 0).cs).toArray 32 (0, 0)), oMa mb tb (hs.set (s * 16 + i) (⟨true, id2, false, q.flags &&& 7, none, 0, []⟩ : Hd)), tree t3, V]) (by repeat (first | exact SubH.nil _ | refine SubH.cons 0 rfl ?_ | refine SubH.cons 1 rfl ?_ | refine SubH.cons 2 rfl ?_ | refine SubH.cons 3 rfl ?_ | refine SubH.cons 4 rfl ?_ | refine SubH.cons 5 rfl ?_ | refine SubH.cons 6 rfl ?_ | refine SubH.cons 7 rfl ?_ | refine SubH.cons 8 rfl ?_ | refine SubH.cons 9 rfl ?_ | refine SubH.cons 10 rfl ?_ | refine SubH.cons 11 rfl ?_ | refine SubH.cons 12 rfl ?_ | refine SubH.cons 13 rfl ?_ | refine SubH.rown ?_)) ?_
              refine wp_heap (fun w F s => rows_put (hd_some hl hs16 hi) s) ?_
              refine wp_region' ?_
              refine ops_ro' rfl (ro_move rfl) rfl ?_
              refine ops_eff' rfl (eff_call Tryz.call42 rfl rfl (by repeat (first | exact Split.nil _ | apply Split.cons 0 rfl | apply Split.cons 1 rfl | apply Split.cons 2 rfl | apply Split.cons 3 rfl | apply Split.cons 4 rfl | apply Split.cons 5 rfl | apply Split.cons 6 rfl | apply Split.cons 7 rfl | apply Split.cons 8 rfl | apply Split.cons 9 rfl | apply Split.cons 10 rfl | apply Split.cons 11 rfl)) (named_spec i (by omega))) rfl ?_
              rintro _ H' ⟨_, ⟨rfl, rfl⟩, hH⟩
              simp only [List.cons_append, List.nil_append, List.eraseIdx_cons_zero, List.eraseIdx_cons_succ, List.set_cons_zero, List.set_cons_succ] at hH
              subst hH
              refine ops_ro' rfl (ro_build rfl (bld_struct (cs := ((hdlK i).rep none 0 none 0).cs) st32 rfl)) rfl ?_
              refine ops_eff0 rfl (eff_storeA 1 ag32 rfl rfl rfl rfl rfl (Nat.le_of_ble_eq_true rfl) (warm_zero _)) rfl ?_
              rintro _ _ rfl
              simp only [List.set_cons_zero, List.set_cons_succ]
              refine ops_nil ?_
              refine Then_normal ?_
              refine wp_ret' ?_
              refine' doneS_ret (resv1 rfl (rv_cellA ag32 rfl (by first | exact RdN.of_pick 0 rfl rdn_all | exact RdN.of_pick 1 rfl rdn_all | exact RdN.of_pick 2 rfl rdn_all | exact RdN.of_pick 3 rfl rdn_all | exact RdN.of_pick 4 rfl rdn_all | exact RdN.of_pick 5 rfl rdn_all) rfl)) ?_ ?_
              rotate_left 1
              exact ⟨t3, hs.set (s * 16 + i) (⟨true, id2, false, q.flags &&& 7, none, 0, []⟩ : Hd), hdlK i, rfl, hO3, hW3, htb3, hnx3, HsOk.set hH (y := (⟨true, id2, false, q.flags &&& 7, none, 0, []⟩ : Hd)) ⟨Nat.lt_of_le_of_lt Nat.and_le_right (by decide), Nat.zero_le _, Nat.le_refl _⟩, rfl⟩
              exact (SubH.cons 2 rfl (SubH.cons 2 rfl (SubH.cons 0 rfl (SubH.cons 1 rfl (SubH.nil _)))))

end Go.Proofs.YtlefpllcgcicpaaGreatDoor
namespace Go.Proofs.YtlefpllcgcicpaaGreatDoor
open Go.Sx
set_option linter.unusedVariables false
set_option linter.unusedSimpArgs false
set_option maxRecDepth 100000
set_option maxHeartbeats 4000000

abbrev rowNm (p : Option Addr) (c : Nat) (l : List Nm) : HProp := row 87 8 (.slice p l.length c) l.length (flat Nm.cs l)
/-- a reply without data, names -/
def Rk.Dry (k : Rk) : Prop := k.data = [] ∧ k.names = []
theorem dry_stat (k : Int) : (Rk.stat k).Dry := ⟨rfl, rfl⟩
theorem dry_of (e : Int) : (ofK e).Dry := by
  unfold ofK
  split
  · exact dry_stat _
  · split <;> exact dry_stat _
theorem dry_hdl (n : Nat) : (hdlK n).Dry := ⟨rfl, rfl⟩
theorem dry_told (t : Tr) (id e : Int) : (toldK t id e).Dry := by
  unfold toldK
  split
  · exact dry_of _
  · split
    · exact dry_stat _
    · exact ⟨rfl, rfl⟩
theorem rep_names {l : List Nm} (h : l = []) {H : List HProp} {w : World} {F : HProp} (s : sat w (star (St H) F)) : sat w (star (St (rowNm none 0 l :: H)) F) := by
  subst h; exact nil_row 87 8 w F s
theorem rep_data {l : List UInt8} (h : l = []) {H : List HProp} {w : World} {F : HProp} (s : sat w (star (St H) F)) : sat w (star (St (rowD none 0 l :: H)) F) := by
  subst h; exact nil_row 5 1 w F s
theorem rep_rows {k : Rk} (h : k.Dry) {H : List HProp} {w : World} {F : HProp} (s : sat w (star (St H) F)) : sat w (star (St (rowD none 0 k.data :: rowNm none 0 k.names :: H)) F) := rep_data h.1 (rep_names h.2 s)
theorem readK_names (t : Tr) (hs : List Hd) (s : Nat) (q : Qr) : (readK t hs s q).names = [] := by
  unfold readK
  split
  · rfl
  · split
    · rfl
    · split <;> rfl
theorem closeR.dry {hs hs' : List Hd} {s : Nat} {q : Qr} {k : Rk} (h : closeR hs s q hs' k) : k.Dry := by
  unfold closeR at h
  split at h
  · rw [h.2]; exact dry_stat _
  · rw [h.2]; exact dry_stat _
theorem writeR.dry {t t' : Tr} {hs : List Hd} {s : Nat} {q : Qr} {k : Rk} (h : writeR t hs s q t' k) : k.Dry := by
  unfold writeR at h
  split at h
  · rw [h.2]; exact dry_stat _
  · split at h
    · rw [h.2]; exact dry_stat _
    · split at h
      · rw [h.2]; exact dry_stat _
      · obtain ⟨e, _, rfl⟩ := h; exact dry_of _
theorem setR.dry {t t' : Tr} {hs : List Hd} {s : Nat} {q : Qr} {k : Rk} (h : setR t hs s q t' k) : k.Dry := by
  unfold setR at h
  split at h
  · rw [h.2]; exact dry_stat _
  · split at h
    · rw [h.2]; exact dry_stat _
    · split at h
      · rw [h.2]; exact dry_stat _
      · obtain ⟨e, _, rfl⟩ := h; exact dry_of _
theorem opendirR.dry {t : Tr} {r : Nd} {hs hs' : List Hd} {s : Nat} {q : Qr} {k : Rk} (h : opendirR t r hs s q hs' k) : k.Dry := by
  unfold opendirR at h
  split at h
  · rw [h.2]; exact dry_stat _
  · split at h
    · rw [h.2]; exact dry_of _
    · split at h
      · rw [h.2]; exact dry_stat _
      · obtain ⟨_, _, _, _, rfl⟩ := h; exact dry_hdl _
theorem openR.dry {t t' : Tr} {r : Nd} {hs hs' : List Hd} {s : Nat} {q : Qr} {k : Rk} (h : openR t r hs s q t' hs' k) : k.Dry := by
  unfold openR at h
  split at h
  · rw [h.2.2]; exact dry_stat _
  · split at h
    · rw [h.2.2]; exact dry_stat _
    · split at h
      · split at h
        · rw [h.2.2]; exact dry_stat _
        · rw [h.2.2]; exact dry_hdl _
      · split at h
        · rw [h.2.2]; exact dry_stat _
        · obtain ⟨t1, r1, i, e, _, h⟩ := h
          split at h
          · rw [h.2.2]; exact dry_of _
          · obtain ⟨t2, e2, _, h⟩ := h
            rw [h.2.2]; exact dry_hdl _
theorem readdirR.dry {hs hs' : List Hd} {s : Nat} {q : Qr} {k : Rk} (h : readdirR hs s q hs' k) : k.data = [] := by
  unfold readdirR at h
  split at h
  · rw [h.2]; rfl
  · split at h
    · rw [h.2]; rfl
    · split at h
      · rw [h.2]; rfl
      · obtain ⟨_, _, _, _, rfl⟩ := h; rfl


theorem byHandle_spec {V : HProp} {mb tb : Nat} {t : Tr} {hs : List Hd} {r : Nd} (hW : Wf t r) (htb : t.tb = tb) (hH : HsOk hs) (s : Nat) (hs16 : s < 16) (q : Qr) (hq : q.Ok) (hP : Ml V) (hnx : t.next ≤ 9223372036854775806) (hD : Vw V (.slice q.dp q.data.length q.dc) q.data.length (cel q.data)) : Tri Tryz.prog 29 [.pointer (some ⟨mb, 0, none⟩), .int .i64 (s : Int), q.v] [oMa mb tb hs, tree t, St (hs.map rowN), V]
    (fun v H' => ∃ t' hs' k dp dc np nc b, v = .tuple #[(k.rep dp dc np nc).v, .bool b] ∧ ((b = true ∧ byH q.kind ∧ byR t r hs s q t' hs' k) ∨ (b = false ∧ ¬ byH q.kind ∧ t' = t ∧ hs' = hs)) ∧ (∃ r', Wf t' r') ∧ t'.tb = tb ∧ t'.next ≤ t.next + 1 ∧ HsOk hs' ∧ H' = [rowD dp dc k.data, rowNm np nc k.names, oMa mb tb hs', tree t', St (hs'.map rowN), V]) := by
  have hl := hH.len
  have hdl := wf_dl2 hW
  by_cases hk : q.kind = 8
  · cases hf : findH hs s q.handle with
    | none =>
      refine tri_of_wpS Tryz.func29 rfl Tryz.ntmps29 (by simp) ?_
      refine wp_seq' ?_
      refine wp_region' ?_
      refine ops_eff' rfl (eff_box rfl) rfl ?_
      rintro _ _ ⟨b5, rfl, rfl⟩
      refine ops_eff' rfl (eff_alloc z32) rfl ?_
      rintro _ _ ⟨b6, rfl, rfl⟩
      refine ops_ro' rfl (ro_assign rfl) rfl ?_
      refine ops_nil ?_
      refine Then_normal ?_
      refine wp_seq' ?_
      refine wp_seq' ?_
      refine wp_region' ?_
      refine ops_ro' rfl (ro_fieldAddr fa35_0 rfl) rfl ?_
      refine ops_ro' rfl (ro_load sc3 rfl (Rd.pick 1 rfl (Rd.own rfl))) rfl ?_
      refine ops_nil ?_
      refine Then_normal ?_
      refine wp_block' ?_
      refine wp_seq' ?_
      refine wp_region' ?_
      refine ops_ro' rfl (ro_eql rfl rfl (decide_eq_false (by omega))) rfl ?_
      refine ops_ro' rfl (ro_assign rfl) rfl ?_
      refine ops_nil ?_
      refine Then_normal ?_
      refine wp_condF rfl ?_
      refine wp_seq' ?_
      refine wp_region' ?_
      refine ops_ro' rfl (ro_eql rfl rfl (decide_eq_false (by omega))) rfl ?_
      refine ops_ro' rfl (ro_assign rfl) rfl ?_
      refine ops_nil ?_
      refine Then_normal ?_
      refine wp_condF rfl ?_
      refine wp_seq' ?_
      refine wp_region' ?_
      refine ops_ro' rfl (ro_eql rfl rfl (decide_eq_false (by omega))) rfl ?_
      refine ops_ro' rfl (ro_assign rfl) rfl ?_
      refine ops_nil ?_
      refine Then_normal ?_
      refine wp_condF rfl ?_
      refine wp_seq' ?_
      refine wp_region' ?_
      refine ops_ro' rfl (ro_eql rfl rfl (decide_eq_false (by omega))) rfl ?_
      refine ops_ro' rfl (ro_assign rfl) rfl ?_
      refine ops_nil ?_
      refine Then_normal ?_
      refine wp_condF rfl ?_
      refine wp_seq' ?_
      refine wp_region' ?_
      refine ops_ro' rfl (ro_eql rfl rfl (decide_eq_true (by omega))) rfl ?_
      refine ops_ro' rfl (ro_assign rfl) rfl ?_
      refine ops_nil ?_
      refine Then_normal ?_
      refine wp_condT rfl ?_
      refine wp_seq' ?_
      refine wp_region' ?_
      refine ops_ro' rfl (ro_move rfl) rfl ?_
      refine ops_ro' rfl (ro_move rfl) rfl ?_
      refine ops_ro' rfl (ro_fieldAddr fa35_3 rfl) rfl ?_
      refine ops_ro' rfl (ro_load sc9 rfl (Rd.pick 1 rfl (Rd.own rfl))) rfl ?_
      refine ops_eff' rfl (eff_callM (Pre := []) Tryz.call68 rfl rfl (Split.nil _) (hfind_spec (by first | exact hv_pick 0 rfl hv_own | exact hv_pick 1 rfl hv_own | exact hv_pick 2 rfl hv_own | exact hv_pick 3 rfl hv_own | exact hv_pick 4 rfl hv_own | exact hv_pick 5 rfl hv_own) hl s hs16 q.handle)) rfl ?_
      rintro _ H' ⟨_, ⟨rfl, rfl⟩, hH⟩
      simp only [List.cons_append, List.nil_append, List.eraseIdx_cons_zero, List.eraseIdx_cons_succ, List.set_cons_zero, List.set_cons_succ] at hH
      subst hH
      rw [hf]
      dsimp only [findV]
      refine ops_ro' rfl (ro_assign rfl) rfl ?_
      refine ops_nil ?_
      refine Then_normal ?_
      refine wp_seq' ?_
      refine wp_seq' ?_
      refine wp_region' ?_
      refine ops_ro' rfl (ro_move rfl) rfl ?_
      refine ops_ro' rfl (ro_ptrEqlNil Tryz.underlying116 rfl rfl rfl) rfl ?_
      refine ops_nil ?_
      refine Then_normal ?_
      refine wp_condT rfl ?_
      refine wp_seq' ?_
      refine wp_region' ?_
      refine ops_eff' rfl (eff_call Tryz.call28 rfl rfl (by repeat (first | exact Split.nil _ | apply Split.cons 0 rfl | apply Split.cons 1 rfl | apply Split.cons 2 rfl | apply Split.cons 3 rfl | apply Split.cons 4 rfl | apply Split.cons 5 rfl | apply Split.cons 6 rfl | apply Split.cons 7 rfl | apply Split.cons 8 rfl | apply Split.cons 9 rfl | apply Split.cons 10 rfl | apply Split.cons 11 rfl)) (status_spec 4)) rfl ?_
      rintro _ H' ⟨_, ⟨rfl, rfl⟩, hH⟩
      simp only [List.cons_append, List.nil_append, List.eraseIdx_cons_zero, List.eraseIdx_cons_succ, List.set_cons_zero, List.set_cons_succ] at hH
      subst hH
      first | refine ops_heap (fun w F sw => rep_rows (dry_stat 4) sw) ?_ | refine any_heap (fun w F sw => rep_rows (dry_stat 4) sw) ?_
      refine ops_eff0 rfl (eff_storeA 2 ag32 rfl rfl rfl rfl rfl (Nat.le_of_ble_eq_true rfl) (warm_zero _)) rfl ?_
      rintro _ _ rfl
      simp only [List.set_cons_zero, List.set_cons_succ]
      refine ops_ro' rfl (ro_assign rfl) rfl ?_
      refine ops_nil ?_
      refine Then_normal ?_
      refine wp_ret' ?_
      refine Then_ret ?_
      refine InBlock_ret ?_
      refine Then_ret ?_
      refine' doneS_ret (resv2 rfl (rv_cellA ag32 rfl (by first | exact RdN.of_pick 0 rfl rdn_all | exact RdN.of_pick 1 rfl rdn_all | exact RdN.of_pick 2 rfl rdn_all | exact RdN.of_pick 3 rfl rdn_all | exact RdN.of_pick 4 rfl rdn_all | exact RdN.of_pick 5 rfl rdn_all | exact RdN.of_pick 6 rfl rdn_all | exact RdN.of_pick 7 rfl rdn_all | exact RdN.of_pick 8 rfl rdn_all) rfl) (rv_tmp rfl)) ?_ ?_
      rotate_left 1
      exact ⟨t, hs, Rk.stat 4, none, 0, none, 0, true, rfl, .inl ⟨rfl, (by unfold byH; omega), (by unfold byR; rw [if_neg (by omega), if_neg (by omega), if_neg (by omega), if_neg (by omega), if_pos hk, hf]; exact ⟨rfl, rfl, rfl⟩)⟩, ⟨r, hW⟩, htb, by omega, hH, rfl⟩
      exact (SubH.cons 0 rfl (SubH.cons 0 rfl (SubH.cons 2 rfl (SubH.cons 2 rfl (SubH.cons 2 rfl (SubH.cons 2 rfl (SubH.nil _)))))))
    | some i =>
      have hi := find_lt hf
      refine tri_of_wpS Tryz.func29 rfl Tryz.ntmps29 (by simp) ?_
      refine wp_seq' ?_
      refine wp_region' ?_
      refine ops_eff' rfl (eff_box rfl) rfl ?_
      rintro _ _ ⟨b5, rfl, rfl⟩
      refine ops_eff' rfl (eff_alloc z32) rfl ?_
      rintro _ _ ⟨b6, rfl, rfl⟩
      refine ops_ro' rfl (ro_assign rfl) rfl ?_
      refine ops_nil ?_
      refine Then_normal ?_
      refine wp_seq' ?_
      refine wp_seq' ?_
      refine wp_region' ?_
      refine ops_ro' rfl (ro_fieldAddr fa35_0 rfl) rfl ?_
      refine ops_ro' rfl (ro_load sc3 rfl (Rd.pick 1 rfl (Rd.own rfl))) rfl ?_
      refine ops_nil ?_
      refine Then_normal ?_
      refine wp_block' ?_
      refine wp_seq' ?_
      refine wp_region' ?_
      refine ops_ro' rfl (ro_eql rfl rfl (decide_eq_false (by omega))) rfl ?_
      refine ops_ro' rfl (ro_assign rfl) rfl ?_
      refine ops_nil ?_
      refine Then_normal ?_
      refine wp_condF rfl ?_
      refine wp_seq' ?_
      refine wp_region' ?_
      refine ops_ro' rfl (ro_eql rfl rfl (decide_eq_false (by omega))) rfl ?_
      refine ops_ro' rfl (ro_assign rfl) rfl ?_
      refine ops_nil ?_
      refine Then_normal ?_
      refine wp_condF rfl ?_
      refine wp_seq' ?_
      refine wp_region' ?_
      refine ops_ro' rfl (ro_eql rfl rfl (decide_eq_false (by omega))) rfl ?_
      refine ops_ro' rfl (ro_assign rfl) rfl ?_
      refine ops_nil ?_
      refine Then_normal ?_
      refine wp_condF rfl ?_
      refine wp_seq' ?_
      refine wp_region' ?_
      refine ops_ro' rfl (ro_eql rfl rfl (decide_eq_false (by omega))) rfl ?_
      refine ops_ro' rfl (ro_assign rfl) rfl ?_
      refine ops_nil ?_
      refine Then_normal ?_
      refine wp_condF rfl ?_
      refine wp_seq' ?_
      refine wp_region' ?_
      refine ops_ro' rfl (ro_eql rfl rfl (decide_eq_true (by omega))) rfl ?_
      refine ops_ro' rfl (ro_assign rfl) rfl ?_
      refine ops_nil ?_
      refine Then_normal ?_
      refine wp_condT rfl ?_
      refine wp_seq' ?_
      refine wp_region' ?_
      refine ops_ro' rfl (ro_move rfl) rfl ?_
      refine ops_ro' rfl (ro_move rfl) rfl ?_
      refine ops_ro' rfl (ro_fieldAddr fa35_3 rfl) rfl ?_
      refine ops_ro' rfl (ro_load sc9 rfl (Rd.pick 1 rfl (Rd.own rfl))) rfl ?_
      refine ops_eff' rfl (eff_callM (Pre := []) Tryz.call68 rfl rfl (Split.nil _) (hfind_spec (by first | exact hv_pick 0 rfl hv_own | exact hv_pick 1 rfl hv_own | exact hv_pick 2 rfl hv_own | exact hv_pick 3 rfl hv_own | exact hv_pick 4 rfl hv_own | exact hv_pick 5 rfl hv_own) hl s hs16 q.handle)) rfl ?_
      rintro _ H' ⟨_, ⟨rfl, rfl⟩, hH⟩
      simp only [List.cons_append, List.nil_append, List.eraseIdx_cons_zero, List.eraseIdx_cons_succ, List.set_cons_zero, List.set_cons_succ] at hH
      subst hH
      rw [hf]
      dsimp only [findV]
      refine ops_ro' rfl (ro_assign rfl) rfl ?_
      refine ops_nil ?_
      refine Then_normal ?_
      refine wp_seq' ?_
      refine wp_seq' ?_
      refine wp_region' ?_
      refine ops_ro' rfl (ro_move rfl) rfl ?_
      refine ops_ro' rfl (ro_ptrEqlNil Tryz.underlying116 rfl rfl rfl) rfl ?_
      refine ops_nil ?_
      refine Then_normal ?_
      refine wp_condF rfl ?_
      refine wp_skip' ?_
      refine Then_normal ?_
      refine wp_seq' ?_
      refine wp_region' ?_
      refine ops_ro' rfl (ro_move rfl) rfl ?_
      refine ops_ro' rfl (ro_move rfl) rfl ?_
      refine ops_ro' rfl (ro_nilCheck rfl) rfl ?_
      refine ops_ro' rfl (ro_fieldAddr fa67_1 rfl) rfl ?_
      refine ops_ro' rfl (ro_load sc3 rfl (Rd.pick 2 rfl ((hd_rd0 hv_own hl hs16 hi 1 _ rfl)))) rfl ?_
      refine ops_eff' rfl (eff_callM (Pre := []) Tryz.call40 rfl rfl (Split.nil _) (told16_spec (by first | exact Mq.of 0 1 rfl rfl htb | exact Mq.of 0 2 rfl rfl htb | exact Mq.of 0 3 rfl rfl htb | exact Mq.of 0 4 rfl rfl htb | exact Mq.of 1 0 rfl rfl htb | exact Mq.of 1 2 rfl rfl htb | exact Mq.of 1 3 rfl rfl htb | exact Mq.of 1 4 rfl rfl htb | exact Mq.of 2 0 rfl rfl htb | exact Mq.of 2 1 rfl rfl htb | exact Mq.of 2 3 rfl rfl htb | exact Mq.of 2 4 rfl rfl htb | exact Mq.of 3 0 rfl rfl htb | exact Mq.of 3 1 rfl rfl htb | exact Mq.of 3 2 rfl rfl htb | exact Mq.of 3 4 rfl rfl htb) hdl (hdA hs s i).id 0)) rfl ?_
      rintro _ H' ⟨_, ⟨rfl, rfl⟩, hH⟩
      simp only [List.cons_append, List.nil_append, List.eraseIdx_cons_zero, List.eraseIdx_cons_succ, List.set_cons_zero, List.set_cons_succ] at hH
      subst hH
      first | refine ops_heap (fun w F sw => rep_rows (dry_told t (hdA hs s i).id 0) sw) ?_ | refine any_heap (fun w F sw => rep_rows (dry_told t (hdA hs s i).id 0) sw) ?_
      refine ops_eff0 rfl (eff_storeA 2 ag32 rfl rfl rfl rfl rfl (Nat.le_of_ble_eq_true rfl) (warm_zero _)) rfl ?_
      rintro _ _ rfl
      simp only [List.set_cons_zero, List.set_cons_succ]
      refine ops_ro' rfl (ro_assign rfl) rfl ?_
      refine ops_nil ?_
      refine Then_normal ?_
      refine wp_ret' ?_
      refine InBlock_ret ?_
      refine Then_ret ?_
      refine' doneS_ret (resv2 rfl (rv_cellA ag32 rfl (by first | exact RdN.of_pick 0 rfl rdn_all | exact RdN.of_pick 1 rfl rdn_all | exact RdN.of_pick 2 rfl rdn_all | exact RdN.of_pick 3 rfl rdn_all | exact RdN.of_pick 4 rfl rdn_all | exact RdN.of_pick 5 rfl rdn_all | exact RdN.of_pick 6 rfl rdn_all | exact RdN.of_pick 7 rfl rdn_all | exact RdN.of_pick 8 rfl rdn_all) rfl) (rv_tmp rfl)) ?_ ?_
      rotate_left 1
      exact ⟨t, hs, toldK t (hdA hs s i).id 0, none, 0, none, 0, true, rfl, .inl ⟨rfl, (by unfold byH; omega), (by unfold byR; rw [if_neg (by omega), if_neg (by omega), if_neg (by omega), if_neg (by omega), if_pos hk, hf]; exact ⟨rfl, rfl, rfl⟩)⟩, ⟨r, hW⟩, htb, by omega, hH, rfl⟩
      exact (SubH.cons 0 rfl (SubH.cons 0 rfl (SubH.cons 2 rfl (SubH.cons 2 rfl (SubH.cons 2 rfl (SubH.cons 2 rfl (SubH.nil _)))))))
  · skip
    refine tri_of_wpS Tryz.func29 rfl Tryz.ntmps29 (by simp) ?_
    refine wp_seq' ?_
    refine wp_region' ?_
    refine ops_eff' rfl (eff_box rfl) rfl ?_
    rintro _ _ ⟨b5, rfl, rfl⟩
    refine ops_eff' rfl (eff_alloc z32) rfl ?_
    rintro _ _ ⟨b6, rfl, rfl⟩
    refine ops_ro' rfl (ro_assign rfl) rfl ?_
    refine ops_nil ?_
    refine Then_normal ?_
    refine wp_seq' ?_
    refine wp_seq' ?_
    refine wp_region' ?_
    refine ops_ro' rfl (ro_fieldAddr fa35_0 rfl) rfl ?_
    refine ops_ro' rfl (ro_load sc3 rfl (Rd.pick 1 rfl (Rd.own rfl))) rfl ?_
    refine ops_nil ?_
    refine Then_normal ?_
    refine wp_block' ?_
    refine wp_seq' ?_
    refine wp_region' ?_
    refine ops_ro' rfl (ro_eql rfl rfl rfl) rfl ?_
    refine ops_ro' rfl (ro_assign rfl) rfl ?_
    refine ops_nil ?_
    refine Then_normal ?_
    refine wp_cond' rfl (fun hc11 => ?_) (fun hc11 => ?_)
    · replace hc11 := of_decide_eq_true hc11
      refine wp_seq' ?_
      refine wp_region' ?_
      refine ops_ro' rfl (ro_move rfl) rfl ?_
      refine ops_ro' rfl (ro_move rfl) rfl ?_
      refine ops_ro' rfl (ro_loadA ag35 rfl (RdN.of_pick 1 rfl ((show RdN _ b5 0 q.cs from rdn_all))) rfl) rfl ?_
      refine ops_eff' rfl (eff_call Tryz.call64 rfl rfl (by repeat (first | exact Split.nil _ | apply Split.cons 0 rfl | apply Split.cons 1 rfl | apply Split.cons 2 rfl | apply Split.cons 3 rfl | apply Split.cons 4 rfl | apply Split.cons 5 rfl | apply Split.cons 6 rfl | apply Split.cons 7 rfl | apply Split.cons 8 rfl | apply Split.cons 9 rfl | apply Split.cons 10 rfl | apply Split.cons 11 rfl)) (open16_spec hW htb hH s hs16 q hq hP hnx)) rfl ?_
      rintro _ H' ⟨_, ⟨t1, hs1, k1, rfl, hR, hW1, htb1, hnx1, hH1, rfl⟩, hH⟩
      simp only [List.cons_append, List.nil_append, List.eraseIdx_cons_zero, List.eraseIdx_cons_succ, List.set_cons_zero, List.set_cons_succ] at hH
      subst hH
      first | refine ops_heap (fun w F sw => rep_rows hR.dry sw) ?_ | refine any_heap (fun w F sw => rep_rows hR.dry sw) ?_
      refine ops_eff0 rfl (eff_storeA 6 ag32 rfl rfl rfl rfl rfl (Nat.le_of_ble_eq_true rfl) (warm_zero _)) rfl ?_
      rintro _ _ rfl
      simp only [List.set_cons_zero, List.set_cons_succ]
      refine ops_ro' rfl (ro_assign rfl) rfl ?_
      refine ops_nil ?_
      refine Then_normal ?_
      refine wp_ret' ?_
      refine InBlock_ret ?_
      refine Then_ret ?_
      refine' doneS_ret (resv2 rfl (rv_cellA ag32 rfl (by first | exact RdN.of_pick 0 rfl rdn_all | exact RdN.of_pick 1 rfl rdn_all | exact RdN.of_pick 2 rfl rdn_all | exact RdN.of_pick 3 rfl rdn_all | exact RdN.of_pick 4 rfl rdn_all | exact RdN.of_pick 5 rfl rdn_all | exact RdN.of_pick 6 rfl rdn_all | exact RdN.of_pick 7 rfl rdn_all | exact RdN.of_pick 8 rfl rdn_all) rfl) (rv_tmp rfl)) ?_ ?_
      rotate_left 1
      exact ⟨t1, hs1, k1, none, 0, none, 0, true, rfl, .inl ⟨rfl, (by unfold byH; omega), (by unfold byR; rw [if_pos hc11]; exact hR)⟩, hW1, htb1, hnx1, hH1, rfl⟩
      exact (SubH.cons 0 rfl (SubH.cons 0 rfl (SubH.cons 0 rfl (SubH.cons 0 rfl (SubH.cons 0 rfl (SubH.cons 0 rfl (SubH.nil _)))))))
    · replace hc11 := of_decide_eq_false hc11
      refine wp_seq' ?_
      refine wp_region' ?_
      refine ops_ro' rfl (ro_eql rfl rfl rfl) rfl ?_
      refine ops_ro' rfl (ro_assign rfl) rfl ?_
      refine ops_nil ?_
      refine Then_normal ?_
      refine wp_cond' rfl (fun hc17 => ?_) (fun hc17 => ?_)
      · replace hc17 := of_decide_eq_true hc17
        refine wp_seq' ?_
        refine wp_region' ?_
        refine ops_ro' rfl (ro_move rfl) rfl ?_
        refine ops_ro' rfl (ro_move rfl) rfl ?_
        refine ops_ro' rfl (ro_loadA ag35 rfl (RdN.of_pick 1 rfl ((show RdN _ b5 0 q.cs from rdn_all))) rfl) rfl ?_
        refine ops_eff' rfl (eff_call Tryz.call65 rfl rfl (by repeat (first | exact Split.nil _ | apply Split.cons 0 rfl | apply Split.cons 1 rfl | apply Split.cons 2 rfl | apply Split.cons 3 rfl | apply Split.cons 4 rfl | apply Split.cons 5 rfl | apply Split.cons 6 rfl | apply Split.cons 7 rfl | apply Split.cons 8 rfl | apply Split.cons 9 rfl | apply Split.cons 10 rfl | apply Split.cons 11 rfl)) (close16_spec hH s hs16 q)) rfl ?_
        rintro _ H' ⟨_, ⟨hs1, k1, rfl, hR, hH1, rfl⟩, hH⟩
        simp only [List.cons_append, List.nil_append, List.eraseIdx_cons_zero, List.eraseIdx_cons_succ, List.set_cons_zero, List.set_cons_succ] at hH
        subst hH
        first | refine ops_heap (fun w F sw => rep_rows hR.dry sw) ?_ | refine any_heap (fun w F sw => rep_rows hR.dry sw) ?_
        refine ops_eff0 rfl (eff_storeA 4 ag32 rfl rfl rfl rfl rfl (Nat.le_of_ble_eq_true rfl) (warm_zero _)) rfl ?_
        rintro _ _ rfl
        simp only [List.set_cons_zero, List.set_cons_succ]
        refine ops_ro' rfl (ro_assign rfl) rfl ?_
        refine ops_nil ?_
        refine Then_normal ?_
        refine wp_ret' ?_
        refine InBlock_ret ?_
        refine Then_ret ?_
        refine' doneS_ret (resv2 rfl (rv_cellA ag32 rfl (by first | exact RdN.of_pick 0 rfl rdn_all | exact RdN.of_pick 1 rfl rdn_all | exact RdN.of_pick 2 rfl rdn_all | exact RdN.of_pick 3 rfl rdn_all | exact RdN.of_pick 4 rfl rdn_all | exact RdN.of_pick 5 rfl rdn_all | exact RdN.of_pick 6 rfl rdn_all | exact RdN.of_pick 7 rfl rdn_all | exact RdN.of_pick 8 rfl rdn_all) rfl) (rv_tmp rfl)) ?_ ?_
        rotate_left 1
        exact ⟨t, hs1, k1, none, 0, none, 0, true, rfl, .inl ⟨rfl, (by unfold byH; omega), (by unfold byR; rw [if_neg hc11, if_pos hc17]; exact ⟨rfl, hR⟩)⟩, ⟨r, hW⟩, htb, by omega, hH1, rfl⟩
        exact (SubH.cons 0 rfl (SubH.cons 0 rfl (SubH.cons 0 rfl (SubH.cons 3 rfl (SubH.cons 0 rfl (SubH.cons 2 rfl (SubH.nil _)))))))
      · replace hc17 := of_decide_eq_false hc17
        refine wp_seq' ?_
        refine wp_region' ?_
        refine ops_ro' rfl (ro_eql rfl rfl rfl) rfl ?_
        refine ops_ro' rfl (ro_assign rfl) rfl ?_
        refine ops_nil ?_
        refine Then_normal ?_
        refine wp_cond' rfl (fun hc23 => ?_) (fun hc23 => ?_)
        · replace hc23 := of_decide_eq_true hc23
          refine wp_seq' ?_
          refine wp_region' ?_
          refine ops_ro' rfl (ro_move rfl) rfl ?_
          refine ops_ro' rfl (ro_move rfl) rfl ?_
          refine ops_ro' rfl (ro_loadA ag35 rfl (RdN.of_pick 1 rfl ((show RdN _ b5 0 q.cs from rdn_all))) rfl) rfl ?_
          refine ops_eff' rfl (eff_callM (Pre := []) Tryz.call66 rfl rfl (Split.nil _) (read16_spec (by first | exact Mq.of 0 1 rfl rfl htb | exact Mq.of 0 2 rfl rfl htb | exact Mq.of 0 3 rfl rfl htb | exact Mq.of 0 4 rfl rfl htb | exact Mq.of 1 0 rfl rfl htb | exact Mq.of 1 2 rfl rfl htb | exact Mq.of 1 3 rfl rfl htb | exact Mq.of 1 4 rfl rfl htb | exact Mq.of 2 0 rfl rfl htb | exact Mq.of 2 1 rfl rfl htb | exact Mq.of 2 3 rfl rfl htb | exact Mq.of 2 4 rfl rfl htb | exact Mq.of 3 0 rfl rfl htb | exact Mq.of 3 1 rfl rfl htb | exact Mq.of 3 2 rfl rfl htb | exact Mq.of 3 4 rfl rfl htb) hH hdl s hs16 q hq)) rfl ?_
          rintro _ H' ⟨_, ⟨p1, c1, rfl, rfl⟩, hH⟩
          simp only [List.cons_append, List.nil_append, List.eraseIdx_cons_zero, List.eraseIdx_cons_succ, List.set_cons_zero, List.set_cons_succ] at hH
          subst hH
          first | refine ops_heap (fun w F sw => rep_names (readK_names t hs s q) sw) ?_ | refine any_heap (fun w F sw => rep_names (readK_names t hs s q) sw) ?_
          refine ops_eff0 rfl (eff_storeA 2 ag32 rfl rfl rfl rfl rfl (Nat.le_of_ble_eq_true rfl) (warm_zero _)) rfl ?_
          rintro _ _ rfl
          simp only [List.set_cons_zero, List.set_cons_succ]
          refine ops_ro' rfl (ro_assign rfl) rfl ?_
          refine ops_nil ?_
          refine Then_normal ?_
          refine wp_ret' ?_
          refine InBlock_ret ?_
          refine Then_ret ?_
          refine' doneS_ret (resv2 rfl (rv_cellA ag32 rfl (by first | exact RdN.of_pick 0 rfl rdn_all | exact RdN.of_pick 1 rfl rdn_all | exact RdN.of_pick 2 rfl rdn_all | exact RdN.of_pick 3 rfl rdn_all | exact RdN.of_pick 4 rfl rdn_all | exact RdN.of_pick 5 rfl rdn_all | exact RdN.of_pick 6 rfl rdn_all | exact RdN.of_pick 7 rfl rdn_all | exact RdN.of_pick 8 rfl rdn_all) rfl) (rv_tmp rfl)) ?_ ?_
          rotate_left 1
          exact ⟨t, hs, (readK t hs s q), p1, c1, none, 0, true, rfl, .inl ⟨rfl, (by unfold byH; omega), (by unfold byR; rw [if_neg hc11, if_neg hc17, if_pos hc23]; exact ⟨rfl, rfl, rfl⟩)⟩, ⟨r, hW⟩, htb, by omega, hH, rfl⟩
          exact (SubH.cons 1 rfl (SubH.cons 0 rfl (SubH.cons 2 rfl (SubH.cons 2 rfl (SubH.cons 2 rfl (SubH.cons 2 rfl (SubH.nil _)))))))
        · replace hc23 := of_decide_eq_false hc23
          refine wp_seq' ?_
          refine wp_region' ?_
          refine ops_ro' rfl (ro_eql rfl rfl rfl) rfl ?_
          refine ops_ro' rfl (ro_assign rfl) rfl ?_
          refine ops_nil ?_
          refine Then_normal ?_
          refine wp_cond' rfl (fun hc29 => ?_) (fun hc29 => ?_)
          · replace hc29 := of_decide_eq_true hc29
            refine wp_seq' ?_
            refine wp_region' ?_
            refine ops_ro' rfl (ro_move rfl) rfl ?_
            refine ops_ro' rfl (ro_move rfl) rfl ?_
            refine ops_ro' rfl (ro_loadA ag35 rfl (RdN.of_pick 1 rfl ((show RdN _ b5 0 q.cs from rdn_all))) rfl) rfl ?_
            refine ops_eff' rfl (eff_call Tryz.call67 rfl rfl (by repeat (first | exact Split.nil _ | apply Split.cons 0 rfl | apply Split.cons 1 rfl | apply Split.cons 2 rfl | apply Split.cons 3 rfl | apply Split.cons 4 rfl | apply Split.cons 5 rfl | apply Split.cons 6 rfl | apply Split.cons 7 rfl | apply Split.cons 8 rfl | apply Split.cons 9 rfl | apply Split.cons 10 rfl | apply Split.cons 11 rfl)) (write16_spec hW htb hH s hs16 q hq hD)) rfl ?_
            rintro _ H' ⟨_, ⟨t1, k1, rfl, hR, hW1, htb1, hnx1, rfl⟩, hH⟩
            simp only [List.cons_append, List.nil_append, List.eraseIdx_cons_zero, List.eraseIdx_cons_succ, List.set_cons_zero, List.set_cons_succ] at hH
            subst hH
            first | refine ops_heap (fun w F sw => rep_rows hR.dry sw) ?_ | refine any_heap (fun w F sw => rep_rows hR.dry sw) ?_
            refine ops_eff0 rfl (eff_storeA 5 ag32 rfl rfl rfl rfl rfl (Nat.le_of_ble_eq_true rfl) (warm_zero _)) rfl ?_
            rintro _ _ rfl
            simp only [List.set_cons_zero, List.set_cons_succ]
            refine ops_ro' rfl (ro_assign rfl) rfl ?_
            refine ops_nil ?_
            refine Then_normal ?_
            refine wp_ret' ?_
            refine InBlock_ret ?_
            refine Then_ret ?_
            refine' doneS_ret (resv2 rfl (rv_cellA ag32 rfl (by first | exact RdN.of_pick 0 rfl rdn_all | exact RdN.of_pick 1 rfl rdn_all | exact RdN.of_pick 2 rfl rdn_all | exact RdN.of_pick 3 rfl rdn_all | exact RdN.of_pick 4 rfl rdn_all | exact RdN.of_pick 5 rfl rdn_all | exact RdN.of_pick 6 rfl rdn_all | exact RdN.of_pick 7 rfl rdn_all | exact RdN.of_pick 8 rfl rdn_all) rfl) (rv_tmp rfl)) ?_ ?_
            rotate_left 1
            exact ⟨t1, hs, k1, none, 0, none, 0, true, rfl, .inl ⟨rfl, (by unfold byH; omega), (by unfold byR; rw [if_neg hc11, if_neg hc17, if_neg hc23, if_pos hc29]; exact ⟨rfl, hR⟩)⟩, ⟨r, hW1⟩, htb1.trans htb, by omega, hH, rfl⟩
            exact (SubH.cons 0 rfl (SubH.cons 0 rfl (SubH.cons 0 rfl (SubH.cons 0 rfl (SubH.cons 3 rfl (SubH.cons 0 rfl (SubH.nil _)))))))
          · replace hc29 := of_decide_eq_false hc29
            refine wp_seq' ?_
            refine wp_region' ?_
            refine ops_ro' rfl (ro_eql rfl rfl (decide_eq_false (by omega))) rfl ?_
            refine ops_ro' rfl (ro_assign rfl) rfl ?_
            refine ops_nil ?_
            refine Then_normal ?_
            refine wp_condF rfl ?_
            refine wp_seq' ?_
            refine wp_region' ?_
            refine ops_ro' rfl (ro_eql rfl rfl rfl) rfl ?_
            refine ops_ro' rfl (ro_assign rfl) rfl ?_
            refine ops_nil ?_
            refine Then_normal ?_
            refine wp_cond' rfl (fun hc51 => ?_) (fun hc51 => ?_)
            · replace hc51 := of_decide_eq_true hc51
              refine wp_seq' ?_
              refine wp_region' ?_
              refine ops_ro' rfl (ro_move rfl) rfl ?_
              refine ops_ro' rfl (ro_move rfl) rfl ?_
              refine ops_ro' rfl (ro_loadA ag35 rfl (RdN.of_pick 1 rfl ((show RdN _ b5 0 q.cs from rdn_all))) rfl) rfl ?_
              refine ops_eff' rfl (eff_call Tryz.call69 rfl rfl (by repeat (first | exact Split.nil _ | apply Split.cons 0 rfl | apply Split.cons 1 rfl | apply Split.cons 2 rfl | apply Split.cons 3 rfl | apply Split.cons 4 rfl | apply Split.cons 5 rfl | apply Split.cons 6 rfl | apply Split.cons 7 rfl | apply Split.cons 8 rfl | apply Split.cons 9 rfl | apply Split.cons 10 rfl | apply Split.cons 11 rfl)) (set16_spec (V := emp) hW htb hH s hs16 q hq)) rfl ?_
              rintro _ H' ⟨_, ⟨t1, k1, rfl, hR, hW1, htb1, hnx1, rfl⟩, hH⟩
              simp only [List.cons_append, List.nil_append, List.eraseIdx_cons_zero, List.eraseIdx_cons_succ, List.set_cons_zero, List.set_cons_succ] at hH
              subst hH
              first | refine ops_heap (fun w F sw => rep_rows hR.dry sw) ?_ | refine any_heap (fun w F sw => rep_rows hR.dry sw) ?_
              refine ops_eff0 rfl (eff_storeA 4 ag32 rfl rfl rfl rfl rfl (Nat.le_of_ble_eq_true rfl) (warm_zero _)) rfl ?_
              rintro _ _ rfl
              simp only [List.set_cons_zero, List.set_cons_succ]
              refine ops_ro' rfl (ro_assign rfl) rfl ?_
              refine ops_nil ?_
              refine Then_normal ?_
              refine wp_ret' ?_
              refine InBlock_ret ?_
              refine Then_ret ?_
              refine' doneS_ret (resv2 rfl (rv_cellA ag32 rfl (by first | exact RdN.of_pick 0 rfl rdn_all | exact RdN.of_pick 1 rfl rdn_all | exact RdN.of_pick 2 rfl rdn_all | exact RdN.of_pick 3 rfl rdn_all | exact RdN.of_pick 4 rfl rdn_all | exact RdN.of_pick 5 rfl rdn_all | exact RdN.of_pick 6 rfl rdn_all | exact RdN.of_pick 7 rfl rdn_all | exact RdN.of_pick 8 rfl rdn_all) rfl) (rv_tmp rfl)) ?_ ?_
              rotate_left 1
              exact ⟨t1, hs, k1, none, 0, none, 0, true, rfl, .inl ⟨rfl, (by unfold byH; omega), (by unfold byR; rw [if_neg hc11, if_neg hc17, if_neg hc23, if_neg hc29, if_neg hk, if_pos hc51]; exact ⟨rfl, hR⟩)⟩, hW1, htb1.trans htb, by omega, hH, rfl⟩
              exact (SubH.cons 0 rfl (SubH.cons 0 rfl (SubH.cons 0 rfl (SubH.cons 0 rfl (SubH.cons 2 rfl (SubH.cons 2 rfl (SubH.nil _)))))))
            · replace hc51 := of_decide_eq_false hc51
              refine wp_seq' ?_
              refine wp_region' ?_
              refine ops_ro' rfl (ro_eql rfl rfl rfl) rfl ?_
              refine ops_ro' rfl (ro_assign rfl) rfl ?_
              refine ops_nil ?_
              refine Then_normal ?_
              refine wp_cond' rfl (fun hc57 => ?_) (fun hc57 => ?_)
              · replace hc57 := of_decide_eq_true hc57
                refine wp_seq' ?_
                refine wp_region' ?_
                refine ops_ro' rfl (ro_move rfl) rfl ?_
                refine ops_ro' rfl (ro_move rfl) rfl ?_
                refine ops_ro' rfl (ro_loadA ag35 rfl (RdN.of_pick 1 rfl ((show RdN _ b5 0 q.cs from rdn_all))) rfl) rfl ?_
                refine ops_eff' rfl (eff_call Tryz.call70 rfl rfl (by repeat (first | exact Split.nil _ | apply Split.cons 0 rfl | apply Split.cons 1 rfl | apply Split.cons 2 rfl | apply Split.cons 3 rfl | apply Split.cons 4 rfl | apply Split.cons 5 rfl | apply Split.cons 6 rfl | apply Split.cons 7 rfl | apply Split.cons 8 rfl | apply Split.cons 9 rfl | apply Split.cons 10 rfl | apply Split.cons 11 rfl)) (opendir_spec hW htb hH s hs16 q hq hP)) rfl ?_
                rintro _ H' ⟨_, ⟨hs1, k1, rfl, hR, hH1, rfl⟩, hH⟩
                simp only [List.cons_append, List.nil_append, List.eraseIdx_cons_zero, List.eraseIdx_cons_succ, List.set_cons_zero, List.set_cons_succ] at hH
                subst hH
                first | refine ops_heap (fun w F sw => rep_rows hR.dry sw) ?_ | refine any_heap (fun w F sw => rep_rows hR.dry sw) ?_
                refine ops_eff0 rfl (eff_storeA 6 ag32 rfl rfl rfl rfl rfl (Nat.le_of_ble_eq_true rfl) (warm_zero _)) rfl ?_
                rintro _ _ rfl
                simp only [List.set_cons_zero, List.set_cons_succ]
                refine ops_ro' rfl (ro_assign rfl) rfl ?_
                refine ops_nil ?_
                refine Then_normal ?_
                refine wp_ret' ?_
                refine InBlock_ret ?_
                refine Then_ret ?_
                refine' doneS_ret (resv2 rfl (rv_cellA ag32 rfl (by first | exact RdN.of_pick 0 rfl rdn_all | exact RdN.of_pick 1 rfl rdn_all | exact RdN.of_pick 2 rfl rdn_all | exact RdN.of_pick 3 rfl rdn_all | exact RdN.of_pick 4 rfl rdn_all | exact RdN.of_pick 5 rfl rdn_all | exact RdN.of_pick 6 rfl rdn_all | exact RdN.of_pick 7 rfl rdn_all | exact RdN.of_pick 8 rfl rdn_all) rfl) (rv_tmp rfl)) ?_ ?_
                rotate_left 1
                exact ⟨t, hs1, k1, none, 0, none, 0, true, rfl, .inl ⟨rfl, (by unfold byH; omega), (by unfold byR; rw [if_neg hc11, if_neg hc17, if_neg hc23, if_neg hc29, if_neg hk, if_neg hc51, if_pos hc57]; exact ⟨rfl, hR⟩)⟩, ⟨r, hW⟩, htb, by omega, hH1, rfl⟩
                exact (SubH.cons 0 rfl (SubH.cons 0 rfl (SubH.cons 0 rfl (SubH.cons 0 rfl (SubH.cons 0 rfl (SubH.cons 0 rfl (SubH.nil _)))))))
              · replace hc57 := of_decide_eq_false hc57
                refine wp_seq' ?_
                refine wp_region' ?_
                refine ops_ro' rfl (ro_eql rfl rfl rfl) rfl ?_
                refine ops_ro' rfl (ro_assign rfl) rfl ?_
                refine ops_nil ?_
                refine Then_normal ?_
                refine wp_cond' rfl (fun hc63 => ?_) (fun hc63 => ?_)
                · replace hc63 := of_decide_eq_true hc63
                  refine wp_seq' ?_
                  refine wp_region' ?_
                  refine ops_ro' rfl (ro_move rfl) rfl ?_
                  refine ops_ro' rfl (ro_move rfl) rfl ?_
                  refine ops_ro' rfl (ro_loadA ag35 rfl (RdN.of_pick 1 rfl ((show RdN _ b5 0 q.cs from rdn_all))) rfl) rfl ?_
                  refine ops_eff' rfl (eff_call Tryz.call71 rfl rfl (by repeat (first | exact Split.nil _ | apply Split.cons 0 rfl | apply Split.cons 1 rfl | apply Split.cons 2 rfl | apply Split.cons 3 rfl | apply Split.cons 4 rfl | apply Split.cons 5 rfl | apply Split.cons 6 rfl | apply Split.cons 7 rfl | apply Split.cons 8 rfl | apply Split.cons 9 rfl | apply Split.cons 10 rfl | apply Split.cons 11 rfl)) (readdir_spec hH s hs16 q)) rfl ?_
                  rintro _ H' ⟨_, ⟨hs1, k1, p1, c1, rfl, hR, hH1, rfl⟩, hH⟩
                  simp only [List.cons_append, List.nil_append, List.eraseIdx_cons_zero, List.eraseIdx_cons_succ, List.set_cons_zero, List.set_cons_succ] at hH
                  subst hH
                  first | refine ops_heap (fun w F sw => rep_data hR.dry sw) ?_ | refine any_heap (fun w F sw => rep_data hR.dry sw) ?_
                  refine ops_eff0 rfl (eff_storeA 4 ag32 rfl rfl rfl rfl rfl (Nat.le_of_ble_eq_true rfl) (warm_zero _)) rfl ?_
                  rintro _ _ rfl
                  simp only [List.set_cons_zero, List.set_cons_succ]
                  refine ops_ro' rfl (ro_assign rfl) rfl ?_
                  refine ops_nil ?_
                  refine Then_normal ?_
                  refine wp_ret' ?_
                  refine InBlock_ret ?_
                  refine Then_ret ?_
                  refine' doneS_ret (resv2 rfl (rv_cellA ag32 rfl (by first | exact RdN.of_pick 0 rfl rdn_all | exact RdN.of_pick 1 rfl rdn_all | exact RdN.of_pick 2 rfl rdn_all | exact RdN.of_pick 3 rfl rdn_all | exact RdN.of_pick 4 rfl rdn_all | exact RdN.of_pick 5 rfl rdn_all | exact RdN.of_pick 6 rfl rdn_all | exact RdN.of_pick 7 rfl rdn_all | exact RdN.of_pick 8 rfl rdn_all) rfl) (rv_tmp rfl)) ?_ ?_
                  rotate_left 1
                  exact ⟨t, hs1, k1, none, 0, p1, c1, true, rfl, .inl ⟨rfl, (by unfold byH; omega), (by unfold byR; rw [if_neg hc11, if_neg hc17, if_neg hc23, if_neg hc29, if_neg hk, if_neg hc51, if_neg hc57]; exact ⟨rfl, hR⟩)⟩, ⟨r, hW⟩, htb, by omega, hH1, rfl⟩
                  exact (SubH.cons 0 rfl (SubH.cons 0 rfl (SubH.cons 0 rfl (SubH.cons 3 rfl (SubH.cons 0 rfl (SubH.cons 2 rfl (SubH.nil _)))))))
                · replace hc63 := of_decide_eq_false hc63
                  refine wp_skip' ?_
                  refine InBlock_normal ?_
                  refine Then_normal ?_
                  refine wp_seq' ?_
                  refine wp_region' ?_
                  refine ops_ro' rfl (ro_build rfl (bld_struct (cs := ((Rk.rep ⟨0, 0, [], [], [], At.zero⟩ none 0 none 0).cs)) st32 rfl)) rfl ?_
                  first | refine ops_heap (fun w F sw => rep_rows (k := ⟨0, 0, [], [], [], At.zero⟩) ⟨rfl, rfl⟩ sw) ?_ | refine any_heap (fun w F sw => rep_rows (k := ⟨0, 0, [], [], [], At.zero⟩) ⟨rfl, rfl⟩ sw) ?_
                  refine ops_eff0 rfl (eff_storeA 2 ag32 rfl rfl rfl rfl rfl (Nat.le_of_ble_eq_true rfl) (warm_zero _)) rfl ?_
                  rintro _ _ rfl
                  simp only [List.set_cons_zero, List.set_cons_succ]
                  refine ops_ro' rfl (ro_assign rfl) rfl ?_
                  refine ops_nil ?_
                  refine Then_normal ?_
                  refine wp_ret' ?_
                  refine' doneS_ret (resv2 rfl (rv_cellA ag32 rfl (by first | exact RdN.of_pick 0 rfl rdn_all | exact RdN.of_pick 1 rfl rdn_all | exact RdN.of_pick 2 rfl rdn_all | exact RdN.of_pick 3 rfl rdn_all | exact RdN.of_pick 4 rfl rdn_all | exact RdN.of_pick 5 rfl rdn_all | exact RdN.of_pick 6 rfl rdn_all | exact RdN.of_pick 7 rfl rdn_all | exact RdN.of_pick 8 rfl rdn_all) rfl) (rv_tmp rfl)) ?_ ?_
                  rotate_left 1
                  exact ⟨t, hs, ⟨0, 0, [], [], [], At.zero⟩, none, 0, none, 0, false, rfl, .inr ⟨rfl, (by unfold byH; omega), rfl, rfl⟩, ⟨r, hW⟩, htb, by omega, hH, rfl⟩
                  exact (SubH.cons 0 rfl (SubH.cons 0 rfl (SubH.cons 2 rfl (SubH.cons 2 rfl (SubH.cons 2 rfl (SubH.cons 2 rfl (SubH.nil _)))))))

end Go.Proofs.YtlefpllcgcicpaaGreatDoor
