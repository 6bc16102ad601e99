/-
  Package fsm: read, write, set.
  Package fsm: close, opendir, readdir.
-/
import Derived.Test.YtlefpllcgcicpaaGreatDoorFsE
import Derived.Test.YtlefpllcgcicpaaGreatDoorSxSub
namespace Go.Proofs.YtlefpllcgcicpaaGreatDoor
open Go.Sx
set_option linter.unusedVariables false
set_option linter.unusedSimpArgs false
set_option maxRecDepth 100000
set_option maxHeartbeats 4000000

def HdP (h : Hd) : Prop := h.flags < 4294967296 ∧ h.names.length ≤ 1000 ∧ h.names.length ≤ h.nc
/-- a machine's handles are in order -/
structure HsOk (hs : List Hd) : Prop where
  len : hs.length = 256
  all : ∀ h ∈ hs, HdP h
theorem HsOk.at' {hs : List Hd} (h : HsOk hs) (s i : Nat) : HdP (hdA hs s i) := by
  unfold hdA
  rw [List.getD_eq_getElem?_getD]
  cases e : hs[s * 16 + i]? with
  | none =>
    exact ⟨by decide, by decide, by decide⟩
  | some x => exact h.all x (List.mem_of_getElem? e)
theorem HsOk.set {hs : List Hd} (h : HsOk hs) {i : Nat} {y : Hd} (hy : HdP y) : HsOk (hs.set i y) :=
  ⟨by rw [List.length_set]; exact h.len, fun z hz => by
    rcases List.mem_or_eq_of_mem_set hz with h1 | rfl
    · exact h.all z h1
    · exact hy⟩
theorem wf_dl2 {t : Tr} {r : Nd} (h : Wf t r) : ∀ x ∈ t.ns, x.data.length ≤ 100000000 := fun x hx => by have := wf_dl h x hx; omega
theorem att_s {t : Tr} (hdl : ∀ x ∈ t.ns, x.data.length ≤ 100000000) (k : Int) : (attO (byId t.ns k)).1.s < 18446744073709551616 := by
  cases hb : byId t.ns k with
  | none => decide
  | some x => have := hdl x (byId_some hb).1; show x.data.length < _; omega
theorem read16_spec {V : HProp} {mb tb : Nat} {t : Tr} {hs : List Hd} (hM : Mq V mb tb t hs) (hH : HsOk hs) (hdl : ∀ x ∈ t.ns, x.data.length ≤ 100000000) (s : Nat) (hs16 : s < 16) (q : Qr) (hq : q.Ok) : Tri Tryz.prog 66 [.pointer (some ⟨mb, 0, none⟩), .int .i64 (s : Int), q.v] [V]
    (fun v H' => ∃ K, (∃ p c, v = ((readK t hs s q).rep p c none 0).v ∧ K = [rowD p c (readK t hs s q).data]) ∧ H' = K ++ [V]) := by
  have hl := hH.len
  cases hf : fileI t hs s q.handle with
  | none =>
    refine tri_of_wpS Tryz.func66 rfl Tryz.ntmps66 (by simp) ?_
    refine wp_seq' ?_
    refine wp_region' ?_
    refine ops_eff' rfl (eff_box rfl) rfl ?_
    rintro _ _ ⟨b5, rfl, rfl⟩
    refine ops_eff' rfl (eff_alloc z32) rfl ?_
    rintro _ _ ⟨b6, rfl, rfl⟩
    refine ops_nil ?_
    refine Then_normal ?_
    refine wp_seq' ?_
    refine wp_region' ?_
    refine ops_ro' rfl (ro_move rfl) rfl ?_
    refine ops_ro' rfl (ro_move rfl) rfl ?_
    refine ops_ro' rfl (ro_fieldAddr fa35_3 rfl) rfl ?_
    refine ops_ro' rfl (ro_load sc9 rfl (Rd.pick 1 rfl (Rd.own rfl))) rfl ?_
    refine ops_eff' rfl (eff_call Tryz.call125 rfl rfl (by repeat (first | exact Split.nil _ | apply Split.cons 0 rfl | apply Split.cons 1 rfl | apply Split.cons 2 rfl | apply Split.cons 3 rfl | apply Split.cons 4 rfl | apply Split.cons 5 rfl | apply Split.cons 6 rfl | apply Split.cons 7 rfl | apply Split.cons 8 rfl | apply Split.cons 9 rfl | apply Split.cons 10 rfl | apply Split.cons 11 rfl)) (ffile_spec hM hl hdl s hs16 q.handle)) rfl ?_
    rintro _ H' ⟨_, ⟨_, ⟨rfl, rfl⟩, rfl⟩, hH⟩
    simp only [List.cons_append, List.nil_append, List.eraseIdx_cons_zero, List.eraseIdx_cons_succ, List.set_cons_zero, List.set_cons_succ] at hH
    subst hH
    rw [hf]
    dsimp only [findV]
    refine ops_ro' rfl (ro_assign rfl) rfl ?_
    refine ops_nil ?_
    refine Then_normal ?_
    refine wp_seq' ?_
    refine wp_block' ?_
    refine wp_seq' ?_
    refine wp_region' ?_
    refine ops_ro' rfl (ro_move rfl) rfl ?_
    refine ops_ro' rfl (ro_ptrEqlNil Tryz.underlying116 rfl rfl rfl) rfl ?_
    refine ops_ro' rfl (ro_assign rfl) rfl ?_
    refine ops_nil ?_
    refine Then_normal ?_
    refine wp_condT rfl ?_
    refine wp_seq' ?_
    refine wp_heap (fun w F s => nil_row 5 1 w F s) ?_
    refine wp_region' ?_
    refine ops_eff' rfl (eff_call Tryz.call28 rfl rfl (by repeat (first | exact Split.nil _ | apply Split.cons 0 rfl | apply Split.cons 1 rfl | apply Split.cons 2 rfl | apply Split.cons 3 rfl | apply Split.cons 4 rfl | apply Split.cons 5 rfl | apply Split.cons 6 rfl | apply Split.cons 7 rfl | apply Split.cons 8 rfl | apply Split.cons 9 rfl | apply Split.cons 10 rfl | apply Split.cons 11 rfl)) (status_spec 4)) rfl ?_
    rintro _ H' ⟨_, ⟨rfl, rfl⟩, hH⟩
    simp only [List.cons_append, List.nil_append, List.eraseIdx_cons_zero, List.eraseIdx_cons_succ, List.set_cons_zero, List.set_cons_succ] at hH
    subst hH
    refine ops_eff0 rfl (eff_storeA 2 ag32 rfl rfl rfl rfl rfl (Nat.le_of_ble_eq_true rfl) (warm_zero _)) rfl ?_
    rintro _ _ rfl
    simp only [List.set_cons_zero, List.set_cons_succ]
    refine ops_nil ?_
    refine Then_normal ?_
    refine wp_ret' ?_
    refine InBlock_ret ?_
    refine Then_ret ?_
    have hk : readK t hs s q = Rk.stat 4 := by
      unfold readK; rw [hf]; done
    rw [hk]
    refine' doneS_ret (resv1 rfl (rv_cellA ag32 rfl (by first | exact RdN.of_pick 0 rfl rdn_all | exact RdN.of_pick 1 rfl rdn_all | exact RdN.of_pick 2 rfl rdn_all | exact RdN.of_pick 3 rfl rdn_all) rfl)) ?_ ?_
    rotate_left 1
    exact ⟨_, ⟨none, 0, rfl, rfl⟩, rfl⟩
    exact (SubH.cons 0 rfl (SubH.cons 0 rfl (SubH.nil _)))
  | some i =>
    obtain ⟨hi, -, -, hat⟩ := fileI_lt hf
    have hfl := (hH.at' s i).1
    refine tri_of_wpS Tryz.func66 rfl Tryz.ntmps66 (by simp) ?_
    refine wp_seq' ?_
    refine wp_region' ?_
    refine ops_eff' rfl (eff_box rfl) rfl ?_
    rintro _ _ ⟨b5, rfl, rfl⟩
    refine ops_eff' rfl (eff_alloc z32) rfl ?_
    rintro _ _ ⟨b6, rfl, rfl⟩
    refine ops_nil ?_
    refine Then_normal ?_
    refine wp_seq' ?_
    refine wp_region' ?_
    refine ops_ro' rfl (ro_move rfl) rfl ?_
    refine ops_ro' rfl (ro_move rfl) rfl ?_
    refine ops_ro' rfl (ro_fieldAddr fa35_3 rfl) rfl ?_
    refine ops_ro' rfl (ro_load sc9 rfl (Rd.pick 1 rfl (Rd.own rfl))) rfl ?_
    refine ops_eff' rfl (eff_call Tryz.call125 rfl rfl (by repeat (first | exact Split.nil _ | apply Split.cons 0 rfl | apply Split.cons 1 rfl | apply Split.cons 2 rfl | apply Split.cons 3 rfl | apply Split.cons 4 rfl | apply Split.cons 5 rfl | apply Split.cons 6 rfl | apply Split.cons 7 rfl | apply Split.cons 8 rfl | apply Split.cons 9 rfl | apply Split.cons 10 rfl | apply Split.cons 11 rfl)) (ffile_spec hM hl hdl s hs16 q.handle)) rfl ?_
    rintro _ H' ⟨_, ⟨_, ⟨rfl, rfl⟩, rfl⟩, hH⟩
    simp only [List.cons_append, List.nil_append, List.eraseIdx_cons_zero, List.eraseIdx_cons_succ, List.set_cons_zero, List.set_cons_succ] at hH
    subst hH
    rw [hf]
    dsimp only [findV]
    refine ops_ro' rfl (ro_assign rfl) rfl ?_
    refine ops_nil ?_
    refine Then_normal ?_
    refine wp_seq' ?_
    refine wp_block' ?_
    refine wp_seq' ?_
    refine wp_region' ?_
    refine ops_ro' rfl (ro_move rfl) rfl ?_
    refine ops_ro' rfl (ro_ptrEqlNil Tryz.underlying116 rfl rfl rfl) rfl ?_
    refine ops_ro' rfl (ro_assign rfl) rfl ?_
    refine ops_nil ?_
    refine Then_normal ?_
    refine wp_condF rfl ?_
    refine wp_seq' ?_
    refine wp_region' ?_
    refine ops_ro' rfl (ro_move rfl) rfl ?_
    refine ops_ro' rfl (ro_nilCheck rfl) rfl ?_
    refine ops_ro' rfl (ro_fieldAddr fa67_3 rfl) rfl ?_
    refine ops_ro' rfl (ro_load sc27 rfl (Rd.pick 0 rfl ((hd_rd0 hM.hv hl hs16 hi 3 _ rfl)))) rfl ?_
    refine ops_ro' rfl (ro_and rfl rfl (and32 hfl (c := 1) (by decide) rfl)) rfl ?_
    refine ops_ro' rfl (ro_eql rfl rfl rfl) rfl ?_
    refine ops_ro' rfl (ro_assign rfl) rfl ?_
    refine ops_nil ?_
    refine Then_normal ?_
    refine wp_cond' rfl (fun hc19 => ?_) (fun hc19 => ?_)
    · replace hc19 := of_decide_eq_true hc19
      refine wp_seq' ?_
      refine wp_heap (fun w F s => nil_row 5 1 w F s) ?_
      refine wp_region' ?_
      refine ops_eff' rfl (eff_call Tryz.call28 rfl rfl (by repeat (first | exact Split.nil _ | apply Split.cons 0 rfl | apply Split.cons 1 rfl | apply Split.cons 2 rfl | apply Split.cons 3 rfl | apply Split.cons 4 rfl | apply Split.cons 5 rfl | apply Split.cons 6 rfl | apply Split.cons 7 rfl | apply Split.cons 8 rfl | apply Split.cons 9 rfl | apply Split.cons 10 rfl | apply Split.cons 11 rfl)) (status_spec 3)) rfl ?_
      rintro _ H' ⟨_, ⟨rfl, rfl⟩, hH⟩
      simp only [List.cons_append, List.nil_append, List.eraseIdx_cons_zero, List.eraseIdx_cons_succ, List.set_cons_zero, List.set_cons_succ] at hH
      subst hH
      refine ops_eff0 rfl (eff_storeA 2 ag32 rfl rfl rfl rfl rfl (Nat.le_of_ble_eq_true rfl) (warm_zero _)) rfl ?_
      rintro _ _ rfl
      simp only [List.set_cons_zero, List.set_cons_succ]
      refine ops_nil ?_
      refine Then_normal ?_
      refine wp_ret' ?_
      refine InBlock_ret ?_
      refine Then_ret ?_
      have hk : readK t hs s q = Rk.stat 3 := by
        unfold readK; rw [hf]; dsimp only; rw [if_pos (by omega)]
      rw [hk]
      refine' doneS_ret (resv1 rfl (rv_cellA ag32 rfl (by first | exact RdN.of_pick 0 rfl rdn_all | exact RdN.of_pick 1 rfl rdn_all | exact RdN.of_pick 2 rfl rdn_all | exact RdN.of_pick 3 rfl rdn_all) rfl)) ?_ ?_
      rotate_left 1
      exact ⟨_, ⟨none, 0, rfl, rfl⟩, rfl⟩
      exact (SubH.cons 0 rfl (SubH.cons 0 rfl (SubH.nil _)))
    · replace hc19 := of_decide_eq_false hc19
      refine wp_skip' ?_
      refine InBlock_normal ?_
      refine Then_normal ?_
      refine wp_seq' ?_
      refine wp_draw 12 (by kernel_rfl) (Split.all _) ?_
      refine any_ro' (i := 0) (by kernel_rfl) rfl rfl (ro_move rfl) rfl (fun _ _ _ h => h) ?_
      refine any_ro' (i := 1) (by kernel_rfl) rfl rfl (ro_nilCheck rfl) rfl (fun _ _ _ h => h) ?_
      refine any_ro' (i := 2) (by kernel_rfl) rfl rfl (ro_fieldAddr fa71_0 rfl) rfl (fun _ _ _ h => h) ?_
      refine any_ro' (i := 3) (by kernel_rfl) rfl rfl (ro_load sc51 rfl (Rd.pick 0 rfl (hM.pt))) rfl (fun _ _ _ h => h) ?_
      refine any_ro' (i := 4) (by kernel_rfl) rfl rfl (ro_move rfl) rfl (fun _ _ _ h => h) ?_
      refine any_ro' (i := 5) (by kernel_rfl) rfl rfl (ro_nilCheck rfl) rfl (fun _ _ _ h => h) ?_
      refine any_ro' (i := 6) (by kernel_rfl) rfl rfl (ro_fieldAddr fa67_1 rfl) rfl (fun _ _ _ h => h) ?_
      refine any_ro' (i := 7) (by kernel_rfl) rfl rfl (ro_load sc3 rfl (Rd.pick 0 rfl ((hd_rd0 hM.hv hl hs16 hi 1 _ rfl)))) rfl (fun _ _ _ h => h) ?_
      refine any_ro' (i := 8) (by kernel_rfl) rfl rfl (ro_fieldAddr fa35_4 rfl) rfl (fun _ _ _ h => h) ?_
      refine any_ro' (i := 9) (by kernel_rfl) rfl rfl (ro_load sc28 rfl (Rd.pick 2 rfl (Rd.own rfl))) rfl (fun _ _ _ h => h) ?_
      refine any_ro' (i := 10) (by kernel_rfl) rfl rfl (ro_fieldAddr fa35_5 rfl) rfl (fun _ _ _ h => h) ?_
      refine any_ro' (i := 11) (by kernel_rfl) rfl rfl (ro_load sc27 rfl (Rd.pick 2 rfl (Rd.own rfl))) rfl (fun _ _ _ h => h) ?_
      refine any_unlock (m' := 18) (L' := []) (by kernel_rfl) unlock ?_
      simp only [List.cons_append, List.nil_append, List.append_nil]
      refine any_eff' (i := 12) (by kernel_rfl) rfl rfl (eff_call Tryz.call126 rfl rfl (by repeat (first | exact Split.nil _ | apply Split.cons 0 rfl | apply Split.cons 1 rfl | apply Split.cons 2 rfl | apply Split.cons 3 rfl | apply Split.cons 4 rfl | apply Split.cons 5 rfl | apply Split.cons 6 rfl | apply Split.cons 7 rfl | apply Split.cons 8 rfl | apply Split.cons 9 rfl | apply Split.cons 10 rfl | apply Split.cons 11 rfl)) (tri_argc hM.tb (read_spec hM.tv (hdA hs s i).id q.off hq.off q.len hq.len hdl))) rfl ?_
      rintro _ H' ⟨_, ⟨_, ⟨p40, c40, rfl, rfl⟩, rfl⟩, hH⟩
      simp only [List.cons_append, List.nil_append, List.eraseIdx_cons_zero, List.eraseIdx_cons_succ, List.set_cons_zero, List.set_cons_succ] at hH
      subst hH
      refine any_ro' (i := 13) (by kernel_rfl) rfl rfl (ro_move rfl) rfl (fun _ _ _ h => h) ?_
      refine any_ro' (i := 14) (by kernel_rfl) rfl rfl (ro_extract rfl rfl) rfl (fun _ _ _ h => h) ?_
      refine any_ro' (i := 15) (by kernel_rfl) rfl rfl (ro_extract rfl rfl) rfl (fun _ _ _ h => h) ?_
      refine any_ro' (i := 16) (by kernel_rfl) rfl rfl (ro_assign rfl) rfl (fun _ _ _ h => h) ?_
      refine any_ro' (i := 17) (by kernel_rfl) rfl rfl (ro_assign rfl) rfl (fun _ _ _ h => h) ?_
      refine any_doneH (by kernel_rfl) ?_
      refine Then_normal ?_
      refine wp_seq' ?_
      refine wp_seq' ?_
      refine wp_region' ?_
      refine ops_ro' rfl (ro_move rfl) rfl ?_
      refine ops_ro' rfl (ro_neq rfl rfl rfl) rfl ?_
      refine ops_split rfl rfl rfl (fun hg45 => ?_) (fun hg45 => ?_)
      · replace hg45 := of_decide_eq_true hg45
        refine ops_skip' rfl rfl ?_
        refine ops_skip' rfl rfl ?_
        refine ops_skip' rfl rfl ?_
        refine ops_ro' rfl (ro_pick rfl rfl) rfl ?_
        refine ops_nil ?_
        refine Then_normal ?_
        refine wp_condT rfl ?_
        refine wp_seq' ?_
        refine wp_heap (fun w F s => nil_row 5 1 w F s) ?_
        refine wp_region' ?_
        refine ops_eff' rfl (eff_call Tryz.call28 rfl rfl (by repeat (first | exact Split.nil _ | apply Split.cons 0 rfl | apply Split.cons 1 rfl | apply Split.cons 2 rfl | apply Split.cons 3 rfl | apply Split.cons 4 rfl | apply Split.cons 5 rfl | apply Split.cons 6 rfl | apply Split.cons 7 rfl | apply Split.cons 8 rfl | apply Split.cons 9 rfl | apply Split.cons 10 rfl | apply Split.cons 11 rfl)) (status_spec 1)) rfl ?_
        rintro _ H' ⟨_, ⟨rfl, rfl⟩, hH⟩
        simp only [List.cons_append, List.nil_append, List.eraseIdx_cons_zero, List.eraseIdx_cons_succ, List.set_cons_zero, List.set_cons_succ] at hH
        subst hH
        refine ops_eff0 rfl (eff_storeA 3 ag32 rfl rfl rfl rfl rfl (Nat.le_of_ble_eq_true rfl) (warm_zero _)) rfl ?_
        rintro _ _ rfl
        simp only [List.set_cons_zero, List.set_cons_succ]
        refine ops_nil ?_
        refine Then_normal ?_
        refine wp_ret' ?_
        refine Then_ret ?_
        have hk : readK t hs s q = Rk.stat 1 := by
          unfold readK; rw [hf]; dsimp only; rw [if_neg (by omega), if_pos (by first | exact .inl (by omega) | exact .inr (by omega))]
        rw [hk]
        refine' doneS_ret (resv1 rfl (rv_cellA ag32 rfl (by first | exact RdN.of_pick 0 rfl rdn_all | exact RdN.of_pick 1 rfl rdn_all | exact RdN.of_pick 2 rfl rdn_all | exact RdN.of_pick 3 rfl rdn_all) rfl)) ?_ ?_
        rotate_left 1
        exact ⟨_, ⟨none, 0, rfl, rfl⟩, rfl⟩
        exact (SubH.cons 0 rfl (SubH.cons 1 rfl (SubH.nil _)))
      · replace hg45 := of_decide_eq_false hg45
        refine ops_ro' rfl (ro_fieldAddr fa35_5 rfl) rfl ?_
        refine ops_ro' rfl (ro_load sc27 rfl (Rd.pick 3 rfl (Rd.own rfl))) rfl ?_
        refine ops_ro' rfl (ro_eql rfl rfl rfl) rfl ?_
        refine ops_ro' rfl (ro_pick rfl rfl) rfl ?_
        refine ops_nil ?_
        refine Then_normal ?_
        refine wp_cond' rfl (fun hc49 => ?_) (fun hc49 => ?_)
        · replace hc49 := of_decide_eq_true hc49
          refine wp_seq' ?_
          refine wp_heap (fun w F s => nil_row 5 1 w F s) ?_
          refine wp_region' ?_
          refine ops_eff' rfl (eff_call Tryz.call28 rfl rfl (by repeat (first | exact Split.nil _ | apply Split.cons 0 rfl | apply Split.cons 1 rfl | apply Split.cons 2 rfl | apply Split.cons 3 rfl | apply Split.cons 4 rfl | apply Split.cons 5 rfl | apply Split.cons 6 rfl | apply Split.cons 7 rfl | apply Split.cons 8 rfl | apply Split.cons 9 rfl | apply Split.cons 10 rfl | apply Split.cons 11 rfl)) (status_spec 1)) rfl ?_
          rintro _ H' ⟨_, ⟨rfl, rfl⟩, hH⟩
          simp only [List.cons_append, List.nil_append, List.eraseIdx_cons_zero, List.eraseIdx_cons_succ, List.set_cons_zero, List.set_cons_succ] at hH
          subst hH
          refine ops_eff0 rfl (eff_storeA 3 ag32 rfl rfl rfl rfl rfl (Nat.le_of_ble_eq_true rfl) (warm_zero _)) rfl ?_
          rintro _ _ rfl
          simp only [List.set_cons_zero, List.set_cons_succ]
          refine ops_nil ?_
          refine Then_normal ?_
          refine wp_ret' ?_
          refine Then_ret ?_
          have hk : readK t hs s q = Rk.stat 1 := by
            unfold readK; rw [hf]; dsimp only; rw [if_neg (by omega), if_pos (by first | exact .inl (by omega) | exact .inr (by omega))]
          rw [hk]
          refine' doneS_ret (resv1 rfl (rv_cellA ag32 rfl (by first | exact RdN.of_pick 0 rfl rdn_all | exact RdN.of_pick 1 rfl rdn_all | exact RdN.of_pick 2 rfl rdn_all | exact RdN.of_pick 3 rfl rdn_all) rfl)) ?_ ?_
          rotate_left 1
          exact ⟨_, ⟨none, 0, rfl, rfl⟩, rfl⟩
          exact (SubH.cons 0 rfl (SubH.cons 1 rfl (SubH.nil _)))
        · replace hc49 := of_decide_eq_false hc49
          refine wp_skip' ?_
          refine Then_normal ?_
          refine wp_seq' ?_
          refine wp_region' ?_
          refine ops_ro' rfl (ro_move rfl) rfl ?_
          refine ops_ro' rfl (ro_build rfl (bld_struct (cs := (Rk.rep ⟨3, 0, [], (readO (byId t.ns (hdA hs s i).id) q.off q.len).1, [], At.zero⟩ p40 c40 none 0).cs) st32 rfl)) rfl ?_
          refine ops_eff0 rfl (eff_storeA 2 ag32 rfl rfl rfl rfl rfl (Nat.le_of_ble_eq_true rfl) (warm_zero _)) rfl ?_
          rintro _ _ rfl
          simp only [List.set_cons_zero, List.set_cons_succ]
          refine ops_nil ?_
          refine Then_normal ?_
          refine wp_ret' ?_
          have hk : readK t hs s q = ⟨3, 0, [], (readO (byId t.ns (hdA hs s i).id) q.off q.len).1, [], At.zero⟩ := by
            unfold readK; rw [hf]; dsimp only; rw [if_neg (by omega), if_neg (by omega)]
          rw [hk]
          refine' doneS_ret (resv1 rfl (rv_cellA ag32 rfl (by first | exact RdN.of_pick 0 rfl rdn_all | exact RdN.of_pick 1 rfl rdn_all | exact RdN.of_pick 2 rfl rdn_all | exact RdN.of_pick 3 rfl rdn_all) rfl)) ?_ ?_
          rotate_left 1
          exact ⟨_, ⟨p40, c40, rfl, rfl⟩, rfl⟩
          exact (SubH.cons 0 rfl (SubH.cons 0 rfl (SubH.nil _)))
theorem write16_spec {V : HProp} {mb tb : Nat} {t : Tr} {hs : List Hd} {r : Nd} (hW : Wf t r) (htb : t.tb = tb) (hH : HsOk hs) (s : Nat) (hs16 : s < 16) (q : Qr) (hq : q.Ok) (hD : Vw V (.slice q.dp q.data.length q.dc) q.data.length (cel q.data)) : Tri Tryz.prog 67 [.pointer (some ⟨mb, 0, none⟩), .int .i64 (s : Int), q.v] [oMa mb tb hs, tree t, V]
    (fun v H' => ∃ t' k, v = (k.rep none 0 none 0).v ∧ writeR t hs s q t' k ∧ Wf t' r ∧ t'.tb = t.tb ∧ t'.next = t.next ∧ H' = [oMa mb tb hs, tree t', V]) := by
  have hl := hH.len
  have hdl := wf_dl2 hW
  cases hf : fileI t hs s q.handle with
  | none =>
    refine tri_of_wpS Tryz.func67 rfl Tryz.ntmps67 (by simp) ?_
    refine wp_seq' ?_
    refine wp_region' ?_
    refine ops_eff' rfl (eff_box rfl) rfl ?_
    rintro _ _ ⟨b5, rfl, rfl⟩
    refine ops_eff' rfl (eff_alloc z32) rfl ?_
    rintro _ _ ⟨b6, rfl, rfl⟩
    refine ops_nil ?_
    refine Then_normal ?_
    refine wp_seq' ?_
    refine wp_region' ?_
    refine ops_ro' rfl (ro_move rfl) rfl ?_
    refine ops_ro' rfl (ro_move rfl) rfl ?_
    refine ops_ro' rfl (ro_fieldAddr fa35_3 rfl) rfl ?_
    refine ops_ro' rfl (ro_load sc9 rfl (Rd.pick 1 rfl (Rd.own rfl))) rfl ?_
    refine ops_eff' rfl (eff_callM (Pre := []) Tryz.call125 rfl rfl (Split.nil _) (ffile_spec (by first | exact Mq.of 0 1 rfl rfl htb | exact Mq.of 0 2 rfl rfl htb | exact Mq.of 0 3 rfl rfl htb | exact Mq.of 0 4 rfl rfl htb | exact Mq.of 1 0 rfl rfl htb | exact Mq.of 1 2 rfl rfl htb | exact Mq.of 1 3 rfl rfl htb | exact Mq.of 1 4 rfl rfl htb | exact Mq.of 2 0 rfl rfl htb | exact Mq.of 2 1 rfl rfl htb | exact Mq.of 2 3 rfl rfl htb | exact Mq.of 2 4 rfl rfl htb | exact Mq.of 3 0 rfl rfl htb | exact Mq.of 3 1 rfl rfl htb | exact Mq.of 3 2 rfl rfl htb | exact Mq.of 3 4 rfl rfl htb) hl hdl s hs16 q.handle)) rfl ?_
    rintro _ H' ⟨_, ⟨rfl, rfl⟩, hH⟩
    simp only [List.cons_append, List.nil_append, List.eraseIdx_cons_zero, List.eraseIdx_cons_succ, List.set_cons_zero, List.set_cons_succ] at hH
    subst hH
    rw [hf]
    dsimp only [findV]
    refine ops_ro' rfl (ro_assign rfl) rfl ?_
    refine ops_nil ?_
    refine Then_normal ?_
    refine wp_seq' ?_
    refine wp_block' ?_
    refine wp_seq' ?_
    refine wp_region' ?_
    refine ops_ro' rfl (ro_move rfl) rfl ?_
    refine ops_ro' rfl (ro_ptrEqlNil Tryz.underlying116 rfl rfl rfl) rfl ?_
    refine ops_ro' rfl (ro_assign rfl) rfl ?_
    refine ops_nil ?_
    refine Then_normal ?_
    refine wp_condT rfl ?_
    refine wp_seq' ?_
    refine wp_region' ?_
    refine ops_eff' rfl (eff_call Tryz.call28 rfl rfl (by repeat (first | exact Split.nil _ | apply Split.cons 0 rfl | apply Split.cons 1 rfl | apply Split.cons 2 rfl | apply Split.cons 3 rfl | apply Split.cons 4 rfl | apply Split.cons 5 rfl | apply Split.cons 6 rfl | apply Split.cons 7 rfl | apply Split.cons 8 rfl | apply Split.cons 9 rfl | apply Split.cons 10 rfl | apply Split.cons 11 rfl)) (status_spec 4)) rfl ?_
    rintro _ H' ⟨_, ⟨rfl, rfl⟩, hH⟩
    simp only [List.cons_append, List.nil_append, List.eraseIdx_cons_zero, List.eraseIdx_cons_succ, List.set_cons_zero, List.set_cons_succ] at hH
    subst hH
    refine ops_eff0 rfl (eff_storeA 0 ag32 rfl rfl rfl rfl rfl (Nat.le_of_ble_eq_true rfl) (warm_zero _)) rfl ?_
    rintro _ _ rfl
    simp only [List.set_cons_zero, List.set_cons_succ]
    refine ops_nil ?_
    refine Then_normal ?_
    refine wp_ret' ?_
    refine InBlock_ret ?_
    refine Then_ret ?_
    refine' doneS_ret (resv1 rfl (rv_cellA ag32 rfl (by first | exact RdN.of_pick 0 rfl rdn_all | exact RdN.of_pick 1 rfl rdn_all | exact RdN.of_pick 2 rfl rdn_all | exact RdN.of_pick 3 rfl rdn_all | exact RdN.of_pick 4 rfl rdn_all) rfl)) ?_ ?_
    rotate_left 1
    exact ⟨t, Rk.stat 4, rfl, (by unfold writeR; rw [hf]; exact ⟨rfl, rfl⟩), hW, rfl, rfl, rfl⟩
    exact (SubH.cons 2 rfl (SubH.cons 2 rfl (SubH.cons 2 rfl (SubH.nil _))))
  | some i =>
    obtain ⟨hi, -, -, hat⟩ := fileI_lt hf
    have hfl := (hH.at' s i).1
    refine tri_of_wpS Tryz.func67 rfl Tryz.ntmps67 (by simp) ?_
    refine wp_seq' ?_
    refine wp_region' ?_
    refine ops_eff' rfl (eff_box rfl) rfl ?_
    rintro _ _ ⟨b5, rfl, rfl⟩
    refine ops_eff' rfl (eff_alloc z32) rfl ?_
    rintro _ _ ⟨b6, rfl, rfl⟩
    refine ops_nil ?_
    refine Then_normal ?_
    refine wp_seq' ?_
    refine wp_region' ?_
    refine ops_ro' rfl (ro_move rfl) rfl ?_
    refine ops_ro' rfl (ro_move rfl) rfl ?_
    refine ops_ro' rfl (ro_fieldAddr fa35_3 rfl) rfl ?_
    refine ops_ro' rfl (ro_load sc9 rfl (Rd.pick 1 rfl (Rd.own rfl))) rfl ?_
    refine ops_eff' rfl (eff_callM (Pre := []) Tryz.call125 rfl rfl (Split.nil _) (ffile_spec (by first | exact Mq.of 0 1 rfl rfl htb | exact Mq.of 0 2 rfl rfl htb | exact Mq.of 0 3 rfl rfl htb | exact Mq.of 0 4 rfl rfl htb | exact Mq.of 1 0 rfl rfl htb | exact Mq.of 1 2 rfl rfl htb | exact Mq.of 1 3 rfl rfl htb | exact Mq.of 1 4 rfl rfl htb | exact Mq.of 2 0 rfl rfl htb | exact Mq.of 2 1 rfl rfl htb | exact Mq.of 2 3 rfl rfl htb | exact Mq.of 2 4 rfl rfl htb | exact Mq.of 3 0 rfl rfl htb | exact Mq.of 3 1 rfl rfl htb | exact Mq.of 3 2 rfl rfl htb | exact Mq.of 3 4 rfl rfl htb) hl hdl s hs16 q.handle)) rfl ?_
    rintro _ H' ⟨_, ⟨rfl, rfl⟩, hH⟩
    simp only [List.cons_append, List.nil_append, List.eraseIdx_cons_zero, List.eraseIdx_cons_succ, List.set_cons_zero, List.set_cons_succ] at hH
    subst hH
    rw [hf]
    dsimp only [findV]
    refine ops_ro' rfl (ro_assign rfl) rfl ?_
    refine ops_nil ?_
    refine Then_normal ?_
    refine wp_seq' ?_
    refine wp_block' ?_
    refine wp_seq' ?_
    refine wp_region' ?_
    refine ops_ro' rfl (ro_move rfl) rfl ?_
    refine ops_ro' rfl (ro_ptrEqlNil Tryz.underlying116 rfl rfl rfl) rfl ?_
    refine ops_ro' rfl (ro_assign rfl) rfl ?_
    refine ops_nil ?_
    refine Then_normal ?_
    refine wp_condF rfl ?_
    refine wp_seq' ?_
    refine wp_region' ?_
    refine ops_ro' rfl (ro_move rfl) rfl ?_
    refine ops_ro' rfl (ro_nilCheck rfl) rfl ?_
    refine ops_ro' rfl (ro_fieldAddr fa67_3 rfl) rfl ?_
    refine ops_ro' rfl (ro_load sc27 rfl (Rd.pick 2 rfl ((hd_rd0 hv_own hl hs16 hi 3 _ rfl)))) rfl ?_
    refine ops_ro' rfl (ro_and rfl rfl (and32 hfl (c := 2) (by decide) rfl)) rfl ?_
    refine ops_ro' rfl (ro_eql rfl rfl rfl) rfl ?_
    refine ops_ro' rfl (ro_assign rfl) rfl ?_
    refine ops_nil ?_
    refine Then_normal ?_
    refine wp_cond' rfl (fun hc20 => ?_) (fun hc20 => ?_)
    · replace hc20 := of_decide_eq_true hc20
      refine wp_seq' ?_
      refine wp_region' ?_
      refine ops_eff' rfl (eff_call Tryz.call28 rfl rfl (by repeat (first | exact Split.nil _ | apply Split.cons 0 rfl | apply Split.cons 1 rfl | apply Split.cons 2 rfl | apply Split.cons 3 rfl | apply Split.cons 4 rfl | apply Split.cons 5 rfl | apply Split.cons 6 rfl | apply Split.cons 7 rfl | apply Split.cons 8 rfl | apply Split.cons 9 rfl | apply Split.cons 10 rfl | apply Split.cons 11 rfl)) (status_spec 3)) rfl ?_
      rintro _ H' ⟨_, ⟨rfl, rfl⟩, hH⟩
      simp only [List.cons_append, List.nil_append, List.eraseIdx_cons_zero, List.eraseIdx_cons_succ, List.set_cons_zero, List.set_cons_succ] at hH
      subst hH
      refine ops_eff0 rfl (eff_storeA 0 ag32 rfl rfl rfl rfl rfl (Nat.le_of_ble_eq_true rfl) (warm_zero _)) rfl ?_
      rintro _ _ rfl
      simp only [List.set_cons_zero, List.set_cons_succ]
      refine ops_nil ?_
      refine Then_normal ?_
      refine wp_ret' ?_
      refine InBlock_ret ?_
      refine Then_ret ?_
      refine' doneS_ret (resv1 rfl (rv_cellA ag32 rfl (by first | exact RdN.of_pick 0 rfl rdn_all | exact RdN.of_pick 1 rfl rdn_all | exact RdN.of_pick 2 rfl rdn_all | exact RdN.of_pick 3 rfl rdn_all | exact RdN.of_pick 4 rfl rdn_all) rfl)) ?_ ?_
      rotate_left 1
      exact ⟨t, Rk.stat 3, rfl, (by unfold writeR; rw [hf]; dsimp only; rw [if_pos (by omega)]; exact ⟨rfl, rfl⟩), hW, rfl, rfl, rfl⟩
      exact (SubH.cons 2 rfl (SubH.cons 2 rfl (SubH.cons 2 rfl (SubH.nil _))))
    · replace hc20 := of_decide_eq_false hc20
      refine wp_seq' ?_
      refine wp_region' ?_
      refine ops_ro' rfl (ro_fieldAddr fa35_6 rfl) rfl ?_
      refine ops_ro' rfl (ro_load sc25 rfl (Rd.pick 1 rfl (Rd.own rfl))) rfl ?_
      refine ops_ro' rfl (ro_sliceLen Tryz.underlying25 rfl) rfl ?_
      refine ops_ro' rfl (ro_gtr rfl rfl rfl) rfl ?_
      refine ops_ro' rfl (ro_assign rfl) rfl ?_
      refine ops_nil ?_
      refine Then_normal ?_
      refine wp_cond' rfl (fun hc28 => ?_) (fun hc28 => ?_)
      · replace hc28 := of_decide_eq_true hc28
        refine wp_seq' ?_
        refine wp_region' ?_
        refine ops_eff' rfl (eff_call Tryz.call28 rfl rfl (by repeat (first | exact Split.nil _ | apply Split.cons 0 rfl | apply Split.cons 1 rfl | apply Split.cons 2 rfl | apply Split.cons 3 rfl | apply Split.cons 4 rfl | apply Split.cons 5 rfl | apply Split.cons 6 rfl | apply Split.cons 7 rfl | apply Split.cons 8 rfl | apply Split.cons 9 rfl | apply Split.cons 10 rfl | apply Split.cons 11 rfl)) (status_spec 4)) rfl ?_
        rintro _ H' ⟨_, ⟨rfl, rfl⟩, hH⟩
        simp only [List.cons_append, List.nil_append, List.eraseIdx_cons_zero, List.eraseIdx_cons_succ, List.set_cons_zero, List.set_cons_succ] at hH
        subst hH
        refine ops_eff0 rfl (eff_storeA 0 ag32 rfl rfl rfl rfl rfl (Nat.le_of_ble_eq_true rfl) (warm_zero _)) rfl ?_
        rintro _ _ rfl
        simp only [List.set_cons_zero, List.set_cons_succ]
        refine ops_nil ?_
        refine Then_normal ?_
        refine wp_ret' ?_
        refine InBlock_ret ?_
        refine Then_ret ?_
        refine' doneS_ret (resv1 rfl (rv_cellA ag32 rfl (by first | exact RdN.of_pick 0 rfl rdn_all | exact RdN.of_pick 1 rfl rdn_all | exact RdN.of_pick 2 rfl rdn_all | exact RdN.of_pick 3 rfl rdn_all | exact RdN.of_pick 4 rfl rdn_all) rfl)) ?_ ?_
        rotate_left 1
        exact ⟨t, Rk.stat 4, rfl, (by unfold writeR; rw [hf]; dsimp only; rw [if_neg (by omega), if_pos (by omega)]; exact ⟨rfl, rfl⟩), hW, rfl, rfl, rfl⟩
        exact (SubH.cons 2 rfl (SubH.cons 2 rfl (SubH.cons 2 rfl (SubH.nil _))))
      · replace hc28 := of_decide_eq_false hc28
        refine wp_skip' ?_
        refine InBlock_normal ?_
        refine Then_normal ?_
        refine wp_seq' ?_
        refine wp_region' ?_
        refine ops_ro' rfl (ro_fieldAddr fa35_4 rfl) rfl ?_
        refine ops_ro' rfl (ro_load sc28 rfl (Rd.pick 1 rfl (Rd.own rfl))) rfl ?_
        refine ops_ro' rfl (ro_assign rfl) rfl ?_
        refine ops_nil ?_
        refine Then_normal ?_
        refine wp_cutK 1012 (fun Δ LL => ∃ (aw : Nat), (aw = (if (hdA hs s i).flags &&& 4 ≠ 0 then (attO (byId t.ns (hdA hs s i).id)).1.s else q.off) ∧ aw < 18446744073709551616) ∧ Δ = [(8, .int .u64 (aw : Int))] ∧ LL = [own b6 (.cells ((Rk.rep ⟨0, 0, [], [], [], At.zero⟩ none 0 none 0).cs).toArray 32 (0, 0)), own b5 (.cells (q.cs).toArray 35 (0, 0)), oMa mb tb hs, tree t, V]) (Has.cons (k := 0) rfl (Has.cons (k := 5) rfl (Has.cons (k := 6) rfl (Has.cons (k := 7) rfl (Has.nil _))))) ?_ ?_
        · refine wp_seq' ?_
          refine wp_region' ?_
          refine ops_ro' rfl (ro_move rfl) rfl ?_
          refine ops_ro' rfl (ro_nilCheck rfl) rfl ?_
          refine ops_ro' rfl (ro_fieldAddr fa67_3 rfl) rfl ?_
          refine ops_ro' rfl (ro_load sc27 rfl (Rd.pick 2 rfl ((hd_rd0 hv_own hl hs16 hi 3 _ rfl)))) rfl ?_
          refine ops_ro' rfl (ro_and rfl rfl (and32 hfl (c := 4) (by decide) rfl)) rfl ?_
          refine ops_ro' rfl (ro_neq rfl rfl rfl) rfl ?_
          refine ops_nil ?_
          refine Then_normal ?_
          refine wp_cond' rfl (fun hc41 => ?_) (fun hc41 => ?_)
          · replace hc41 := of_decide_eq_true hc41
            refine wp_seq' ?_
            refine wp_draw 14 (by kernel_rfl) (Split.cons 2 rfl (Split.nil _)) ?_
            refine any_ro' (i := 0) (by kernel_rfl) rfl rfl (ro_move rfl) rfl (fun _ _ _ h => h) ?_
            refine any_ro' (i := 1) (by kernel_rfl) rfl rfl (ro_nilCheck rfl) rfl (fun _ _ _ h => h) ?_
            refine any_ro' (i := 2) (by kernel_rfl) rfl rfl (ro_fieldAddr fa71_0 rfl) rfl (fun _ _ _ h => h) ?_
            refine any_ro' (i := 3) (by kernel_rfl) rfl rfl (ro_load sc51 rfl (Rd.pick 0 rfl (Rd.own rfl))) rfl (fun _ _ _ h => h) ?_
            refine any_ro' (i := 4) (by kernel_rfl) rfl rfl (ro_move rfl) rfl (fun _ _ _ h => h) ?_
            refine any_ro' (i := 5) (by kernel_rfl) rfl rfl (ro_nilCheck rfl) rfl (fun _ _ _ h => h) ?_
            refine any_ro' (i := 6) (by kernel_rfl) rfl rfl (ro_fieldAddr fa67_1 rfl) rfl (fun _ _ _ h => h) ?_
            refine any_ro' (i := 7) (by kernel_rfl) rfl rfl (ro_load sc3 rfl (Rd.pick 0 rfl ((hd_rd0 hv_own hl hs16 hi 1 _ rfl)))) rfl (fun _ _ _ h => h) ?_
            refine any_two (i := 8) (j := 12) (by kernel_rfl) ?_ ?_
            · refine at_callL' rfl rfl (eff_callM (Pre := []) Tryz.call83 rfl rfl (Split.nil _) (tri_argc htb (attrs_spec (by first | exact Tv.pick 0 rfl (tree_tv t) | exact Tv.pick 1 rfl (tree_tv t) | exact Tv.pick 2 rfl (tree_tv t) | exact Tv.pick 3 rfl (tree_tv t) | exact Tv.pick 4 rfl (tree_tv t)) _ hdl))) rfl ?_
              rintro _ _ ⟨rfl, rfl⟩
              simp only [List.cons_append, List.nil_append]
              obtain ⟨⟨a5, e5⟩, hz5⟩ : ∃ z : At × Int, attO (byId t.ns (hdA hs s i).id) = z := ⟨_, rfl⟩
              rw [hz5]
              dsimp only
              have ha5 := att_s hdl (hdA hs s i).id
              rw [hz5] at ha5
              refine any_ro' (i := 9) (by kernel_rfl) rfl rfl (ro_move rfl) rfl (fun _ _ _ h => h) ?_
              refine any_ro' (i := 10) (by kernel_rfl) rfl rfl (ro_extract rfl rfl) rfl (fun _ _ _ h => h) ?_
              refine any_ro' (i := 11) (by kernel_rfl) rfl rfl (ro_extract rfl rfl) rfl (fun _ _ _ h => h) ?_
              refine any_eff' (i := 12) (by kernel_rfl) rfl rfl (eff_alloc z30) rfl ?_
              rintro _ _ ⟨b9, rfl, rfl⟩
              refine any_eff0 (i := 13) (by kernel_rfl) rfl rfl (eff_storeA 0 ag30 rfl rfl rfl rfl rfl (Nat.le_of_ble_eq_true rfl) (warm_zero _)) rfl ?_
              rintro _ _ rfl
              simp only [List.set_cons_zero, List.set_cons_succ]
              refine any_unlock (m' := 15) (L' := []) (by kernel_rfl) unlock ?_
              simp only [List.cons_append, List.nil_append, List.append_nil]
              refine any_ro' (i := 14) (by kernel_rfl) rfl rfl (ro_assign rfl) rfl (fun _ _ _ h => h) ?_
              refine any_doneH (by kernel_rfl) ?_
              refine Then_normal ?_
              refine wp_region' ?_
              refine ops_ro' rfl (ro_fieldAddr fa30_1 rfl) rfl ?_
              refine ops_ro' rfl (ro_load sc28 rfl (Rd.pick 1 rfl (Rd.own rfl))) rfl ?_
              refine ops_ro' rfl (ro_assign rfl) rfl ?_
              refine ops_nil ?_
              refine Then_normal ?_
              refine over_cut (kept ⟨a5.s, ⟨by first | (rw [if_pos (by omega)]; done) | rw [if_pos (by omega), hz5], ha5⟩, rfl, rfl⟩ ?_ ?_ ?_)
              · exact (by repeat (first | exact Has.nil _ | refine Has.cons rfl ?_))
              · exact (by repeat (first | exact Has.nil _ | refine Has.cons rfl ?_))
              · exact (SubH.cons 2 rfl (SubH.cons 2 rfl (SubH.cons 0 rfl (SubH.cons 1 rfl (SubH.cons 1 rfl (SubH.nil _))))))
            · refine at_eff' rfl rfl (eff_alloc z30) rfl ?_
              rintro _ _ ⟨b9, rfl, rfl⟩
              refine any_callL' (i := 8) (by kernel_rfl) rfl rfl (eff_callM (Pre := []) Tryz.call83 rfl rfl (Split.nil _) (tri_argc htb (attrs_spec (by first | exact Tv.pick 0 rfl (tree_tv t) | exact Tv.pick 1 rfl (tree_tv t) | exact Tv.pick 2 rfl (tree_tv t) | exact Tv.pick 3 rfl (tree_tv t) | exact Tv.pick 4 rfl (tree_tv t)) _ hdl))) rfl ?_
              rintro _ _ ⟨rfl, rfl⟩
              simp only [List.cons_append, List.nil_append]
              obtain ⟨⟨a5, e5⟩, hz5⟩ : ∃ z : At × Int, attO (byId t.ns (hdA hs s i).id) = z := ⟨_, rfl⟩
              rw [hz5]
              dsimp only
              have ha5 := att_s hdl (hdA hs s i).id
              rw [hz5] at ha5
              refine any_ro' (i := 9) (by kernel_rfl) rfl rfl (ro_move rfl) rfl (fun _ _ _ h => h) ?_
              refine any_ro' (i := 10) (by kernel_rfl) rfl rfl (ro_extract rfl rfl) rfl (fun _ _ _ h => h) ?_
              refine any_ro' (i := 11) (by kernel_rfl) rfl rfl (ro_extract rfl rfl) rfl (fun _ _ _ h => h) ?_
              refine any_eff0 (i := 13) (by kernel_rfl) rfl rfl (eff_storeA 0 ag30 rfl rfl rfl rfl rfl (Nat.le_of_ble_eq_true rfl) (warm_zero _)) rfl ?_
              rintro _ _ rfl
              simp only [List.set_cons_zero, List.set_cons_succ]
              refine any_unlock (m' := 15) (L' := []) (by kernel_rfl) unlock ?_
              simp only [List.cons_append, List.nil_append, List.append_nil]
              refine any_ro' (i := 14) (by kernel_rfl) rfl rfl (ro_assign rfl) rfl (fun _ _ _ h => h) ?_
              refine any_doneH (by kernel_rfl) ?_
              refine Then_normal ?_
              refine wp_region' ?_
              refine ops_ro' rfl (ro_fieldAddr fa30_1 rfl) rfl ?_
              refine ops_ro' rfl (ro_load sc28 rfl (Rd.pick 1 rfl (Rd.own rfl))) rfl ?_
              refine ops_ro' rfl (ro_assign rfl) rfl ?_
              refine ops_nil ?_
              refine Then_normal ?_
              refine over_cut (kept ⟨a5.s, ⟨by first | (rw [if_pos (by omega)]; done) | rw [if_pos (by omega), hz5], ha5⟩, rfl, rfl⟩ ?_ ?_ ?_)
              · exact (by repeat (first | exact Has.nil _ | refine Has.cons rfl ?_))
              · exact (by repeat (first | exact Has.nil _ | refine Has.cons rfl ?_))
              · exact (SubH.cons 2 rfl (SubH.cons 2 rfl (SubH.cons 0 rfl (SubH.cons 1 rfl (SubH.cons 1 rfl (SubH.nil _))))))
          · replace hc41 := of_decide_eq_false hc41
            refine wp_skip' ?_
            refine Then_normal ?_
            refine over_cut (kept ⟨q.off, ⟨by rw [if_neg (by omega)], hq.off⟩, rfl, rfl⟩ ?_ ?_ ?_)
            · exact (by repeat (first | exact Has.nil _ | refine Has.cons rfl ?_))
            · exact (by repeat (first | exact Has.nil _ | refine Has.cons rfl ?_))
            · exact SubH.refl _
        · rintro Δ LL ⟨aw, ⟨haw, haw2⟩, rfl, rfl⟩
          simp only [List.cons_append, List.nil_append]
          refine wp_seq' ?_
          refine wp_draw 11 (by kernel_rfl) (Split.all _) ?_
          refine any_ro' (i := 0) (by kernel_rfl) rfl rfl (ro_move rfl) rfl (fun _ _ _ h => h) ?_
          refine any_ro' (i := 1) (by kernel_rfl) rfl rfl (ro_nilCheck rfl) rfl (fun _ _ _ h => h) ?_
          refine any_ro' (i := 2) (by kernel_rfl) rfl rfl (ro_fieldAddr fa71_0 rfl) rfl (fun _ _ _ h => h) ?_
          refine any_ro' (i := 3) (by kernel_rfl) rfl rfl (ro_load sc51 rfl (Rd.pick 2 rfl (Rd.own rfl))) rfl (fun _ _ _ h => h) ?_
          refine any_ro' (i := 4) (by kernel_rfl) rfl rfl (ro_move rfl) rfl (fun _ _ _ h => h) ?_
          refine any_ro' (i := 5) (by kernel_rfl) rfl rfl (ro_nilCheck rfl) rfl (fun _ _ _ h => h) ?_
          refine any_ro' (i := 6) (by kernel_rfl) rfl rfl (ro_fieldAddr fa67_1 rfl) rfl (fun _ _ _ h => h) ?_
          refine any_ro' (i := 7) (by kernel_rfl) rfl rfl (ro_load sc3 rfl (Rd.pick 2 rfl ((hd_rd0 hv_own hl hs16 hi 1 _ rfl)))) rfl (fun _ _ _ h => h) ?_
          refine any_ro' (i := 8) (by kernel_rfl) rfl rfl (ro_move rfl) rfl (fun _ _ _ h => h) ?_
          refine any_ro' (i := 9) (by kernel_rfl) rfl rfl (ro_fieldAddr fa35_6 rfl) rfl (fun _ _ _ h => h) ?_
          refine any_ro' (i := 10) (by kernel_rfl) rfl rfl (ro_load sc25 rfl (Rd.pick 1 rfl (Rd.own rfl))) rfl (fun _ _ _ h => h) ?_
          refine any_unlock (m' := 14) (L' := []) (by kernel_rfl) unlock ?_
          simp only [List.cons_append, List.nil_append, List.append_nil]
          refine any_eff' (i := 11) (by kernel_rfl) rfl rfl (eff_call Tryz.call127 rfl rfl (by repeat (first | exact Split.nil _ | apply Split.cons 0 rfl | apply Split.cons 1 rfl | apply Split.cons 2 rfl | apply Split.cons 3 rfl | apply Split.cons 4 rfl | apply Split.cons 5 rfl | apply Split.cons 6 rfl | apply Split.cons 7 rfl | apply Split.cons 8 rfl | apply Split.cons 9 rfl | apply Split.cons 10 rfl | apply Split.cons 11 rfl)) (tri_argc htb (write_spec hW (hdA hs s i).id aw haw2 q.dp q.dc q.data hD (by have := hq.data; omega)))) rfl ?_
          rintro _ H' ⟨_, ⟨t1, e1, rfl, hR1, rfl⟩, hH⟩
          simp only [List.cons_append, List.nil_append, List.eraseIdx_cons_zero, List.eraseIdx_cons_succ, List.set_cons_zero, List.set_cons_succ] at hH
          subst hH
          obtain ⟨hW1, hnx1, ht1, _⟩ := write_wf hW hR1
          refine any_eff' (i := 12) (by kernel_rfl) rfl rfl (eff_call Tryz.call32 rfl rfl (by repeat (first | exact Split.nil _ | apply Split.cons 0 rfl | apply Split.cons 1 rfl | apply Split.cons 2 rfl | apply Split.cons 3 rfl | apply Split.cons 4 rfl | apply Split.cons 5 rfl | apply Split.cons 6 rfl | apply Split.cons 7 rfl | apply Split.cons 8 rfl | apply Split.cons 9 rfl | apply Split.cons 10 rfl | apply Split.cons 11 rfl)) (of_spec e1)) rfl ?_
          rintro _ H' ⟨_, ⟨rfl, rfl⟩, hH⟩
          simp only [List.cons_append, List.nil_append, List.eraseIdx_cons_zero, List.eraseIdx_cons_succ, List.set_cons_zero, List.set_cons_succ] at hH
          subst hH
          refine any_eff0 (i := 13) (by kernel_rfl) rfl rfl (eff_storeA 2 ag32 rfl rfl rfl rfl rfl (Nat.le_of_ble_eq_true rfl) (warm_zero _)) rfl ?_
          rintro _ _ rfl
          simp only [List.set_cons_zero, List.set_cons_succ]
          refine any_doneH (by kernel_rfl) ?_
          refine Then_normal ?_
          refine wp_ret' ?_
          refine' doneS_ret (resv1 rfl (rv_cellA ag32 rfl (by first | exact RdN.of_pick 0 rfl rdn_all | exact RdN.of_pick 1 rfl rdn_all | exact RdN.of_pick 2 rfl rdn_all | exact RdN.of_pick 3 rfl rdn_all | exact RdN.of_pick 4 rfl rdn_all) rfl)) ?_ ?_
          rotate_left 1
          exact ⟨t1, ofK e1, (by rw [← ofE_rep]; rfl), (by unfold writeR; rw [hf]; dsimp only; rw [if_neg (by omega), if_neg (by omega)]; refine ⟨e1, ?_, rfl⟩; rw [← haw]; exact hR1), hW1, ht1, hnx1, rfl⟩
          exact (SubH.cons 4 rfl (SubH.cons 0 rfl (SubH.cons 0 rfl (SubH.nil _))))
theorem set16_spec {V : HProp} {mb tb : Nat} {t : Tr} {hs : List Hd} {r : Nd} (hW : Wf t r) (htb : t.tb = tb) (hH : HsOk hs) (s : Nat) (hs16 : s < 16) (q : Qr) (hq : q.Ok) : Tri Tryz.prog 69 [.pointer (some ⟨mb, 0, none⟩), .int .i64 (s : Int), q.v] [oMa mb tb hs, tree t]
    (fun v H' => ∃ t' k, v = (k.rep none 0 none 0).v ∧ setR t hs s q t' k ∧ (∃ r', Wf t' r') ∧ t'.tb = t.tb ∧ t'.next = t.next ∧ H' = [oMa mb tb hs, tree t']) := by
  have hl := hH.len
  have hdl := wf_dl2 hW
  cases hf : findH hs s q.handle with
  | none =>
    refine tri_of_wpS Tryz.func69 rfl Tryz.ntmps69 (by simp) ?_
    refine wp_seq' ?_
    refine wp_region' ?_
    refine ops_eff' rfl (eff_box rfl) rfl ?_
    rintro _ _ ⟨b5, rfl, rfl⟩
    refine ops_eff' rfl (eff_alloc z32) rfl ?_
    rintro _ _ ⟨b6, rfl, rfl⟩
    refine ops_nil ?_
    refine Then_normal ?_
    refine wp_seq' ?_
    refine wp_region' ?_
    refine ops_ro' rfl (ro_move rfl) rfl ?_
    refine ops_ro' rfl (ro_move rfl) rfl ?_
    refine ops_ro' rfl (ro_fieldAddr fa35_3 rfl) rfl ?_
    refine ops_ro' rfl (ro_load sc9 rfl (Rd.pick 1 rfl (Rd.own rfl))) rfl ?_
    refine ops_eff' rfl (eff_callM (Pre := []) Tryz.call68 rfl rfl (Split.nil _) (hfind_spec (by first | exact hv_pick 0 rfl hv_own | exact hv_pick 1 rfl hv_own | exact hv_pick 2 rfl hv_own | exact hv_pick 3 rfl hv_own | exact hv_pick 4 rfl hv_own) hl s hs16 q.handle)) rfl ?_
    rintro _ H' ⟨_, ⟨rfl, rfl⟩, hH⟩
    simp only [List.cons_append, List.nil_append, List.eraseIdx_cons_zero, List.eraseIdx_cons_succ, List.set_cons_zero, List.set_cons_succ] at hH
    subst hH
    rw [hf]
    dsimp only [findV]
    refine ops_ro' rfl (ro_assign rfl) rfl ?_
    refine ops_nil ?_
    refine Then_normal ?_
    refine wp_seq' ?_
    refine wp_seq' ?_
    refine wp_region' ?_
    refine ops_ro' rfl (ro_move rfl) rfl ?_
    refine ops_ro' rfl (ro_ptrEqlNil Tryz.underlying116 rfl rfl rfl) rfl ?_
    refine ops_nil ?_
    refine Then_normal ?_
    refine wp_condT rfl ?_
    refine wp_seq' ?_
    refine wp_region' ?_
    refine ops_eff' rfl (eff_call Tryz.call28 rfl rfl (by repeat (first | exact Split.nil _ | apply Split.cons 0 rfl | apply Split.cons 1 rfl | apply Split.cons 2 rfl | apply Split.cons 3 rfl | apply Split.cons 4 rfl | apply Split.cons 5 rfl | apply Split.cons 6 rfl | apply Split.cons 7 rfl | apply Split.cons 8 rfl | apply Split.cons 9 rfl | apply Split.cons 10 rfl | apply Split.cons 11 rfl)) (status_spec 4)) rfl ?_
    rintro _ H' ⟨_, ⟨rfl, rfl⟩, hH⟩
    simp only [List.cons_append, List.nil_append, List.eraseIdx_cons_zero, List.eraseIdx_cons_succ, List.set_cons_zero, List.set_cons_succ] at hH
    subst hH
    refine ops_eff0 rfl (eff_storeA 0 ag32 rfl rfl rfl rfl rfl (Nat.le_of_ble_eq_true rfl) (warm_zero _)) rfl ?_
    rintro _ _ rfl
    simp only [List.set_cons_zero, List.set_cons_succ]
    refine ops_nil ?_
    refine Then_normal ?_
    refine wp_ret' ?_
    refine Then_ret ?_
    refine' doneS_ret (resv1 rfl (rv_cellA ag32 rfl (by first | exact RdN.of_pick 0 rfl rdn_all | exact RdN.of_pick 1 rfl rdn_all | exact RdN.of_pick 2 rfl rdn_all | exact RdN.of_pick 3 rfl rdn_all | exact RdN.of_pick 4 rfl rdn_all) rfl)) ?_ ?_
    rotate_left 1
    exact ⟨t, Rk.stat 4, rfl, (by unfold setR; rw [hf]; exact ⟨rfl, rfl⟩), ⟨r, hW⟩, rfl, rfl, rfl⟩
    exact (SubH.cons 2 rfl (SubH.cons 2 rfl (SubH.nil _)))
  | some i =>
    have hi := find_lt hf
    have hfl := (hH.at' s i).1
    refine tri_of_wpS Tryz.func69 rfl Tryz.ntmps69 (by simp) ?_
    refine wp_seq' ?_
    refine wp_region' ?_
    refine ops_eff' rfl (eff_box rfl) rfl ?_
    rintro _ _ ⟨b5, rfl, rfl⟩
    refine ops_eff' rfl (eff_alloc z32) rfl ?_
    rintro _ _ ⟨b6, rfl, rfl⟩
    refine ops_nil ?_
    refine Then_normal ?_
    refine wp_seq' ?_
    refine wp_region' ?_
    refine ops_ro' rfl (ro_move rfl) rfl ?_
    refine ops_ro' rfl (ro_move rfl) rfl ?_
    refine ops_ro' rfl (ro_fieldAddr fa35_3 rfl) rfl ?_
    refine ops_ro' rfl (ro_load sc9 rfl (Rd.pick 1 rfl (Rd.own rfl))) rfl ?_
    refine ops_eff' rfl (eff_callM (Pre := []) Tryz.call68 rfl rfl (Split.nil _) (hfind_spec (by first | exact hv_pick 0 rfl hv_own | exact hv_pick 1 rfl hv_own | exact hv_pick 2 rfl hv_own | exact hv_pick 3 rfl hv_own | exact hv_pick 4 rfl hv_own) hl s hs16 q.handle)) rfl ?_
    rintro _ H' ⟨_, ⟨rfl, rfl⟩, hH⟩
    simp only [List.cons_append, List.nil_append, List.eraseIdx_cons_zero, List.eraseIdx_cons_succ, List.set_cons_zero, List.set_cons_succ] at hH
    subst hH
    rw [hf]
    dsimp only [findV]
    refine ops_ro' rfl (ro_assign rfl) rfl ?_
    refine ops_nil ?_
    refine Then_normal ?_
    refine wp_seq' ?_
    refine wp_seq' ?_
    refine wp_region' ?_
    refine ops_ro' rfl (ro_move rfl) rfl ?_
    refine ops_ro' rfl (ro_ptrEqlNil Tryz.underlying116 rfl rfl rfl) rfl ?_
    refine ops_nil ?_
    refine Then_normal ?_
    refine wp_condF rfl ?_
    refine wp_skip' ?_
    refine Then_normal ?_
    refine wp_seq' ?_
    refine wp_seq' ?_
    refine wp_draw 14 (by kernel_rfl) (Split.cons 2 rfl (Split.nil _)) ?_
    refine any_ro' (i := 0) (by kernel_rfl) rfl rfl (ro_move rfl) rfl (fun _ _ _ h => h) ?_
    refine any_ro' (i := 1) (by kernel_rfl) rfl rfl (ro_nilCheck rfl) rfl (fun _ _ _ h => h) ?_
    refine any_ro' (i := 2) (by kernel_rfl) rfl rfl (ro_fieldAddr fa71_0 rfl) rfl (fun _ _ _ h => h) ?_
    refine any_ro' (i := 3) (by kernel_rfl) rfl rfl (ro_load sc51 rfl (Rd.pick 0 rfl (Rd.own rfl))) rfl (fun _ _ _ h => h) ?_
    refine any_ro' (i := 4) (by kernel_rfl) rfl rfl (ro_move rfl) rfl (fun _ _ _ h => h) ?_
    refine any_ro' (i := 5) (by kernel_rfl) rfl rfl (ro_nilCheck rfl) rfl (fun _ _ _ h => h) ?_
    refine any_ro' (i := 6) (by kernel_rfl) rfl rfl (ro_fieldAddr fa67_1 rfl) rfl (fun _ _ _ h => h) ?_
    refine any_ro' (i := 7) (by kernel_rfl) rfl rfl (ro_load sc3 rfl (Rd.pick 0 rfl ((hd_rd0 hv_own hl hs16 hi 1 _ rfl)))) rfl (fun _ _ _ h => h) ?_
    refine any_two (i := 8) (j := 12) (by kernel_rfl) ?_ ?_
    · refine at_callL' rfl rfl (eff_callM (Pre := []) Tryz.call83 rfl rfl (Split.nil _) (tri_argc htb (attrs_spec (by first | exact Tv.pick 0 rfl (tree_tv t) | exact Tv.pick 1 rfl (tree_tv t) | exact Tv.pick 2 rfl (tree_tv t) | exact Tv.pick 3 rfl (tree_tv t) | exact Tv.pick 4 rfl (tree_tv t)) _ hdl))) rfl ?_
      rintro _ _ ⟨rfl, rfl⟩
      simp only [List.cons_append, List.nil_append]
      refine any_ro' (i := 9) (by kernel_rfl) rfl rfl (ro_move rfl) rfl (fun _ _ _ h => h) ?_
      refine any_ro' (i := 10) (by kernel_rfl) rfl rfl (ro_extract rfl rfl) rfl (fun _ _ _ h => h) ?_
      refine any_ro' (i := 11) (by kernel_rfl) rfl rfl (ro_extract rfl rfl) rfl (fun _ _ _ h => h) ?_
      refine any_eff' (i := 12) (by kernel_rfl) rfl rfl (eff_alloc z30) rfl ?_
      rintro _ _ ⟨b8, rfl, rfl⟩
      refine any_eff0 (i := 13) (by kernel_rfl) rfl rfl (eff_storeA 0 ag30 rfl rfl rfl rfl rfl (Nat.le_of_ble_eq_true rfl) (warm_zero _)) rfl ?_
      rintro _ _ rfl
      simp only [List.set_cons_zero, List.set_cons_succ]
      refine any_unlock (m' := 15) (L' := []) (by kernel_rfl) unlock ?_
      simp only [List.cons_append, List.nil_append, List.append_nil]
      refine any_ro' (i := 14) (by kernel_rfl) rfl rfl (ro_assign rfl) rfl (fun _ _ _ h => h) ?_
      refine any_doneH (by kernel_rfl) ?_
      refine Then_normal ?_
      refine wp_seq' ?_
      refine wp_region' ?_
      refine ops_ro' rfl (ro_move rfl) rfl ?_
      refine ops_ro' rfl (ro_neq rfl rfl rfl) rfl ?_
      refine ops_nil ?_
      refine Then_normal ?_
      refine wp_cond' rfl (fun hc31 => ?_) (fun hc31 => ?_)
      · replace hc31 := of_decide_eq_true hc31
        refine wp_seq' ?_
        refine wp_region' ?_
        refine ops_eff' rfl (eff_call Tryz.call28 rfl rfl (by repeat (first | exact Split.nil _ | apply Split.cons 0 rfl | apply Split.cons 1 rfl | apply Split.cons 2 rfl | apply Split.cons 3 rfl | apply Split.cons 4 rfl | apply Split.cons 5 rfl | apply Split.cons 6 rfl | apply Split.cons 7 rfl | apply Split.cons 8 rfl | apply Split.cons 9 rfl | apply Split.cons 10 rfl | apply Split.cons 11 rfl)) (status_spec 4)) rfl ?_
        rintro _ H' ⟨_, ⟨rfl, rfl⟩, hH⟩
        simp only [List.cons_append, List.nil_append, List.eraseIdx_cons_zero, List.eraseIdx_cons_succ, List.set_cons_zero, List.set_cons_succ] at hH
        subst hH
        refine ops_eff0 rfl (eff_storeA 2 ag32 rfl rfl rfl rfl rfl (Nat.le_of_ble_eq_true rfl) (warm_zero _)) rfl ?_
        rintro _ _ rfl
        simp only [List.set_cons_zero, List.set_cons_succ]
        refine ops_nil ?_
        refine Then_normal ?_
        refine wp_ret' ?_
        refine Then_ret ?_
        refine' doneS_ret (resv1 rfl (rv_cellA ag32 rfl (by first | exact RdN.of_pick 0 rfl rdn_all | exact RdN.of_pick 1 rfl rdn_all | exact RdN.of_pick 2 rfl rdn_all | exact RdN.of_pick 3 rfl rdn_all | exact RdN.of_pick 4 rfl rdn_all) rfl)) ?_ ?_
        rotate_left 1
        exact ⟨t, Rk.stat 4, rfl, (by unfold setR; rw [hf]; dsimp only; rw [if_pos (by omega)]; exact ⟨rfl, rfl⟩), ⟨r, hW⟩, rfl, rfl, rfl⟩
        exact (SubH.cons 0 rfl (SubH.cons 3 rfl (SubH.nil _)))
      · replace hc31 := of_decide_eq_false hc31
        refine wp_skip' ?_
        refine Then_normal ?_
        refine wp_seq' ?_
        refine wp_seq' ?_
        refine wp_region' ?_
        refine ops_ro' rfl (ro_fieldAddr fa35_8 rfl) rfl ?_
        refine ops_ro' rfl (ro_fieldAddr fa30_0 rfl) rfl ?_
        refine ops_ro' rfl (ro_load sc27 rfl (Rd.pick 3 rfl (Rd.own rfl))) rfl ?_
        refine ops_ro' rfl (ro_and rfl rfl (and32 hq.a.f (c := 1) (by decide) rfl)) rfl ?_
        refine ops_ro' rfl (ro_neq rfl rfl rfl) rfl ?_
        refine ops_split rfl rfl rfl (fun hg38 => ?_) (fun hg38 => ?_)
        · replace hg38 := of_decide_eq_true hg38
          refine ops_ro' rfl (ro_move rfl) rfl ?_
          refine ops_ro' rfl (ro_nilCheck rfl) rfl ?_
          refine ops_ro' rfl (ro_fieldAddr fa67_2 rfl) rfl ?_
          refine ops_ro' rfl (ro_load sc4 rfl (Rd.pick 0 rfl ((hd_rd0 hv_own hl hs16 hi 2 _ rfl)))) rfl ?_
          refine ops_ro' rfl (ro_not rfl rfl) rfl ?_
          refine ops_ro' rfl (ro_pick rfl rfl) rfl ?_
          refine ops_split rfl rfl rfl (fun hg45 => ?_) (fun hg45 => ?_)
          · simp only [Bool.and_eq_true, decide_eq_true_eq, Bool.not_eq_true', decide_eq_false_iff_not, bne_iff_ne, ne_eq] at hg45
            refine ops_ro' rfl (ro_move rfl) rfl ?_
            refine ops_ro' rfl (ro_nilCheck rfl) rfl ?_
            refine ops_ro' rfl (ro_fieldAddr fa67_3 rfl) rfl ?_
            refine ops_ro' rfl (ro_load sc27 rfl (Rd.pick 0 rfl ((hd_rd0 hv_own hl hs16 hi 3 _ rfl)))) rfl ?_
            refine ops_ro' rfl (ro_and rfl rfl (and32 hfl (c := 2) (by decide) rfl)) rfl ?_
            refine ops_ro' rfl (ro_eql rfl rfl rfl) rfl ?_
            refine ops_ro' rfl (ro_pick rfl rfl) rfl ?_
            refine ops_nil ?_
            refine Then_normal ?_
            refine wp_cond' rfl (fun hc52 => ?_) (fun hc52 => ?_)
            · replace hc52 := of_decide_eq_true hc52
              refine wp_seq' ?_
              refine wp_region' ?_
              refine ops_eff' rfl (eff_call Tryz.call28 rfl rfl (by repeat (first | exact Split.nil _ | apply Split.cons 0 rfl | apply Split.cons 1 rfl | apply Split.cons 2 rfl | apply Split.cons 3 rfl | apply Split.cons 4 rfl | apply Split.cons 5 rfl | apply Split.cons 6 rfl | apply Split.cons 7 rfl | apply Split.cons 8 rfl | apply Split.cons 9 rfl | apply Split.cons 10 rfl | apply Split.cons 11 rfl)) (status_spec 3)) rfl ?_
              rintro _ H' ⟨_, ⟨rfl, rfl⟩, hH⟩
              simp only [List.cons_append, List.nil_append, List.eraseIdx_cons_zero, List.eraseIdx_cons_succ, List.set_cons_zero, List.set_cons_succ] at hH
              subst hH
              refine ops_eff0 rfl (eff_storeA 2 ag32 rfl rfl rfl rfl rfl (Nat.le_of_ble_eq_true rfl) (warm_zero _)) rfl ?_
              rintro _ _ rfl
              simp only [List.set_cons_zero, List.set_cons_succ]
              refine ops_nil ?_
              refine Then_normal ?_
              refine wp_ret' ?_
              refine Then_ret ?_
              refine' doneS_ret (resv1 rfl (rv_cellA ag32 rfl (by first | exact RdN.of_pick 0 rfl rdn_all | exact RdN.of_pick 1 rfl rdn_all | exact RdN.of_pick 2 rfl rdn_all | exact RdN.of_pick 3 rfl rdn_all | exact RdN.of_pick 4 rfl rdn_all) rfl)) ?_ ?_
              rotate_left 1
              exact ⟨t, Rk.stat 3, rfl, (by unfold setR; rw [hf]; dsimp only; rw [if_neg (by omega), if_pos ⟨by omega, by simp_all, by omega⟩]; exact ⟨rfl, rfl⟩), ⟨r, hW⟩, rfl, rfl, rfl⟩
              exact (SubH.cons 0 rfl (SubH.cons 3 rfl (SubH.nil _)))
            · replace hc52 := of_decide_eq_false hc52
              refine wp_skip' ?_
              refine Then_normal ?_
              refine wp_seq' ?_
              refine wp_draw 10 (by kernel_rfl) (Split.all _) ?_
              refine any_ro' (i := 0) (by kernel_rfl) rfl rfl (ro_move rfl) rfl (fun _ _ _ h => h) ?_
              refine any_ro' (i := 1) (by kernel_rfl) rfl rfl (ro_nilCheck rfl) rfl (fun _ _ _ h => h) ?_
              refine any_ro' (i := 2) (by kernel_rfl) rfl rfl (ro_fieldAddr fa71_0 rfl) rfl (fun _ _ _ h => h) ?_
              refine any_ro' (i := 3) (by kernel_rfl) rfl rfl (ro_load sc51 rfl (Rd.pick 0 rfl (Rd.own rfl))) rfl (fun _ _ _ h => h) ?_
              refine any_ro' (i := 4) (by kernel_rfl) rfl rfl (ro_move rfl) rfl (fun _ _ _ h => h) ?_
              refine any_ro' (i := 5) (by kernel_rfl) rfl rfl (ro_nilCheck rfl) rfl (fun _ _ _ h => h) ?_
              refine any_ro' (i := 6) (by kernel_rfl) rfl rfl (ro_fieldAddr fa67_1 rfl) rfl (fun _ _ _ h => h) ?_
              refine any_ro' (i := 7) (by kernel_rfl) rfl rfl (ro_load sc3 rfl (Rd.pick 0 rfl ((hd_rd0 hv_own hl hs16 hi 1 _ rfl)))) rfl (fun _ _ _ h => h) ?_
              refine any_ro' (i := 8) (by kernel_rfl) rfl rfl (ro_fieldAddr fa35_8 rfl) rfl (fun _ _ _ h => h) ?_
              refine any_ro' (i := 9) (by kernel_rfl) rfl rfl (ro_loadA ag30 rfl (RdN.of_pick 3 rfl (rdn_sub 7)) rfl) rfl (fun _ _ _ h => h) ?_
              refine any_unlock (m' := 13) (L' := []) (by kernel_rfl) unlock ?_
              simp only [List.cons_append, List.nil_append, List.append_nil]
              refine any_eff' (i := 10) (by kernel_rfl) rfl rfl (eff_call Tryz.call35 rfl rfl (by repeat (first | exact Split.nil _ | apply Split.cons 0 rfl | apply Split.cons 1 rfl | apply Split.cons 2 rfl | apply Split.cons 3 rfl | apply Split.cons 4 rfl | apply Split.cons 5 rfl | apply Split.cons 6 rfl | apply Split.cons 7 rfl | apply Split.cons 8 rfl | apply Split.cons 9 rfl | apply Split.cons 10 rfl | apply Split.cons 11 rfl)) (tri_argc htb (set_spec hW (hdA hs s i).id q.a hq.a))) rfl ?_
              rintro _ H' ⟨_, ⟨t1, e1, rfl, hR1, rfl⟩, hH⟩
              simp only [List.cons_append, List.nil_append, List.eraseIdx_cons_zero, List.eraseIdx_cons_succ, List.set_cons_zero, List.set_cons_succ] at hH
              subst hH
              obtain ⟨hW1, hnx1, ht1, _⟩ := set_wf hW hq.a hR1
              refine any_eff' (i := 11) (by kernel_rfl) rfl rfl (eff_call Tryz.call32 rfl rfl (by repeat (first | exact Split.nil _ | apply Split.cons 0 rfl | apply Split.cons 1 rfl | apply Split.cons 2 rfl | apply Split.cons 3 rfl | apply Split.cons 4 rfl | apply Split.cons 5 rfl | apply Split.cons 6 rfl | apply Split.cons 7 rfl | apply Split.cons 8 rfl | apply Split.cons 9 rfl | apply Split.cons 10 rfl | apply Split.cons 11 rfl)) (of_spec e1)) rfl ?_
              rintro _ H' ⟨_, ⟨rfl, rfl⟩, hH⟩
              simp only [List.cons_append, List.nil_append, List.eraseIdx_cons_zero, List.eraseIdx_cons_succ, List.set_cons_zero, List.set_cons_succ] at hH
              subst hH
              refine any_eff0 (i := 12) (by kernel_rfl) rfl rfl (eff_storeA 3 ag32 rfl rfl rfl rfl rfl (Nat.le_of_ble_eq_true rfl) (warm_zero _)) rfl ?_
              rintro _ _ rfl
              simp only [List.set_cons_zero, List.set_cons_succ]
              refine any_doneH (by kernel_rfl) ?_
              refine Then_normal ?_
              refine wp_ret' ?_
              refine' doneS_ret (resv1 rfl (rv_cellA ag32 rfl (by first | exact RdN.of_pick 0 rfl rdn_all | exact RdN.of_pick 1 rfl rdn_all | exact RdN.of_pick 2 rfl rdn_all | exact RdN.of_pick 3 rfl rdn_all | exact RdN.of_pick 4 rfl rdn_all) rfl)) ?_ ?_
              rotate_left 1
              exact ⟨t1, ofK e1, (by rw [← ofE_rep]; rfl), (by unfold setR; rw [hf]; dsimp only; rw [if_neg (by omega), if_neg (by rintro ⟨a1, a2, a3⟩; first | omega | simp_all)]; exact ⟨e1, hR1, rfl⟩), hW1, ht1, hnx1, rfl⟩
              exact (SubH.cons 1 rfl (SubH.cons 0 rfl (SubH.nil _)))
          · simp only [Bool.and_eq_false_iff, decide_eq_false_iff_not, Bool.not_eq_false', decide_eq_true_eq] at hg45
            refine ops_skip' rfl rfl ?_
            refine ops_skip' rfl rfl ?_
            refine ops_skip' rfl rfl ?_
            refine ops_skip' rfl rfl ?_
            refine ops_skip' rfl rfl ?_
            refine ops_skip' rfl rfl ?_
            refine ops_ro' rfl (ro_pick rfl rfl) rfl ?_
            refine ops_nil ?_
            refine Then_normal ?_
            refine wp_condF rfl ?_
            refine wp_skip' ?_
            refine Then_normal ?_
            refine wp_seq' ?_
            refine wp_draw 10 (by kernel_rfl) (Split.all _) ?_
            refine any_ro' (i := 0) (by kernel_rfl) rfl rfl (ro_move rfl) rfl (fun _ _ _ h => h) ?_
            refine any_ro' (i := 1) (by kernel_rfl) rfl rfl (ro_nilCheck rfl) rfl (fun _ _ _ h => h) ?_
            refine any_ro' (i := 2) (by kernel_rfl) rfl rfl (ro_fieldAddr fa71_0 rfl) rfl (fun _ _ _ h => h) ?_
            refine any_ro' (i := 3) (by kernel_rfl) rfl rfl (ro_load sc51 rfl (Rd.pick 0 rfl (Rd.own rfl))) rfl (fun _ _ _ h => h) ?_
            refine any_ro' (i := 4) (by kernel_rfl) rfl rfl (ro_move rfl) rfl (fun _ _ _ h => h) ?_
            refine any_ro' (i := 5) (by kernel_rfl) rfl rfl (ro_nilCheck rfl) rfl (fun _ _ _ h => h) ?_
            refine any_ro' (i := 6) (by kernel_rfl) rfl rfl (ro_fieldAddr fa67_1 rfl) rfl (fun _ _ _ h => h) ?_
            refine any_ro' (i := 7) (by kernel_rfl) rfl rfl (ro_load sc3 rfl (Rd.pick 0 rfl ((hd_rd0 hv_own hl hs16 hi 1 _ rfl)))) rfl (fun _ _ _ h => h) ?_
            refine any_ro' (i := 8) (by kernel_rfl) rfl rfl (ro_fieldAddr fa35_8 rfl) rfl (fun _ _ _ h => h) ?_
            refine any_ro' (i := 9) (by kernel_rfl) rfl rfl (ro_loadA ag30 rfl (RdN.of_pick 3 rfl (rdn_sub 7)) rfl) rfl (fun _ _ _ h => h) ?_
            refine any_unlock (m' := 13) (L' := []) (by kernel_rfl) unlock ?_
            simp only [List.cons_append, List.nil_append, List.append_nil]
            refine any_eff' (i := 10) (by kernel_rfl) rfl rfl (eff_call Tryz.call35 rfl rfl (by repeat (first | exact Split.nil _ | apply Split.cons 0 rfl | apply Split.cons 1 rfl | apply Split.cons 2 rfl | apply Split.cons 3 rfl | apply Split.cons 4 rfl | apply Split.cons 5 rfl | apply Split.cons 6 rfl | apply Split.cons 7 rfl | apply Split.cons 8 rfl | apply Split.cons 9 rfl | apply Split.cons 10 rfl | apply Split.cons 11 rfl)) (tri_argc htb (set_spec hW (hdA hs s i).id q.a hq.a))) rfl ?_
            rintro _ H' ⟨_, ⟨t1, e1, rfl, hR1, rfl⟩, hH⟩
            simp only [List.cons_append, List.nil_append, List.eraseIdx_cons_zero, List.eraseIdx_cons_succ, List.set_cons_zero, List.set_cons_succ] at hH
            subst hH
            obtain ⟨hW1, hnx1, ht1, _⟩ := set_wf hW hq.a hR1
            refine any_eff' (i := 11) (by kernel_rfl) rfl rfl (eff_call Tryz.call32 rfl rfl (by repeat (first | exact Split.nil _ | apply Split.cons 0 rfl | apply Split.cons 1 rfl | apply Split.cons 2 rfl | apply Split.cons 3 rfl | apply Split.cons 4 rfl | apply Split.cons 5 rfl | apply Split.cons 6 rfl | apply Split.cons 7 rfl | apply Split.cons 8 rfl | apply Split.cons 9 rfl | apply Split.cons 10 rfl | apply Split.cons 11 rfl)) (of_spec e1)) rfl ?_
            rintro _ H' ⟨_, ⟨rfl, rfl⟩, hH⟩
            simp only [List.cons_append, List.nil_append, List.eraseIdx_cons_zero, List.eraseIdx_cons_succ, List.set_cons_zero, List.set_cons_succ] at hH
            subst hH
            refine any_eff0 (i := 12) (by kernel_rfl) rfl rfl (eff_storeA 3 ag32 rfl rfl rfl rfl rfl (Nat.le_of_ble_eq_true rfl) (warm_zero _)) rfl ?_
            rintro _ _ rfl
            simp only [List.set_cons_zero, List.set_cons_succ]
            refine any_doneH (by kernel_rfl) ?_
            refine Then_normal ?_
            refine wp_ret' ?_
            refine' doneS_ret (resv1 rfl (rv_cellA ag32 rfl (by first | exact RdN.of_pick 0 rfl rdn_all | exact RdN.of_pick 1 rfl rdn_all | exact RdN.of_pick 2 rfl rdn_all | exact RdN.of_pick 3 rfl rdn_all | exact RdN.of_pick 4 rfl rdn_all) rfl)) ?_ ?_
            rotate_left 1
            exact ⟨t1, ofK e1, (by rw [← ofE_rep]; rfl), (by unfold setR; rw [hf]; dsimp only; rw [if_neg (by omega), if_neg (by rintro ⟨a1, a2, a3⟩; first | omega | simp_all)]; exact ⟨e1, hR1, rfl⟩), hW1, ht1, hnx1, rfl⟩
            exact (SubH.cons 1 rfl (SubH.cons 0 rfl (SubH.nil _)))
        · replace hg38 := of_decide_eq_false hg38
          refine ops_skip' rfl rfl ?_
          refine ops_skip' rfl rfl ?_
          refine ops_skip' rfl rfl ?_
          refine ops_skip' rfl rfl ?_
          refine ops_skip' rfl rfl ?_
          refine ops_ro' rfl (ro_pick rfl rfl) rfl ?_
          refine ops_ro' rfl (ro_move (v := .bool false) rfl) rfl ?_
          refine ops_skip' rfl rfl ?_
          refine ops_skip' rfl rfl ?_
          refine ops_skip' rfl rfl ?_
          refine ops_skip' rfl rfl ?_
          refine ops_skip' rfl rfl ?_
          refine ops_skip' rfl rfl ?_
          refine ops_ro' rfl (ro_pick rfl rfl) rfl ?_
          refine ops_nil ?_
          refine Then_normal ?_
          refine wp_condF rfl ?_
          refine wp_skip' ?_
          refine Then_normal ?_
          refine wp_seq' ?_
          refine wp_draw 10 (by kernel_rfl) (Split.all _) ?_
          refine any_ro' (i := 0) (by kernel_rfl) rfl rfl (ro_move rfl) rfl (fun _ _ _ h => h) ?_
          refine any_ro' (i := 1) (by kernel_rfl) rfl rfl (ro_nilCheck rfl) rfl (fun _ _ _ h => h) ?_
          refine any_ro' (i := 2) (by kernel_rfl) rfl rfl (ro_fieldAddr fa71_0 rfl) rfl (fun _ _ _ h => h) ?_
          refine any_ro' (i := 3) (by kernel_rfl) rfl rfl (ro_load sc51 rfl (Rd.pick 0 rfl (Rd.own rfl))) rfl (fun _ _ _ h => h) ?_
          refine any_ro' (i := 4) (by kernel_rfl) rfl rfl (ro_move rfl) rfl (fun _ _ _ h => h) ?_
          refine any_ro' (i := 5) (by kernel_rfl) rfl rfl (ro_nilCheck rfl) rfl (fun _ _ _ h => h) ?_
          refine any_ro' (i := 6) (by kernel_rfl) rfl rfl (ro_fieldAddr fa67_1 rfl) rfl (fun _ _ _ h => h) ?_
          refine any_ro' (i := 7) (by kernel_rfl) rfl rfl (ro_load sc3 rfl (Rd.pick 0 rfl ((hd_rd0 hv_own hl hs16 hi 1 _ rfl)))) rfl (fun _ _ _ h => h) ?_
          refine any_ro' (i := 8) (by kernel_rfl) rfl rfl (ro_fieldAddr fa35_8 rfl) rfl (fun _ _ _ h => h) ?_
          refine any_ro' (i := 9) (by kernel_rfl) rfl rfl (ro_loadA ag30 rfl (RdN.of_pick 3 rfl (rdn_sub 7)) rfl) rfl (fun _ _ _ h => h) ?_
          refine any_unlock (m' := 13) (L' := []) (by kernel_rfl) unlock ?_
          simp only [List.cons_append, List.nil_append, List.append_nil]
          refine any_eff' (i := 10) (by kernel_rfl) rfl rfl (eff_call Tryz.call35 rfl rfl (by repeat (first | exact Split.nil _ | apply Split.cons 0 rfl | apply Split.cons 1 rfl | apply Split.cons 2 rfl | apply Split.cons 3 rfl | apply Split.cons 4 rfl | apply Split.cons 5 rfl | apply Split.cons 6 rfl | apply Split.cons 7 rfl | apply Split.cons 8 rfl | apply Split.cons 9 rfl | apply Split.cons 10 rfl | apply Split.cons 11 rfl)) (tri_argc htb (set_spec hW (hdA hs s i).id q.a hq.a))) rfl ?_
          rintro _ H' ⟨_, ⟨t1, e1, rfl, hR1, rfl⟩, hH⟩
          simp only [List.cons_append, List.nil_append, List.eraseIdx_cons_zero, List.eraseIdx_cons_succ, List.set_cons_zero, List.set_cons_succ] at hH
          subst hH
          obtain ⟨hW1, hnx1, ht1, _⟩ := set_wf hW hq.a hR1
          refine any_eff' (i := 11) (by kernel_rfl) rfl rfl (eff_call Tryz.call32 rfl rfl (by repeat (first | exact Split.nil _ | apply Split.cons 0 rfl | apply Split.cons 1 rfl | apply Split.cons 2 rfl | apply Split.cons 3 rfl | apply Split.cons 4 rfl | apply Split.cons 5 rfl | apply Split.cons 6 rfl | apply Split.cons 7 rfl | apply Split.cons 8 rfl | apply Split.cons 9 rfl | apply Split.cons 10 rfl | apply Split.cons 11 rfl)) (of_spec e1)) rfl ?_
          rintro _ H' ⟨_, ⟨rfl, rfl⟩, hH⟩
          simp only [List.cons_append, List.nil_append, List.eraseIdx_cons_zero, List.eraseIdx_cons_succ, List.set_cons_zero, List.set_cons_succ] at hH
          subst hH
          refine any_eff0 (i := 12) (by kernel_rfl) rfl rfl (eff_storeA 3 ag32 rfl rfl rfl rfl rfl (Nat.le_of_ble_eq_true rfl) (warm_zero _)) rfl ?_
          rintro _ _ rfl
          simp only [List.set_cons_zero, List.set_cons_succ]
          refine any_doneH (by kernel_rfl) ?_
          refine Then_normal ?_
          refine wp_ret' ?_
          refine' doneS_ret (resv1 rfl (rv_cellA ag32 rfl (by first | exact RdN.of_pick 0 rfl rdn_all | exact RdN.of_pick 1 rfl rdn_all | exact RdN.of_pick 2 rfl rdn_all | exact RdN.of_pick 3 rfl rdn_all | exact RdN.of_pick 4 rfl rdn_all) rfl)) ?_ ?_
          rotate_left 1
          exact ⟨t1, ofK e1, (by rw [← ofE_rep]; rfl), (by unfold setR; rw [hf]; dsimp only; rw [if_neg (by omega), if_neg (by rintro ⟨a1, a2, a3⟩; first | omega | simp_all)]; exact ⟨e1, hR1, rfl⟩), hW1, ht1, hnx1, rfl⟩
          exact (SubH.cons 1 rfl (SubH.cons 0 rfl (SubH.nil _)))
    · refine at_eff' rfl rfl (eff_alloc z30) rfl ?_
      rintro _ _ ⟨b8, rfl, rfl⟩
      refine any_callL' (i := 8) (by kernel_rfl) rfl rfl (eff_callM (Pre := []) Tryz.call83 rfl rfl (Split.nil _) (tri_argc htb (attrs_spec (by first | exact Tv.pick 0 rfl (tree_tv t) | exact Tv.pick 1 rfl (tree_tv t) | exact Tv.pick 2 rfl (tree_tv t) | exact Tv.pick 3 rfl (tree_tv t) | exact Tv.pick 4 rfl (tree_tv t)) _ hdl))) rfl ?_
      rintro _ _ ⟨rfl, rfl⟩
      simp only [List.cons_append, List.nil_append]
      refine any_ro' (i := 9) (by kernel_rfl) rfl rfl (ro_move rfl) rfl (fun _ _ _ h => h) ?_
      refine any_ro' (i := 10) (by kernel_rfl) rfl rfl (ro_extract rfl rfl) rfl (fun _ _ _ h => h) ?_
      refine any_ro' (i := 11) (by kernel_rfl) rfl rfl (ro_extract rfl rfl) rfl (fun _ _ _ h => h) ?_
      refine any_eff0 (i := 13) (by kernel_rfl) rfl rfl (eff_storeA 0 ag30 rfl rfl rfl rfl rfl (Nat.le_of_ble_eq_true rfl) (warm_zero _)) rfl ?_
      rintro _ _ rfl
      simp only [List.set_cons_zero, List.set_cons_succ]
      refine any_unlock (m' := 15) (L' := []) (by kernel_rfl) unlock ?_
      simp only [List.cons_append, List.nil_append, List.append_nil]
      refine any_ro' (i := 14) (by kernel_rfl) rfl rfl (ro_assign rfl) rfl (fun _ _ _ h => h) ?_
      refine any_doneH (by kernel_rfl) ?_
      refine Then_normal ?_
      refine wp_seq' ?_
      refine wp_region' ?_
      refine ops_ro' rfl (ro_move rfl) rfl ?_
      refine ops_ro' rfl (ro_neq rfl rfl rfl) rfl ?_
      refine ops_nil ?_
      refine Then_normal ?_
      refine wp_cond' rfl (fun hc31 => ?_) (fun hc31 => ?_)
      · replace hc31 := of_decide_eq_true hc31
        refine wp_seq' ?_
        refine wp_region' ?_
        refine ops_eff' rfl (eff_call Tryz.call28 rfl rfl (by repeat (first | exact Split.nil _ | apply Split.cons 0 rfl | apply Split.cons 1 rfl | apply Split.cons 2 rfl | apply Split.cons 3 rfl | apply Split.cons 4 rfl | apply Split.cons 5 rfl | apply Split.cons 6 rfl | apply Split.cons 7 rfl | apply Split.cons 8 rfl | apply Split.cons 9 rfl | apply Split.cons 10 rfl | apply Split.cons 11 rfl)) (status_spec 4)) rfl ?_
        rintro _ H' ⟨_, ⟨rfl, rfl⟩, hH⟩
        simp only [List.cons_append, List.nil_append, List.eraseIdx_cons_zero, List.eraseIdx_cons_succ, List.set_cons_zero, List.set_cons_succ] at hH
        subst hH
        refine ops_eff0 rfl (eff_storeA 2 ag32 rfl rfl rfl rfl rfl (Nat.le_of_ble_eq_true rfl) (warm_zero _)) rfl ?_
        rintro _ _ rfl
        simp only [List.set_cons_zero, List.set_cons_succ]
        refine ops_nil ?_
        refine Then_normal ?_
        refine wp_ret' ?_
        refine Then_ret ?_
        refine' doneS_ret (resv1 rfl (rv_cellA ag32 rfl (by first | exact RdN.of_pick 0 rfl rdn_all | exact RdN.of_pick 1 rfl rdn_all | exact RdN.of_pick 2 rfl rdn_all | exact RdN.of_pick 3 rfl rdn_all | exact RdN.of_pick 4 rfl rdn_all) rfl)) ?_ ?_
        rotate_left 1
        exact ⟨t, Rk.stat 4, rfl, (by unfold setR; rw [hf]; dsimp only; rw [if_pos (by omega)]; exact ⟨rfl, rfl⟩), ⟨r, hW⟩, rfl, rfl, rfl⟩
        exact (SubH.cons 0 rfl (SubH.cons 3 rfl (SubH.nil _)))
      · replace hc31 := of_decide_eq_false hc31
        refine wp_skip' ?_
        refine Then_normal ?_
        refine wp_seq' ?_
        refine wp_seq' ?_
        refine wp_region' ?_
        refine ops_ro' rfl (ro_fieldAddr fa35_8 rfl) rfl ?_
        refine ops_ro' rfl (ro_fieldAddr fa30_0 rfl) rfl ?_
        refine ops_ro' rfl (ro_load sc27 rfl (Rd.pick 3 rfl (Rd.own rfl))) rfl ?_
        refine ops_ro' rfl (ro_and rfl rfl (and32 hq.a.f (c := 1) (by decide) rfl)) rfl ?_
        refine ops_ro' rfl (ro_neq rfl rfl rfl) rfl ?_
        refine ops_split rfl rfl rfl (fun hg38 => ?_) (fun hg38 => ?_)
        · replace hg38 := of_decide_eq_true hg38
          refine ops_ro' rfl (ro_move rfl) rfl ?_
          refine ops_ro' rfl (ro_nilCheck rfl) rfl ?_
          refine ops_ro' rfl (ro_fieldAddr fa67_2 rfl) rfl ?_
          refine ops_ro' rfl (ro_load sc4 rfl (Rd.pick 0 rfl ((hd_rd0 hv_own hl hs16 hi 2 _ rfl)))) rfl ?_
          refine ops_ro' rfl (ro_not rfl rfl) rfl ?_
          refine ops_ro' rfl (ro_pick rfl rfl) rfl ?_
          refine ops_split rfl rfl rfl (fun hg45 => ?_) (fun hg45 => ?_)
          · simp only [Bool.and_eq_true, decide_eq_true_eq, Bool.not_eq_true', decide_eq_false_iff_not, bne_iff_ne, ne_eq] at hg45
            refine ops_ro' rfl (ro_move rfl) rfl ?_
            refine ops_ro' rfl (ro_nilCheck rfl) rfl ?_
            refine ops_ro' rfl (ro_fieldAddr fa67_3 rfl) rfl ?_
            refine ops_ro' rfl (ro_load sc27 rfl (Rd.pick 0 rfl ((hd_rd0 hv_own hl hs16 hi 3 _ rfl)))) rfl ?_
            refine ops_ro' rfl (ro_and rfl rfl (and32 hfl (c := 2) (by decide) rfl)) rfl ?_
            refine ops_ro' rfl (ro_eql rfl rfl rfl) rfl ?_
            refine ops_ro' rfl (ro_pick rfl rfl) rfl ?_
            refine ops_nil ?_
            refine Then_normal ?_
            refine wp_cond' rfl (fun hc52 => ?_) (fun hc52 => ?_)
            · replace hc52 := of_decide_eq_true hc52
              refine wp_seq' ?_
              refine wp_region' ?_
              refine ops_eff' rfl (eff_call Tryz.call28 rfl rfl (by repeat (first | exact Split.nil _ | apply Split.cons 0 rfl | apply Split.cons 1 rfl | apply Split.cons 2 rfl | apply Split.cons 3 rfl | apply Split.cons 4 rfl | apply Split.cons 5 rfl | apply Split.cons 6 rfl | apply Split.cons 7 rfl | apply Split.cons 8 rfl | apply Split.cons 9 rfl | apply Split.cons 10 rfl | apply Split.cons 11 rfl)) (status_spec 3)) rfl ?_
              rintro _ H' ⟨_, ⟨rfl, rfl⟩, hH⟩
              simp only [List.cons_append, List.nil_append, List.eraseIdx_cons_zero, List.eraseIdx_cons_succ, List.set_cons_zero, List.set_cons_succ] at hH
              subst hH
              refine ops_eff0 rfl (eff_storeA 2 ag32 rfl rfl rfl rfl rfl (Nat.le_of_ble_eq_true rfl) (warm_zero _)) rfl ?_
              rintro _ _ rfl
              simp only [List.set_cons_zero, List.set_cons_succ]
              refine ops_nil ?_
              refine Then_normal ?_
              refine wp_ret' ?_
              refine Then_ret ?_
              refine' doneS_ret (resv1 rfl (rv_cellA ag32 rfl (by first | exact RdN.of_pick 0 rfl rdn_all | exact RdN.of_pick 1 rfl rdn_all | exact RdN.of_pick 2 rfl rdn_all | exact RdN.of_pick 3 rfl rdn_all | exact RdN.of_pick 4 rfl rdn_all) rfl)) ?_ ?_
              rotate_left 1
              exact ⟨t, Rk.stat 3, rfl, (by unfold setR; rw [hf]; dsimp only; rw [if_neg (by omega), if_pos ⟨by omega, by simp_all, by omega⟩]; exact ⟨rfl, rfl⟩), ⟨r, hW⟩, rfl, rfl, rfl⟩
              exact (SubH.cons 0 rfl (SubH.cons 3 rfl (SubH.nil _)))
            · replace hc52 := of_decide_eq_false hc52
              refine wp_skip' ?_
              refine Then_normal ?_
              refine wp_seq' ?_
              refine wp_draw 10 (by kernel_rfl) (Split.all _) ?_
              refine any_ro' (i := 0) (by kernel_rfl) rfl rfl (ro_move rfl) rfl (fun _ _ _ h => h) ?_
              refine any_ro' (i := 1) (by kernel_rfl) rfl rfl (ro_nilCheck rfl) rfl (fun _ _ _ h => h) ?_
              refine any_ro' (i := 2) (by kernel_rfl) rfl rfl (ro_fieldAddr fa71_0 rfl) rfl (fun _ _ _ h => h) ?_
              refine any_ro' (i := 3) (by kernel_rfl) rfl rfl (ro_load sc51 rfl (Rd.pick 0 rfl (Rd.own rfl))) rfl (fun _ _ _ h => h) ?_
              refine any_ro' (i := 4) (by kernel_rfl) rfl rfl (ro_move rfl) rfl (fun _ _ _ h => h) ?_
              refine any_ro' (i := 5) (by kernel_rfl) rfl rfl (ro_nilCheck rfl) rfl (fun _ _ _ h => h) ?_
              refine any_ro' (i := 6) (by kernel_rfl) rfl rfl (ro_fieldAddr fa67_1 rfl) rfl (fun _ _ _ h => h) ?_
              refine any_ro' (i := 7) (by kernel_rfl) rfl rfl (ro_load sc3 rfl (Rd.pick 0 rfl ((hd_rd0 hv_own hl hs16 hi 1 _ rfl)))) rfl (fun _ _ _ h => h) ?_
              refine any_ro' (i := 8) (by kernel_rfl) rfl rfl (ro_fieldAddr fa35_8 rfl) rfl (fun _ _ _ h => h) ?_
              refine any_ro' (i := 9) (by kernel_rfl) rfl rfl (ro_loadA ag30 rfl (RdN.of_pick 3 rfl (rdn_sub 7)) rfl) rfl (fun _ _ _ h => h) ?_
              refine any_unlock (m' := 13) (L' := []) (by kernel_rfl) unlock ?_
              simp only [List.cons_append, List.nil_append, List.append_nil]
              refine any_eff' (i := 10) (by kernel_rfl) rfl rfl (eff_call Tryz.call35 rfl rfl (by repeat (first | exact Split.nil _ | apply Split.cons 0 rfl | apply Split.cons 1 rfl | apply Split.cons 2 rfl | apply Split.cons 3 rfl | apply Split.cons 4 rfl | apply Split.cons 5 rfl | apply Split.cons 6 rfl | apply Split.cons 7 rfl | apply Split.cons 8 rfl | apply Split.cons 9 rfl | apply Split.cons 10 rfl | apply Split.cons 11 rfl)) (tri_argc htb (set_spec hW (hdA hs s i).id q.a hq.a))) rfl ?_
              rintro _ H' ⟨_, ⟨t1, e1, rfl, hR1, rfl⟩, hH⟩
              simp only [List.cons_append, List.nil_append, List.eraseIdx_cons_zero, List.eraseIdx_cons_succ, List.set_cons_zero, List.set_cons_succ] at hH
              subst hH
              obtain ⟨hW1, hnx1, ht1, _⟩ := set_wf hW hq.a hR1
              refine any_eff' (i := 11) (by kernel_rfl) rfl rfl (eff_call Tryz.call32 rfl rfl (by repeat (first | exact Split.nil _ | apply Split.cons 0 rfl | apply Split.cons 1 rfl | apply Split.cons 2 rfl | apply Split.cons 3 rfl | apply Split.cons 4 rfl | apply Split.cons 5 rfl | apply Split.cons 6 rfl | apply Split.cons 7 rfl | apply Split.cons 8 rfl | apply Split.cons 9 rfl | apply Split.cons 10 rfl | apply Split.cons 11 rfl)) (of_spec e1)) rfl ?_
              rintro _ H' ⟨_, ⟨rfl, rfl⟩, hH⟩
              simp only [List.cons_append, List.nil_append, List.eraseIdx_cons_zero, List.eraseIdx_cons_succ, List.set_cons_zero, List.set_cons_succ] at hH
              subst hH
              refine any_eff0 (i := 12) (by kernel_rfl) rfl rfl (eff_storeA 3 ag32 rfl rfl rfl rfl rfl (Nat.le_of_ble_eq_true rfl) (warm_zero _)) rfl ?_
              rintro _ _ rfl
              simp only [List.set_cons_zero, List.set_cons_succ]
              refine any_doneH (by kernel_rfl) ?_
              refine Then_normal ?_
              refine wp_ret' ?_
              refine' doneS_ret (resv1 rfl (rv_cellA ag32 rfl (by first | exact RdN.of_pick 0 rfl rdn_all | exact RdN.of_pick 1 rfl rdn_all | exact RdN.of_pick 2 rfl rdn_all | exact RdN.of_pick 3 rfl rdn_all | exact RdN.of_pick 4 rfl rdn_all) rfl)) ?_ ?_
              rotate_left 1
              exact ⟨t1, ofK e1, (by rw [← ofE_rep]; rfl), (by unfold setR; rw [hf]; dsimp only; rw [if_neg (by omega), if_neg (by rintro ⟨a1, a2, a3⟩; first | omega | simp_all)]; exact ⟨e1, hR1, rfl⟩), hW1, ht1, hnx1, rfl⟩
              exact (SubH.cons 1 rfl (SubH.cons 0 rfl (SubH.nil _)))
          · simp only [Bool.and_eq_false_iff, decide_eq_false_iff_not, Bool.not_eq_false', decide_eq_true_eq] at hg45
            refine ops_skip' rfl rfl ?_
            refine ops_skip' rfl rfl ?_
            refine ops_skip' rfl rfl ?_
            refine ops_skip' rfl rfl ?_
            refine ops_skip' rfl rfl ?_
            refine ops_skip' rfl rfl ?_
            refine ops_ro' rfl (ro_pick rfl rfl) rfl ?_
            refine ops_nil ?_
            refine Then_normal ?_
            refine wp_condF rfl ?_
            refine wp_skip' ?_
            refine Then_normal ?_
            refine wp_seq' ?_
            refine wp_draw 10 (by kernel_rfl) (Split.all _) ?_
            refine any_ro' (i := 0) (by kernel_rfl) rfl rfl (ro_move rfl) rfl (fun _ _ _ h => h) ?_
            refine any_ro' (i := 1) (by kernel_rfl) rfl rfl (ro_nilCheck rfl) rfl (fun _ _ _ h => h) ?_
            refine any_ro' (i := 2) (by kernel_rfl) rfl rfl (ro_fieldAddr fa71_0 rfl) rfl (fun _ _ _ h => h) ?_
            refine any_ro' (i := 3) (by kernel_rfl) rfl rfl (ro_load sc51 rfl (Rd.pick 0 rfl (Rd.own rfl))) rfl (fun _ _ _ h => h) ?_
            refine any_ro' (i := 4) (by kernel_rfl) rfl rfl (ro_move rfl) rfl (fun _ _ _ h => h) ?_
            refine any_ro' (i := 5) (by kernel_rfl) rfl rfl (ro_nilCheck rfl) rfl (fun _ _ _ h => h) ?_
            refine any_ro' (i := 6) (by kernel_rfl) rfl rfl (ro_fieldAddr fa67_1 rfl) rfl (fun _ _ _ h => h) ?_
            refine any_ro' (i := 7) (by kernel_rfl) rfl rfl (ro_load sc3 rfl (Rd.pick 0 rfl ((hd_rd0 hv_own hl hs16 hi 1 _ rfl)))) rfl (fun _ _ _ h => h) ?_
            refine any_ro' (i := 8) (by kernel_rfl) rfl rfl (ro_fieldAddr fa35_8 rfl) rfl (fun _ _ _ h => h) ?_
            refine any_ro' (i := 9) (by kernel_rfl) rfl rfl (ro_loadA ag30 rfl (RdN.of_pick 3 rfl (rdn_sub 7)) rfl) rfl (fun _ _ _ h => h) ?_
            refine any_unlock (m' := 13) (L' := []) (by kernel_rfl) unlock ?_
            simp only [List.cons_append, List.nil_append, List.append_nil]
            refine any_eff' (i := 10) (by kernel_rfl) rfl rfl (eff_call Tryz.call35 rfl rfl (by repeat (first | exact Split.nil _ | apply Split.cons 0 rfl | apply Split.cons 1 rfl | apply Split.cons 2 rfl | apply Split.cons 3 rfl | apply Split.cons 4 rfl | apply Split.cons 5 rfl | apply Split.cons 6 rfl | apply Split.cons 7 rfl | apply Split.cons 8 rfl | apply Split.cons 9 rfl | apply Split.cons 10 rfl | apply Split.cons 11 rfl)) (tri_argc htb (set_spec hW (hdA hs s i).id q.a hq.a))) rfl ?_
            rintro _ H' ⟨_, ⟨t1, e1, rfl, hR1, rfl⟩, hH⟩
            simp only [List.cons_append, List.nil_append, List.eraseIdx_cons_zero, List.eraseIdx_cons_succ, List.set_cons_zero, List.set_cons_succ] at hH
            subst hH
            obtain ⟨hW1, hnx1, ht1, _⟩ := set_wf hW hq.a hR1
            refine any_eff' (i := 11) (by kernel_rfl) rfl rfl (eff_call Tryz.call32 rfl rfl (by repeat (first | exact Split.nil _ | apply Split.cons 0 rfl | apply Split.cons 1 rfl | apply Split.cons 2 rfl | apply Split.cons 3 rfl | apply Split.cons 4 rfl | apply Split.cons 5 rfl | apply Split.cons 6 rfl | apply Split.cons 7 rfl | apply Split.cons 8 rfl | apply Split.cons 9 rfl | apply Split.cons 10 rfl | apply Split.cons 11 rfl)) (of_spec e1)) rfl ?_
            rintro _ H' ⟨_, ⟨rfl, rfl⟩, hH⟩
            simp only [List.cons_append, List.nil_append, List.eraseIdx_cons_zero, List.eraseIdx_cons_succ, List.set_cons_zero, List.set_cons_succ] at hH
            subst hH
            refine any_eff0 (i := 12) (by kernel_rfl) rfl rfl (eff_storeA 3 ag32 rfl rfl rfl rfl rfl (Nat.le_of_ble_eq_true rfl) (warm_zero _)) rfl ?_
            rintro _ _ rfl
            simp only [List.set_cons_zero, List.set_cons_succ]
            refine any_doneH (by kernel_rfl) ?_
            refine Then_normal ?_
            refine wp_ret' ?_
            refine' doneS_ret (resv1 rfl (rv_cellA ag32 rfl (by first | exact RdN.of_pick 0 rfl rdn_all | exact RdN.of_pick 1 rfl rdn_all | exact RdN.of_pick 2 rfl rdn_all | exact RdN.of_pick 3 rfl rdn_all | exact RdN.of_pick 4 rfl rdn_all) rfl)) ?_ ?_
            rotate_left 1
            exact ⟨t1, ofK e1, (by rw [← ofE_rep]; rfl), (by unfold setR; rw [hf]; dsimp only; rw [if_neg (by omega), if_neg (by rintro ⟨a1, a2, a3⟩; first | omega | simp_all)]; exact ⟨e1, hR1, rfl⟩), hW1, ht1, hnx1, rfl⟩
            exact (SubH.cons 1 rfl (SubH.cons 0 rfl (SubH.nil _)))
        · replace hg38 := of_decide_eq_false hg38
          refine ops_skip' rfl rfl ?_
          refine ops_skip' rfl rfl ?_
          refine ops_skip' rfl rfl ?_
          refine ops_skip' rfl rfl ?_
          refine ops_skip' rfl rfl ?_
          refine ops_ro' rfl (ro_pick rfl rfl) rfl ?_
          refine ops_ro' rfl (ro_move (v := .bool false) rfl) rfl ?_
          refine ops_skip' rfl rfl ?_
          refine ops_skip' rfl rfl ?_
          refine ops_skip' rfl rfl ?_
          refine ops_skip' rfl rfl ?_
          refine ops_skip' rfl rfl ?_
          refine ops_skip' rfl rfl ?_
          refine ops_ro' rfl (ro_pick rfl rfl) rfl ?_
          refine ops_nil ?_
          refine Then_normal ?_
          refine wp_condF rfl ?_
          refine wp_skip' ?_
          refine Then_normal ?_
          refine wp_seq' ?_
          refine wp_draw 10 (by kernel_rfl) (Split.all _) ?_
          refine any_ro' (i := 0) (by kernel_rfl) rfl rfl (ro_move rfl) rfl (fun _ _ _ h => h) ?_
          refine any_ro' (i := 1) (by kernel_rfl) rfl rfl (ro_nilCheck rfl) rfl (fun _ _ _ h => h) ?_
          refine any_ro' (i := 2) (by kernel_rfl) rfl rfl (ro_fieldAddr fa71_0 rfl) rfl (fun _ _ _ h => h) ?_
          refine any_ro' (i := 3) (by kernel_rfl) rfl rfl (ro_load sc51 rfl (Rd.pick 0 rfl (Rd.own rfl))) rfl (fun _ _ _ h => h) ?_
          refine any_ro' (i := 4) (by kernel_rfl) rfl rfl (ro_move rfl) rfl (fun _ _ _ h => h) ?_
          refine any_ro' (i := 5) (by kernel_rfl) rfl rfl (ro_nilCheck rfl) rfl (fun _ _ _ h => h) ?_
          refine any_ro' (i := 6) (by kernel_rfl) rfl rfl (ro_fieldAddr fa67_1 rfl) rfl (fun _ _ _ h => h) ?_
          refine any_ro' (i := 7) (by kernel_rfl) rfl rfl (ro_load sc3 rfl (Rd.pick 0 rfl ((hd_rd0 hv_own hl hs16 hi 1 _ rfl)))) rfl (fun _ _ _ h => h) ?_
          refine any_ro' (i := 8) (by kernel_rfl) rfl rfl (ro_fieldAddr fa35_8 rfl) rfl (fun _ _ _ h => h) ?_
          refine any_ro' (i := 9) (by kernel_rfl) rfl rfl (ro_loadA ag30 rfl (RdN.of_pick 3 rfl (rdn_sub 7)) rfl) rfl (fun _ _ _ h => h) ?_
          refine any_unlock (m' := 13) (L' := []) (by kernel_rfl) unlock ?_
          simp only [List.cons_append, List.nil_append, List.append_nil]
          refine any_eff' (i := 10) (by kernel_rfl) rfl rfl (eff_call Tryz.call35 rfl rfl (by repeat (first | exact Split.nil _ | apply Split.cons 0 rfl | apply Split.cons 1 rfl | apply Split.cons 2 rfl | apply Split.cons 3 rfl | apply Split.cons 4 rfl | apply Split.cons 5 rfl | apply Split.cons 6 rfl | apply Split.cons 7 rfl | apply Split.cons 8 rfl | apply Split.cons 9 rfl | apply Split.cons 10 rfl | apply Split.cons 11 rfl)) (tri_argc htb (set_spec hW (hdA hs s i).id q.a hq.a))) rfl ?_
          rintro _ H' ⟨_, ⟨t1, e1, rfl, hR1, rfl⟩, hH⟩
          simp only [List.cons_append, List.nil_append, List.eraseIdx_cons_zero, List.eraseIdx_cons_succ, List.set_cons_zero, List.set_cons_succ] at hH
          subst hH
          obtain ⟨hW1, hnx1, ht1, _⟩ := set_wf hW hq.a hR1
          refine any_eff' (i := 11) (by kernel_rfl) rfl rfl (eff_call Tryz.call32 rfl rfl (by repeat (first | exact Split.nil _ | apply Split.cons 0 rfl | apply Split.cons 1 rfl | apply Split.cons 2 rfl | apply Split.cons 3 rfl | apply Split.cons 4 rfl | apply Split.cons 5 rfl | apply Split.cons 6 rfl | apply Split.cons 7 rfl | apply Split.cons 8 rfl | apply Split.cons 9 rfl | apply Split.cons 10 rfl | apply Split.cons 11 rfl)) (of_spec e1)) rfl ?_
          rintro _ H' ⟨_, ⟨rfl, rfl⟩, hH⟩
          simp only [List.cons_append, List.nil_append, List.eraseIdx_cons_zero, List.eraseIdx_cons_succ, List.set_cons_zero, List.set_cons_succ] at hH
          subst hH
          refine any_eff0 (i := 12) (by kernel_rfl) rfl rfl (eff_storeA 3 ag32 rfl rfl rfl rfl rfl (Nat.le_of_ble_eq_true rfl) (warm_zero _)) rfl ?_
          rintro _ _ rfl
          simp only [List.set_cons_zero, List.set_cons_succ]
          refine any_doneH (by kernel_rfl) ?_
          refine Then_normal ?_
          refine wp_ret' ?_
          refine' doneS_ret (resv1 rfl (rv_cellA ag32 rfl (by first | exact RdN.of_pick 0 rfl rdn_all | exact RdN.of_pick 1 rfl rdn_all | exact RdN.of_pick 2 rfl rdn_all | exact RdN.of_pick 3 rfl rdn_all | exact RdN.of_pick 4 rfl rdn_all) rfl)) ?_ ?_
          rotate_left 1
          exact ⟨t1, ofK e1, (by rw [← ofE_rep]; rfl), (by unfold setR; rw [hf]; dsimp only; rw [if_neg (by omega), if_neg (by rintro ⟨a1, a2, a3⟩; first | omega | simp_all)]; exact ⟨e1, hR1, rfl⟩), hW1, ht1, hnx1, rfl⟩
          exact (SubH.cons 1 rfl (SubH.cons 0 rfl (SubH.nil _)))

end Go.Proofs.YtlefpllcgcicpaaGreatDoor
namespace Go.Proofs.YtlefpllcgcicpaaGreatDoor
open Go.Sx
set_option linter.unusedVariables false
set_option linter.unusedSimpArgs false
set_option maxRecDepth 100000
set_option maxHeartbeats 4000000

theorem cloneN_some (V : HProp) (a : Addr) (m c : Nat) (xs : List Value) (hV : Vw V (.slice (some a) m c) m xs) (hl : xs.length = m * 8) (hone : ∀ v ∈ xs, v.oneCell' = true) (hm : m ≤ 1000000) :
    Tri Tryz.prog 129 [.slice (some a) m c] [V] (fun r H' => ∃ p' c', r = .slice p' m c' ∧ H' = [row 87 8 (.slice p' m c') m xs, V]) := by
  refine tri_of_wpS Tryz.func129 rfl Tryz.ntmps129 (by simp) ?_
  refine wp_seq' ?_
  refine wp_region' ?_
  refine ops_ro' rfl (ro_assign rfl) rfl ?_
  refine ops_nil ?_
  refine Then_normal ?_
  refine wp_seq' ?_
  refine wp_seq' ?_
  refine wp_region' ?_
  refine ops_ro' rfl (ro_move rfl) rfl ?_
  refine ops_ro' rfl (ro_sliceEqlNil Tryz.underlying26 rfl rfl rfl) rfl ?_
  refine ops_nil ?_
  refine Then_normal ?_
  refine wp_condF rfl ?_
  refine wp_skip' ?_
  refine Then_normal ?_
  refine wp_seq' ?_
  refine wp_region' ?_
  refine ops_eff' rfl (eff_lit sl26 rfl (sbld (cs := []) [] sl26 (by decide) (by kernel_rfl) rfl) rfl (by decide)) rfl ?_
  rintro _ _ ⟨b5, rfl, rfl⟩
  refine ops_ro' rfl (ro_move rfl) rfl ?_
  refine ops_eff' rfl (eff_append 0 sl26 (.inl ⟨87, Tryz.underlying26⟩) rfl rfl rfl (Src.of_vw (Vw.pick 0 rfl hV) hl hone) (by omega) (by simp only [maxLen]; omega)) rfl ?_
  rintro _ _ ⟨_, ⟨p', c', rfl, -, rfl⟩, rfl⟩
  simp only [Nat.zero_add, List.nil_append, List.set_cons_zero]
  refine ops_ro' rfl (ro_assign rfl) rfl ?_
  refine ops_nil ?_
  refine Then_normal ?_
  refine wp_ret' ?_
  refine' doneS_ret (res1 rfl rfl) ?_ ?_
  rotate_left 1
  exact ⟨p', c', rfl, rfl⟩
  exact SubH.refl _
theorem cloneN_nil (V : HProp) : Tri Tryz.prog 129 [.slice none 0 0] [V] (fun r H' => ∃ p' c', r = .slice p' 0 c' ∧ H' = [row 87 8 (.slice p' 0 c') 0 [], V]) := by
  refine tri_of_wpS Tryz.func129 rfl Tryz.ntmps129 (by simp) ?_
  refine wp_seq' ?_
  refine wp_region' ?_
  refine ops_ro' rfl (ro_assign rfl) rfl ?_
  refine ops_nil ?_
  refine Then_normal ?_
  refine wp_seq' ?_
  refine wp_seq' ?_
  refine wp_region' ?_
  refine ops_ro' rfl (ro_move rfl) rfl ?_
  refine ops_ro' rfl (ro_sliceEqlNil Tryz.underlying26 rfl rfl rfl) rfl ?_
  refine ops_nil ?_
  refine Then_normal ?_
  refine wp_condT rfl ?_
  refine wp_seq' ?_
  refine wp_heap (fun w F => nil_row 87 8 w F) ?_
  refine wp_region' ?_
  refine ops_ro' rfl (ro_assign rfl) rfl ?_
  refine ops_nil ?_
  refine Then_normal ?_
  refine wp_ret' ?_
  refine Then_ret ?_
  refine' doneS_ret (res1 rfl rfl) ?_ ?_
  rotate_left 1
  exact ⟨none, 0, rfl, rfl⟩
  exact SubH.refl _
theorem cloneN (V : HProp) (p : Option Addr) (m c : Nat) (xs : List Value) (hV : Vw V (.slice p m c) m xs) (hl : xs.length = m * 8) (hone : ∀ v ∈ xs, v.oneCell' = true) (hm : m ≤ 1000000) :
    Tri Tryz.prog 129 [.slice p m c] [V] (fun r H' => ∃ K, (∃ p' c', r = .slice p' m c' ∧ K = [row 87 8 (.slice p' m c') m xs]) ∧ H' = K ++ [V]) := by
  cases p with
  | some a =>
    refine tri_post (cloneN_some V a m c xs hV hl hone hm) ?_
    rintro v H ⟨p', c', h1, h2⟩
    exact ⟨_, ⟨p', c', h1, rfl⟩, h2⟩
  | none =>
    refine tri_know (p := m = 0 ∧ c = 0 ∧ xs = []) (fun w F s => hV.len_nil (by simpa [St_cons, St_nil, star_emp] using s)) ?_
    rintro ⟨rfl, rfl, rfl⟩
    refine tri_post (cloneN_nil V) ?_
    rintro v H ⟨p', c', h1, h2⟩
    exact ⟨_, ⟨p', c', h1, rfl⟩, h2⟩
theorem hd_some {hs : List Hd} {s i : Nat} (hl : hs.length = 256) (h16 : s < 16) (hi : i < 16) : hs[s * 16 + i]? = some (hdA hs s i) := by
  unfold hdA
  rw [List.getD_eq_getElem?_getD, List.getElem?_eq_getElem (by omega)]
  rfl
theorem rows_put {hs : List Hd} {k : Nat} {x y : Hd} {L : List HProp} (h : hs[k]? = some x) {w : World} {F : HProp} (s : sat w (star (St (St (hs.map rowN) :: rowN y :: L)) F)) : sat w (star (St (St ((hs.set k y).map rowN) :: L)) F) := by
  rw [St_cons, St_cons, star_assoc, star_assoc] at s
  rw [St_cons, star_assoc]
  exact rows_set h s
theorem rows_vw {hs : List Hd} {k : Nat} {x : Hd} (h : hs[k]? = some x) : Vw (St (hs.map rowN)) (.slice x.np x.names.length x.nc) x.names.length (flat Nm.cs x.names) :=
  Vw.pick k (A := rowN x) (by rw [List.getElem?_map, h]; rfl) Vw.row
theorem set_over {cs : List Value} {o : Nat} {v : Value} (h : o < cs.length) : cs.set o v = over cs o [v] := by
  unfold over
  rw [List.set_eq_take_append_cons_drop, if_pos h]
  simp
theorem ma_field {p v : Value} {hs : List Hd} {s i k : Nat} {y : Hd} (hl : hs.length = 256) (h16 : s < 16) (hi : i < 16) (hk : k < 5) (hy : y.cs = (hdA hs s i).cs.set k v) : (p :: flat Hd.cs hs).set (0 + 1 + s * 80 + i * 5 + k) v = p :: flat Hd.cs (hs.set (s * 16 + i) y) := by
  rw [set_over (by rw [List.length_cons, flat_len Hd.len]; omega)]
  rw [show p :: flat Hd.cs hs = [p] ++ flat Hd.cs hs from rfl, show 0 + 1 + s * 80 + i * 5 + k = [p].length + ((s * 16 + i) * 5 + k) by simp only [List.length_cons, List.length_nil]; omega, over_app_right]
  rw [flat_part Hd.len (hd_some hl h16 hi) (by simp only [List.length_cons, List.length_nil]; omega) (y := y) (by rw [hy, set_over (by rw [Hd.len]; omega)])]
  rfl
theorem ma_field4 {v : Value} {hs : List Hd} {s i : Nat} {y : Hd} (hl : hs.length = 256) (h16 : s < 16) (hi : i < 16) (hy : y.cs = (hdA hs s i).cs.set 4 v) : (flat Hd.cs hs).set (0 + 1 + s * 80 + i * 5 + 3) v = flat Hd.cs (hs.set (s * 16 + i) y) :=
  (List.cons.inj (ma_field (p := .bool true) (k := 4) hl h16 hi (by decide) hy)).2
theorem take_tl {α : Type} (l : List α) : l.take (l.take 8).length = l.take 8 := by
  rw [List.length_take]
  by_cases h : l.length ≤ 8
  · rw [Nat.min_eq_right h, List.take_of_length_le (Nat.le_refl _), List.take_of_length_le h]
  · rw [Nat.min_eq_left (by omega)]
theorem drop_tl2 {α : Type} (l : List α) : l.length - (l.take 8).length = (l.drop 8).length := by
  rw [List.length_take, List.length_drop]; omega
theorem drop_tl1 {α : Type} (l : List α) : (l.drop (l.take 8).length).take (l.length - (l.take 8).length) = l.drop 8 := by
  rw [List.take_of_length_le (by rw [List.length_drop]; omega), List.length_take]
  by_cases h : l.length ≤ 8
  · rw [Nat.min_eq_right h, List.drop_of_length_le (Nat.le_refl _), List.drop_of_length_le h]
  · rw [Nat.min_eq_left (by omega)]
theorem listO_thou {t : Tr} {r : Nd} (hW : Wf t r) (id : Int) : (listO t.ns (byId t.ns id)).1.length ≤ 1000 := by
  cases hb : byId t.ns id with
  | none => exact Nat.zero_le _
  | some x =>
    unfold listO
    dsimp only
    split
    · show (lsK t.ns x.kids).length ≤ 1000
      have h1 := kids_le hW.kd (byId_some hb).1
      have h2 := hW.few
      unfold lsK; rw [List.length_map]; omega
    · exact Nat.zero_le _
theorem close16_spec {V : HProp} {mb tb : Nat} {hs : List Hd} (hH : HsOk hs) (s : Nat) (hs16 : s < 16) (q : Qr) : Tri Tryz.prog 65 [.pointer (some ⟨mb, 0, none⟩), .int .i64 (s : Int), q.v] [oMa mb tb hs, St (hs.map rowN), V]
    (fun v H' => ∃ hs' k, v = (k.rep none 0 none 0).v ∧ closeR hs s q hs' k ∧ HsOk hs' ∧ H' = [oMa mb tb hs', St (hs'.map rowN), V]) :=
  tri_weak (tri_sub (L := [oMa mb tb hs, St [St (hs.map rowN), V]]) (fun w F sw => by simpa only [St_cons, St_nil, star_emp, star_assoc] using sw) (close_spec hH.len s hs16 q)) fun v H h => by
    obtain ⟨k, hs', hv, hc, rfl⟩ := h
    rcases hc with ⟨hf, rfl, rfl⟩ | ⟨i, hf, rfl, rfl⟩
    · exact ⟨_, ⟨hs', Rk.stat 4, hv, (by unfold closeR; rw [hf]; exact ⟨rfl, rfl⟩), hH, rfl⟩, fun w F sw => by simpa only [St_cons, St_nil, star_emp, star_assoc] using sw⟩
    · refine ⟨_, ⟨_, Rk.stat 0, hv, (by unfold closeR; rw [hf]; exact ⟨rfl, rfl⟩), hH.set ⟨by decide, by decide, by decide⟩, rfl⟩, fun w F sw => ?_⟩
      have s1 : sat w (star (St (St (hs.map rowN) :: rowN Hd.zero :: [oMa mb tb (hs.set (s * 16 + i) Hd.zero), V])) F) := by
        have s2 := nil_row 87 8 w F sw
        have e : row 87 8 (.slice none 0 0) 0 [] = rowN Hd.zero := rfl
        rw [e] at s2
        have s3 : sat w (star (St [rowN Hd.zero, oMa mb tb (hs.set (s * 16 + i) Hd.zero), St (hs.map rowN), V]) F) := by simpa only [St_cons, St_nil, star_emp, star_assoc] using s2
        exact (SubH.cons 2 rfl (SubH.cons 0 rfl (SubH.cons 0 rfl (SubH.cons 0 rfl (SubH.nil _))))) w F s3
      have s3 := rows_put (hd_some hH.len hs16 (find_lt hf)) s1
      simp only [St_cons, St_nil, star_emp, star_assoc] at s3 ⊢
      rw [star_left_comm]; exact s3
theorem free_lt {hs : List Hd} {s i : Nat} (h : freeH hs s = some i) : i < 16 := by
  have := List.mem_of_find?_eq_some h
  simpa using this
theorem opendir_spec {V : HProp} {mb tb : Nat} {t : Tr} {hs : List Hd} {r : Nd} (hW : Wf t r) (htb : t.tb = tb) (hH : HsOk hs) (s : Nat) (hs16 : s < 16) (q : Qr) (hq : q.Ok) (hP : Ml V) : Tri Tryz.prog 70 [.pointer (some ⟨mb, 0, none⟩), .int .i64 (s : Int), q.v] [oMa mb tb hs, tree t, St (hs.map rowN), V]
    (fun v H' => ∃ hs' k, v = (k.rep none 0 none 0).v ∧ opendirR t r hs s q hs' k ∧ HsOk hs' ∧ H' = [oMa mb tb hs', tree t, St (hs'.map rowN), V]) := by
  have hl := hH.len
  have hdl := wf_dl2 hW
  cases hf : freeH hs s with
  | none =>
    refine tri_of_wpS Tryz.func70 rfl Tryz.ntmps70 (by simp) ?_
    refine wp_seq' ?_
    refine wp_region' ?_
    refine ops_eff' rfl (eff_box rfl) rfl ?_
    rintro _ _ ⟨b5, rfl, rfl⟩
    refine ops_eff' rfl (eff_alloc z32) rfl ?_
    rintro _ _ ⟨b6, rfl, rfl⟩
    refine ops_nil ?_
    refine Then_normal ?_
    refine wp_seq' ?_
    refine wp_region' ?_
    refine ops_ro' rfl (ro_move rfl) rfl ?_
    refine ops_ro' rfl (ro_move rfl) rfl ?_
    refine ops_eff' rfl (eff_callM (Pre := []) Tryz.call124 rfl rfl (Split.nil _) (free_spec (by first | exact hv_pick 0 rfl hv_own | exact hv_pick 1 rfl hv_own | exact hv_pick 2 rfl hv_own | exact hv_pick 3 rfl hv_own | exact hv_pick 4 rfl hv_own | exact hv_pick 5 rfl hv_own) hl s hs16)) rfl ?_
    rintro _ H' ⟨_, ⟨rfl, rfl⟩, hH⟩
    simp only [List.cons_append, List.nil_append, List.eraseIdx_cons_zero, List.eraseIdx_cons_succ, List.set_cons_zero, List.set_cons_succ] at hH
    subst hH
    rw [hf]
    dsimp only [freeV]
    refine ops_ro' rfl (ro_move rfl) rfl ?_
    refine ops_ro' rfl (ro_extract rfl rfl) rfl ?_
    refine ops_ro' rfl (ro_extract rfl rfl) rfl ?_
    refine ops_ro' rfl (ro_assign rfl) rfl ?_
    refine ops_ro' rfl (ro_assign rfl) rfl ?_
    refine ops_nil ?_
    refine Then_normal ?_
    refine wp_seq' ?_
    refine wp_seq' ?_
    refine wp_region' ?_
    refine ops_ro' rfl (ro_move rfl) rfl ?_
    refine ops_ro' rfl (ro_not rfl rfl) rfl ?_
    refine ops_nil ?_
    refine Then_normal ?_
    refine wp_condT rfl ?_
    refine wp_seq' ?_
    refine wp_region' ?_
    refine ops_eff' rfl (eff_call Tryz.call28 rfl rfl (by repeat (first | exact Split.nil _ | apply Split.cons 0 rfl | apply Split.cons 1 rfl | apply Split.cons 2 rfl | apply Split.cons 3 rfl | apply Split.cons 4 rfl | apply Split.cons 5 rfl | apply Split.cons 6 rfl | apply Split.cons 7 rfl | apply Split.cons 8 rfl | apply Split.cons 9 rfl | apply Split.cons 10 rfl | apply Split.cons 11 rfl)) (status_spec 4)) rfl ?_
    rintro _ H' ⟨_, ⟨rfl, rfl⟩, hH⟩
    simp only [List.cons_append, List.nil_append, List.eraseIdx_cons_zero, List.eraseIdx_cons_succ, List.set_cons_zero, List.set_cons_succ] at hH
    subst hH
    refine ops_eff0 rfl (eff_storeA 0 ag32 rfl rfl rfl rfl rfl (Nat.le_of_ble_eq_true rfl) (warm_zero _)) rfl ?_
    rintro _ _ rfl
    simp only [List.set_cons_zero, List.set_cons_succ]
    refine ops_nil ?_
    refine Then_normal ?_
    refine wp_ret' ?_
    refine Then_ret ?_
    refine' doneS_ret (resv1 rfl (rv_cellA ag32 rfl (by first | exact RdN.of_pick 0 rfl rdn_all | exact RdN.of_pick 1 rfl rdn_all | exact RdN.of_pick 2 rfl rdn_all | exact RdN.of_pick 3 rfl rdn_all | exact RdN.of_pick 4 rfl rdn_all | exact RdN.of_pick 5 rfl rdn_all) rfl)) ?_ ?_
    rotate_left 1
    exact ⟨hs, Rk.stat 4, rfl, (by unfold opendirR; rw [hf]; exact ⟨rfl, rfl⟩), hH, rfl⟩
    exact (SubH.cons 2 rfl (SubH.cons 2 rfl (SubH.cons 2 rfl (SubH.cons 2 rfl (SubH.nil _)))))
  | some i =>
    have hi := free_lt hf
    refine tri_of_wpS Tryz.func70 rfl Tryz.ntmps70 (by simp) ?_
    refine wp_seq' ?_
    refine wp_region' ?_
    refine ops_eff' rfl (eff_box rfl) rfl ?_
    rintro _ _ ⟨b5, rfl, rfl⟩
    refine ops_eff' rfl (eff_alloc z32) rfl ?_
    rintro _ _ ⟨b6, rfl, rfl⟩
    refine ops_nil ?_
    refine Then_normal ?_
    refine wp_seq' ?_
    refine wp_region' ?_
    refine ops_ro' rfl (ro_move rfl) rfl ?_
    refine ops_ro' rfl (ro_move rfl) rfl ?_
    refine ops_eff' rfl (eff_callM (Pre := []) Tryz.call124 rfl rfl (Split.nil _) (free_spec (by first | exact hv_pick 0 rfl hv_own | exact hv_pick 1 rfl hv_own | exact hv_pick 2 rfl hv_own | exact hv_pick 3 rfl hv_own | exact hv_pick 4 rfl hv_own | exact hv_pick 5 rfl hv_own) hl s hs16)) rfl ?_
    rintro _ H' ⟨_, ⟨rfl, rfl⟩, hH⟩
    simp only [List.cons_append, List.nil_append, List.eraseIdx_cons_zero, List.eraseIdx_cons_succ, List.set_cons_zero, List.set_cons_succ] at hH
    subst hH
    rw [hf]
    dsimp only [freeV]
    refine ops_ro' rfl (ro_move rfl) rfl ?_
    refine ops_ro' rfl (ro_extract rfl rfl) rfl ?_
    refine ops_ro' rfl (ro_extract rfl rfl) rfl ?_
    refine ops_ro' rfl (ro_assign rfl) rfl ?_
    refine ops_ro' rfl (ro_assign rfl) rfl ?_
    refine ops_nil ?_
    refine Then_normal ?_
    refine wp_seq' ?_
    refine wp_seq' ?_
    refine wp_region' ?_
    refine ops_ro' rfl (ro_move rfl) rfl ?_
    refine ops_ro' rfl (ro_not rfl rfl) rfl ?_
    refine ops_nil ?_
    refine Then_normal ?_
    refine wp_condF rfl ?_
    refine wp_skip' ?_
    refine Then_normal ?_
    refine wp_seq' ?_
    refine wp_region' ?_
    refine ops_ro' rfl (ro_move rfl) rfl ?_
    refine ops_ro' rfl (ro_fieldAddr fa35_1 rfl) rfl ?_
    refine ops_ro' rfl (ro_load sc9 rfl (Rd.pick 1 rfl (Rd.own rfl))) rfl ?_
    refine ops_eff' rfl (eff_callM (Pre := []) Tryz.call128 rfl rfl (Split.nil _) (flook_spec (by first | exact Mq.of 0 1 rfl rfl htb | exact Mq.of 0 2 rfl rfl htb | exact Mq.of 0 3 rfl rfl htb | exact Mq.of 0 4 rfl rfl htb | exact Mq.of 1 0 rfl rfl htb | exact Mq.of 1 2 rfl rfl htb | exact Mq.of 1 3 rfl rfl htb | exact Mq.of 1 4 rfl rfl htb | exact Mq.of 2 0 rfl rfl htb | exact Mq.of 2 1 rfl rfl htb | exact Mq.of 2 3 rfl rfl htb | exact Mq.of 2 4 rfl rfl htb | exact Mq.of 3 0 rfl rfl htb | exact Mq.of 3 1 rfl rfl htb | exact Mq.of 3 2 rfl rfl htb | exact Mq.of 3 4 rfl rfl htb) hW (by first | exact Ml.pick (H := _) 0 rfl hP | exact Ml.pick (H := _) 1 rfl hP | exact Ml.pick (H := _) 2 rfl hP | exact Ml.pick (H := _) 3 rfl hP | exact Ml.pick (H := _) 4 rfl hP | exact Ml.pick (H := _) 5 rfl hP) q.path hq.path)) rfl ?_
    rintro _ H' ⟨_, ⟨rfl, rfl⟩, hH⟩
    simp only [List.cons_append, List.nil_append, List.eraseIdx_cons_zero, List.eraseIdx_cons_succ, List.set_cons_zero, List.set_cons_succ] at hH
    subst hH
    obtain ⟨⟨id1, e1⟩, hz1⟩ : ∃ z : Int × Int, look16 t r q.path = z := ⟨_, rfl⟩
    rw [hz1]
    dsimp only
    refine ops_ro' rfl (ro_move rfl) rfl ?_
    refine ops_ro' rfl (ro_extract rfl rfl) rfl ?_
    refine ops_ro' rfl (ro_extract rfl rfl) rfl ?_
    refine ops_ro' rfl (ro_assign rfl) rfl ?_
    refine ops_ro' rfl (ro_assign rfl) rfl ?_
    refine ops_nil ?_
    refine Then_normal ?_
    refine wp_seq' ?_
    refine wp_seq' ?_
    refine wp_region' ?_
    refine ops_ro' rfl (ro_move rfl) rfl ?_
    refine ops_ro' rfl (ro_neq rfl rfl rfl) rfl ?_
    refine ops_nil ?_
    refine Then_normal ?_
    refine wp_cond' rfl (fun hc29 => ?_) (fun hc29 => ?_)
    · replace hc29 := of_decide_eq_true hc29
      refine wp_seq' ?_
      refine wp_region' ?_
      refine ops_ro' rfl (ro_move rfl) rfl ?_
      refine ops_eff' rfl (eff_call Tryz.call32 rfl rfl (by repeat (first | exact Split.nil _ | apply Split.cons 0 rfl | apply Split.cons 1 rfl | apply Split.cons 2 rfl | apply Split.cons 3 rfl | apply Split.cons 4 rfl | apply Split.cons 5 rfl | apply Split.cons 6 rfl | apply Split.cons 7 rfl | apply Split.cons 8 rfl | apply Split.cons 9 rfl | apply Split.cons 10 rfl | apply Split.cons 11 rfl)) (of_spec e1)) rfl ?_
      rintro _ H' ⟨_, ⟨rfl, rfl⟩, hH⟩
      simp only [List.cons_append, List.nil_append, List.eraseIdx_cons_zero, List.eraseIdx_cons_succ, List.set_cons_zero, List.set_cons_succ] at hH
      subst hH
      refine ops_eff0 rfl (eff_storeA 0 ag32 rfl rfl rfl rfl rfl (Nat.le_of_ble_eq_true rfl) (warm_zero _)) rfl ?_
      rintro _ _ rfl
      simp only [List.set_cons_zero, List.set_cons_succ]
      refine ops_nil ?_
      refine Then_normal ?_
      refine wp_ret' ?_
      refine Then_ret ?_
      refine' doneS_ret (resv1 rfl (rv_cellA ag32 rfl (by first | exact RdN.of_pick 0 rfl rdn_all | exact RdN.of_pick 1 rfl rdn_all | exact RdN.of_pick 2 rfl rdn_all | exact RdN.of_pick 3 rfl rdn_all | exact RdN.of_pick 4 rfl rdn_all | exact RdN.of_pick 5 rfl rdn_all) rfl)) ?_ ?_
      rotate_left 1
      exact ⟨hs, ofK e1, (by rw [← ofE_rep]; rfl), (by unfold opendirR; rw [hf]; dsimp only; rw [hz1, if_pos (by dsimp only; omega)]; exact ⟨rfl, rfl⟩), hH, rfl⟩
      exact (SubH.cons 2 rfl (SubH.cons 2 rfl (SubH.cons 2 rfl (SubH.cons 2 rfl (SubH.nil _)))))
    · replace hc29 := of_decide_eq_false hc29
      refine wp_skip' ?_
      refine Then_normal ?_
      refine wp_seq' ?_
      refine wp_region' ?_
      refine ops_ro' rfl (ro_move rfl) rfl ?_
      refine ops_ro' rfl (ro_nilCheck rfl) rfl ?_
      refine ops_ro' rfl (ro_fieldAddr fa71_0 rfl) rfl ?_
      refine ops_ro' rfl (ro_load sc51 rfl (Rd.pick 2 rfl (Rd.own rfl))) rfl ?_
      refine ops_ro' rfl (ro_move rfl) rfl ?_
      refine ops_eff' rfl (eff_callM (Pre := []) Tryz.call21 rfl rfl (Split.nil _) (tri_argc htb (list_spec (by first | exact Tv.pick 0 rfl (tree_tv t) | exact Tv.pick 1 rfl (tree_tv t) | exact Tv.pick 2 rfl (tree_tv t) | exact Tv.pick 3 rfl (tree_tv t) | exact Tv.pick 4 rfl (tree_tv t) | exact Tv.pick 5 rfl (tree_tv t)) hW id1 hdl))) rfl ?_
      rintro _ H' ⟨_, ⟨p38, c38, rfl, rfl⟩, hH⟩
      simp only [List.cons_append, List.nil_append, List.eraseIdx_cons_zero, List.eraseIdx_cons_succ, List.set_cons_zero, List.set_cons_succ] at hH
      subst hH
      have hls := listO_thou hW id1
      obtain ⟨⟨ls, e2⟩, hz2⟩ : ∃ z : List Nm × Int, listO t.ns (byId t.ns id1) = z := ⟨_, rfl⟩
      rw [hz2] at hls ⊢
      dsimp only at hls ⊢
      refine ops_ro' rfl (ro_move rfl) rfl ?_
      refine ops_ro' rfl (ro_extract rfl rfl) rfl ?_
      refine ops_ro' rfl (ro_extract rfl rfl) rfl ?_
      refine ops_ro' rfl (ro_assign rfl) rfl ?_
      refine ops_ro' rfl (ro_assign rfl) rfl ?_
      refine ops_nil ?_
      refine Then_normal ?_
      refine wp_seq' ?_
      refine wp_seq' ?_
      refine wp_region' ?_
      refine ops_ro' rfl (ro_move rfl) rfl ?_
      refine ops_ro' rfl (ro_neq rfl rfl rfl) rfl ?_
      refine ops_nil ?_
      refine Then_normal ?_
      refine wp_cond' rfl (fun hc42 => ?_) (fun hc42 => ?_)
      · replace hc42 := of_decide_eq_true hc42
        refine wp_seq' ?_
        refine wp_region' ?_
        refine ops_eff' rfl (eff_call Tryz.call28 rfl rfl (by repeat (first | exact Split.nil _ | apply Split.cons 0 rfl | apply Split.cons 1 rfl | apply Split.cons 2 rfl | apply Split.cons 3 rfl | apply Split.cons 4 rfl | apply Split.cons 5 rfl | apply Split.cons 6 rfl | apply Split.cons 7 rfl | apply Split.cons 8 rfl | apply Split.cons 9 rfl | apply Split.cons 10 rfl | apply Split.cons 11 rfl)) (status_spec 4)) rfl ?_
        rintro _ H' ⟨_, ⟨rfl, rfl⟩, hH⟩
        simp only [List.cons_append, List.nil_append, List.eraseIdx_cons_zero, List.eraseIdx_cons_succ, List.set_cons_zero, List.set_cons_succ] at hH
        subst hH
        refine ops_eff0 rfl (eff_storeA 1 ag32 rfl rfl rfl rfl rfl (Nat.le_of_ble_eq_true rfl) (warm_zero _)) rfl ?_
        rintro _ _ rfl
        simp only [List.set_cons_zero, List.set_cons_succ]
        refine ops_nil ?_
        refine Then_normal ?_
        refine wp_ret' ?_
        refine Then_ret ?_
        refine' doneS_ret (resv1 rfl (rv_cellA ag32 rfl (by first | exact RdN.of_pick 0 rfl rdn_all | exact RdN.of_pick 1 rfl rdn_all | exact RdN.of_pick 2 rfl rdn_all | exact RdN.of_pick 3 rfl rdn_all | exact RdN.of_pick 4 rfl rdn_all | exact RdN.of_pick 5 rfl rdn_all) rfl)) ?_ ?_
        rotate_left 1
        exact ⟨hs, Rk.stat 4, rfl, (by unfold opendirR; rw [hf]; dsimp only; rw [hz1, if_neg (by dsimp only; omega)]; dsimp only; rw [hz2, if_pos (by dsimp only; omega)]; exact ⟨rfl, rfl⟩), hH, rfl⟩
        exact (SubH.cons 3 rfl (SubH.cons 3 rfl (SubH.cons 3 rfl (SubH.cons 3 rfl (SubH.nil _)))))
      · replace hc42 := of_decide_eq_false hc42
        refine wp_skip' ?_
        refine Then_normal ?_
        refine wp_seq' ?_
        refine wp_know (fun w F s => row_caps 0 rfl s) ?_
        intro hcp
        refine wp_region' ?_
        refine ops_ro' rfl (ro_move rfl) rfl ?_
        refine ops_ro' rfl (ro_move rfl) rfl ?_
        refine ops_ro' rfl (ro_move rfl) rfl ?_
        refine ops_ro' rfl (ro_move rfl) rfl ?_
        refine ops_ro' rfl (ro_move rfl) rfl ?_
        refine ops_ro' rfl (ro_build rfl (bld_struct (cs := ((⟨true, id1, true, 0, p38, c38, ls⟩ : Hd)).cs) st67 rfl)) rfl ?_
        refine ops_ro' rfl (ro_nilCheck rfl) rfl ?_
        refine ops_ro' rfl (ro_fieldAddr fa71_1 rfl) rfl ?_
        refine ops_ro' rfl (ro_indexArr Tryz.underlying69 (fun w => Tryz.sizeOf68 w) rfl rfl rfl (by omega)) rfl ?_
        refine ops_ro' rfl (ro_indexArr Tryz.underlying68 (fun w => Tryz.sizeOf67 w) rfl rfl rfl (by omega)) rfl ?_
        refine ops_eff0 rfl (eff_storeA 3 ag67 rfl rfl rfl rfl rfl (by simp only [List.length_cons, flat_len Hd.len, Hd.len, hl]; omega) (warm_zero _)) rfl ?_
        rintro _ _ rfl
        simp only [List.set_cons_zero, List.set_cons_succ]
        rw [ma_set (y := (⟨true, id1, true, 0, p38, c38, ls⟩ : Hd)) hl hs16 hi]
        refine ops_nil ?_
        refine Then_normal ?_
        refine wp_seq' ?_
        refine wp_sub' (L := [St (hs.map rowN), rowN (⟨true, id1, true, 0, p38, c38, ls⟩ : Hd), own b6 (.cells ((Rk.rep ⟨0, 0, [], [], [], At.zero⟩ none 0 none 0).cs).toArray 32 (0, 0)), oMa mb tb (hs.set (s * 16 + i) (⟨true, id1, true, 0, p38, c38, ls⟩ : Hd)), tree t, V]) (by repeat (first | exact SubH.nil _ | refine SubH.cons 0 rfl ?_ | refine SubH.cons 1 rfl ?_ | refine SubH.cons 2 rfl ?_ | refine SubH.cons 3 rfl ?_ | refine SubH.cons 4 rfl ?_ | refine SubH.cons 5 rfl ?_ | refine SubH.cons 6 rfl ?_ | refine SubH.cons 7 rfl ?_ | refine SubH.cons 8 rfl ?_ | refine SubH.cons 9 rfl ?_ | refine SubH.cons 10 rfl ?_ | refine SubH.cons 11 rfl ?_ | refine SubH.cons 12 rfl ?_ | refine SubH.cons 13 rfl ?_ | refine SubH.rown ?_)) ?_
        refine wp_heap (fun w F s => rows_put (hd_some hl hs16 hi) s) ?_
        refine wp_region' ?_
        refine ops_ro' rfl (ro_move rfl) rfl ?_
        refine ops_eff' rfl (eff_call Tryz.call42 rfl rfl (by repeat (first | exact Split.nil _ | apply Split.cons 0 rfl | apply Split.cons 1 rfl | apply Split.cons 2 rfl | apply Split.cons 3 rfl | apply Split.cons 4 rfl | apply Split.cons 5 rfl | apply Split.cons 6 rfl | apply Split.cons 7 rfl | apply Split.cons 8 rfl | apply Split.cons 9 rfl | apply Split.cons 10 rfl | apply Split.cons 11 rfl)) (named_spec i (by omega))) rfl ?_
        rintro _ H' ⟨_, ⟨rfl, rfl⟩, hH⟩
        simp only [List.cons_append, List.nil_append, List.eraseIdx_cons_zero, List.eraseIdx_cons_succ, List.set_cons_zero, List.set_cons_succ] at hH
        subst hH
        refine ops_ro' rfl (ro_build rfl (bld_struct (cs := ((hdlK i).rep none 0 none 0).cs) st32 rfl)) rfl ?_
        refine ops_eff0 rfl (eff_storeA 1 ag32 rfl rfl rfl rfl rfl (Nat.le_of_ble_eq_true rfl) (warm_zero _)) rfl ?_
        rintro _ _ rfl
        simp only [List.set_cons_zero, List.set_cons_succ]
        refine ops_nil ?_
        refine Then_normal ?_
        refine wp_ret' ?_
        refine' doneS_ret (resv1 rfl (rv_cellA ag32 rfl (by first | exact RdN.of_pick 0 rfl rdn_all | exact RdN.of_pick 1 rfl rdn_all | exact RdN.of_pick 2 rfl rdn_all | exact RdN.of_pick 3 rfl rdn_all | exact RdN.of_pick 4 rfl rdn_all | exact RdN.of_pick 5 rfl rdn_all) rfl)) ?_ ?_
        rotate_left 1
        exact ⟨_, hdlK i, rfl, (by unfold opendirR; rw [hf]; dsimp only; rw [hz1, if_neg (by dsimp only; omega)]; dsimp only; rw [hz2, if_neg (by dsimp only; omega)]; exact ⟨p38, c38, hcp, rfl, rfl⟩), hH.set ⟨(by show (0 : Nat) < 4294967296; decide), hls, hcp⟩, rfl⟩
        exact (SubH.cons 2 rfl (SubH.cons 2 rfl (SubH.cons 0 rfl (SubH.cons 1 rfl (SubH.nil _)))))
theorem readdir_spec {V : HProp} {mb tb : Nat} {hs : List Hd} (hH : HsOk hs) (s : Nat) (hs16 : s < 16) (q : Qr) : Tri Tryz.prog 71 [.pointer (some ⟨mb, 0, none⟩), .int .i64 (s : Int), q.v] [oMa mb tb hs, St (hs.map rowN), V]
    (fun v H' => ∃ hs' k np nc, v = (k.rep none 0 np nc).v ∧ readdirR hs s q hs' k ∧ HsOk hs' ∧ H' = [row 87 8 (.slice np k.names.length nc) k.names.length (flat Nm.cs k.names), oMa mb tb hs', St (hs'.map rowN), V]) := by
  have hl := hH.len
  cases hf : findH hs s q.handle with
  | none =>
    refine tri_of_wpS Tryz.func71 rfl Tryz.ntmps71 (by simp) ?_
    refine wp_seq' ?_
    refine wp_region' ?_
    refine ops_eff' rfl (eff_box rfl) rfl ?_
    rintro _ _ ⟨b5, rfl, rfl⟩
    refine ops_eff' rfl (eff_alloc z32) rfl ?_
    rintro _ _ ⟨b6, rfl, rfl⟩
    refine ops_nil ?_
    refine Then_normal ?_
    refine wp_seq' ?_
    refine wp_region' ?_
    refine ops_ro' rfl (ro_move rfl) rfl ?_
    refine ops_ro' rfl (ro_move rfl) rfl ?_
    refine ops_ro' rfl (ro_fieldAddr fa35_3 rfl) rfl ?_
    refine ops_ro' rfl (ro_load sc9 rfl (Rd.pick 1 rfl (Rd.own rfl))) rfl ?_
    refine ops_eff' rfl (eff_callM (Pre := []) Tryz.call68 rfl rfl (Split.nil _) (hfind_spec (by first | exact hv_pick 0 rfl hv_own | exact hv_pick 1 rfl hv_own | exact hv_pick 2 rfl hv_own | exact hv_pick 3 rfl hv_own | exact hv_pick 4 rfl hv_own | exact hv_pick 5 rfl hv_own) hl s hs16 q.handle)) rfl ?_
    rintro _ H' ⟨_, ⟨rfl, rfl⟩, hH⟩
    simp only [List.cons_append, List.nil_append, List.eraseIdx_cons_zero, List.eraseIdx_cons_succ, List.set_cons_zero, List.set_cons_succ] at hH
    subst hH
    rw [hf]
    dsimp only [findV]
    refine ops_ro' rfl (ro_assign rfl) rfl ?_
    refine ops_nil ?_
    refine Then_normal ?_
    refine wp_seq' ?_
    refine wp_block' ?_
    refine wp_seq' ?_
    refine wp_region' ?_
    refine ops_ro' rfl (ro_move rfl) rfl ?_
    refine ops_ro' rfl (ro_ptrEqlNil Tryz.underlying116 rfl rfl rfl) rfl ?_
    refine ops_ro' rfl (ro_move (v := .bool true) rfl) rfl ?_
    refine ops_skip' rfl rfl ?_
    refine ops_skip' rfl rfl ?_
    refine ops_skip' rfl rfl ?_
    refine ops_skip' rfl rfl ?_
    refine ops_skip' rfl rfl ?_
    refine ops_ro' rfl (ro_pick rfl rfl) rfl ?_
    refine ops_ro' rfl (ro_assign rfl) rfl ?_
    refine ops_nil ?_
    refine Then_normal ?_
    refine wp_condT rfl ?_
    refine wp_seq' ?_
    refine wp_heap (fun w F s => nil_row 87 8 w F s) ?_
    refine wp_region' ?_
    refine ops_eff' rfl (eff_call Tryz.call28 rfl rfl (by repeat (first | exact Split.nil _ | apply Split.cons 0 rfl | apply Split.cons 1 rfl | apply Split.cons 2 rfl | apply Split.cons 3 rfl | apply Split.cons 4 rfl | apply Split.cons 5 rfl | apply Split.cons 6 rfl | apply Split.cons 7 rfl | apply Split.cons 8 rfl | apply Split.cons 9 rfl | apply Split.cons 10 rfl | apply Split.cons 11 rfl)) (status_spec 4)) rfl ?_
    rintro _ H' ⟨_, ⟨rfl, rfl⟩, hH⟩
    simp only [List.cons_append, List.nil_append, List.eraseIdx_cons_zero, List.eraseIdx_cons_succ, List.set_cons_zero, List.set_cons_succ] at hH
    subst hH
    refine ops_eff0 rfl (eff_storeA 1 ag32 rfl rfl rfl rfl rfl (Nat.le_of_ble_eq_true rfl) (warm_zero _)) rfl ?_
    rintro _ _ rfl
    simp only [List.set_cons_zero, List.set_cons_succ]
    refine ops_nil ?_
    refine Then_normal ?_
    refine wp_ret' ?_
    refine InBlock_ret ?_
    refine Then_ret ?_
    refine' doneS_ret (resv1 rfl (rv_cellA ag32 rfl (by first | exact RdN.of_pick 0 rfl rdn_all | exact RdN.of_pick 1 rfl rdn_all | exact RdN.of_pick 2 rfl rdn_all | exact RdN.of_pick 3 rfl rdn_all | exact RdN.of_pick 4 rfl rdn_all | exact RdN.of_pick 5 rfl rdn_all) rfl)) ?_ ?_
    rotate_left 1
    exact ⟨hs, Rk.stat 4, none, 0, rfl, (by unfold readdirR; rw [hf]; exact ⟨rfl, rfl⟩), hH, rfl⟩
    exact (SubH.cons 0 rfl (SubH.cons 2 rfl (SubH.cons 2 rfl (SubH.cons 2 rfl (SubH.nil _)))))
  | some i =>
    have hi := find_lt hf
    have hA := hH.at' s i
    have hcap := hA.2.2
    have hnl := hA.2.1
    refine tri_of_wpS Tryz.func71 rfl Tryz.ntmps71 (by simp) ?_
    refine wp_seq' ?_
    refine wp_region' ?_
    refine ops_eff' rfl (eff_box rfl) rfl ?_
    rintro _ _ ⟨b5, rfl, rfl⟩
    refine ops_eff' rfl (eff_alloc z32) rfl ?_
    rintro _ _ ⟨b6, rfl, rfl⟩
    refine ops_nil ?_
    refine Then_normal ?_
    refine wp_seq' ?_
    refine wp_region' ?_
    refine ops_ro' rfl (ro_move rfl) rfl ?_
    refine ops_ro' rfl (ro_move rfl) rfl ?_
    refine ops_ro' rfl (ro_fieldAddr fa35_3 rfl) rfl ?_
    refine ops_ro' rfl (ro_load sc9 rfl (Rd.pick 1 rfl (Rd.own rfl))) rfl ?_
    refine ops_eff' rfl (eff_callM (Pre := []) Tryz.call68 rfl rfl (Split.nil _) (hfind_spec (by first | exact hv_pick 0 rfl hv_own | exact hv_pick 1 rfl hv_own | exact hv_pick 2 rfl hv_own | exact hv_pick 3 rfl hv_own | exact hv_pick 4 rfl hv_own | exact hv_pick 5 rfl hv_own) hl s hs16 q.handle)) rfl ?_
    rintro _ H' ⟨_, ⟨rfl, rfl⟩, hH⟩
    simp only [List.cons_append, List.nil_append, List.eraseIdx_cons_zero, List.eraseIdx_cons_succ, List.set_cons_zero, List.set_cons_succ] at hH
    subst hH
    rw [hf]
    dsimp only [findV]
    refine ops_ro' rfl (ro_assign rfl) rfl ?_
    refine ops_nil ?_
    refine Then_normal ?_
    refine wp_seq' ?_
    refine wp_block' ?_
    refine wp_seq' ?_
    refine wp_region' ?_
    refine ops_ro' rfl (ro_move rfl) rfl ?_
    refine ops_ro' rfl (ro_ptrEqlNil Tryz.underlying116 rfl rfl rfl) rfl ?_
    refine ops_ro' rfl (ro_move (v := .bool false) rfl) rfl ?_
    refine ops_ro' rfl (ro_move rfl) rfl ?_
    refine ops_ro' rfl (ro_nilCheck rfl) rfl ?_
    refine ops_ro' rfl (ro_fieldAddr fa67_2 rfl) rfl ?_
    refine ops_ro' rfl (ro_load sc4 rfl (Rd.pick 2 rfl ((hd_rd0 hv_own hl hs16 hi 2 _ rfl)))) rfl ?_
    refine ops_ro' rfl (ro_not rfl rfl) rfl ?_
    refine ops_ro' rfl (ro_pick rfl rfl) rfl ?_
    refine ops_ro' rfl (ro_assign rfl) rfl ?_
    refine ops_nil ?_
    refine Then_normal ?_
    refine wp_cond' rfl (fun hc15 => ?_) (fun hc15 => ?_)
    · simp only [Bool.and_eq_true, decide_eq_true_eq, Bool.not_eq_true', decide_eq_false_iff_not, bne_iff_ne, ne_eq] at hc15
      refine wp_seq' ?_
      refine wp_heap (fun w F s => nil_row 87 8 w F s) ?_
      refine wp_region' ?_
      refine ops_eff' rfl (eff_call Tryz.call28 rfl rfl (by repeat (first | exact Split.nil _ | apply Split.cons 0 rfl | apply Split.cons 1 rfl | apply Split.cons 2 rfl | apply Split.cons 3 rfl | apply Split.cons 4 rfl | apply Split.cons 5 rfl | apply Split.cons 6 rfl | apply Split.cons 7 rfl | apply Split.cons 8 rfl | apply Split.cons 9 rfl | apply Split.cons 10 rfl | apply Split.cons 11 rfl)) (status_spec 4)) rfl ?_
      rintro _ H' ⟨_, ⟨rfl, rfl⟩, hH⟩
      simp only [List.cons_append, List.nil_append, List.eraseIdx_cons_zero, List.eraseIdx_cons_succ, List.set_cons_zero, List.set_cons_succ] at hH
      subst hH
      refine ops_eff0 rfl (eff_storeA 1 ag32 rfl rfl rfl rfl rfl (Nat.le_of_ble_eq_true rfl) (warm_zero _)) rfl ?_
      rintro _ _ rfl
      simp only [List.set_cons_zero, List.set_cons_succ]
      refine ops_nil ?_
      refine Then_normal ?_
      refine wp_ret' ?_
      refine InBlock_ret ?_
      refine Then_ret ?_
      refine' doneS_ret (resv1 rfl (rv_cellA ag32 rfl (by first | exact RdN.of_pick 0 rfl rdn_all | exact RdN.of_pick 1 rfl rdn_all | exact RdN.of_pick 2 rfl rdn_all | exact RdN.of_pick 3 rfl rdn_all | exact RdN.of_pick 4 rfl rdn_all | exact RdN.of_pick 5 rfl rdn_all) rfl)) ?_ ?_
      rotate_left 1
      exact ⟨hs, Rk.stat 4, none, 0, rfl, (by unfold readdirR; rw [hf]; dsimp only; rw [if_pos (by simpa using hc15)]; exact ⟨rfl, rfl⟩), hH, rfl⟩
      exact (SubH.cons 0 rfl (SubH.cons 2 rfl (SubH.cons 2 rfl (SubH.cons 2 rfl (SubH.nil _)))))
    · simp only [Bool.and_eq_false_iff, decide_eq_false_iff_not, Bool.not_eq_false', decide_eq_true_eq] at hc15
      refine wp_seq' ?_
      refine wp_region' ?_
      refine ops_ro' rfl (ro_move rfl) rfl ?_
      refine ops_ro' rfl (ro_nilCheck rfl) rfl ?_
      refine ops_ro' rfl (ro_fieldAddr fa67_4 rfl) rfl ?_
      refine ops_ro' rfl (ro_load sc26 rfl (Rd.pick 2 rfl ((hd_rd0 hv_own hl hs16 hi 4 _ rfl)))) rfl ?_
      refine ops_ro' rfl (ro_sliceLen Tryz.underlying26 rfl) rfl ?_
      refine ops_ro' rfl (ro_eql rfl rfl rfl) rfl ?_
      refine ops_ro' rfl (ro_assign rfl) rfl ?_
      refine ops_nil ?_
      refine Then_normal ?_
      refine wp_cond' rfl (fun hc26 => ?_) (fun hc26 => ?_)
      · replace hc26 := of_decide_eq_true hc26
        refine wp_seq' ?_
        refine wp_heap (fun w F s => nil_row 87 8 w F s) ?_
        refine wp_region' ?_
        refine ops_eff' rfl (eff_call Tryz.call28 rfl rfl (by repeat (first | exact Split.nil _ | apply Split.cons 0 rfl | apply Split.cons 1 rfl | apply Split.cons 2 rfl | apply Split.cons 3 rfl | apply Split.cons 4 rfl | apply Split.cons 5 rfl | apply Split.cons 6 rfl | apply Split.cons 7 rfl | apply Split.cons 8 rfl | apply Split.cons 9 rfl | apply Split.cons 10 rfl | apply Split.cons 11 rfl)) (status_spec 1)) rfl ?_
        rintro _ H' ⟨_, ⟨rfl, rfl⟩, hH⟩
        simp only [List.cons_append, List.nil_append, List.eraseIdx_cons_zero, List.eraseIdx_cons_succ, List.set_cons_zero, List.set_cons_succ] at hH
        subst hH
        refine ops_eff0 rfl (eff_storeA 1 ag32 rfl rfl rfl rfl rfl (Nat.le_of_ble_eq_true rfl) (warm_zero _)) rfl ?_
        rintro _ _ rfl
        simp only [List.set_cons_zero, List.set_cons_succ]
        refine ops_nil ?_
        refine Then_normal ?_
        refine wp_ret' ?_
        refine InBlock_ret ?_
        refine Then_ret ?_
        refine' doneS_ret (resv1 rfl (rv_cellA ag32 rfl (by first | exact RdN.of_pick 0 rfl rdn_all | exact RdN.of_pick 1 rfl rdn_all | exact RdN.of_pick 2 rfl rdn_all | exact RdN.of_pick 3 rfl rdn_all | exact RdN.of_pick 4 rfl rdn_all | exact RdN.of_pick 5 rfl rdn_all) rfl)) ?_ ?_
        rotate_left 1
        exact ⟨hs, Rk.stat 1, none, 0, rfl, (by unfold readdirR; rw [hf]; dsimp only; rw [if_neg (by simpa using hc15), if_pos (List.eq_nil_of_length_eq_zero (by omega))]; exact ⟨rfl, rfl⟩), hH, rfl⟩
        exact (SubH.cons 0 rfl (SubH.cons 2 rfl (SubH.cons 2 rfl (SubH.cons 2 rfl (SubH.nil _)))))
      · replace hc26 := of_decide_eq_false hc26
        refine wp_skip' ?_
        refine InBlock_normal ?_
        refine Then_normal ?_
        refine wp_seq' ?_
        refine wp_region' ?_
        refine ops_ro' rfl (ro_move rfl) rfl ?_
        refine ops_ro' rfl (ro_nilCheck rfl) rfl ?_
        refine ops_ro' rfl (ro_fieldAddr fa67_4 rfl) rfl ?_
        refine ops_ro' rfl (ro_load sc26 rfl (Rd.pick 2 rfl ((hd_rd0 hv_own hl hs16 hi 4 _ rfl)))) rfl ?_
        refine ops_ro' rfl (ro_sliceLen Tryz.underlying26 rfl) rfl ?_
        refine ops_ro' rfl (ro_min rfl rfl (show (if (8 : Int) < (((hdA hs s i).names.length : Nat) : Int) then (8 : Int) else (((hdA hs s i).names.length : Nat) : Int)) = ((((hdA hs s i).names.take 8).length : Nat) : Int) by rw [List.length_take]; split <;> omega)) rfl ?_
        refine ops_ro' rfl (ro_assign rfl) rfl ?_
        refine ops_nil ?_
        refine Then_normal ?_
        refine wp_seq' ?_
        refine wp_region' ?_
        refine ops_ro' rfl (ro_move rfl) rfl ?_
        refine ops_ro' rfl (ro_nilCheck rfl) rfl ?_
        refine ops_ro' rfl (ro_fieldAddr fa67_4 rfl) rfl ?_
        refine ops_ro' rfl (ro_load sc26 rfl (Rd.pick 2 rfl ((hd_rd0 hv_own hl hs16 hi 4 _ rfl)))) rfl ?_
        refine ops_ro' rfl (ro_move rfl) rfl ?_
        refine ops_eff' rfl (eff_sliceF 3 rfl Nm.len sl26 rfl ((rows_vw (hd_some hl hs16 hi))) rfl (bnd_of rfl rfl) (by omega) (by rw [List.length_take]; omega) hcap) rfl ?_
        rintro _ _ ⟨p45, rfl, hv45, hn45, rfl⟩
        have e45 : ((hdA hs s i).names.take 8).length - 0 = ((hdA hs s i).names.take 8).length := Nat.sub_zero _
        rw [List.drop_zero, e45, take_tl] at hv45 ⊢
        refine ops_eff' rfl (eff_callM (Pre := []) Tryz.call129 rfl rfl (Split.nil _) (cloneN _ p45 _ _ (flat Nm.cs ((hdA hs s i).names.take 8)) (by first | exact (Vw.pick 0 rfl (rows_vw (hd_some hl hs16 hi))) | exact (Vw.pick 1 rfl (rows_vw (hd_some hl hs16 hi))) | exact (Vw.pick 2 rfl (rows_vw (hd_some hl hs16 hi))) | exact (Vw.pick 3 rfl (rows_vw (hd_some hl hs16 hi))) | exact (Vw.pick 4 rfl (rows_vw (hd_some hl hs16 hi))) | exact (Vw.pick 5 rfl (rows_vw (hd_some hl hs16 hi))) | exact (Vw.pick 0 rfl hv45) | exact (Vw.pick 1 rfl hv45) | exact (Vw.pick 2 rfl hv45) | exact (Vw.pick 3 rfl hv45) | exact (Vw.pick 4 rfl hv45) | exact (Vw.pick 5 rfl hv45) | exact (Vw.pick 0 rfl hv53) | exact (Vw.pick 1 rfl hv53) | exact (Vw.pick 2 rfl hv53) | exact (Vw.pick 3 rfl hv53) | exact (Vw.pick 4 rfl hv53) | exact (Vw.pick 5 rfl hv53) | exact Vw.pick 0 rfl Vw.row | exact Vw.pick 1 rfl Vw.row | exact Vw.pick 2 rfl Vw.row | exact Vw.pick 3 rfl Vw.row | exact Vw.pick 4 rfl Vw.row | exact Vw.pick 5 rfl Vw.row | exact Vw.nil _ | exact Vw.empty _ _) (by rw [flat_len Nm.len]) (flat_one' Nm.one _) (by rw [List.length_take]; omega))) rfl ?_
        rintro _ H' ⟨_, ⟨p46, c46, rfl, rfl⟩, hH⟩
        simp only [List.cons_append, List.nil_append, List.eraseIdx_cons_zero, List.eraseIdx_cons_succ, List.set_cons_zero, List.set_cons_succ] at hH
        subst hH
        refine ops_ro' rfl (ro_assign rfl) rfl ?_
        refine ops_nil ?_
        refine Then_normal ?_
        refine wp_seq' ?_
        refine wp_region' ?_
        refine ops_ro' rfl (ro_move rfl) rfl ?_
        refine ops_ro' rfl (ro_move rfl) rfl ?_
        refine ops_ro' rfl (ro_nilCheck rfl) rfl ?_
        refine ops_ro' rfl (ro_fieldAddr fa67_4 rfl) rfl ?_
        refine ops_ro' rfl (ro_load sc26 rfl (Rd.pick 3 rfl ((hd_rd0 hv_own hl hs16 hi 4 _ rfl)))) rfl ?_
        refine ops_ro' rfl (ro_move rfl) rfl ?_
        refine ops_eff' rfl (eff_sliceF 4 rfl Nm.len sl26 rfl ((rows_vw (hd_some hl hs16 hi))) (bnd_of rfl rfl) rfl (by rw [List.length_take]; omega) (by omega) hcap) rfl ?_
        rintro _ _ ⟨p53, rfl, hv53, hn53, rfl⟩
        try rw [drop_tl1] at hv53
        try rw [drop_tl2] at hv53
        try rw [drop_tl1]
        try rw [drop_tl2]
        refine ops_eff' rfl (eff_callM (Pre := []) Tryz.call129 rfl rfl (Split.nil _) (cloneN _ p53 _ _ (flat Nm.cs ((hdA hs s i).names.drop 8)) (by first | exact (Vw.pick 0 rfl (rows_vw (hd_some hl hs16 hi))) | exact (Vw.pick 1 rfl (rows_vw (hd_some hl hs16 hi))) | exact (Vw.pick 2 rfl (rows_vw (hd_some hl hs16 hi))) | exact (Vw.pick 3 rfl (rows_vw (hd_some hl hs16 hi))) | exact (Vw.pick 4 rfl (rows_vw (hd_some hl hs16 hi))) | exact (Vw.pick 5 rfl (rows_vw (hd_some hl hs16 hi))) | exact (Vw.pick 0 rfl hv45) | exact (Vw.pick 1 rfl hv45) | exact (Vw.pick 2 rfl hv45) | exact (Vw.pick 3 rfl hv45) | exact (Vw.pick 4 rfl hv45) | exact (Vw.pick 5 rfl hv45) | exact (Vw.pick 0 rfl hv53) | exact (Vw.pick 1 rfl hv53) | exact (Vw.pick 2 rfl hv53) | exact (Vw.pick 3 rfl hv53) | exact (Vw.pick 4 rfl hv53) | exact (Vw.pick 5 rfl hv53) | exact Vw.pick 0 rfl Vw.row | exact Vw.pick 1 rfl Vw.row | exact Vw.pick 2 rfl Vw.row | exact Vw.pick 3 rfl Vw.row | exact Vw.pick 4 rfl Vw.row | exact Vw.pick 5 rfl Vw.row | exact Vw.nil _ | exact Vw.empty _ _) (by rw [flat_len Nm.len]) (flat_one' Nm.one _) (by rw [List.length_drop]; omega))) rfl ?_
        rintro _ H' ⟨_, ⟨p54, c54, rfl, rfl⟩, hH⟩
        simp only [List.cons_append, List.nil_append, List.eraseIdx_cons_zero, List.eraseIdx_cons_succ, List.set_cons_zero, List.set_cons_succ] at hH
        subst hH
        refine ops_ro' rfl (ro_nilCheck rfl) rfl ?_
        refine ops_ro' rfl (ro_fieldAddr fa67_4 rfl) rfl ?_
        refine ops_eff0 rfl (eff_store 4 sc26 rfl rfl rfl rfl (by simp only [List.length_cons, flat_len Hd.len, hl]; omega) (warm_zero _)) rfl ?_
        rintro _ _ rfl
        simp only [List.set_cons_zero, List.set_cons_succ]
        rw [ma_field4 (v := .slice p54 ((hdA hs s i).names.drop 8).length c54) (y := (⟨(hdA hs s i).used, (hdA hs s i).id, (hdA hs s i).dir, (hdA hs s i).flags, p54, c54, (hdA hs s i).names.drop 8⟩ : Hd)) hl hs16 hi rfl]
        refine ops_nil ?_
        refine Then_normal ?_
        refine wp_seq' ?_
        refine wp_know (fun w F s => row_caps 0 rfl s) ?_
        intro hc54
        refine wp_sub' (L := [St (hs.map rowN), rowN (⟨(hdA hs s i).used, (hdA hs s i).id, (hdA hs s i).dir, (hdA hs s i).flags, p54, c54, (hdA hs s i).names.drop 8⟩ : Hd), row 87 8 (.slice p46 ((hdA hs s i).names.take 8).length c46) ((hdA hs s i).names.take 8).length (flat Nm.cs ((hdA hs s i).names.take 8)), own b6 (.cells ((Rk.rep ⟨0, 0, [], [], [], At.zero⟩ none 0 none 0).cs).toArray 32 (0, 0)), oMa mb tb (hs.set (s * 16 + i) (⟨(hdA hs s i).used, (hdA hs s i).id, (hdA hs s i).dir, (hdA hs s i).flags, p54, c54, (hdA hs s i).names.drop 8⟩ : Hd)), V]) (by repeat (first | exact SubH.nil _ | refine SubH.cons 0 rfl ?_ | refine SubH.cons 1 rfl ?_ | refine SubH.cons 2 rfl ?_ | refine SubH.cons 3 rfl ?_ | refine SubH.cons 4 rfl ?_ | refine SubH.cons 5 rfl ?_ | refine SubH.cons 6 rfl ?_ | refine SubH.cons 7 rfl ?_ | refine SubH.cons 8 rfl ?_ | refine SubH.cons 9 rfl ?_ | refine SubH.cons 10 rfl ?_ | refine SubH.cons 11 rfl ?_ | refine SubH.cons 12 rfl ?_ | refine SubH.cons 13 rfl ?_ | refine SubH.rown ?_)) ?_
        refine wp_heap (fun w F s => rows_put (hd_some hl hs16 hi) s) ?_
        refine wp_region' ?_
        refine ops_ro' rfl (ro_move rfl) rfl ?_
        refine ops_ro' rfl (ro_build rfl (bld_struct (cs := (Rk.rep ⟨4, 0, [], [], (hdA hs s i).names.take 8, At.zero⟩ none 0 p46 c46).cs) st32 rfl)) rfl ?_
        refine ops_eff0 rfl (eff_storeA 2 ag32 rfl rfl rfl rfl rfl (Nat.le_of_ble_eq_true rfl) (warm_zero _)) rfl ?_
        rintro _ _ rfl
        simp only [List.set_cons_zero, List.set_cons_succ]
        refine ops_nil ?_
        refine Then_normal ?_
        refine wp_ret' ?_
        refine' doneS_ret (resv1 rfl (rv_cellA ag32 rfl (by first | exact RdN.of_pick 0 rfl rdn_all | exact RdN.of_pick 1 rfl rdn_all | exact RdN.of_pick 2 rfl rdn_all | exact RdN.of_pick 3 rfl rdn_all | exact RdN.of_pick 4 rfl rdn_all | exact RdN.of_pick 5 rfl rdn_all) rfl)) ?_ ?_
        rotate_left 1
        exact ⟨hs.set (s * 16 + i) (⟨(hdA hs s i).used, (hdA hs s i).id, (hdA hs s i).dir, (hdA hs s i).flags, p54, c54, (hdA hs s i).names.drop 8⟩ : Hd), ⟨4, 0, [], [], (hdA hs s i).names.take 8, At.zero⟩, p46, c46, rfl, (by unfold readdirR; rw [hf]; dsimp only; rw [if_neg (by simpa using hc15), if_neg (fun h => by rw [h] at hc26; exact hc26 rfl)]; exact ⟨p54, c54, hc54, rfl, rfl⟩), HsOk.set hH (y := (⟨(hdA hs s i).used, (hdA hs s i).id, (hdA hs s i).dir, (hdA hs s i).flags, p54, c54, (hdA hs s i).names.drop 8⟩ : Hd)) ⟨hA.1, (by show (List.drop 8 _).length ≤ 1000; rw [List.length_drop]; omega), hc54⟩, rfl⟩
        exact (SubH.cons 1 rfl (SubH.cons 2 rfl (SubH.cons 0 rfl (SubH.cons 1 rfl (SubH.nil _)))))

end Go.Proofs.YtlefpllcgcicpaaGreatDoor
