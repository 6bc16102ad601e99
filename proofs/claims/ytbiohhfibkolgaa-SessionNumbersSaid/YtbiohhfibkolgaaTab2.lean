/-
  The functions of the table: a copy, New, Ask.
-/
import Derived.Test.YtbiohhfibkolgaaTab
namespace Go.Proofs.Ytbiohhfibkolgaa
open Go.Sx
set_option linter.unusedVariables false
set_option linter.unusedSimpArgs false
set_option maxRecDepth 100000
set_option maxHeartbeats 4000000

theorem copied_spec (V : HProp) (r : Rp) (hV : r.In V) (hd : r.c.d.length ≤ 140737488355328) (hn : r.c.ns.length ≤ 2513169434916) : Tri Try.prog 50 [r.v] [V] (fun v H' => ∃ K, (∃ r' : Rp, r'.c = r.c ∧ v = r'.v ∧ K = [r'.rd, r'.rn]) ∧ H' = K ++ [V]) := by
  refine tri_of_wpS Try.func50 rfl Try.ntmps50 (by simp) ?_
  refine wp_seq' ?_
  refine wp_region' ?_
  refine ops_eff' rfl (eff_box rfl) rfl ?_
  rintro _ _ ⟨b1, rfl, rfl⟩
  refine ops_eff' rfl (eff_alloc z32) rfl ?_
  rintro _ _ ⟨b2, rfl, rfl⟩
  refine ops_nil ?_
  refine Then_normal ?_
  refine wp_seq' ?_
  refine wp_draw 7 (by kernel_rfl) (Split.cons 1 rfl (Split.nil _)) ?_
  refine any_ro' (i := 0) (by kernel_rfl) rfl rfl (ro_fieldAddr fa32_3 rfl) rfl (fun _ _ _ h => h) ?_
  refine any_ro' (i := 1) (by kernel_rfl) rfl rfl (ro_load sc25 rfl (Rd.pick 0 rfl (Rd.own rfl))) rfl (fun _ _ _ h => h) ?_
  refine any_ro' (i := 3) (by kernel_rfl) rfl rfl (ro_fieldAddr fa32_4 rfl) rfl (fun _ _ _ h => h) ?_
  refine any_ro' (i := 4) (by kernel_rfl) rfl rfl (ro_load sc26 rfl (Rd.pick 0 rfl (Rd.own rfl))) rfl (fun _ _ _ h => h) ?_
  refine any_eff' (i := 2) (by kernel_rfl) rfl rfl (eff_call Try.call54 rfl rfl (by repeat (first | exact Split.nil _ | apply Split.cons 0 rfl | apply Split.cons 1 rfl | apply Split.cons 2 rfl | apply Split.cons 3 rfl | apply Split.cons 4 rfl | apply Split.cons 5 rfl | apply Split.cons 6 rfl | apply Split.cons 7 rfl | apply Split.cons 8 rfl | apply Split.cons 9 rfl | apply Split.cons 10 rfl | apply Split.cons 11 rfl)) (cloneB V r.pd r.c.d.length r.cd (cel r.c.d) hV.d (by rw [cel_length, Nat.mul_one]) (cel_one _) hd)) rfl ?_
  rintro _ H' ⟨_, ⟨pd, cd, rfl, rfl⟩, hH⟩
  simp only [List.cons_append, List.nil_append, List.eraseIdx_cons_zero, List.eraseIdx_cons_succ, List.set_cons_zero, List.set_cons_succ] at hH
  subst hH
  refine any_ro' (i := 6) (by kernel_rfl) rfl rfl (ro_fieldAddr fa32_3 rfl) rfl (fun _ _ _ h => h) ?_
  refine any_eff' (i := 5) (by kernel_rfl) rfl rfl (eff_call Try.call78 rfl rfl (by repeat (first | exact Split.nil _ | apply Split.cons 0 rfl | apply Split.cons 1 rfl | apply Split.cons 2 rfl | apply Split.cons 3 rfl | apply Split.cons 4 rfl | apply Split.cons 5 rfl | apply Split.cons 6 rfl | apply Split.cons 7 rfl | apply Split.cons 8 rfl | apply Split.cons 9 rfl | apply Split.cons 10 rfl | apply Split.cons 11 rfl)) (cloneN V r.pn r.c.ns.length r.cn (ncs r.c.ns) hV.n (ncs_len _) (flat_one' Nm.one _) hn)) rfl ?_
  rintro _ H' ⟨_, ⟨pn, cn, rfl, rfl⟩, hH⟩
  simp only [List.cons_append, List.nil_append, List.eraseIdx_cons_zero, List.eraseIdx_cons_succ, List.set_cons_zero, List.set_cons_succ] at hH
  subst hH
  refine any_unlock (m' := 10) (L' := []) (by kernel_rfl) unlock ?_
  simp only [List.cons_append, List.nil_append, List.append_nil]
  refine any_eff0 (i := 7) (by kernel_rfl) rfl rfl (eff_store 0 sc25 rfl rfl rfl rfl (Nat.le_of_ble_eq_true rfl) (warm_zero _)) rfl ?_
  rintro _ _ rfl
  refine any_ro' (i := 8) (by kernel_rfl) rfl rfl (ro_fieldAddr fa32_4 rfl) rfl (fun _ _ _ h => h) ?_
  refine any_eff0 (i := 9) (by kernel_rfl) rfl rfl (eff_store 0 sc26 rfl rfl rfl rfl (Nat.le_of_ble_eq_true rfl) (warm_zero _)) rfl ?_
  rintro _ _ rfl
  refine any_doneH (by kernel_rfl) ?_
  refine Then_normal ?_
  refine wp_seq' ?_
  refine wp_region' ?_
  refine ops_ro' rfl (ro_loadA ag32 rfl (RdN.of_pick 0 rfl rdn_all) rfl) rfl ?_
  refine ops_eff0 rfl (eff_storeA 4 ag32 rfl rfl rfl rfl rfl (Nat.le_of_ble_eq_true rfl) (warm_zero _)) rfl ?_
  rintro _ _ rfl
  refine ops_nil ?_
  refine Then_normal ?_
  refine wp_ret' ?_
  refine' doneS_ret (resv1 rfl (rv_cellA ag32 rfl (by first | exact RdN.of_pick 0 rfl rdn_all | exact RdN.of_pick 1 rfl rdn_all | exact RdN.of_pick 2 rfl rdn_all | exact RdN.of_pick 3 rfl rdn_all | exact RdN.of_pick 4 rfl rdn_all | exact RdN.of_pick 5 rfl rdn_all | exact RdN.of_pick 6 rfl rdn_all | exact RdN.of_pick 7 rfl rdn_all | exact RdN.of_pick 8 rfl rdn_all | exact RdN.of_pick 9 rfl rdn_all) rfl)) ?_ ?_
  rotate_left 1
  exact ⟨_, ⟨⟨r.c, pd, cd, pn, cn⟩, rfl, rfl, rfl⟩, rfl⟩
  exact (SubH.cons 3 rfl (SubH.cons 1 rfl (SubH.cons 1 rfl (SubH.nil _))))
theorem zero_tab : Zero Try.prog 96 (Value.agg (tcs (List.replicate 16 En.zero)).toArray) := fun w => by
  rw [Try.zeroValue96 w]; rfl
theorem st_tab : StructT Try.prog 96 (tcs (List.replicate 16 En.zero)) [(0, 208)] := ⟨zero_tab, ⟨_, Try.underlying96, fun w => by simp [Try.sizeOf94]⟩⟩
theorem tnew_spec : Tri Try.prog 14 [] [] (fun v H' => ∃ bt, v = .pointer (some ⟨bt, 0, none⟩) ∧ H' = [tab bt (List.replicate 16 En.zero), owns (List.replicate 16 En.zero)]) := by
  refine tri_of_wpS Try.func14 rfl Try.ntmps14 (by simp) ?_
  refine wp_seq' ?_
  refine wp_sub' (own_zeros 16 []) ?_
  refine wp_region' ?_
  refine ops_ro' rfl (ro_assign rfl) rfl ?_
  refine ops_nil ?_
  refine Then_normal ?_
  refine wp_seq' ?_
  refine wp_region' ?_
  refine ops_ro' rfl (ro_build rfl (bld_struct (cs := tcs (List.replicate 16 En.zero)) st_tab rfl)) rfl ?_
  refine ops_eff' rfl (eff_box rfl) rfl ?_
  rintro _ _ ⟨b2, rfl, rfl⟩
  refine ops_ro' rfl (ro_assign rfl) rfl ?_
  refine ops_nil ?_
  refine Then_normal ?_
  refine wp_ret' ?_
  refine' doneS_ret (res1 rfl rfl) ?_ ?_
  rotate_left 1
  exact ⟨_, rfl, rfl⟩
  exact SubH.refl _
/-- the slices are not too long -/
abbrev Short (E : List En) : Prop := ∀ (c : Nat) (e : En), E[c]? = some e → e.r.c.d.length ≤ 140737488355328 ∧ e.r.c.ns.length ≤ 2513169434916
/-- what Ask tells: how, and the reply -/
def Told (E : List En) (client seq : Int) (how : Int) (r : Rp) : Prop :=
  (how = 0 ∧ r = Rp.zero ∧ (client < 0 ∨ 16 ≤ client ∨ seq < 1 ∨ 1073741824 < seq)) ∨
  ∃ (c : Nat) (e : En), client = (c : Int) ∧ E[c]? = some e ∧ ((how = 1 ∧ r = Rp.zero ∧ 1 ≤ seq ∧ seq ≤ 1073741824 ∧ e.seq < seq) ∨ (how = 2 ∧ r.c = e.r.c ∧ 1 ≤ seq ∧ seq ≤ 1073741824 ∧ seq = e.seq) ∨ (how = 3 ∧ r = Rp.zero ∧ 1 ≤ seq ∧ seq ≤ 1073741824 ∧ seq < e.seq))
theorem ask_spec (bt : Nat) (E : List En) (hE : E.length = 16) (hl : Short E) (client seq : Int) :
    Tri Try.prog 15 [.pointer (some ⟨bt, 0, none⟩), .int .i64 client, .int .i64 seq] [tab bt E, owns E] (fun v H' => ∃ how r, v = .tuple #[.int .i64 how, r.v] ∧ Told E client seq how r ∧ H' = [r.rd, r.rn, tab bt E, owns E]) := by
  refine tri_of_wpS Try.func15 rfl Try.ntmps15 (by simp) ?_
  refine wp_seq' ?_
  refine wp_region' ?_
  refine ops_ro' rfl (ro_assign rfl) rfl ?_
  refine ops_eff' rfl (eff_alloc z32) rfl ?_
  rintro _ _ ⟨b7, rfl, rfl⟩
  refine ops_nil ?_
  refine Then_normal ?_
  refine wp_seq' ?_
  refine wp_block' ?_
  refine wp_seq' ?_
  refine wp_region' ?_
  refine ops_ro' rfl (ro_move rfl) rfl ?_
  refine ops_ro' rfl (ro_lss rfl rfl rfl) rfl ?_
  refine ops_split rfl rfl rfl (fun hg11 => ?_) (fun hg11 => ?_)
  · replace hg11 := of_decide_eq_true hg11
    refine ops_skip' rfl rfl ?_
    refine ops_skip' rfl rfl ?_
    refine ops_ro' rfl (ro_pick rfl rfl) rfl ?_
    refine ops_ro' rfl (ro_move (v := .bool true) rfl) rfl ?_
    refine ops_skip' rfl rfl ?_
    refine ops_skip' rfl rfl ?_
    refine ops_ro' rfl (ro_pick rfl rfl) rfl ?_
    refine ops_ro' rfl (ro_move (v := .bool true) rfl) rfl ?_
    refine ops_skip' rfl rfl ?_
    refine ops_skip' rfl rfl ?_
    refine ops_ro' rfl (ro_pick rfl rfl) rfl ?_
    refine ops_ro' rfl (ro_assign rfl) rfl ?_
    refine ops_nil ?_
    refine Then_normal ?_
    refine wp_condT rfl ?_
    refine wp_seq' ?_
    refine wp_region' ?_
    refine ops_ro' rfl (ro_build rfl (bld_struct (cs := Rp.zero.cs) st32 rfl)) rfl ?_
    refine ops_ro' rfl (ro_assign rfl) rfl ?_
    refine ops_eff0 rfl (eff_storeA 0 ag32 rfl rfl rfl rfl rfl (Nat.le_of_ble_eq_true rfl) (warm_zero _)) rfl ?_
    rintro _ _ rfl
    refine ops_nil ?_
    refine Then_normal ?_
    refine wp_ret' ?_
    refine InBlock_ret ?_
    refine Then_ret ?_
    refine' doneS_ret (resv2 rfl (rv_tmp rfl) (rv_cellA ag32 rfl (by first | exact RdN.of_pick 0 rfl rdn_all | exact RdN.of_pick 1 rfl rdn_all | exact RdN.of_pick 2 rfl rdn_all | exact RdN.of_pick 3 rfl rdn_all | exact RdN.of_pick 4 rfl rdn_all | exact RdN.of_pick 5 rfl rdn_all | exact RdN.of_pick 6 rfl rdn_all | exact RdN.of_pick 7 rfl rdn_all | exact RdN.of_pick 8 rfl rdn_all | exact RdN.of_pick 9 rfl rdn_all) rfl)) ?_ ?_
    rotate_left 1
    exact ⟨0, Rp.zero, rfl, .inl ⟨rfl, rfl, by omega⟩, rfl⟩
    exact (SubH.rown (SubH.rown (SubH.cons 1 rfl (SubH.cons 1 rfl (SubH.nil _)))))
  · replace hg11 := of_decide_eq_false hg11
    refine ops_ro' rfl (ro_move rfl) rfl ?_
    refine ops_ro' rfl (ro_geq rfl rfl rfl) rfl ?_
    refine ops_ro' rfl (ro_pick rfl rfl) rfl ?_
    refine ops_split rfl rfl rfl (fun hg15 => ?_) (fun hg15 => ?_)
    · replace hg15 := of_decide_eq_true hg15
      refine ops_skip' rfl rfl ?_
      refine ops_skip' rfl rfl ?_
      refine ops_ro' rfl (ro_pick rfl rfl) rfl ?_
      refine ops_ro' rfl (ro_move (v := .bool true) rfl) rfl ?_
      refine ops_skip' rfl rfl ?_
      refine ops_skip' rfl rfl ?_
      refine ops_ro' rfl (ro_pick rfl rfl) rfl ?_
      refine ops_ro' rfl (ro_assign rfl) rfl ?_
      refine ops_nil ?_
      refine Then_normal ?_
      refine wp_condT rfl ?_
      refine wp_seq' ?_
      refine wp_region' ?_
      refine ops_ro' rfl (ro_build rfl (bld_struct (cs := Rp.zero.cs) st32 rfl)) rfl ?_
      refine ops_ro' rfl (ro_assign rfl) rfl ?_
      refine ops_eff0 rfl (eff_storeA 0 ag32 rfl rfl rfl rfl rfl (Nat.le_of_ble_eq_true rfl) (warm_zero _)) rfl ?_
      rintro _ _ rfl
      refine ops_nil ?_
      refine Then_normal ?_
      refine wp_ret' ?_
      refine InBlock_ret ?_
      refine Then_ret ?_
      refine' doneS_ret (resv2 rfl (rv_tmp rfl) (rv_cellA ag32 rfl (by first | exact RdN.of_pick 0 rfl rdn_all | exact RdN.of_pick 1 rfl rdn_all | exact RdN.of_pick 2 rfl rdn_all | exact RdN.of_pick 3 rfl rdn_all | exact RdN.of_pick 4 rfl rdn_all | exact RdN.of_pick 5 rfl rdn_all | exact RdN.of_pick 6 rfl rdn_all | exact RdN.of_pick 7 rfl rdn_all | exact RdN.of_pick 8 rfl rdn_all | exact RdN.of_pick 9 rfl rdn_all) rfl)) ?_ ?_
      rotate_left 1
      exact ⟨0, Rp.zero, rfl, .inl ⟨rfl, rfl, by omega⟩, rfl⟩
      exact (SubH.rown (SubH.rown (SubH.cons 1 rfl (SubH.cons 1 rfl (SubH.nil _)))))
    · replace hg15 := of_decide_eq_false hg15
      refine ops_ro' rfl (ro_move rfl) rfl ?_
      refine ops_ro' rfl (ro_lss rfl rfl rfl) rfl ?_
      refine ops_ro' rfl (ro_pick rfl rfl) rfl ?_
      refine ops_split rfl rfl rfl (fun hg19 => ?_) (fun hg19 => ?_)
      · replace hg19 := of_decide_eq_true hg19
        refine ops_skip' rfl rfl ?_
        refine ops_skip' rfl rfl ?_
        refine ops_ro' rfl (ro_pick rfl rfl) rfl ?_
        refine ops_ro' rfl (ro_assign rfl) rfl ?_
        refine ops_nil ?_
        refine Then_normal ?_
        refine wp_condT rfl ?_
        refine wp_seq' ?_
        refine wp_region' ?_
        refine ops_ro' rfl (ro_build rfl (bld_struct (cs := Rp.zero.cs) st32 rfl)) rfl ?_
        refine ops_ro' rfl (ro_assign rfl) rfl ?_
        refine ops_eff0 rfl (eff_storeA 0 ag32 rfl rfl rfl rfl rfl (Nat.le_of_ble_eq_true rfl) (warm_zero _)) rfl ?_
        rintro _ _ rfl
        refine ops_nil ?_
        refine Then_normal ?_
        refine wp_ret' ?_
        refine InBlock_ret ?_
        refine Then_ret ?_
        refine' doneS_ret (resv2 rfl (rv_tmp rfl) (rv_cellA ag32 rfl (by first | exact RdN.of_pick 0 rfl rdn_all | exact RdN.of_pick 1 rfl rdn_all | exact RdN.of_pick 2 rfl rdn_all | exact RdN.of_pick 3 rfl rdn_all | exact RdN.of_pick 4 rfl rdn_all | exact RdN.of_pick 5 rfl rdn_all | exact RdN.of_pick 6 rfl rdn_all | exact RdN.of_pick 7 rfl rdn_all | exact RdN.of_pick 8 rfl rdn_all | exact RdN.of_pick 9 rfl rdn_all) rfl)) ?_ ?_
        rotate_left 1
        exact ⟨0, Rp.zero, rfl, .inl ⟨rfl, rfl, by omega⟩, rfl⟩
        exact (SubH.rown (SubH.rown (SubH.cons 1 rfl (SubH.cons 1 rfl (SubH.nil _)))))
      · replace hg19 := of_decide_eq_false hg19
        refine ops_ro' rfl (ro_move rfl) rfl ?_
        refine ops_ro' rfl (ro_gtr rfl rfl rfl) rfl ?_
        refine ops_ro' rfl (ro_pick rfl rfl) rfl ?_
        refine ops_ro' rfl (ro_assign rfl) rfl ?_
        refine ops_nil ?_
        refine Then_normal ?_
        refine wp_cond' rfl (fun hc8 => ?_) (fun hc8 => ?_)
        · replace hc8 := of_decide_eq_true hc8
          refine wp_seq' ?_
          refine wp_region' ?_
          refine ops_ro' rfl (ro_build rfl (bld_struct (cs := Rp.zero.cs) st32 rfl)) rfl ?_
          refine ops_ro' rfl (ro_assign rfl) rfl ?_
          refine ops_eff0 rfl (eff_storeA 0 ag32 rfl rfl rfl rfl rfl (Nat.le_of_ble_eq_true rfl) (warm_zero _)) rfl ?_
          rintro _ _ rfl
          refine ops_nil ?_
          refine Then_normal ?_
          refine wp_ret' ?_
          refine InBlock_ret ?_
          refine Then_ret ?_
          refine' doneS_ret (resv2 rfl (rv_tmp rfl) (rv_cellA ag32 rfl (by first | exact RdN.of_pick 0 rfl rdn_all | exact RdN.of_pick 1 rfl rdn_all | exact RdN.of_pick 2 rfl rdn_all | exact RdN.of_pick 3 rfl rdn_all | exact RdN.of_pick 4 rfl rdn_all | exact RdN.of_pick 5 rfl rdn_all | exact RdN.of_pick 6 rfl rdn_all | exact RdN.of_pick 7 rfl rdn_all | exact RdN.of_pick 8 rfl rdn_all | exact RdN.of_pick 9 rfl rdn_all) rfl)) ?_ ?_
          rotate_left 1
          exact ⟨0, Rp.zero, rfl, .inl ⟨rfl, rfl, by omega⟩, rfl⟩
          exact (SubH.rown (SubH.rown (SubH.cons 1 rfl (SubH.cons 1 rfl (SubH.nil _)))))
        · replace hc8 := of_decide_eq_false hc8
          obtain ⟨c, rfl⟩ := Int.eq_ofNat_of_zero_le (show 0 ≤ client by omega)
          have hcl : c < E.length := by omega
          obtain ⟨e, hc⟩ : ∃ e, E[c]? = some e := ⟨_, List.getElem?_eq_getElem hcl⟩
          refine wp_seq' ?_
          refine wp_region' ?_
          refine ops_ro' rfl (ro_move rfl) rfl ?_
          refine ops_ro' rfl (ro_move rfl) rfl ?_
          refine ops_ro' rfl (ro_move rfl) rfl ?_
          refine ops_ro' rfl (ro_nilCheck rfl) rfl ?_
          refine ops_ro' rfl (ro_fieldAddr fa96_0 rfl) rfl ?_
          refine ops_ro' rfl (ro_indexArr Try.underlying94 (fun w => Try.sizeOf93 w) rfl rfl rfl (by omega)) rfl ?_
          refine ops_ro' rfl (ro_fieldAddr fa93_0 rfl) rfl ?_
          refine ops_ro' rfl (ro_load sc3 rfl (Rd.pick 1 rfl (Rd.of_n (j := 0) (tab_rd hc) (by omega) rfl))) rfl ?_
          refine ops_ro' rfl (ro_gtr rfl rfl rfl) rfl ?_
          refine ops_ro' rfl (ro_assign rfl) rfl ?_
          refine ops_nil ?_
          refine Then_normal ?_
          refine wp_cond' rfl (fun hc24 => ?_) (fun hc24 => ?_)
          · replace hc24 := of_decide_eq_true hc24
            refine wp_seq' ?_
            refine wp_region' ?_
            refine ops_ro' rfl (ro_build rfl (bld_struct (cs := Rp.zero.cs) st32 rfl)) rfl ?_
            refine ops_ro' rfl (ro_assign rfl) rfl ?_
            refine ops_eff0 rfl (eff_storeA 0 ag32 rfl rfl rfl rfl rfl (Nat.le_of_ble_eq_true rfl) (warm_zero _)) rfl ?_
            rintro _ _ rfl
            refine ops_nil ?_
            refine Then_normal ?_
            refine wp_ret' ?_
            refine InBlock_ret ?_
            refine Then_ret ?_
            refine' doneS_ret (resv2 rfl (rv_tmp rfl) (rv_cellA ag32 rfl (by first | exact RdN.of_pick 0 rfl rdn_all | exact RdN.of_pick 1 rfl rdn_all | exact RdN.of_pick 2 rfl rdn_all | exact RdN.of_pick 3 rfl rdn_all | exact RdN.of_pick 4 rfl rdn_all | exact RdN.of_pick 5 rfl rdn_all | exact RdN.of_pick 6 rfl rdn_all | exact RdN.of_pick 7 rfl rdn_all | exact RdN.of_pick 8 rfl rdn_all | exact RdN.of_pick 9 rfl rdn_all) rfl)) ?_ ?_
            rotate_left 1
            exact ⟨1, Rp.zero, rfl, .inr ⟨c, e, rfl, hc, .inl ⟨rfl, rfl, by omega⟩⟩, rfl⟩
            exact (SubH.rown (SubH.rown (SubH.cons 1 rfl (SubH.cons 1 rfl (SubH.nil _)))))
          · replace hc24 := of_decide_eq_false hc24
            refine wp_seq' ?_
            refine wp_region' ?_
            refine ops_ro' rfl (ro_move rfl) rfl ?_
            refine ops_ro' rfl (ro_move rfl) rfl ?_
            refine ops_ro' rfl (ro_move rfl) rfl ?_
            refine ops_ro' rfl (ro_nilCheck rfl) rfl ?_
            refine ops_ro' rfl (ro_fieldAddr fa96_0 rfl) rfl ?_
            refine ops_ro' rfl (ro_indexArr Try.underlying94 (fun w => Try.sizeOf93 w) rfl rfl rfl (by omega)) rfl ?_
            refine ops_ro' rfl (ro_fieldAddr fa93_0 rfl) rfl ?_
            refine ops_ro' rfl (ro_load sc3 rfl (Rd.pick 1 rfl (Rd.of_n (j := 0) (tab_rd hc) (by omega) rfl))) rfl ?_
            refine ops_ro' rfl (ro_eql rfl rfl rfl) rfl ?_
            refine ops_ro' rfl (ro_assign rfl) rfl ?_
            refine ops_nil ?_
            refine Then_normal ?_
            refine wp_cond' rfl (fun hc35 => ?_) (fun hc35 => ?_)
            · replace hc35 := of_decide_eq_true hc35
              refine wp_seq' ?_
              refine wp_region' ?_
              refine ops_ro' rfl (ro_move rfl) rfl ?_
              refine ops_ro' rfl (ro_move rfl) rfl ?_
              refine ops_ro' rfl (ro_nilCheck rfl) rfl ?_
              refine ops_ro' rfl (ro_fieldAddr fa96_0 rfl) rfl ?_
              refine ops_ro' rfl (ro_indexArr Try.underlying94 (fun w => Try.sizeOf93 w) rfl rfl rfl (by omega)) rfl ?_
              refine ops_ro' rfl (ro_fieldAddr fa93_1 rfl) rfl ?_
              refine ops_ro' rfl (ro_loadA ag32 rfl (RdN.of_pick 1 rfl (tab_r hc)) rfl) rfl ?_
              refine ops_eff' rfl (eff_callM (Pre := []) Try.call50 rfl rfl (Split.nil _) (copied_spec _ e.r ⟨Vw.pick 2 rfl (En.in hc).d, Vw.pick 2 rfl (En.in hc).n⟩ (hl c e hc).1 (hl c e hc).2)) rfl ?_
              rintro _ H' ⟨_, ⟨r', hr, rfl, rfl⟩, hH⟩
              simp only [List.cons_append, List.nil_append, List.eraseIdx_cons_zero, List.eraseIdx_cons_succ, List.set_cons_zero, List.set_cons_succ] at hH
              subst hH
              refine ops_ro' rfl (ro_assign rfl) rfl ?_
              refine ops_eff0 rfl (eff_storeA 2 ag32 rfl rfl rfl rfl rfl (Nat.le_of_ble_eq_true rfl) (warm_zero _)) rfl ?_
              rintro _ _ rfl
              refine ops_nil ?_
              refine Then_normal ?_
              refine wp_ret' ?_
              refine InBlock_ret ?_
              refine Then_ret ?_
              refine' doneS_ret (resv2 rfl (rv_tmp rfl) (rv_cellA ag32 rfl (by first | exact RdN.of_pick 0 rfl rdn_all | exact RdN.of_pick 1 rfl rdn_all | exact RdN.of_pick 2 rfl rdn_all | exact RdN.of_pick 3 rfl rdn_all | exact RdN.of_pick 4 rfl rdn_all | exact RdN.of_pick 5 rfl rdn_all | exact RdN.of_pick 6 rfl rdn_all | exact RdN.of_pick 7 rfl rdn_all | exact RdN.of_pick 8 rfl rdn_all | exact RdN.of_pick 9 rfl rdn_all) rfl)) ?_ ?_
              rotate_left 1
              exact ⟨2, r', rfl, .inr ⟨c, e, rfl, hc, .inr (.inl ⟨rfl, hr, by omega⟩)⟩, rfl⟩
              exact (SubH.cons 0 rfl (SubH.cons 0 rfl (SubH.cons 1 rfl (SubH.cons 1 rfl (SubH.nil _)))))
            · replace hc35 := of_decide_eq_false hc35
              refine wp_skip' ?_
              refine InBlock_normal ?_
              refine Then_normal ?_
              refine wp_seq' ?_
              refine wp_region' ?_
              refine ops_ro' rfl (ro_build rfl (bld_struct (cs := Rp.zero.cs) st32 rfl)) rfl ?_
              refine ops_ro' rfl (ro_assign rfl) rfl ?_
              refine ops_eff0 rfl (eff_storeA 0 ag32 rfl rfl rfl rfl rfl (Nat.le_of_ble_eq_true rfl) (warm_zero _)) rfl ?_
              rintro _ _ rfl
              refine ops_nil ?_
              refine Then_normal ?_
              refine wp_ret' ?_
              refine' doneS_ret (resv2 rfl (rv_tmp rfl) (rv_cellA ag32 rfl (by first | exact RdN.of_pick 0 rfl rdn_all | exact RdN.of_pick 1 rfl rdn_all | exact RdN.of_pick 2 rfl rdn_all | exact RdN.of_pick 3 rfl rdn_all | exact RdN.of_pick 4 rfl rdn_all | exact RdN.of_pick 5 rfl rdn_all | exact RdN.of_pick 6 rfl rdn_all | exact RdN.of_pick 7 rfl rdn_all | exact RdN.of_pick 8 rfl rdn_all | exact RdN.of_pick 9 rfl rdn_all) rfl)) ?_ ?_
              rotate_left 1
              exact ⟨3, Rp.zero, rfl, .inr ⟨c, e, rfl, hc, .inr (.inr ⟨rfl, rfl, by omega⟩)⟩, rfl⟩
              exact (SubH.rown (SubH.rown (SubH.cons 1 rfl (SubH.cons 1 rfl (SubH.nil _)))))

end Go.Proofs.Ytbiohhfibkolgaa
