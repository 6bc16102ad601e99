/-
  The walk of SessionOnce.
-/
import Derived.Test.YtbiohhfibkolgaaSess3
import Derived.Test.YtbiohhfibkolgaaWire2
namespace Go.Proofs.Ytbiohhfibkolgaa
open Go.Sx
set_option linter.unusedVariables false
set_option linter.unusedSimpArgs false
set_option maxRecDepth 100000

theorem set_zero (c : Nat) (hc : c < 16) : (List.replicate 16 En.zero).set c ⟨((0 : Nat) : Int), Rp.zero⟩ = (List.replicate 16 En.zero) := by
  match c, hc with
  | 0, _ => rfl
  | 1, _ => rfl
  | 2, _ => rfl
  | 3, _ => rfl
  | 4, _ => rfl
  | 5, _ => rfl
  | 6, _ => rfl
  | 7, _ => rfl
  | 8, _ => rfl
  | 9, _ => rfl
  | 10, _ => rfl
  | 11, _ => rfl
  | 12, _ => rfl
  | 13, _ => rfl
  | 14, _ => rfl
  | 15, _ => rfl
  | k + 16, h => exact absurd h (by omega)
theorem get_other {c j : Nat} (hc : c < 16) (hne : c ≠ j) (x : En) (hj : j < ((List.replicate 16 En.zero).set c x).length) : ((List.replicate 16 En.zero).set c x)[j] = En.zero := by
  rw [List.getElem_set_ne hne, List.getElem_replicate]
theorem ints_get {ts : List Int} {i : Nat} (h : i < ts.length) : (ts.map (Value.int .i64))[i * 1]? = some (Value.int .i64 ts[i]) := by rw [Nat.mul_one]; simp [h]
theorem sessionOnce_run (V : HProp) (q : Option Addr) (cq : Nat) (ts : List Int) (hV : Vw V (.slice q ts.length cq) ts.length (ts.map (Value.int .i64))) (hts : ∀ t ∈ ts, -9223372036854775808 ≤ t ∧ t ≤ 9223372036854775807) (client : Int) (hc0 : -9223372036854775808 ≤ client) (hc1' : client ≤ 9223372036854775807) :
    Tri Try.prog 3 [.slice q ts.length cq, .int .i64 client] [V] (fun v H' => v = .bool true ∧ V ∈ H') := by
  refine tri_of_wp Try.func3 rfl Try.ntmps3 (by simp) ?_
  refine wp_seq' ?_
  refine wp_region' ?_
  refine ops_ro' rfl (ro_assign rfl) rfl ?_
  refine ops_nil ?_
  repeat (first | refine InBlock_normal ?_ | refine NoGoto_normal ?_ | refine Jump_normal ?_)
  refine Then_normal ?_
  refine wp_seq' ?_
  refine wp_region' ?_
  refine ops_eff' rfl (eff_call Try.call14 rfl rfl (Split.nil _) (new_spec)) rfl ?_
  rintro _ H' ⟨_, ⟨bt, rfl, rfl⟩, hH⟩
  simp only [List.cons_append, List.nil_append, List.eraseIdx_cons_zero, List.eraseIdx_cons_succ, List.set_cons_zero, List.set_cons_succ] at hH
  subst hH
  refine ops_ro' rfl (ro_assign rfl) rfl ?_
  refine ops_nil ?_
  repeat (first | refine InBlock_normal ?_ | refine NoGoto_normal ?_ | refine Jump_normal ?_)
  refine Then_normal ?_
  refine wp_seq' ?_
  refine wp_seq' ?_
  refine wp_region' ?_
  refine ops_ro' rfl (ro_move rfl) rfl ?_
  refine ops_ro' rfl (ro_ptrEqlNil Try.underlying23 rfl rfl rfl) rfl ?_
  refine ops_nil ?_
  repeat (first | refine InBlock_normal ?_ | refine NoGoto_normal ?_ | refine Jump_normal ?_)
  refine Then_normal ?_
  refine wp_condF rfl ?_
  refine wp_skip' ?_
  repeat (first | refine InBlock_normal ?_ | refine NoGoto_normal ?_ | refine Jump_normal ?_)
  refine Then_normal ?_
  refine wp_cut (fun Γ H => ∃ a : Int, 0 ≤ a ∧ a ≤ 9223372036854775807 ∧ Has Γ [(0, .slice q ts.length cq), (1, .int .i64 a), (5, .pointer (some ⟨bt, 0, none⟩))] ∧ H = [tab bt (List.replicate 16 En.zero), V]) ?_ ?_
  · refine wp_seq' ?_
    refine wp_region' ?_
    refine ops_ro' rfl (ro_move rfl) rfl ?_
    refine ops_ro' rfl (ro_lss rfl rfl rfl) rfl ?_
    refine ops_nil ?_
    repeat (first | refine InBlock_normal ?_ | refine NoGoto_normal ?_ | refine Jump_normal ?_)
    refine Then_normal ?_
    refine wp_cond' rfl (fun hc1 => ?_) (fun hc1 => ?_)
    · try replace hc1 := of_decide_eq_true hc1
      refine wp_region' ?_
      refine ops_ro' rfl (ro_move rfl) rfl ?_
      refine ops_ro' rfl (ro_add rfl rfl (wrap_i64_in (by omega) (by omega))) rfl ?_
      refine ops_ro' rfl (ro_neg rfl (wrap_i64_in (by omega) (by omega))) rfl ?_
      refine ops_ro' rfl (ro_assign rfl) rfl ?_
      refine ops_nil ?_
      repeat (first | refine InBlock_normal ?_ | refine NoGoto_normal ?_ | refine Jump_normal ?_)
      refine Then_normal ?_
      exact ⟨_, by omega, by omega, (Has.cons rfl (Has.cons rfl (Has.cons rfl (Has.nil _)))), rfl⟩
    · try replace hc1 := of_decide_eq_false hc1
      refine wp_skip' ?_
      repeat (first | refine InBlock_normal ?_ | refine NoGoto_normal ?_ | refine Jump_normal ?_)
      refine Then_normal ?_
      exact ⟨client, by omega, by omega, (Has.cons rfl (Has.cons rfl (Has.cons rfl (Has.nil _)))), rfl⟩
  rintro Γ H ⟨a, ha0, ha1, hΓ, rfl⟩
  refine wp_has hΓ ?_
  refine wp_seq' ?_
  refine wp_region' ?_
  refine ops_ro' rfl (ro_move rfl) rfl ?_
  refine ops_ro' rfl (ro_rem rfl rfl (by omega) rfl) rfl ?_
  obtain ⟨c, hca, hc⟩ : ∃ c : Nat, a.tmod 16 = (c : Int) ∧ c < 16 := ⟨(a.tmod 16).toNat, by rw [Int.tmod_eq_emod_of_nonneg ha0]; omega, by rw [Int.tmod_eq_emod_of_nonneg ha0]; omega⟩
  rw [hca]
  refine ops_ro' rfl (ro_assign rfl) rfl ?_
  refine ops_nil ?_
  repeat (first | refine InBlock_normal ?_ | refine NoGoto_normal ?_ | refine Jump_normal ?_)
  refine Then_normal ?_
  refine wp_seq' ?_
  refine wp_seq' ?_
  refine wp_region' ?_
  refine ops_ro' rfl (ro_assign rfl) rfl ?_
  refine ops_nil ?_
  repeat (first | refine InBlock_normal ?_ | refine NoGoto_normal ?_ | refine Jump_normal ?_)
  refine Then_normal ?_
  refine wp_block' ?_
  refine wp_loop' (fun m Γ H => ∃ i r, i + m = ts.length ∧ i ≤ 30 ∧ Has Γ [(0, .slice q ts.length cq), (1, .int .i64 (c : Nat)), (5, .pointer (some ⟨bt, 0, none⟩)), (6, .int .i64 (i : Nat))] ∧ H = [tab bt ((List.replicate 16 En.zero).set c ⟨(i : Nat), r⟩), V]) (m := ts.length) ⟨0, Rp.zero, by omega, by omega, (Has.cons rfl (Has.cons rfl (Has.cons rfl (Has.cons rfl (Has.nil _))))), by rw [set_zero c hc]⟩ ?_
  rintro m Γ H ⟨i, r, him, hi30, hΓ, rfl⟩
  refine wp_has hΓ ?_
  refine wp_seq' ?_
  refine wp_seq' ?_
  rcases Nat.lt_or_ge i ts.length with hi | hi
  · refine wp_region' ?_
    refine ops_ro' rfl (ro_move rfl) rfl ?_
    refine ops_ro' rfl (ro_move rfl) rfl ?_
    refine ops_ro' rfl (ro_sliceLen Try.underlying22 rfl) rfl ?_
    refine ops_ro' rfl (ro_lss rfl rfl (decide_eq_true (by omega))) rfl ?_
    refine ops_ro' rfl (ro_move rfl) rfl ?_
    refine ops_ro' rfl (ro_move rfl) rfl ?_
    refine ops_ro' rfl (ro_lss rfl rfl rfl) rfl ?_
    refine ops_ro' rfl (ro_pick rfl rfl) rfl ?_
    refine ops_nil ?_
    repeat (first | refine InBlock_normal ?_ | refine NoGoto_normal ?_ | refine Jump_normal ?_)
    refine Then_normal ?_
    refine wp_cond' rfl (fun hc2 => ?_) (fun hc2 => ?_)
    · try replace hc2 := of_decide_eq_true hc2
      have hti := hts _ (List.getElem_mem hi)
      refine wp_know (fun w F s => vwPtr (Vw.pick (H := [_, V]) 1 rfl hV) s (by omega)) ?_
      rintro ⟨bb, o, rfl⟩
      refine wp_skip' ?_
      repeat (first | refine InBlock_normal ?_ | refine NoGoto_normal ?_ | refine Jump_normal ?_)
      refine Then_normal ?_
      refine wp_seq' ?_
      refine wp_block' ?_
      refine wp_seq' ?_
      refine wp_region' ?_
      refine ops_ro' rfl (ro_move rfl) rfl ?_
      refine ops_ro' rfl (ro_move rfl) rfl ?_
      refine ops_ro' rfl (ro_indexSlice sl22 rfl rfl rfl (by omega)) rfl ?_
      refine ops_ro' rfl (ro_load sc3 rfl (Rd.pick 1 rfl (vwRdn hV _ _ (ints_get hi)))) rfl ?_
      refine ops_ro' rfl (ro_assign rfl) rfl ?_
      refine ops_nil ?_
      repeat (first | refine InBlock_normal ?_ | refine NoGoto_normal ?_ | refine Jump_normal ?_)
      refine Then_normal ?_
      refine wp_cut (fun Γ H => ∃ a : Int, 0 ≤ a ∧ a ≤ 9223372036854775807 ∧ Has Γ [(0, .slice (some ⟨bb, o, none⟩) ts.length cq), (1, .int .i64 (c : Nat)), (5, .pointer (some ⟨bt, 0, none⟩)), (6, .int .i64 (i : Nat)), (7, .int .i64 a)] ∧ H = [tab bt ((List.replicate 16 En.zero).set c ⟨(i : Nat), r⟩), V]) ?_ ?_
      · refine wp_seq' ?_
        refine wp_region' ?_
        refine ops_ro' rfl (ro_move rfl) rfl ?_
        refine ops_ro' rfl (ro_lss rfl rfl rfl) rfl ?_
        refine ops_nil ?_
        repeat (first | refine InBlock_normal ?_ | refine NoGoto_normal ?_ | refine Jump_normal ?_)
        refine Then_normal ?_
        refine wp_cond' rfl (fun hc3 => ?_) (fun hc3 => ?_)
        · try replace hc3 := of_decide_eq_true hc3
          refine wp_region' ?_
          refine ops_ro' rfl (ro_move rfl) rfl ?_
          refine ops_ro' rfl (ro_add rfl rfl (wrap_i64_in (by omega) (by omega))) rfl ?_
          refine ops_ro' rfl (ro_neg rfl (wrap_i64_in (by omega) (by omega))) rfl ?_
          refine ops_ro' rfl (ro_assign rfl) rfl ?_
          refine ops_nil ?_
          repeat (first | refine InBlock_normal ?_ | refine NoGoto_normal ?_ | refine Jump_normal ?_)
          refine Then_normal ?_
          exact ⟨_, by omega, by omega, (Has.cons rfl (Has.cons rfl (Has.cons rfl (Has.cons rfl (Has.cons rfl (Has.nil _)))))), rfl⟩
        · try replace hc3 := of_decide_eq_false hc3
          refine wp_skip' ?_
          repeat (first | refine InBlock_normal ?_ | refine NoGoto_normal ?_ | refine Jump_normal ?_)
          refine Then_normal ?_
          exact ⟨ts[i], by omega, by omega, (Has.cons rfl (Has.cons rfl (Has.cons rfl (Has.cons rfl (Has.cons rfl (Has.nil _)))))), rfl⟩
      rintro Γ H ⟨a, ha0, ha1, hΓ, rfl⟩
      refine wp_has hΓ ?_
      refine wp_seq' ?_
      refine wp_seq' ?_
      refine wp_region' ?_
      refine ops_ro' rfl (ro_assign rfl) rfl ?_
      refine ops_nil ?_
      repeat (first | refine InBlock_normal ?_ | refine NoGoto_normal ?_ | refine Jump_normal ?_)
      refine Then_normal ?_
      refine wp_block' ?_
      refine wp_loop' (fun m Γ H => ∃ (k : Nat) (sq : Int) (r : Rp), k + m = (a % 4).toNat + 1 ∧ ((k = 0 ∧ sq = (i : Nat)) ∨ (0 < k ∧ sq = ((i + 1 : Nat) : Int) ∧ r = ⟨0, (i : Nat), [], At.zero⟩)) ∧ Has Γ [(0, .slice (some ⟨bb, o, none⟩) ts.length cq), (1, .int .i64 (c : Nat)), (5, .pointer (some ⟨bt, 0, none⟩)), (6, .int .i64 (i : Nat)), (7, .int .i64 a), (8, .int .i64 (k : Nat))] ∧ H = [tab bt ((List.replicate 16 En.zero).set c ⟨sq, r⟩), V]) (m := (a % 4).toNat + 1) ⟨0, (i : Nat), r, by omega, .inl ⟨rfl, rfl⟩, (Has.cons rfl (Has.cons rfl (Has.cons rfl (Has.cons rfl (Has.cons rfl (Has.cons rfl (Has.nil _))))))), rfl⟩ ?_
      rintro m1 Γ H ⟨k, sq, r, hkm, hk, hΓ, rfl⟩
      refine wp_has hΓ ?_
      have ha4 : a.tmod 4 = a % 4 := Int.tmod_eq_emod_of_nonneg ha0
      have ha5 := Int.emod_nonneg a (show (4 : Int) ≠ 0 by decide)
      have ha6 := Int.emod_lt_of_pos a (show (0 : Int) < 4 by decide)
      refine wp_seq' ?_
      refine wp_seq' ?_
      refine wp_region' ?_
      refine ops_ro' rfl (ro_move rfl) rfl ?_
      refine ops_ro' rfl (ro_move rfl) rfl ?_
      refine ops_ro' rfl (ro_rem rfl rfl (by omega) ha4) rfl ?_
      refine ops_ro' rfl (ro_leq rfl rfl rfl) rfl ?_
      refine ops_nil ?_
      repeat (first | refine InBlock_normal ?_ | refine NoGoto_normal ?_ | refine Jump_normal ?_)
      refine Then_normal ?_
      refine wp_cond' rfl (fun hc4 => ?_) (fun hc4 => ?_)
      · try replace hc4 := of_decide_eq_true hc4
        refine wp_skip' ?_
        repeat (first | refine InBlock_normal ?_ | refine NoGoto_normal ?_ | refine Jump_normal ?_)
        refine Then_normal ?_
        refine wp_seq' ?_
        refine wp_block' ?_
        refine wp_seq' ?_
        rcases hk with ⟨rfl, rfl⟩ | ⟨hk0, rfl, rfl⟩
        · refine wp_region' ?_
          refine ops_ro' rfl (ro_move rfl) rfl ?_
          refine ops_ro' rfl (ro_move rfl) rfl ?_
          refine ops_ro' rfl (ro_move rfl) rfl ?_
          refine ops_ro' rfl (ro_add rfl rfl (show IntKind.i64.wrap (((i : Nat) : Int) + 1) = (((i : Nat) + 1 : Nat) : Int) from by rw [wrap_i64_in (by omega) (by omega)]; omega)) rfl ?_
          refine ops_eff' rfl (eff_call Try.call15 rfl rfl (Split.cons 0 rfl (Split.nil _)) (ask_fresh bt c ((List.replicate 16 En.zero).set c ⟨(i : Nat), r⟩) (by simp) (by simpa using hc) ((i + 1 : Nat) : Int) (by omega) (by omega) (by simp; omega))) rfl ?_
          rintro _ H' ⟨_, ⟨rfl, rfl⟩, hH⟩
          simp only [List.cons_append, List.nil_append, List.eraseIdx_cons_zero, List.eraseIdx_cons_succ, List.set_cons_zero, List.set_cons_succ] at hH
          subst hH
          refine ops_ro' rfl (ro_move rfl) rfl ?_
          refine ops_ro' rfl (ro_extract rfl rfl) rfl ?_
          refine ops_ro' rfl (ro_extract rfl rfl) rfl ?_
          refine ops_eff' rfl (eff_alloc z32) rfl ?_
          rintro _ _ ⟨b10, rfl, rfl⟩
          refine ops_ro' rfl (ro_assign rfl) rfl ?_
          refine ops_eff0 rfl ((by first | exact eff_storeA 0 ag32 rfl rfl rfl rfl rfl (Nat.le_of_ble_eq_true rfl) (warm_zero _) | exact eff_storeA 1 ag32 rfl rfl rfl rfl rfl (Nat.le_of_ble_eq_true rfl) (warm_zero _) | exact eff_storeA 2 ag32 rfl rfl rfl rfl rfl (Nat.le_of_ble_eq_true rfl) (warm_zero _) | exact eff_storeA 3 ag32 rfl rfl rfl rfl rfl (Nat.le_of_ble_eq_true rfl) (warm_zero _) | exact eff_storeA 4 ag32 rfl rfl rfl rfl rfl (Nat.le_of_ble_eq_true rfl) (warm_zero _) | exact eff_storeA 5 ag32 rfl rfl rfl rfl rfl (Nat.le_of_ble_eq_true rfl) (warm_zero _) | exact eff_storeA 6 ag32 rfl rfl rfl rfl rfl (Nat.le_of_ble_eq_true rfl) (warm_zero _) | exact eff_storeA 7 ag32 rfl rfl rfl rfl rfl (Nat.le_of_ble_eq_true rfl) (warm_zero _))) rfl ?_
          rintro _ _ rfl
          refine ops_nil ?_
          repeat (first | refine InBlock_normal ?_ | refine NoGoto_normal ?_ | refine Jump_normal ?_)
          refine Then_normal ?_
          refine wp_seq' ?_
          refine wp_region' ?_
          refine ops_ro' rfl (ro_move rfl) rfl ?_
          refine ops_ro' rfl (ro_eql rfl rfl (decide_eq_true rfl)) rfl ?_
          refine ops_nil ?_
          repeat (first | refine InBlock_normal ?_ | refine NoGoto_normal ?_ | refine Jump_normal ?_)
          refine Then_normal ?_
          refine wp_condT rfl ?_
          refine wp_seq' ?_
          refine wp_region' ?_
          refine ops_ro' rfl (ro_move rfl) rfl ?_
          refine ops_ro' rfl (ro_neq rfl rfl (decide_eq_false (by decide))) rfl ?_
          refine ops_ro' rfl (ro_move rfl) rfl ?_
          refine ops_ro' rfl (ro_move rfl) rfl ?_
          refine ops_ro' rfl (ro_move rfl) rfl ?_
          refine ops_ro' rfl (ro_move rfl) rfl ?_
          refine ops_ro' rfl (ro_add rfl rfl (show IntKind.i64.wrap (((i : Nat) : Int) + 1) = (((i : Nat) + 1 : Nat) : Int) from by rw [wrap_i64_in (by omega) (by omega)]; omega)) rfl ?_
          refine ops_ro' rfl (ro_move rfl) rfl ?_
          refine ops_ro' rfl (ro_build rfl (show Bld Try.prog 32 _ (Rp.v ⟨0, (i : Nat), [], At.zero⟩) from bld_struct (cs := Rp.cs ⟨0, (i : Nat), [], At.zero⟩) st32 rfl)) rfl ?_
          refine ops_eff' rfl (eff_call Try.call16 rfl rfl (Split.cons 1 rfl (Split.nil _)) (tdone_spec bt c ((List.replicate 16 En.zero).set c ⟨(i : Nat), r⟩) (by simp) (by simpa using hc) ((i + 1 : Nat) : Int) ⟨0, (i : Nat), [], At.zero⟩ (by omega) (by omega) (by simp; omega))) rfl ?_
          rintro _ H' ⟨_, ⟨rfl, rfl⟩, hH⟩
          simp only [List.cons_append, List.nil_append, List.eraseIdx_cons_zero, List.eraseIdx_cons_succ, List.set_cons_zero, List.set_cons_succ] at hH
          subst hH
          rw [List.set_set]
          refine ops_ro' rfl (ro_neq rfl rfl (decide_eq_false (by decide))) rfl ?_
          refine ops_ro' rfl (ro_pick rfl rfl) rfl ?_
          refine ops_nil ?_
          repeat (first | refine InBlock_normal ?_ | refine NoGoto_normal ?_ | refine Jump_normal ?_)
          refine Then_normal ?_
          refine wp_condF rfl ?_
          refine wp_skip' ?_
          repeat (first | refine InBlock_normal ?_ | refine NoGoto_normal ?_ | refine Jump_normal ?_)
          refine Then_normal ?_
          refine wp_drop 1 ?_
          refine wp_region' ?_
          refine ops_ro' rfl (ro_move rfl) rfl ?_
          refine ops_ro' rfl (ro_add rfl rfl (show IntKind.i64.wrap (((0 : Nat) : Int) + 1) = (((0 : Nat) + 1 : Nat) : Int) from by rw [wrap_i64_in (by omega) (by omega)]; omega)) rfl ?_
          refine ops_ro' rfl (ro_assign rfl) rfl ?_
          refine ops_nil ?_
          repeat (first | refine InBlock_normal ?_ | refine NoGoto_normal ?_ | refine Jump_normal ?_)
          refine Then_normal ?_
          exact ⟨m1 - 1, by omega, _ + 1, _, _, by omega, .inr ⟨by omega, rfl, rfl⟩, (Has.cons rfl (Has.cons rfl (Has.cons rfl (Has.cons rfl (Has.cons rfl (Has.cons rfl (Has.nil _))))))), rfl⟩
        · refine wp_region' ?_
          refine ops_ro' rfl (ro_move rfl) rfl ?_
          refine ops_ro' rfl (ro_move rfl) rfl ?_
          refine ops_ro' rfl (ro_move rfl) rfl ?_
          refine ops_ro' rfl (ro_add rfl rfl (show IntKind.i64.wrap (((i : Nat) : Int) + 1) = (((i : Nat) + 1 : Nat) : Int) from by rw [wrap_i64_in (by omega) (by omega)]; omega)) rfl ?_
          refine ops_eff' rfl (eff_call Try.call15 rfl rfl (Split.cons 0 rfl (Split.nil _)) (ask_again bt c ((List.replicate 16 En.zero).set c ⟨((i + 1 : Nat) : Int), ⟨0, (i : Nat), [], At.zero⟩⟩) (by simp) (by simpa using hc) ((i + 1 : Nat) : Int) (by omega) (by omega) (by simp))) rfl ?_
          rintro _ H' ⟨_, ⟨rfl, rfl⟩, hH⟩
          simp only [List.cons_append, List.nil_append, List.eraseIdx_cons_zero, List.eraseIdx_cons_succ, List.set_cons_zero, List.set_cons_succ] at hH
          subst hH
          rw [List.getElem_set_self]
          refine ops_ro' rfl (ro_move rfl) rfl ?_
          refine ops_ro' rfl (ro_extract rfl rfl) rfl ?_
          refine ops_ro' rfl (ro_extract rfl rfl) rfl ?_
          refine ops_eff' rfl (eff_alloc z32) rfl ?_
          rintro _ _ ⟨b10, rfl, rfl⟩
          refine ops_ro' rfl (ro_assign rfl) rfl ?_
          refine ops_eff0 rfl ((by first | exact eff_storeA 0 ag32 rfl rfl rfl rfl rfl (Nat.le_of_ble_eq_true rfl) (warm_zero _) | exact eff_storeA 1 ag32 rfl rfl rfl rfl rfl (Nat.le_of_ble_eq_true rfl) (warm_zero _) | exact eff_storeA 2 ag32 rfl rfl rfl rfl rfl (Nat.le_of_ble_eq_true rfl) (warm_zero _) | exact eff_storeA 3 ag32 rfl rfl rfl rfl rfl (Nat.le_of_ble_eq_true rfl) (warm_zero _) | exact eff_storeA 4 ag32 rfl rfl rfl rfl rfl (Nat.le_of_ble_eq_true rfl) (warm_zero _) | exact eff_storeA 5 ag32 rfl rfl rfl rfl rfl (Nat.le_of_ble_eq_true rfl) (warm_zero _) | exact eff_storeA 6 ag32 rfl rfl rfl rfl rfl (Nat.le_of_ble_eq_true rfl) (warm_zero _) | exact eff_storeA 7 ag32 rfl rfl rfl rfl rfl (Nat.le_of_ble_eq_true rfl) (warm_zero _))) rfl ?_
          rintro _ _ rfl
          refine ops_nil ?_
          repeat (first | refine InBlock_normal ?_ | refine NoGoto_normal ?_ | refine Jump_normal ?_)
          refine Then_normal ?_
          refine wp_seq' ?_
          refine wp_region' ?_
          refine ops_ro' rfl (ro_move rfl) rfl ?_
          refine ops_ro' rfl (ro_eql rfl rfl (decide_eq_false (by omega))) rfl ?_
          refine ops_nil ?_
          repeat (first | refine InBlock_normal ?_ | refine NoGoto_normal ?_ | refine Jump_normal ?_)
          refine Then_normal ?_
          refine wp_condF rfl ?_
          refine wp_seq' ?_
          refine wp_region' ?_
          refine ops_ro' rfl (ro_move rfl) rfl ?_
          refine ops_ro' rfl (ro_neq rfl rfl (decide_eq_false (by decide))) rfl ?_
          refine ops_ro' rfl (ro_move rfl) rfl ?_
          refine ops_ro' rfl (ro_loadA ag32 rfl (by first | exact RdN.of_pick 0 rfl rdn_all | exact RdN.of_pick 1 rfl rdn_all | exact RdN.of_pick 2 rfl rdn_all | exact RdN.of_pick 3 rfl rdn_all | exact RdN.of_pick 4 rfl rdn_all | exact RdN.of_pick 5 rfl rdn_all | exact RdN.of_pick 6 rfl rdn_all | exact RdN.of_pick 7 rfl rdn_all) rfl) rfl ?_
          refine ops_ro' rfl (ro_move rfl) rfl ?_
          refine ops_ro' rfl (ro_build rfl (show Bld Try.prog 32 _ (Rp.v ⟨0, (i : Nat), [], At.zero⟩) from bld_struct (cs := Rp.cs ⟨0, (i : Nat), [], At.zero⟩) st32 rfl)) rfl ?_
          refine ops_eff' rfl (eff_call Try.call17 rfl rfl (Split.nil _) (kreply_same ⟨0, (i : Nat), [], At.zero⟩)) rfl ?_
          rintro _ H' ⟨_, ⟨rfl, rfl⟩, hH⟩
          simp only [List.cons_append, List.nil_append, List.eraseIdx_cons_zero, List.eraseIdx_cons_succ, List.set_cons_zero, List.set_cons_succ] at hH
          subst hH
          refine ops_ro' rfl (ro_not rfl rfl) rfl ?_
          refine ops_ro' rfl (ro_pick rfl rfl) rfl ?_
          refine ops_nil ?_
          repeat (first | refine InBlock_normal ?_ | refine NoGoto_normal ?_ | refine Jump_normal ?_)
          refine Then_normal ?_
          refine wp_condF rfl ?_
          refine wp_skip' ?_
          repeat (first | refine InBlock_normal ?_ | refine NoGoto_normal ?_ | refine Jump_normal ?_)
          refine Then_normal ?_
          refine wp_drop 0 ?_
          refine wp_region' ?_
          refine ops_ro' rfl (ro_move rfl) rfl ?_
          refine ops_ro' rfl (ro_add rfl rfl (show IntKind.i64.wrap (((k : Nat) : Int) + 1) = (((k : Nat) + 1 : Nat) : Int) from by rw [wrap_i64_in (by omega) (by omega)]; omega)) rfl ?_
          refine ops_ro' rfl (ro_assign rfl) rfl ?_
          refine ops_nil ?_
          repeat (first | refine InBlock_normal ?_ | refine NoGoto_normal ?_ | refine Jump_normal ?_)
          refine Then_normal ?_
          exact ⟨m1 - 1, by omega, _ + 1, _, _, by omega, .inr ⟨by omega, rfl, rfl⟩, (Has.cons rfl (Has.cons rfl (Has.cons rfl (Has.cons rfl (Has.cons rfl (Has.cons rfl (Has.nil _))))))), rfl⟩
      · try replace hc4 := of_decide_eq_false hc4
        obtain ⟨rfl, rfl⟩ : sq = ((i + 1 : Nat) : Int) ∧ r = ⟨0, (i : Nat), [], At.zero⟩ := by rcases hk with ⟨h, _⟩ | ⟨_, h1, h2⟩; omega; exact ⟨h1, h2⟩
        refine wp_exit' ?_
        repeat (first | refine Then_exit ?_ | refine NoGoto_exit ?_ | refine Jump_exit ?_ | refine InBlock_here ?_ | refine InBlock_far rfl ?_)
        repeat (first | refine InBlock_normal ?_ | refine NoGoto_normal ?_ | refine Jump_normal ?_)
        refine Then_normal ?_
        refine wp_seq' ?_
        have hcm : (c + 1) % 16 < ((List.replicate 16 En.zero).set c ⟨((i + 1 : Nat) : Int), ⟨0, (i : Nat), [], At.zero⟩⟩).length := by simp; omega
        have hoth : (((List.replicate 16 En.zero).set c ⟨((i + 1 : Nat) : Int), ⟨0, (i : Nat), [], At.zero⟩⟩))[(c + 1) % 16]'hcm = En.zero := get_other hc (by omega) _ _
        refine wp_region' ?_
        refine ops_ro' rfl (ro_move rfl) rfl ?_
        refine ops_ro' rfl (ro_move rfl) rfl ?_
        refine ops_ro' rfl (ro_add rfl rfl (show IntKind.i64.wrap (((c : Nat) : Int) + 1) = (((c : Nat) + 1 : Nat) : Int) from by rw [wrap_i64_in (by omega) (by omega)]; omega)) rfl ?_
        refine ops_ro' rfl (ro_rem rfl rfl (by omega) (show (((c + 1 : Nat) : Int)).tmod 16 = (((c + 1) % 16 : Nat) : Int) from by rw [Int.tmod_eq_emod_of_nonneg (by omega)]; omega)) rfl ?_
        refine ops_eff' rfl (eff_call Try.call15 rfl rfl (Split.cons 0 rfl (Split.nil _)) (ask_fresh bt ((c + 1) % 16) ((List.replicate 16 En.zero).set c ⟨((i + 1 : Nat) : Int), ⟨0, (i : Nat), [], At.zero⟩⟩) (by simp) hcm 1 (by decide) (by decide) (by rw [hoth]; decide))) rfl ?_
        rintro _ H' ⟨_, ⟨rfl, rfl⟩, hH⟩
        simp only [List.cons_append, List.nil_append, List.eraseIdx_cons_zero, List.eraseIdx_cons_succ, List.set_cons_zero, List.set_cons_succ] at hH
        subst hH
        refine ops_ro' rfl (ro_move rfl) rfl ?_
        refine ops_ro' rfl (ro_extract rfl rfl) rfl ?_
        refine ops_ro' rfl (ro_extract rfl rfl) rfl ?_
        refine ops_eff' rfl (eff_alloc z32) rfl ?_
        rintro _ _ ⟨b12, rfl, rfl⟩
        refine ops_ro' rfl (ro_assign rfl) rfl ?_
        refine ops_eff0 rfl ((by first | exact eff_storeA 0 ag32 rfl rfl rfl rfl rfl (Nat.le_of_ble_eq_true rfl) (warm_zero _) | exact eff_storeA 1 ag32 rfl rfl rfl rfl rfl (Nat.le_of_ble_eq_true rfl) (warm_zero _) | exact eff_storeA 2 ag32 rfl rfl rfl rfl rfl (Nat.le_of_ble_eq_true rfl) (warm_zero _) | exact eff_storeA 3 ag32 rfl rfl rfl rfl rfl (Nat.le_of_ble_eq_true rfl) (warm_zero _) | exact eff_storeA 4 ag32 rfl rfl rfl rfl rfl (Nat.le_of_ble_eq_true rfl) (warm_zero _) | exact eff_storeA 5 ag32 rfl rfl rfl rfl rfl (Nat.le_of_ble_eq_true rfl) (warm_zero _) | exact eff_storeA 6 ag32 rfl rfl rfl rfl rfl (Nat.le_of_ble_eq_true rfl) (warm_zero _) | exact eff_storeA 7 ag32 rfl rfl rfl rfl rfl (Nat.le_of_ble_eq_true rfl) (warm_zero _))) rfl ?_
        rintro _ _ rfl
        refine ops_nil ?_
        repeat (first | refine InBlock_normal ?_ | refine NoGoto_normal ?_ | refine Jump_normal ?_)
        refine Then_normal ?_
        refine wp_seq' ?_
        refine wp_region' ?_
        refine ops_ro' rfl (ro_move rfl) rfl ?_
        refine ops_ro' rfl (ro_neq rfl rfl (decide_eq_false (by decide))) rfl ?_
        refine ops_ro' rfl (ro_move rfl) rfl ?_
        refine ops_ro' rfl (ro_move rfl) rfl ?_
        refine ops_ro' rfl (ro_move rfl) rfl ?_
        refine ops_ro' rfl (ro_add rfl rfl (show IntKind.i64.wrap (((c : Nat) : Int) + 1) = (((c : Nat) + 1 : Nat) : Int) from by rw [wrap_i64_in (by omega) (by omega)]; omega)) rfl ?_
        refine ops_ro' rfl (ro_rem rfl rfl (by omega) (show (((c + 1 : Nat) : Int)).tmod 16 = (((c + 1) % 16 : Nat) : Int) from by rw [Int.tmod_eq_emod_of_nonneg (by omega)]; omega)) rfl ?_
        refine ops_eff' rfl (eff_call Try.call18 rfl rfl (Split.cons 1 rfl (Split.nil _)) (last_spec bt ((c + 1) % 16) ((List.replicate 16 En.zero).set c ⟨((i + 1 : Nat) : Int), ⟨0, (i : Nat), [], At.zero⟩⟩) (by simp) hcm)) rfl ?_
        rintro _ H' ⟨_, ⟨rfl, rfl⟩, hH⟩
        simp only [List.cons_append, List.nil_append, List.eraseIdx_cons_zero, List.eraseIdx_cons_succ, List.set_cons_zero, List.set_cons_succ] at hH
        subst hH
        rw [hoth]
        refine ops_ro' rfl (ro_neq rfl rfl (decide_eq_false (by decide))) rfl ?_
        refine ops_ro' rfl (ro_pick rfl rfl) rfl ?_
        refine ops_ro' rfl (ro_move rfl) rfl ?_
        refine ops_ro' rfl (ro_move rfl) rfl ?_
        refine ops_ro' rfl (ro_move rfl) rfl ?_
        refine ops_eff' rfl (eff_call Try.call18 rfl rfl (Split.cons 0 rfl (Split.nil _)) (last_spec bt c ((List.replicate 16 En.zero).set c ⟨((i + 1 : Nat) : Int), ⟨0, (i : Nat), [], At.zero⟩⟩) (by simp) (by simpa using hc))) rfl ?_
        rintro _ H' ⟨_, ⟨rfl, rfl⟩, hH⟩
        simp only [List.cons_append, List.nil_append, List.eraseIdx_cons_zero, List.eraseIdx_cons_succ, List.set_cons_zero, List.set_cons_succ] at hH
        subst hH
        rw [List.getElem_set_self]
        refine ops_ro' rfl (ro_move rfl) rfl ?_
        refine ops_ro' rfl (ro_add rfl rfl (show IntKind.i64.wrap (((i : Nat) : Int) + 1) = (((i : Nat) + 1 : Nat) : Int) from by rw [wrap_i64_in (by omega) (by omega)]; omega)) rfl ?_
        refine ops_ro' rfl (ro_neq rfl rfl (decide_eq_false (by simp))) rfl ?_
        refine ops_ro' rfl (ro_pick rfl rfl) rfl ?_
        refine ops_nil ?_
        repeat (first | refine InBlock_normal ?_ | refine NoGoto_normal ?_ | refine Jump_normal ?_)
        refine Then_normal ?_
        refine wp_condF rfl ?_
        refine wp_skip' ?_
        repeat (first | refine InBlock_normal ?_ | refine NoGoto_normal ?_ | refine Jump_normal ?_)
        refine Then_normal ?_
        refine wp_drop 1 ?_
        refine wp_region' ?_
        refine ops_ro' rfl (ro_move rfl) rfl ?_
        refine ops_ro' rfl (ro_add rfl rfl (show IntKind.i64.wrap (((i : Nat) : Int) + 1) = (((i : Nat) + 1 : Nat) : Int) from by rw [wrap_i64_in (by omega) (by omega)]; omega)) rfl ?_
        refine ops_ro' rfl (ro_assign rfl) rfl ?_
        refine ops_nil ?_
        repeat (first | refine InBlock_normal ?_ | refine NoGoto_normal ?_ | refine Jump_normal ?_)
        refine Then_normal ?_
        exact ⟨m - 1, by omega, i + 1, ⟨0, (i : Nat), [], At.zero⟩, by omega, by omega, (Has.cons rfl (Has.cons rfl (Has.cons rfl (Has.cons rfl (Has.nil _))))), rfl⟩
    · try replace hc2 := of_decide_eq_false hc2
      refine wp_exit' ?_
      repeat (first | refine Then_exit ?_ | refine NoGoto_exit ?_ | refine Jump_exit ?_ | refine InBlock_here ?_ | refine InBlock_far rfl ?_)
      repeat (first | refine InBlock_normal ?_ | refine NoGoto_normal ?_ | refine Jump_normal ?_)
      refine Then_normal ?_
      refine wp_seq' ?_
      refine wp_region' ?_
      refine ops_eff' rfl (eff_call Try.call19 rfl rfl (Split.nil _) (known21_spec)) rfl ?_
      rintro _ H' ⟨_, ⟨rfl, rfl⟩, hH⟩
      simp only [List.cons_append, List.nil_append, List.eraseIdx_cons_zero, List.eraseIdx_cons_succ, List.set_cons_zero, List.set_cons_succ] at hH
      subst hH
      refine ops_ro' rfl (ro_assign rfl) rfl ?_
      refine ops_nil ?_
      repeat (first | refine InBlock_normal ?_ | refine NoGoto_normal ?_ | refine Jump_normal ?_)
      refine Then_normal ?_
      refine wp_ret' ?_
      repeat (first | refine Then_ret ?_ | refine InBlock_ret ?_ | refine NoGoto_ret ?_ | refine Jump_ret ?_)
      refine done_ret (res1 rfl rfl) ?_
      exact ⟨rfl, by simp⟩
  · refine wp_region' ?_
    refine ops_ro' rfl (ro_move rfl) rfl ?_
    refine ops_ro' rfl (ro_move rfl) rfl ?_
    refine ops_ro' rfl (ro_sliceLen Try.underlying22 rfl) rfl ?_
    refine ops_ro' rfl (ro_lss rfl rfl (decide_eq_false (by omega))) rfl ?_
    refine ops_ro' rfl (ro_move rfl) rfl ?_
    refine ops_skip rfl rfl ?_
    refine ops_skip rfl rfl ?_
    refine ops_ro' rfl (ro_pick rfl rfl) rfl ?_
    refine ops_nil ?_
    repeat (first | refine InBlock_normal ?_ | refine NoGoto_normal ?_ | refine Jump_normal ?_)
    refine Then_normal ?_
    refine wp_condF rfl ?_
    refine wp_exit' ?_
    repeat (first | refine Then_exit ?_ | refine NoGoto_exit ?_ | refine Jump_exit ?_ | refine InBlock_here ?_ | refine InBlock_far rfl ?_)
    repeat (first | refine InBlock_normal ?_ | refine NoGoto_normal ?_ | refine Jump_normal ?_)
    refine Then_normal ?_
    refine wp_seq' ?_
    refine wp_region' ?_
    refine ops_eff' rfl (eff_call Try.call19 rfl rfl (Split.nil _) (known21_spec)) rfl ?_
    rintro _ H' ⟨_, ⟨rfl, rfl⟩, hH⟩
    simp only [List.cons_append, List.nil_append, List.eraseIdx_cons_zero, List.eraseIdx_cons_succ, List.set_cons_zero, List.set_cons_succ] at hH
    subst hH
    refine ops_ro' rfl (ro_assign rfl) rfl ?_
    refine ops_nil ?_
    repeat (first | refine InBlock_normal ?_ | refine NoGoto_normal ?_ | refine Jump_normal ?_)
    refine Then_normal ?_
    refine wp_ret' ?_
    repeat (first | refine Then_ret ?_ | refine InBlock_ret ?_ | refine NoGoto_ret ?_ | refine Jump_ret ?_)
    refine done_ret (res1 rfl rfl) ?_
    exact ⟨rfl, by simp⟩

end Go.Proofs.Ytbiohhfibkolgaa
