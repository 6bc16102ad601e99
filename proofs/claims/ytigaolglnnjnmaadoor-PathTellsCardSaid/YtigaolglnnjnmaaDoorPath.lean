/-
  Package path, and package strongroomref13.
-/
import Derived.Test.YtigaolglnnjnmaaDoorSpl
import Derived.Test.YtigaolglnnjnmaaDoorTxt
namespace Go.Proofs.YtigaolglnnjnmaaDoor
open Go.Sx
set_option linter.unusedVariables false
set_option linter.unusedSimpArgs false
set_option maxRecDepth 100000
set_option maxHeartbeats 4000000

theorem ptOk_bad {s : List UInt8} {i : Nat} (hi : i < s.length) (h : s[i].toNat = 0 ∨ s[i].toNat = 47) : ptOk s = false := by
  cases hh : ptOk s with
  | false => rfl
  | true =>
    unfold ptOk at hh
    simp only [Bool.and_eq_true] at hh
    have h1 := List.all_eq_true.1 hh.1.1.1.1 s[i] (List.getElem_mem hi)
    simp only [ptB, Bool.and_eq_true, decide_eq_true_eq] at h1
    omega
theorem ptOk_no {s : List UInt8} (h : ¬ (s ≠ [] ∧ ((s.length : Nat) : Int) ≤ 30 ∧ s ≠ [46])) : ptOk s = false := by
  cases hh : ptOk s with
  | false => rfl
  | true =>
    unfold ptOk at hh
    simp only [Bool.and_eq_true, decide_eq_true_eq] at hh
    exact absurd ⟨List.length_pos_iff.1 hh.1.1.1.2, by omega, hh.1.2⟩ h
theorem ptOk_fin {s : List UInt8} (h : s.all ptB = true) (h1 : s ≠ []) (h2 : ((s.length : Nat) : Int) ≤ 30) (h3 : s ≠ [46]) : ptOk s = decide (s ≠ [46, 46]) := by
  unfold ptOk
  rw [h, decide_eq_true h3, decide_eq_true (show 1 ≤ s.length from List.length_pos_iff.2 h1), decide_eq_true (show s.length ≤ 30 by omega)]; rfl
theorem run_nx {l out : List (List UInt8)} {i : Nat} (hi : i < l.length) (h : pRun (some []) (l.take i) = some out) : pRun (some []) (l.take (i + 1)) = pStep (some out) l[i] := by
  rw [List.take_succ_eq_append_getElem hi, pRun_append, h]; rfl
theorem run_bad {l out : List (List UInt8)} {i : Nat} (hi : i < l.length) (h : pRun (some []) (l.take i) = some out) (hb : pStep (some out) l[i] = none) : pRun (some []) l = none := by
  have e : l = l.take i ++ l[i] :: l.drop (i + 1) := by rw [← List.drop_eq_getElem_cons hi, List.take_append_drop]
  rw [e, pRun_append, h, pRun_cons, hb, pRun_none]
theorem trunc_tx (out : List (List UInt8)) : (txs out).take ((out.length - 1) * 1) = txs out.dropLast := by
  rw [txs, txs, Nat.mul_one, List.dropLast_eq_take]
  have := flat_take Tx.len out (out.length - 1)
  rwa [Nat.mul_one] at this
theorem len_last (out : List (List UInt8)) : out.length - 1 = out.dropLast.length := by simp
theorem part_le {s : List UInt8} {i : Nat} (hi : i < (parts 47 s).length) : (parts 47 s)[i].length ≤ s.length := (parts_mem 47 s _ (List.getElem_mem hi)).1


theorem ptRight_spec (s : List UInt8) (hs : s.length ≤ 9223372036854775806) : Tri Tryd.prog 16 [.string (str s)] [] (fun v H' => v = .bool (ptOk s) ∧ H' = []) := by
  refine tri_of_wpS Tryd.func16 rfl Tryd.ntmps16 (by simp) ?_
  refine wp_seq' ?_
  refine wp_region' ?_
  refine ops_ro' rfl (ro_assign rfl) rfl ?_
  refine ops_nil ?_
  refine Then_normal ?_
  refine wp_seq' ?_
  refine wp_seq' ?_
  refine wp_region' ?_
  refine ops_ro' rfl (ro_move rfl) rfl ?_
  refine ops_ro' rfl (ro_lenS (t' := 0) Tryd.underlying9 rfl) rfl ?_
  refine ops_ro' rfl (ro_move rfl) rfl ?_
  refine ops_nil ?_
  refine Then_normal ?_
  refine wp_block' ?_
  refine wp_loopK 2 (fun m Δ LL => ∃ (i : Nat), (i + m = s.length ∧ (s.take i).all ptB = true) ∧ Δ = [(6, .int .i64 (i : Nat))] ∧ LL = []) (m := s.length) (Has.cons (k := 0) rfl (Has.cons (k := 5) rfl (Has.nil _))) (kept ⟨0, ⟨by omega, by simp⟩, rfl, rfl⟩ (by repeat (first | exact Has.nil _ | refine Has.cons rfl ?_)) (by repeat (first | exact Has.nil _ | refine Has.cons rfl ?_)) (by repeat (first | exact SubH.nil _ | refine SubH.cons 0 rfl ?_ | refine SubH.cons 1 rfl ?_ | refine SubH.cons 2 rfl ?_ | refine SubH.cons 3 rfl ?_ | refine SubH.cons 4 rfl ?_ | refine SubH.cons 5 rfl ?_ | refine SubH.cons 6 rfl ?_ | refine SubH.cons 7 rfl ?_ | refine SubH.cons 8 rfl ?_ | refine SubH.cons 9 rfl ?_ | refine SubH.cons 10 rfl ?_ | refine SubH.cons 11 rfl ?_ | refine SubH.cons 12 rfl ?_ | refine SubH.cons 13 rfl ?_ | refine SubH.rown ?_))) ?_
  rintro m Δ LL ⟨i, ⟨hm, ht⟩, rfl, rfl⟩
  simp only [List.cons_append, List.nil_append]
  refine wp_seq' ?_
  refine wp_region' ?_
  refine ops_ro' rfl (ro_lss rfl rfl rfl) rfl ?_
  refine ops_nil ?_
  refine Then_normal ?_
  refine wp_seq' ?_
  refine wp_cond' rfl (fun hc7 => ?_) (fun hc7 => ?_)
  · replace hc7 := of_decide_eq_true hc7
    have hi : i < s.length := by omega
    have hb := UInt8.toNat_lt s[i]
    refine wp_skip' ?_
    refine Then_normal ?_
    refine wp_seq' ?_
    refine wp_block' ?_
    refine wp_seq' ?_
    refine wp_region' ?_
    refine ops_ro' rfl (ro_move rfl) rfl ?_
    refine ops_ro' rfl (ro_assign rfl) rfl ?_
    refine ops_nil ?_
    refine Then_normal ?_
    refine wp_seq' ?_
    refine wp_draw 11 (by kernel_rfl) (Split.all _) ?_
    refine any_ro' (i := 0) (by kernel_rfl) rfl rfl (ro_move rfl) rfl (fun _ _ _ h => h) ?_
    refine any_ro' (i := 1) (by kernel_rfl) rfl rfl (ro_move rfl) rfl (fun _ _ _ h => h) ?_
    refine any_ro' (i := 2) (by kernel_rfl) rfl rfl (ro_indexS Tryd.underlying9 rfl rfl rfl (by omega)) rfl (fun _ _ _ h => h) ?_
    refine any_ro' (i := 3) (by kernel_rfl) rfl rfl (ro_eql rfl rfl rfl) rfl (fun _ _ _ h => h) ?_
    refine any_split (i := 4) (by kernel_rfl) rfl rfl rfl rfl (fun _ _ _ h => h) (fun hg13 => ?_) (fun hg13 => ?_)
    · replace hg13 := of_decide_eq_true hg13
      refine any_skip' (i := 5) (by kernel_rfl) rfl rfl rfl (fun _ _ _ h => h) ?_
      refine any_skip' (i := 6) (by kernel_rfl) rfl rfl rfl (fun _ _ _ h => h) ?_
      refine any_skip' (i := 7) (by kernel_rfl) rfl rfl rfl (fun _ _ _ h => h) ?_
      refine any_skip' (i := 8) (by kernel_rfl) rfl rfl rfl (fun _ _ _ h => h) ?_
      refine any_skip' (i := 9) (by kernel_rfl) rfl rfl rfl (fun _ _ _ h => h) ?_
      refine any_ro' (i := 10) (by kernel_rfl) rfl rfl (ro_pick rfl rfl) rfl (fun _ _ _ h => h) ?_
      refine any_doneL (by kernel_rfl) ?_
      refine Then_normal ?_
      refine wp_condT rfl ?_
      refine wp_seq' ?_
      refine wp_region' ?_
      refine ops_ro' rfl (ro_assign rfl) rfl ?_
      refine ops_nil ?_
      refine Then_normal ?_
      refine wp_ret' ?_
      refine InBlock_ret ?_
      refine Then_ret ?_
      refine Then_ret ?_
      refine InBlock_ret ?_
      refine Then_ret ?_
      refine' doneS_ret (res1 rfl rfl) ?_ ?_
      rotate_left 1
      exact ⟨by rw [ptOk_bad hi (by omega)], rfl⟩
      exact SubH.refl _
    · replace hg13 := of_decide_eq_false hg13
      refine any_ro' (i := 5) (by kernel_rfl) rfl rfl (ro_move rfl) rfl (fun _ _ _ h => h) ?_
      refine any_ro' (i := 6) (by kernel_rfl) rfl rfl (ro_move rfl) rfl (fun _ _ _ h => h) ?_
      refine any_ro' (i := 7) (by kernel_rfl) rfl rfl (ro_indexS Tryd.underlying9 rfl rfl rfl (by omega)) rfl (fun _ _ _ h => h) ?_
      refine any_ro' (i := 8) (by kernel_rfl) rfl rfl (show RO _ _ _ _ _ (.int .u8 47) from ro_indexS (l := [47]) (i := 0) Tryd.underlying9 rfl rfl rfl (by decide)) rfl (fun _ _ _ h => h) ?_
      refine any_ro' (i := 9) (by kernel_rfl) rfl rfl (ro_eql rfl rfl rfl) rfl (fun _ _ _ h => h) ?_
      refine any_ro' (i := 10) (by kernel_rfl) rfl rfl (ro_pick rfl rfl) rfl (fun _ _ _ h => h) ?_
      refine any_doneL (by kernel_rfl) ?_
      refine Then_normal ?_
      refine wp_cond' rfl (fun hc19 => ?_) (fun hc19 => ?_)
      · replace hc19 := of_decide_eq_true hc19
        refine wp_seq' ?_
        refine wp_region' ?_
        refine ops_ro' rfl (ro_assign rfl) rfl ?_
        refine ops_nil ?_
        refine Then_normal ?_
        refine wp_ret' ?_
        refine InBlock_ret ?_
        refine Then_ret ?_
        refine Then_ret ?_
        refine InBlock_ret ?_
        refine Then_ret ?_
        refine' doneS_ret (res1 rfl rfl) ?_ ?_
        rotate_left 1
        exact ⟨by rw [ptOk_bad hi (by omega)], rfl⟩
        exact SubH.refl _
      · replace hc19 := of_decide_eq_false hc19
        refine wp_skip' ?_
        refine InBlock_normal ?_
        refine Then_normal ?_
        refine wp_region' ?_
        refine ops_ro' rfl (ro_add rfl rfl (wrap_inc (by omega))) rfl ?_
        refine ops_ro' rfl (ro_move rfl) rfl ?_
        refine ops_nil ?_
        refine Then_normal ?_
        refine back (m - 1) (by omega) (kept ⟨i + 1, ⟨by omega, by rw [List.take_succ_eq_append_getElem hi, List.all_append, ht]; simp [ptB]; omega⟩, rfl, rfl⟩ ?_ ?_ ?_)
        · exact (by repeat (first | exact Has.nil _ | refine Has.cons rfl ?_))
        · exact (by repeat (first | exact Has.nil _ | refine Has.cons rfl ?_))
        · exact SubH.refl _
  · replace hc7 := of_decide_eq_false hc7
    rw [List.take_of_length_le (by omega)] at ht
    refine wp_exit' ?_
    refine Then_exit ?_
    refine Then_exit ?_
    refine InBlock_here ?_
    refine Then_normal ?_
    refine wp_seq' ?_
    refine wp_region' ?_
    refine ops_ro' rfl (ro_move rfl) rfl ?_
    refine ops_ro' rfl (ro_neqS rfl rfl rfl) rfl ?_
    refine ops_split rfl rfl rfl (fun hg23 => ?_) (fun hg23 => ?_)
    · replace hg23 := of_decide_eq_true hg23
      refine ops_ro' rfl (ro_move rfl) rfl ?_
      refine ops_ro' rfl (ro_lenS (t' := 0) Tryd.underlying9 rfl) rfl ?_
      refine ops_ro' rfl (ro_leq rfl rfl rfl) rfl ?_
      refine ops_ro' rfl (ro_pick rfl rfl) rfl ?_
      refine ops_split rfl rfl rfl (fun hg28 => ?_) (fun hg28 => ?_)
      · replace hg28 := of_decide_eq_true hg28
        refine ops_ro' rfl (ro_move rfl) rfl ?_
        refine ops_ro' rfl (ro_neqS rfl rfl rfl) rfl ?_
        refine ops_ro' rfl (ro_pick rfl rfl) rfl ?_
        refine ops_split rfl rfl rfl (fun hg32 => ?_) (fun hg32 => ?_)
        · replace hg32 := of_decide_eq_true hg32
          refine ops_ro' rfl (ro_move rfl) rfl ?_
          refine ops_ro' rfl (ro_neqS rfl rfl rfl) rfl ?_
          refine ops_ro' rfl (ro_pick rfl rfl) rfl ?_
          refine ops_ro' rfl (ro_assign rfl) rfl ?_
          refine ops_nil ?_
          refine Then_normal ?_
          refine wp_ret' ?_
          refine' doneS_ret (res1 rfl rfl) ?_ ?_
          rotate_left 1
          exact ⟨by rw [ptOk_fin ht hg23 hg28 hg32], rfl⟩
          exact SubH.refl _
        · replace hg32 := of_decide_eq_false hg32
          refine ops_skip' rfl rfl ?_
          refine ops_skip' rfl rfl ?_
          refine ops_ro' rfl (ro_pick rfl rfl) rfl ?_
          refine ops_ro' rfl (ro_assign rfl) rfl ?_
          refine ops_nil ?_
          refine Then_normal ?_
          refine wp_ret' ?_
          refine' doneS_ret (res1 rfl rfl) ?_ ?_
          rotate_left 1
          exact ⟨by rw [ptOk_no (fun h => hg32 h.2.2)], rfl⟩
          exact SubH.refl _
      · replace hg28 := of_decide_eq_false hg28
        refine ops_skip' rfl rfl ?_
        refine ops_skip' rfl rfl ?_
        refine ops_ro' rfl (ro_pick rfl rfl) rfl ?_
        refine ops_ro' rfl (ro_move (v := .bool false) rfl) rfl ?_
        refine ops_skip' rfl rfl ?_
        refine ops_skip' rfl rfl ?_
        refine ops_ro' rfl (ro_pick rfl rfl) rfl ?_
        refine ops_ro' rfl (ro_assign rfl) rfl ?_
        refine ops_nil ?_
        refine Then_normal ?_
        refine wp_ret' ?_
        refine' doneS_ret (res1 rfl rfl) ?_ ?_
        rotate_left 1
        exact ⟨by rw [ptOk_no (fun h => hg28 h.2.1)], rfl⟩
        exact SubH.refl _
    · replace hg23 := of_decide_eq_false hg23
      refine ops_skip' rfl rfl ?_
      refine ops_skip' rfl rfl ?_
      refine ops_skip' rfl rfl ?_
      refine ops_ro' rfl (ro_pick rfl rfl) rfl ?_
      refine ops_ro' rfl (ro_move (v := .bool false) rfl) rfl ?_
      refine ops_skip' rfl rfl ?_
      refine ops_skip' rfl rfl ?_
      refine ops_ro' rfl (ro_pick rfl rfl) rfl ?_
      refine ops_ro' rfl (ro_move (v := .bool false) rfl) rfl ?_
      refine ops_skip' rfl rfl ?_
      refine ops_skip' rfl rfl ?_
      refine ops_ro' rfl (ro_pick rfl rfl) rfl ?_
      refine ops_ro' rfl (ro_assign rfl) rfl ?_
      refine ops_nil ?_
      refine Then_normal ?_
      refine wp_ret' ?_
      refine' doneS_ret (res1 rfl rfl) ?_ ?_
      rotate_left 1
      exact ⟨by rw [ptOk_no (fun h => hg23 h.1)], rfl⟩
      exact SubH.refl _


theorem qtRight_spec (s : List UInt8) (hs : s.length ≤ 9223372036854775806) : Tri Tryd.prog 17 [.string (str s)] [] (fun v H' => v = .bool (ptOk s) ∧ H' = []) := by
  refine tri_of_wpS Tryd.func17 rfl Tryd.ntmps17 (by simp) ?_
  refine wp_seq' ?_
  refine wp_region' ?_
  refine ops_ro' rfl (ro_assign rfl) rfl ?_
  refine ops_nil ?_
  refine Then_normal ?_
  refine wp_seq' ?_
  refine wp_seq' ?_
  refine wp_region' ?_
  refine ops_ro' rfl (ro_assign rfl) rfl ?_
  refine ops_nil ?_
  refine Then_normal ?_
  refine wp_block' ?_
  refine wp_loopK 2 (fun m Δ LL => ∃ (i : Nat), (i + m = s.length ∧ (s.take i).all ptB = true) ∧ Δ = [(3, .int .i64 (i : Nat))] ∧ LL = []) (m := s.length) (Has.cons (k := 0) rfl (Has.nil _)) (kept ⟨0, ⟨by omega, by simp⟩, rfl, rfl⟩ (by repeat (first | exact Has.nil _ | refine Has.cons rfl ?_)) (by repeat (first | exact Has.nil _ | refine Has.cons rfl ?_)) (by repeat (first | exact SubH.nil _ | refine SubH.cons 0 rfl ?_ | refine SubH.cons 1 rfl ?_ | refine SubH.cons 2 rfl ?_ | refine SubH.cons 3 rfl ?_ | refine SubH.cons 4 rfl ?_ | refine SubH.cons 5 rfl ?_ | refine SubH.cons 6 rfl ?_ | refine SubH.cons 7 rfl ?_ | refine SubH.cons 8 rfl ?_ | refine SubH.cons 9 rfl ?_ | refine SubH.cons 10 rfl ?_ | refine SubH.cons 11 rfl ?_ | refine SubH.cons 12 rfl ?_ | refine SubH.cons 13 rfl ?_ | refine SubH.rown ?_))) ?_
  rintro m Δ LL ⟨i, ⟨hm, ht⟩, rfl, rfl⟩
  simp only [List.cons_append, List.nil_append]
  refine wp_seq' ?_
  refine wp_seq' ?_
  refine wp_region' ?_
  refine ops_ro' rfl (ro_move rfl) rfl ?_
  refine ops_ro' rfl (ro_move rfl) rfl ?_
  refine ops_ro' rfl (ro_lenS (t' := 0) Tryd.underlying9 rfl) rfl ?_
  refine ops_ro' rfl (ro_lss rfl rfl rfl) rfl ?_
  refine ops_nil ?_
  refine Then_normal ?_
  refine wp_cond' rfl (fun hc7 => ?_) (fun hc7 => ?_)
  · replace hc7 := of_decide_eq_true hc7
    have hi : i < s.length := by omega
    have hb := UInt8.toNat_lt s[i]
    refine wp_skip' ?_
    refine Then_normal ?_
    refine wp_seq' ?_
    refine wp_block' ?_
    refine wp_seq' ?_
    refine wp_region' ?_
    refine ops_ro' rfl (ro_move rfl) rfl ?_
    refine ops_ro' rfl (ro_move rfl) rfl ?_
    refine ops_ro' rfl (ro_indexS Tryd.underlying9 rfl rfl rfl (by omega)) rfl ?_
    refine ops_ro' rfl (ro_eql rfl rfl rfl) rfl ?_
    refine ops_split rfl rfl rfl (fun hg14 => ?_) (fun hg14 => ?_)
    · replace hg14 := of_decide_eq_true hg14
      refine ops_skip' rfl rfl ?_
      refine ops_skip' rfl rfl ?_
      refine ops_skip' rfl rfl ?_
      refine ops_skip' rfl rfl ?_
      refine ops_ro' rfl (ro_pick rfl rfl) rfl ?_
      refine ops_nil ?_
      refine Then_normal ?_
      refine wp_condT rfl ?_
      refine wp_seq' ?_
      refine wp_region' ?_
      refine ops_ro' rfl (ro_assign rfl) rfl ?_
      refine ops_nil ?_
      refine Then_normal ?_
      refine wp_ret' ?_
      refine InBlock_ret ?_
      refine Then_ret ?_
      refine Then_ret ?_
      refine InBlock_ret ?_
      refine Then_ret ?_
      refine' doneS_ret (res1 rfl rfl) ?_ ?_
      rotate_left 1
      exact ⟨by rw [ptOk_bad hi (by omega)], rfl⟩
      exact SubH.refl _
    · replace hg14 := of_decide_eq_false hg14
      refine ops_ro' rfl (ro_move rfl) rfl ?_
      refine ops_ro' rfl (ro_move rfl) rfl ?_
      refine ops_ro' rfl (ro_indexS Tryd.underlying9 rfl rfl rfl (by omega)) rfl ?_
      refine ops_ro' rfl (ro_eql rfl rfl rfl) rfl ?_
      refine ops_ro' rfl (ro_pick rfl rfl) rfl ?_
      refine ops_nil ?_
      refine Then_normal ?_
      refine wp_cond' rfl (fun hc19 => ?_) (fun hc19 => ?_)
      · replace hc19 := of_decide_eq_true hc19
        refine wp_seq' ?_
        refine wp_region' ?_
        refine ops_ro' rfl (ro_assign rfl) rfl ?_
        refine ops_nil ?_
        refine Then_normal ?_
        refine wp_ret' ?_
        refine InBlock_ret ?_
        refine Then_ret ?_
        refine Then_ret ?_
        refine InBlock_ret ?_
        refine Then_ret ?_
        refine' doneS_ret (res1 rfl rfl) ?_ ?_
        rotate_left 1
        exact ⟨by rw [ptOk_bad hi (by omega)], rfl⟩
        exact SubH.refl _
      · replace hc19 := of_decide_eq_false hc19
        refine wp_skip' ?_
        refine InBlock_normal ?_
        refine Then_normal ?_
        refine wp_region' ?_
        refine ops_ro' rfl (ro_move rfl) rfl ?_
        refine ops_ro' rfl (ro_add rfl rfl (wrap_inc (by omega))) rfl ?_
        refine ops_ro' rfl (ro_assign rfl) rfl ?_
        refine ops_nil ?_
        refine Then_normal ?_
        refine back (m - 1) (by omega) (kept ⟨i + 1, ⟨by omega, by rw [List.take_succ_eq_append_getElem hi, List.all_append, ht]; simp [ptB]; omega⟩, rfl, rfl⟩ ?_ ?_ ?_)
        · exact (by repeat (first | exact Has.nil _ | refine Has.cons rfl ?_))
        · exact (by repeat (first | exact Has.nil _ | refine Has.cons rfl ?_))
        · exact SubH.refl _
  · replace hc7 := of_decide_eq_false hc7
    rw [List.take_of_length_le (by omega)] at ht
    refine wp_exit' ?_
    refine Then_exit ?_
    refine Then_exit ?_
    refine InBlock_here ?_
    refine Then_normal ?_
    refine wp_seq' ?_
    refine wp_region' ?_
    refine ops_ro' rfl (ro_move rfl) rfl ?_
    refine ops_ro' rfl (ro_lenS (t' := 0) Tryd.underlying9 rfl) rfl ?_
    refine ops_ro' rfl (ro_geq rfl rfl rfl) rfl ?_
    refine ops_split rfl rfl rfl (fun hg23 => ?_) (fun hg23 => ?_)
    · replace hg23 := of_decide_eq_true hg23
      refine ops_ro' rfl (ro_move rfl) rfl ?_
      refine ops_ro' rfl (ro_lenS (t' := 0) Tryd.underlying9 rfl) rfl ?_
      refine ops_ro' rfl (ro_leq rfl rfl rfl) rfl ?_
      refine ops_ro' rfl (ro_pick rfl rfl) rfl ?_
      refine ops_split rfl rfl rfl (fun hg28 => ?_) (fun hg28 => ?_)
      · replace hg28 := of_decide_eq_true hg28
        refine ops_ro' rfl (ro_move rfl) rfl ?_
        refine ops_ro' rfl (ro_neqS rfl rfl rfl) rfl ?_
        refine ops_ro' rfl (ro_pick rfl rfl) rfl ?_
        refine ops_split rfl rfl rfl (fun hg32 => ?_) (fun hg32 => ?_)
        · replace hg32 := of_decide_eq_true hg32
          refine ops_ro' rfl (ro_move rfl) rfl ?_
          refine ops_ro' rfl (ro_neqS rfl rfl rfl) rfl ?_
          refine ops_ro' rfl (ro_pick rfl rfl) rfl ?_
          refine ops_ro' rfl (ro_assign rfl) rfl ?_
          refine ops_nil ?_
          refine Then_normal ?_
          refine wp_ret' ?_
          refine' doneS_ret (res1 rfl rfl) ?_ ?_
          rotate_left 1
          exact ⟨by rw [ptOk_fin ht (List.length_pos_iff.1 (by omega)) hg28 hg32], rfl⟩
          exact SubH.refl _
        · replace hg32 := of_decide_eq_false hg32
          refine ops_skip' rfl rfl ?_
          refine ops_skip' rfl rfl ?_
          refine ops_ro' rfl (ro_pick rfl rfl) rfl ?_
          refine ops_ro' rfl (ro_assign rfl) rfl ?_
          refine ops_nil ?_
          refine Then_normal ?_
          refine wp_ret' ?_
          refine' doneS_ret (res1 rfl rfl) ?_ ?_
          rotate_left 1
          exact ⟨by rw [ptOk_no (fun h => hg32 h.2.2)], rfl⟩
          exact SubH.refl _
      · replace hg28 := of_decide_eq_false hg28
        refine ops_skip' rfl rfl ?_
        refine ops_skip' rfl rfl ?_
        refine ops_ro' rfl (ro_pick rfl rfl) rfl ?_
        refine ops_ro' rfl (ro_move (v := .bool false) rfl) rfl ?_
        refine ops_skip' rfl rfl ?_
        refine ops_skip' rfl rfl ?_
        refine ops_ro' rfl (ro_pick rfl rfl) rfl ?_
        refine ops_ro' rfl (ro_assign rfl) rfl ?_
        refine ops_nil ?_
        refine Then_normal ?_
        refine wp_ret' ?_
        refine' doneS_ret (res1 rfl rfl) ?_ ?_
        rotate_left 1
        exact ⟨by rw [ptOk_no (fun h => by have := List.length_pos_iff.2 h.1; omega)], rfl⟩
        exact SubH.refl _
    · replace hg23 := of_decide_eq_false hg23
      refine ops_skip' rfl rfl ?_
      refine ops_skip' rfl rfl ?_
      refine ops_skip' rfl rfl ?_
      refine ops_ro' rfl (ro_pick rfl rfl) rfl ?_
      refine ops_ro' rfl (ro_move (v := .bool false) rfl) rfl ?_
      refine ops_skip' rfl rfl ?_
      refine ops_skip' rfl rfl ?_
      refine ops_ro' rfl (ro_pick rfl rfl) rfl ?_
      refine ops_ro' rfl (ro_move (v := .bool false) rfl) rfl ?_
      refine ops_skip' rfl rfl ?_
      refine ops_skip' rfl rfl ?_
      refine ops_ro' rfl (ro_pick rfl rfl) rfl ?_
      refine ops_ro' rfl (ro_assign rfl) rfl ?_
      refine ops_nil ?_
      refine Then_normal ?_
      refine wp_ret' ?_
      refine' doneS_ret (res1 rfl rfl) ?_ ?_
      rotate_left 1
      exact ⟨by rw [ptOk_no (fun h => by have := List.length_pos_iff.2 h.1; omega)], rfl⟩
      exact SubH.refl _

end Go.Proofs.YtigaolglnnjnmaaDoor
