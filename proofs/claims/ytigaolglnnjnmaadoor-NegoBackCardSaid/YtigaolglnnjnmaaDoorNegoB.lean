/-
  Versions; the runs of chapter 9.
-/
import Derived.Test.YtigaolglnnjnmaaDoorNegoA
namespace Go.Proofs.YtigaolglnnjnmaaDoor
open Go.Sx
set_option linter.unusedVariables false
set_option linter.unusedSimpArgs false
set_option maxRecDepth 100000
set_option maxHeartbeats 4000000

theorem take_min (b : List UInt8) : List.take (min b.length 255 - 0) (List.drop 0 b) = b.take 255 := by
  rw [List.drop_zero, Nat.sub_zero]
  by_cases h : b.length ≤ 255
  · rw [Nat.min_eq_left h, List.take_length, List.take_of_length_le h]
  · rw [Nat.min_eq_right (by omega)]
theorem idx_le : ∀ (l s : List UInt8), s ≠ [] → Lib.index l s = -1 ∨ (0 ≤ Lib.index l s ∧ Lib.index l s + s.length ≤ l.length)
  | [], s, h => by
    left; unfold Lib.index
    cases s with
    | nil => exact absurd rfl h
    | cons x r => rfl
  | b :: l, s, h => by
    have ih := idx_le l s h
    unfold Lib.index
    split
    · rename_i hp
      right
      have := (List.isPrefixOf_iff_prefix.1 hp).length_le
      exact ⟨Int.le_refl _, by omega⟩
    · split
      · exact .inl rfl
      · rename_i h1 h2
        rcases ih with ih | ih
        · rw [ih] at h2; exact absurd rfl h2
        · right; rw [List.length_cons]; omega
def versN (b : List UInt8) (n : Int) : List UInt8 × Int × Int := if n < 0 then (if 255 ≤ b.length then ([], 0, 3) else ([], 0, 10)) else if veOk (b.take n.toNat) = true then (b.take n.toNat, n + 2, 0) else ([], 0, 12)
/-- what is read as a version -/
def vers (b : List UInt8) : List UInt8 × Int × Int := versN b (Lib.index (b.take 255) [13, 10])
theorem versN_a {b : List UInt8} {n : Int} (h : n < 0) (h1 : 255 ≤ b.length) : versN b n = ([], 0, 3) := by unfold versN; rw [if_pos h, if_pos h1]
theorem versN_b {b : List UInt8} {n : Int} (h : n < 0) (h1 : ¬ 255 ≤ b.length) : versN b n = ([], 0, 10) := by unfold versN; rw [if_pos h, if_neg h1]
theorem versN_c {b : List UInt8} {k : Nat} (h : veOk (b.take k) = false) : versN b (k : Int) = ([], 0, 12) := by unfold versN; rw [if_neg (by omega), Int.toNat_natCast, if_neg (by rw [h]; decide)]
theorem versN_d {b : List UInt8} {k : Nat} (h : veOk (b.take k) = true) : versN b (k : Int) = (b.take k, (k : Int) + 2, 0) := by unfold versN; rw [if_neg (by omega), Int.toNat_natCast, if_pos h]
theorem ngVersion_spec (V : HProp) (hM : Ml V) (p : Option Addr) (c : Nat) (b : List UInt8) (hV : Vw V (.slice p b.length c) b.length (cel b)) (hc : b.length ≤ c) (hl : b.length ≤ 140737488355328) : Tri Tryd.prog 25 [.slice p b.length c] [V] (fun v H' => ∃ K, (v = .tuple #[.string (str (vers b).1), .int .i64 (vers b).2.1, .int .i64 (vers b).2.2] ∧ K = []) ∧ H' = K ++ [V]) := by
  refine tri_of_wpS Tryd.func25 rfl Tryd.ntmps25 (by simp) ?_
  refine wp_seq' ?_
  refine wp_region' ?_
  refine ops_ro' rfl (ro_assign rfl) rfl ?_
  refine ops_ro' rfl (ro_assign rfl) rfl ?_
  refine ops_ro' rfl (ro_assign rfl) rfl ?_
  refine ops_nil ?_
  refine Then_normal ?_
  refine wp_seq' ?_
  refine wp_region' ?_
  refine ops_ro' rfl (ro_assign rfl) rfl ?_
  refine ops_nil ?_
  refine Then_normal ?_
  refine wp_seq' ?_
  refine wp_region' ?_
  refine ops_ro' rfl (ro_move rfl) rfl ?_
  refine ops_ro' rfl (ro_move rfl) rfl ?_
  refine ops_ro' rfl (ro_sliceLen Tryd.underlying22 rfl) rfl ?_
  refine ops_ro' rfl (ro_move rfl) rfl ?_
  refine ops_ro' rfl (ro_min rfl rfl (show (if (255 : Int) < ((b.length : Nat) : Int) then (255 : Int) else ((b.length : Nat) : Int)) = ((min b.length 255 : Nat) : Int) by split <;> omega)) rfl ?_
  refine ops_eff' rfl (eff_sliceB 0 rfl sl22 rfl (hV) rfl (bnd_of rfl rfl) (by omega) (by omega) hc) rfl ?_
  rintro _ _ ⟨p12, rfl, hv12, hn12, rfl⟩
  rw [take_min] at hv12 ⊢
  have hy : (b.take 255).length ≤ b.length := by rw [List.length_take]; omega
  have hy2 : (b.take 255).length ≤ 255 := by rw [List.length_take]; omega
  refine ops_eff' rfl (eff_buildSlice rfl (sbld (cs := cel [13, 10]) [.int .u8 0, .int .u8 0] sl22 (by decide) (by kernel_rfl) rfl)) rfl ?_
  rintro _ _ ⟨b13, rfl, rfl⟩
  refine ops_eff' rfl (eff_mark 0 Tryd.underlying22 Tryd.underlying5 rfl rfl rfl (by decide)) rfl ?_
  rintro _ _ ⟨rfl, rfl⟩
  simp only [List.set_cons_zero, List.set_cons_succ]
  refine ops_eff' rfl (eff_callM (Pre := []) Tryd.call38 rfl rfl (Split.nil _) (bidx_spec _ (Ml.pick 1 rfl hM) _ _ (c - 0) _ (b.take 255) [13, 10] (by first | exact (Vw.pick 0 rfl hV) | exact (Vw.pick 1 rfl hV) | exact (Vw.pick 2 rfl hV) | exact (Vw.pick 3 rfl hV) | exact (Vw.pick 4 rfl hV) | exact (Vw.pick 5 rfl hV) | exact (Vw.pick 6 rfl hV) | exact (Vw.pick 7 rfl hV) | exact (Vw.pick 8 rfl hV) | exact (Vw.pick 9 rfl hV) | exact (Vw.pick 0 rfl hv12) | exact (Vw.pick 1 rfl hv12) | exact (Vw.pick 2 rfl hv12) | exact (Vw.pick 3 rfl hv12) | exact (Vw.pick 4 rfl hv12) | exact (Vw.pick 5 rfl hv12) | exact (Vw.pick 6 rfl hv12) | exact (Vw.pick 7 rfl hv12) | exact (Vw.pick 8 rfl hv12) | exact (Vw.pick 9 rfl hv12) | exact (Vw.pick 0 rfl hv31) | exact (Vw.pick 1 rfl hv31) | exact (Vw.pick 2 rfl hv31) | exact (Vw.pick 3 rfl hv31) | exact (Vw.pick 4 rfl hv31) | exact (Vw.pick 5 rfl hv31) | exact (Vw.pick 6 rfl hv31) | exact (Vw.pick 7 rfl hv31) | exact (Vw.pick 8 rfl hv31) | exact (Vw.pick 9 rfl hv31) | exact (Vw.pick 0 rfl hv37) | exact (Vw.pick 1 rfl hv37) | exact (Vw.pick 2 rfl hv37) | exact (Vw.pick 3 rfl hv37) | exact (Vw.pick 4 rfl hv37) | exact (Vw.pick 5 rfl hv37) | exact (Vw.pick 6 rfl hv37) | exact (Vw.pick 7 rfl hv37) | exact (Vw.pick 8 rfl hv37) | exact (Vw.pick 9 rfl hv37) | exact Vw.pick 0 rfl Vw.row | exact Vw.pick 1 rfl Vw.row | exact Vw.pick 2 rfl Vw.row | exact Vw.pick 3 rfl Vw.row | exact Vw.pick 4 rfl Vw.row | exact Vw.pick 5 rfl Vw.row | exact Vw.pick 6 rfl Vw.row | exact Vw.pick 7 rfl Vw.row | exact Vw.pick 8 rfl Vw.row | exact Vw.pick 9 rfl Vw.row | exact Vw.nil _ | exact Vw.empty _ _) (by omega) (by omega) (by first | exact (Vw.pick 0 rfl hV) | exact (Vw.pick 1 rfl hV) | exact (Vw.pick 2 rfl hV) | exact (Vw.pick 3 rfl hV) | exact (Vw.pick 4 rfl hV) | exact (Vw.pick 5 rfl hV) | exact (Vw.pick 6 rfl hV) | exact (Vw.pick 7 rfl hV) | exact (Vw.pick 8 rfl hV) | exact (Vw.pick 9 rfl hV) | exact (Vw.pick 0 rfl hv12) | exact (Vw.pick 1 rfl hv12) | exact (Vw.pick 2 rfl hv12) | exact (Vw.pick 3 rfl hv12) | exact (Vw.pick 4 rfl hv12) | exact (Vw.pick 5 rfl hv12) | exact (Vw.pick 6 rfl hv12) | exact (Vw.pick 7 rfl hv12) | exact (Vw.pick 8 rfl hv12) | exact (Vw.pick 9 rfl hv12) | exact (Vw.pick 0 rfl hv31) | exact (Vw.pick 1 rfl hv31) | exact (Vw.pick 2 rfl hv31) | exact (Vw.pick 3 rfl hv31) | exact (Vw.pick 4 rfl hv31) | exact (Vw.pick 5 rfl hv31) | exact (Vw.pick 6 rfl hv31) | exact (Vw.pick 7 rfl hv31) | exact (Vw.pick 8 rfl hv31) | exact (Vw.pick 9 rfl hv31) | exact (Vw.pick 0 rfl hv37) | exact (Vw.pick 1 rfl hv37) | exact (Vw.pick 2 rfl hv37) | exact (Vw.pick 3 rfl hv37) | exact (Vw.pick 4 rfl hv37) | exact (Vw.pick 5 rfl hv37) | exact (Vw.pick 6 rfl hv37) | exact (Vw.pick 7 rfl hv37) | exact (Vw.pick 8 rfl hv37) | exact (Vw.pick 9 rfl hv37) | exact Vw.pick 0 rfl Vw.row | exact Vw.pick 1 rfl Vw.row | exact Vw.pick 2 rfl Vw.row | exact Vw.pick 3 rfl Vw.row | exact Vw.pick 4 rfl Vw.row | exact Vw.pick 5 rfl Vw.row | exact Vw.pick 6 rfl Vw.row | exact Vw.pick 7 rfl Vw.row | exact Vw.pick 8 rfl Vw.row | exact Vw.pick 9 rfl Vw.row | exact Vw.nil _ | exact Vw.empty _ _) (by decide) (by decide))) rfl ?_
  rintro _ H' ⟨_, ⟨rfl, rfl⟩, hH⟩
  simp only [List.cons_append, List.nil_append, List.eraseIdx_cons_zero, List.eraseIdx_cons_succ, List.set_cons_zero, List.set_cons_succ] at hH
  subst hH
  have hix := idx_le (b.take 255) [13, 10] (by decide)
  have hve : ∀ n, Lib.index (b.take 255) [13, 10] = n → vers b = versN b n := fun n h => by rw [← h]; rfl
  generalize Lib.index (b.take 255) [13, 10] = n at *
  replace hve := hve n rfl
  simp only [List.length_cons, List.length_nil] at hix
  refine ops_ro' rfl (ro_assign rfl) rfl ?_
  refine ops_nil ?_
  refine Then_normal ?_
  refine wp_seq' ?_
  refine wp_block' ?_
  refine wp_seq' ?_
  refine wp_region' ?_
  refine ops_ro' rfl (ro_move rfl) rfl ?_
  refine ops_ro' rfl (ro_lss rfl rfl rfl) rfl ?_
  refine ops_split rfl rfl rfl (fun hg19 => ?_) (fun hg19 => ?_)
  · replace hg19 := of_decide_eq_true hg19
    refine ops_ro' rfl (ro_move rfl) rfl ?_
    refine ops_ro' rfl (ro_sliceLen Tryd.underlying22 rfl) rfl ?_
    refine ops_ro' rfl (ro_move rfl) rfl ?_
    refine ops_ro' rfl (ro_geq rfl rfl rfl) rfl ?_
    refine ops_ro' rfl (ro_pick rfl rfl) rfl ?_
    refine ops_ro' rfl (ro_assign rfl) rfl ?_
    refine ops_nil ?_
    refine Then_normal ?_
    refine wp_cond' rfl (fun hc16 => ?_) (fun hc16 => ?_)
    · replace hc16 := of_decide_eq_true hc16
      refine wp_seq' ?_
      refine wp_region' ?_
      refine ops_ro' rfl (ro_assign rfl) rfl ?_
      refine ops_ro' rfl (ro_assign rfl) rfl ?_
      refine ops_ro' rfl (ro_assign rfl) rfl ?_
      refine ops_nil ?_
      refine Then_normal ?_
      refine wp_ret' ?_
      refine InBlock_ret ?_
      refine Then_ret ?_
      refine' doneS_ret (res3 rfl rfl rfl rfl) ?_ ?_
      rotate_left 1
      exact ⟨_, ⟨by rw [hve, versN_a (by omega) (by omega)]; first | done | exact rfl, rfl⟩, rfl⟩
      exact (SubH.cons 1 rfl (SubH.nil _))
    · replace hc16 := of_decide_eq_false hc16
      refine wp_seq' ?_
      refine wp_region' ?_
      refine ops_ro' rfl (ro_move rfl) rfl ?_
      refine ops_ro' rfl (ro_lss rfl rfl (decide_eq_true (by omega))) rfl ?_
      refine ops_ro' rfl (ro_assign rfl) rfl ?_
      refine ops_nil ?_
      refine Then_normal ?_
      refine wp_condT rfl ?_
      refine wp_seq' ?_
      refine wp_region' ?_
      refine ops_ro' rfl (ro_assign rfl) rfl ?_
      refine ops_ro' rfl (ro_assign rfl) rfl ?_
      refine ops_ro' rfl (ro_assign rfl) rfl ?_
      refine ops_nil ?_
      refine Then_normal ?_
      refine wp_ret' ?_
      refine InBlock_ret ?_
      refine Then_ret ?_
      refine' doneS_ret (res3 rfl rfl rfl rfl) ?_ ?_
      rotate_left 1
      exact ⟨_, ⟨by rw [hve, versN_b (by omega) (by omega)]; first | done | exact rfl, rfl⟩, rfl⟩
      exact (SubH.cons 1 rfl (SubH.nil _))
  · replace hg19 := of_decide_eq_false hg19
    refine ops_skip' rfl rfl ?_
    refine ops_skip' rfl rfl ?_
    refine ops_skip' rfl rfl ?_
    refine ops_skip' rfl rfl ?_
    refine ops_ro' rfl (ro_pick rfl rfl) rfl ?_
    refine ops_ro' rfl (ro_assign rfl) rfl ?_
    refine ops_nil ?_
    refine Then_normal ?_
    refine wp_condF rfl ?_
    refine wp_seq' ?_
    refine wp_region' ?_
    refine ops_ro' rfl (ro_move rfl) rfl ?_
    refine ops_ro' rfl (ro_lss rfl rfl (decide_eq_false (by omega))) rfl ?_
    refine ops_ro' rfl (ro_assign rfl) rfl ?_
    refine ops_nil ?_
    refine Then_normal ?_
    refine wp_condF rfl ?_
    refine wp_seq' ?_
    obtain ⟨k, rfl⟩ := Int.eq_ofNat_of_zero_le (show 0 ≤ n by omega)
    have hkb : k ≤ b.length := by omega
    refine wp_region' ?_
    refine ops_ro' rfl (ro_move rfl) rfl ?_
    refine ops_ro' rfl (ro_move rfl) rfl ?_
    refine ops_eff' rfl (eff_sliceB 1 rfl sl22 rfl (hV) rfl (bnd_of rfl rfl) (by omega) (by omega) hc) rfl ?_
    rintro _ _ ⟨p31, rfl, hv31, hn31, rfl⟩
    rw [show List.take (k - 0) (List.drop 0 b) = b.take k from by simp] at hv31 ⊢
    refine ops_ro' rfl (ro_toStr Tryd.underlying22 Tryd.underlying5 Tryd.underlying9 rfl (Vw.pick 1 rfl hv31) rfl) rfl ?_
    refine ops_eff' rfl (eff_call Tryd.call37 rfl rfl (by repeat (first | exact Split.nil _ | apply Split.cons 0 rfl | apply Split.cons 1 rfl | apply Split.cons 2 rfl | apply Split.cons 3 rfl | apply Split.cons 4 rfl | apply Split.cons 5 rfl | apply Split.cons 6 rfl | apply Split.cons 7 rfl | apply Split.cons 8 rfl | apply Split.cons 9 rfl | apply Split.cons 10 rfl | apply Split.cons 11 rfl)) (ngFine_spec (b.take k) (by rw [List.length_take]; omega))) rfl ?_
    rintro _ H' ⟨_, ⟨rfl, rfl⟩, hH⟩
    simp only [List.cons_append, List.nil_append, List.eraseIdx_cons_zero, List.eraseIdx_cons_succ, List.set_cons_zero, List.set_cons_succ] at hH
    subst hH
    refine ops_ro' rfl (ro_not rfl rfl) rfl ?_
    refine ops_ro' rfl (ro_assign rfl) rfl ?_
    refine ops_nil ?_
    refine Then_normal ?_
    refine wp_cond' rfl (fun hc28 => ?_) (fun hc28 => ?_)
    · simp only [Bool.and_eq_true, decide_eq_true_eq, Bool.not_eq_true', decide_eq_false_iff_not, bne_iff_ne, ne_eq] at hc28
      refine wp_seq' ?_
      refine wp_region' ?_
      refine ops_ro' rfl (ro_assign rfl) rfl ?_
      refine ops_ro' rfl (ro_assign rfl) rfl ?_
      refine ops_ro' rfl (ro_assign rfl) rfl ?_
      refine ops_nil ?_
      refine Then_normal ?_
      refine wp_ret' ?_
      refine InBlock_ret ?_
      refine Then_ret ?_
      refine' doneS_ret (res3 rfl rfl rfl rfl) ?_ ?_
      rotate_left 1
      exact ⟨_, ⟨by rw [hve, versN_c (by simpa using hc28)]; first | done | exact rfl, rfl⟩, rfl⟩
      exact (SubH.cons 1 rfl (SubH.nil _))
    · simp only [Bool.and_eq_false_iff, decide_eq_false_iff_not, Bool.not_eq_false', decide_eq_true_eq] at hc28
      refine wp_skip' ?_
      refine InBlock_normal ?_
      refine Then_normal ?_
      refine wp_seq' ?_
      refine wp_region' ?_
      refine ops_ro' rfl (ro_move rfl) rfl ?_
      refine ops_ro' rfl (ro_move rfl) rfl ?_
      refine ops_eff' rfl (eff_sliceB 1 rfl sl22 rfl (hV) rfl (bnd_of rfl rfl) (by omega) (by omega) hc) rfl ?_
      rintro _ _ ⟨p37, rfl, hv37, hn37, rfl⟩
      rw [show List.take (k - 0) (List.drop 0 b) = b.take k from by simp] at hv37 ⊢
      refine ops_ro' rfl (ro_toStr Tryd.underlying22 Tryd.underlying5 Tryd.underlying9 rfl (Vw.pick 1 rfl hv37) rfl) rfl ?_
      refine ops_ro' rfl (ro_move rfl) rfl ?_
      refine ops_ro' rfl (ro_add rfl rfl (wrap_i64_in (by omega) (by omega))) rfl ?_
      refine ops_ro' rfl (ro_assign rfl) rfl ?_
      refine ops_ro' rfl (ro_assign rfl) rfl ?_
      refine ops_ro' rfl (ro_assign rfl) rfl ?_
      refine ops_nil ?_
      refine Then_normal ?_
      refine wp_ret' ?_
      refine' doneS_ret (res3 rfl rfl rfl rfl) ?_ ?_
      rotate_left 1
      exact ⟨_, ⟨by rw [hve, versN_d (by simpa using hc28)]; first | done | exact rfl, rfl⟩, rfl⟩
      exact (SubH.cons 1 rfl (SubH.nil _))


theorem known9_spec (V : HProp) (hM : Ml V) : Tri Tryd.prog 32 [] [V] (fun v H' => v = .bool true ∧ H' = [V]) := by
  refine tri_of_wpS Tryd.func32 rfl Tryd.ntmps32 (by simp) ?_
  refine wp_seq' ?_
  refine wp_region' ?_
  refine ops_ro' rfl (ro_assign rfl) rfl ?_
  refine ops_nil ?_
  refine Then_normal ?_
  refine wp_seq' ?_
  refine wp_region' ?_
  refine ops_eff' rfl (eff_lit sl24 rfl (sbld (cs := txs [[97], [98]]) [(.string ByteArray.empty), (.string ByteArray.empty)] sl24 (by decide) (by kernel_rfl) rfl) rfl (by decide)) rfl ?_
  rintro _ _ ⟨b9, rfl, rfl⟩
  refine ops_eff' rfl (eff_lit sl24 rfl (sbld (cs := txs [[99], [98]]) [(.string ByteArray.empty), (.string ByteArray.empty)] sl24 (by decide) (by kernel_rfl) rfl) rfl (by decide)) rfl ?_
  rintro _ _ ⟨b10, rfl, rfl⟩
  refine ops_eff' rfl (eff_callM (Pre := []) Tryd.call31 rfl rfl (Split.nil _) (ngChoose_spec _ _ _ [[97], [98]] (by first | exact Vw.pick 0 rfl Vw.row | exact Vw.pick 1 rfl Vw.row | exact Vw.pick 2 rfl Vw.row | exact Vw.pick 3 rfl Vw.row | exact Vw.pick 4 rfl Vw.row | exact Vw.pick 5 rfl Vw.row | exact Vw.pick 6 rfl Vw.row | exact Vw.pick 7 rfl Vw.row | exact Vw.nil _ | exact Vw.empty _ _) (by decide) _ _ [[99], [98]] (by first | exact Vw.pick 0 rfl Vw.row | exact Vw.pick 1 rfl Vw.row | exact Vw.pick 2 rfl Vw.row | exact Vw.pick 3 rfl Vw.row | exact Vw.pick 4 rfl Vw.row | exact Vw.pick 5 rfl Vw.row | exact Vw.pick 6 rfl Vw.row | exact Vw.pick 7 rfl Vw.row | exact Vw.nil _ | exact Vw.empty _ _) (by decide))) rfl ?_
  rintro _ H' ⟨_, ⟨rfl, rfl⟩, hH⟩
  simp only [List.cons_append, List.nil_append, List.eraseIdx_cons_zero, List.eraseIdx_cons_succ, List.set_cons_zero, List.set_cons_succ] at hH
  subst hH
  rw [show chO [[97], [98]] [[99], [98]] = ([98], (0 : Int)) by decide]
  refine ops_ro' rfl (ro_move rfl) rfl ?_
  refine ops_ro' rfl (ro_extract rfl rfl) rfl ?_
  refine ops_ro' rfl (ro_extract rfl rfl) rfl ?_
  refine ops_ro' rfl (ro_assign rfl) rfl ?_
  refine ops_ro' rfl (ro_assign rfl) rfl ?_
  refine ops_nil ?_
  refine Then_normal ?_
  refine wp_seq' ?_
  refine wp_region' ?_
  refine ops_eff' rfl (eff_lit sl24 rfl (sbld (cs := txs [[97]]) [(.string ByteArray.empty)] sl24 (by decide) (by kernel_rfl) rfl) rfl (by decide)) rfl ?_
  rintro _ _ ⟨b15, rfl, rfl⟩
  refine ops_eff' rfl (eff_lit sl24 rfl (sbld (cs := txs [[98]]) [(.string ByteArray.empty)] sl24 (by decide) (by kernel_rfl) rfl) rfl (by decide)) rfl ?_
  rintro _ _ ⟨b16, rfl, rfl⟩
  refine ops_eff' rfl (eff_callM (Pre := []) Tryd.call31 rfl rfl (Split.nil _) (ngChoose_spec _ _ _ [[97]] (by first | exact Vw.pick 0 rfl Vw.row | exact Vw.pick 1 rfl Vw.row | exact Vw.pick 2 rfl Vw.row | exact Vw.pick 3 rfl Vw.row | exact Vw.pick 4 rfl Vw.row | exact Vw.pick 5 rfl Vw.row | exact Vw.pick 6 rfl Vw.row | exact Vw.pick 7 rfl Vw.row | exact Vw.nil _ | exact Vw.empty _ _) (by decide) _ _ [[98]] (by first | exact Vw.pick 0 rfl Vw.row | exact Vw.pick 1 rfl Vw.row | exact Vw.pick 2 rfl Vw.row | exact Vw.pick 3 rfl Vw.row | exact Vw.pick 4 rfl Vw.row | exact Vw.pick 5 rfl Vw.row | exact Vw.pick 6 rfl Vw.row | exact Vw.pick 7 rfl Vw.row | exact Vw.nil _ | exact Vw.empty _ _) (by decide))) rfl ?_
  rintro _ H' ⟨_, ⟨rfl, rfl⟩, hH⟩
  simp only [List.cons_append, List.nil_append, List.eraseIdx_cons_zero, List.eraseIdx_cons_succ, List.set_cons_zero, List.set_cons_succ] at hH
  subst hH
  rw [show chO [[97]] [[98]] = ([], (22 : Int)) by decide]
  refine ops_ro' rfl (ro_move rfl) rfl ?_
  refine ops_ro' rfl (ro_extract rfl rfl) rfl ?_
  refine ops_ro' rfl (ro_extract rfl rfl) rfl ?_
  refine ops_ro' rfl (ro_assign rfl) rfl ?_
  refine ops_ro' rfl (ro_assign rfl) rfl ?_
  refine ops_nil ?_
  refine Then_normal ?_
  refine wp_seq' ?_
  refine wp_region' ?_
  refine ops_eff' rfl (eff_buildSlice rfl (sbld (cs := cel [83, 83, 72, 45, 50, 46, 48, 45, 120, 13, 10, 109, 111, 114, 101]) [.int .u8 0, .int .u8 0, .int .u8 0, .int .u8 0, .int .u8 0, .int .u8 0, .int .u8 0, .int .u8 0, .int .u8 0, .int .u8 0, .int .u8 0, .int .u8 0, .int .u8 0, .int .u8 0, .int .u8 0] sl22 (by decide) (by kernel_rfl) rfl)) rfl ?_
  rintro _ _ ⟨b21, rfl, rfl⟩
  refine ops_eff' rfl (eff_mark 0 Tryd.underlying22 Tryd.underlying5 rfl rfl rfl (by decide)) rfl ?_
  rintro _ _ ⟨rfl, rfl⟩
  simp only [List.set_cons_zero, List.set_cons_succ]
  refine ops_eff' rfl (eff_callM (Pre := []) Tryd.call25 rfl rfl (Split.nil _) (ngVersion_spec _ (Ml.pick 5 rfl hM) _ _ [83, 83, 72, 45, 50, 46, 48, 45, 120, 13, 10, 109, 111, 114, 101] (by first | exact Vw.pick 0 rfl Vw.row | exact Vw.pick 1 rfl Vw.row | exact Vw.pick 2 rfl Vw.row | exact Vw.pick 3 rfl Vw.row | exact Vw.pick 4 rfl Vw.row | exact Vw.pick 5 rfl Vw.row | exact Vw.pick 6 rfl Vw.row | exact Vw.pick 7 rfl Vw.row | exact Vw.nil _ | exact Vw.empty _ _) (by decide) (by decide))) rfl ?_
  rintro _ H' ⟨_, ⟨rfl, rfl⟩, hH⟩
  simp only [List.cons_append, List.nil_append, List.eraseIdx_cons_zero, List.eraseIdx_cons_succ, List.set_cons_zero, List.set_cons_succ] at hH
  subst hH
  rw [show vers [83, 83, 72, 45, 50, 46, 48, 45, 120, 13, 10, 109, 111, 114, 101] = ([83, 83, 72, 45, 50, 46, 48, 45, 120], (11 : Int), (0 : Int)) by decide]
  refine ops_ro' rfl (ro_move rfl) rfl ?_
  refine ops_ro' rfl (ro_extract rfl rfl) rfl ?_
  refine ops_ro' rfl (ro_extract rfl rfl) rfl ?_
  refine ops_ro' rfl (ro_extract rfl rfl) rfl ?_
  refine ops_ro' rfl (ro_assign rfl) rfl ?_
  refine ops_ro' rfl (ro_assign rfl) rfl ?_
  refine ops_ro' rfl (ro_assign rfl) rfl ?_
  refine ops_nil ?_
  refine Then_normal ?_
  refine wp_seq' ?_
  refine wp_region' ?_
  refine ops_ro' rfl (ro_move rfl) rfl ?_
  refine ops_ro' rfl (ro_eqlS rfl rfl (decide_eq_true (by decide))) rfl ?_
  refine ops_ro' rfl (ro_move (v := .bool true) rfl) rfl ?_
  refine ops_ro' rfl (ro_move rfl) rfl ?_
  refine ops_ro' rfl (ro_eql rfl rfl (decide_eq_true (by omega))) rfl ?_
  refine ops_ro' rfl (ro_pick rfl rfl) rfl ?_
  refine ops_ro' rfl (ro_move (v := .bool true) rfl) rfl ?_
  refine ops_ro' rfl (ro_move rfl) rfl ?_
  refine ops_ro' rfl (ro_eql rfl rfl (decide_eq_true (by omega))) rfl ?_
  refine ops_ro' rfl (ro_pick rfl rfl) rfl ?_
  refine ops_ro' rfl (ro_move (v := .bool true) rfl) rfl ?_
  refine ops_ro' rfl (ro_move rfl) rfl ?_
  refine ops_ro' rfl (ro_eqlS rfl rfl (decide_eq_true (by decide))) rfl ?_
  refine ops_ro' rfl (ro_pick rfl rfl) rfl ?_
  refine ops_ro' rfl (ro_move (v := .bool true) rfl) rfl ?_
  refine ops_ro' rfl (ro_move rfl) rfl ?_
  refine ops_ro' rfl (ro_eql rfl rfl rfl) rfl ?_
  refine ops_ro' rfl (ro_pick rfl rfl) rfl ?_
  refine ops_ro' rfl (ro_move (v := .bool true) rfl) rfl ?_
  refine ops_ro' rfl (ro_move rfl) rfl ?_
  refine ops_ro' rfl (ro_eql rfl rfl rfl) rfl ?_
  refine ops_ro' rfl (ro_pick rfl rfl) rfl ?_
  refine ops_ro' rfl (ro_assign rfl) rfl ?_
  refine ops_nil ?_
  refine Then_normal ?_
  refine wp_ret' ?_
  refine' doneS_ret (res1 rfl rfl) ?_ ?_
  rotate_left 1
  exact ⟨rfl, rfl⟩
  exact (SubH.cons 5 rfl (SubH.nil _))

end Go.Proofs.YtigaolglnnjnmaaDoor
