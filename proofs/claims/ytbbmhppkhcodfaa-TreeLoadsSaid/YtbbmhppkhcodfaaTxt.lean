/-
  Lists of texts: held against one another, cut short.
-/
import Derived.Test.YtbbmhppkhcodfaaSxStr
import Derived.Test.YtbbmhppkhcodfaaTy
namespace Go.Proofs.Ytbbmhppkhcodfaa
open Go.Sx
set_option linter.unusedVariables false
set_option linter.unusedSimpArgs false
set_option maxRecDepth 100000
set_option maxHeartbeats 4000000

theorem kHead (l : List UInt8) (n : Nat) : Tri Try.prog 43 [.string (str l), .int .i64 n] [] (fun v H' => v = .string (str (l.take n)) ∧ H' = []) := by
  refine tri_of_wpS Try.func43 rfl Try.ntmps43 (by simp) ?_
  refine wp_seq' ?_
  refine wp_region' ?_
  refine ops_ro' rfl (ro_assign rfl) rfl ?_
  refine ops_nil ?_
  refine Then_normal ?_
  refine wp_seq' ?_
  refine wp_seq' ?_
  refine wp_region' ?_
  refine ops_ro' rfl (ro_move rfl) rfl ?_
  refine ops_ro' rfl (ro_lenS (t' := 0) Try.underlying9 rfl) rfl ?_
  refine ops_ro' rfl (ro_move rfl) rfl ?_
  refine ops_ro' rfl (ro_gtr rfl rfl rfl) rfl ?_
  refine ops_nil ?_
  refine Then_normal ?_
  refine wp_cond' rfl (fun hc8 => ?_) (fun hc8 => ?_)
  · replace hc8 := of_decide_eq_true hc8
    refine wp_seq' ?_
    refine wp_region' ?_
    refine ops_ro' rfl (ro_move rfl) rfl ?_
    refine ops_ro' rfl (ro_move rfl) rfl ?_
    refine ops_ro' rfl (ro_sliceS Try.underlying9 rfl rfl (bnd_of rfl rfl) (by omega) (by omega)) rfl ?_
    refine ops_ro' rfl (ro_assign rfl) rfl ?_
    refine ops_nil ?_
    refine Then_normal ?_
    refine wp_ret' ?_
    refine Then_ret ?_
    refine' doneS_ret (res1 rfl rfl) ?_ ?_
    rotate_left 1
    exact ⟨by simp, rfl⟩
    exact SubH.refl _
  · replace hc8 := of_decide_eq_false hc8
    refine wp_skip' ?_
    refine Then_normal ?_
    refine wp_seq' ?_
    refine wp_region' ?_
    refine ops_ro' rfl (ro_move rfl) rfl ?_
    refine ops_ro' rfl (ro_assign rfl) rfl ?_
    refine ops_nil ?_
    refine Then_normal ?_
    refine wp_ret' ?_
    refine' doneS_ret (res1 rfl rfl) ?_ ?_
    rotate_left 1
    exact ⟨by rw [List.take_of_length_le (by omega)], rfl⟩
    exact SubH.refl _


theorem kCut (V : HProp) (p : Option Addr) (c : Nat) (l : List UInt8) (n : Nat) (hV : Vw V (.slice p l.length c) l.length (cel l)) (hc : l.length ≤ c) :
    Tri Try.prog 12 [.slice p l.length c, .int .i64 n] [V] (fun v H' => ∃ K, (∃ p' c', v = .slice p' (l.take n).length c' ∧ Vw V (.slice p' (l.take n).length c') (l.take n).length (cel (l.take n)) ∧ (l.take n).length ≤ c' ∧ K = []) ∧ H' = K ++ [V]) := by
  refine tri_of_wpS Try.func12 rfl Try.ntmps12 (by simp) ?_
  refine wp_seq' ?_
  refine wp_region' ?_
  refine ops_ro' rfl (ro_assign rfl) rfl ?_
  refine ops_nil ?_
  refine Then_normal ?_
  refine wp_seq' ?_
  refine wp_seq' ?_
  refine wp_region' ?_
  refine ops_ro' rfl (ro_move rfl) rfl ?_
  refine ops_ro' rfl (ro_sliceLen Try.underlying30 rfl) rfl ?_
  refine ops_ro' rfl (ro_move rfl) rfl ?_
  refine ops_ro' rfl (ro_gtr rfl rfl rfl) rfl ?_
  refine ops_nil ?_
  refine Then_normal ?_
  refine wp_cond' rfl (fun hc8 => ?_) (fun hc8 => ?_)
  · replace hc8 := of_decide_eq_true hc8
    refine wp_seq' ?_
    refine wp_region' ?_
    refine ops_ro' rfl (ro_move rfl) rfl ?_
    refine ops_ro' rfl (ro_move rfl) rfl ?_
    refine ops_eff' rfl (eff_sliceB 0 rfl sl30 rfl (hV) rfl (bnd_of rfl rfl) (by omega) (by omega) hc) rfl ?_
    rintro _ _ ⟨p11, rfl, hv11, hn11, rfl⟩
    refine ops_ro' rfl (ro_assign rfl) rfl ?_
    refine ops_nil ?_
    refine Then_normal ?_
    refine wp_ret' ?_
    refine Then_ret ?_
    refine' doneS_ret (res1 rfl rfl) ?_ ?_
    rotate_left 1
    exact ⟨_, ⟨p11, c, rfl, by simpa [St_cons, St_nil, star_emp] using hv11, by simp; omega, rfl⟩, rfl⟩
    exact SubH.refl _
  · replace hc8 := of_decide_eq_false hc8
    refine wp_skip' ?_
    refine Then_normal ?_
    refine wp_seq' ?_
    refine wp_region' ?_
    refine ops_ro' rfl (ro_move rfl) rfl ?_
    refine ops_ro' rfl (ro_assign rfl) rfl ?_
    refine ops_nil ?_
    refine Then_normal ?_
    refine wp_ret' ?_
    refine' doneS_ret (res1 rfl rfl) ?_ ?_
    rotate_left 1
    exact ⟨_, ⟨p, c, by rw [List.take_of_length_le (by omega)], by rw [List.take_of_length_le (by omega)]; exact hV, by rw [List.take_of_length_le (by omega)]; exact hc, rfl⟩, rfl⟩
    exact SubH.refl _


def few2 (l : List (List UInt8)) (most : Nat) : List (List UInt8) := l.map fun x => x.take most
theorem few2_succ {xs : List (List UInt8)} {i most : Nat} (hi : i < xs.length) : few2 (xs.take (i + 1)) most = few2 (xs.take i) most ++ [xs[i].take most] := by
  rw [few2, few2, List.take_succ_eq_append_getElem hi, List.map_append]; rfl
theorem kFew (V : HProp) (q : Option Addr) (cq : Nat) (xs : List (List UInt8)) (hV : Vw V (.slice q xs.length cq) xs.length (txs xs)) (n most : Nat) (hn : n ≤ 1000) (hx : xs.length ≤ 9223372036854775807) :
    Tri Try.prog 22 [.slice q xs.length cq, .int .i64 n, .int .i64 most] [V] (fun v H' => ∃ K, (∃ p c, v = .slice p (few2 (xs.take n) most).length c ∧ K = [row 9 1 (.slice p (few2 (xs.take n) most).length c) (few2 (xs.take n) most).length (txs (few2 (xs.take n) most))]) ∧ H' = K ++ [V]) := by
  refine tri_of_wpS Try.func22 rfl Try.ntmps22 (by simp) ?_
  refine wp_seq' ?_
  refine wp_region' ?_
  refine ops_ro' rfl (ro_assign rfl) rfl ?_
  refine ops_nil ?_
  refine Then_normal ?_
  refine wp_seq' ?_
  refine wp_region' ?_
  refine ops_ro' rfl (ro_assign rfl) rfl ?_
  refine ops_nil ?_
  refine Then_normal ?_
  refine wp_seq' ?_
  refine wp_seq' ?_
  refine wp_region' ?_
  refine ops_ro' rfl (ro_assign rfl) rfl ?_
  refine ops_nil ?_
  refine Then_normal ?_
  refine wp_block' ?_
  refine wp_loopK 3 (fun m Δ LL => ∃ (i : Nat) (p : Option Addr) (c : Nat), (i + m = xs.length ∧ i ≤ n) ∧ Δ = [(7, .slice p (few2 (xs.take i) most).length c), (8, .int .i64 (i : Nat))] ∧ LL = [row 9 1 (.slice p (few2 (xs.take i) most).length c) (few2 (xs.take i) most).length (txs (few2 (xs.take i) most)), V]) (m := xs.length) (Has.cons (k := 0) rfl (Has.cons (k := 1) rfl (Has.cons (k := 2) rfl (Has.nil _)))) (kept ⟨0, none, 0, ⟨by omega, by omega⟩, rfl, rfl⟩ (by repeat (first | exact Has.nil _ | refine Has.cons rfl ?_)) (by repeat (first | exact Has.nil _ | refine Has.cons rfl ?_)) (by repeat (first | exact SubH.nil _ | refine SubH.cons 0 rfl ?_ | refine SubH.cons 1 rfl ?_ | refine SubH.cons 2 rfl ?_ | refine SubH.cons 3 rfl ?_ | refine SubH.cons 4 rfl ?_ | refine SubH.cons 5 rfl ?_ | refine SubH.cons 6 rfl ?_ | refine SubH.cons 7 rfl ?_ | refine SubH.cons 8 rfl ?_ | refine SubH.cons 9 rfl ?_ | refine SubH.cons 10 rfl ?_ | refine SubH.cons 11 rfl ?_ | refine SubH.cons 12 rfl ?_ | refine SubH.cons 13 rfl ?_ | refine SubH.rown ?_))) ?_
  rintro m Δ LL ⟨i, p, c, ⟨hm, hin⟩, rfl, rfl⟩
  simp only [List.cons_append, List.nil_append]
  refine wp_seq' ?_
  refine wp_seq' ?_
  refine wp_region' ?_
  refine ops_ro' rfl (ro_move rfl) rfl ?_
  refine ops_ro' rfl (ro_move rfl) rfl ?_
  refine ops_ro' rfl (ro_sliceLen Try.underlying29 rfl) rfl ?_
  refine ops_ro' rfl (ro_lss rfl rfl rfl) rfl ?_
  refine ops_split rfl rfl rfl (fun hg13 => ?_) (fun hg13 => ?_)
  · replace hg13 := of_decide_eq_true hg13
    have hi : i < xs.length := by omega
    have hfl : (few2 (xs.take i) most).length = i := by simp [few2]; omega
    refine ops_know (fun w F s => vw_ptr (Vw.pick (H := [_, V]) 1 rfl hV) s (by omega)) ?_
    rintro ⟨b0, o0, rfl⟩
    refine ops_ro' rfl (ro_move rfl) rfl ?_
    refine ops_ro' rfl (ro_move rfl) rfl ?_
    refine ops_ro' rfl (ro_lss rfl rfl rfl) rfl ?_
    refine ops_ro' rfl (ro_pick rfl rfl) rfl ?_
    refine ops_nil ?_
    refine Then_normal ?_
    refine wp_cond' rfl (fun hc17 => ?_) (fun hc17 => ?_)
    · replace hc17 := of_decide_eq_true hc17
      refine wp_skip' ?_
      refine Then_normal ?_
      refine wp_seq' ?_
      refine wp_block' ?_
      refine wp_region' ?_
      refine ops_ro' rfl (ro_move rfl) rfl ?_
      refine ops_ro' rfl (ro_move rfl) rfl ?_
      refine ops_ro' rfl (ro_move rfl) rfl ?_
      refine ops_ro' rfl (ro_indexSlice sl29 rfl rfl rfl (by omega)) rfl ?_
      refine ops_ro' rfl (ro_load sc9 rfl (Rd.pick 1 rfl (Rd.elem (j := 0) (vw_rdn hV) Tx.len (List.getElem?_eq_getElem hi) rfl))) rfl ?_
      refine ops_ro' rfl (ro_move rfl) rfl ?_
      refine ops_eff' rfl (eff_call Try.call43 rfl rfl (by repeat (first | exact Split.nil _ | apply Split.cons 0 rfl | apply Split.cons 1 rfl | apply Split.cons 2 rfl | apply Split.cons 3 rfl | apply Split.cons 4 rfl | apply Split.cons 5 rfl | apply Split.cons 6 rfl | apply Split.cons 7 rfl | apply Split.cons 8 rfl | apply Split.cons 9 rfl | apply Split.cons 10 rfl | apply Split.cons 11 rfl)) (kHead xs[i] most)) rfl ?_
      rintro _ H' ⟨_, ⟨rfl, rfl⟩, hH⟩
      simp only [List.cons_append, List.nil_append, List.eraseIdx_cons_zero, List.eraseIdx_cons_succ, List.set_cons_zero, List.set_cons_succ] at hH
      subst hH
      refine ops_eff' rfl (eff_lit sl29 rfl (sbld (cs := [_]) [(.string ByteArray.empty)] sl29 (by decide) (by kernel_rfl) rfl) rfl (by decide)) rfl ?_
      rintro _ _ ⟨b27, rfl, rfl⟩
      refine ops_eff' rfl (eff_appF (f := Tx.cs) (l2 := [xs[i].take most]) 1 sl29 (.inl ⟨9, Try.underlying29⟩) rfl rfl rfl (by first | exact Src.flatv Tx.len Tx.one (Vw.pick 0 rfl Vw.row) | exact Src.flatv Tx.len Tx.one (Vw.pick 1 rfl Vw.row) | exact Src.flatv Tx.len Tx.one (Vw.pick 2 rfl Vw.row) | exact Src.flatv Tx.len Tx.one (Vw.pick 3 rfl Vw.row) | exact Src.flatv Tx.len Tx.one (Vw.pick 4 rfl Vw.row) | exact Src.flatv Tx.len Tx.one (Vw.pick 5 rfl Vw.row) | exact Src.flatv Tx.len Tx.one (Vw.pick 6 rfl Vw.row) | exact Src.flatv Tx.len Tx.one (Vw.pick 7 rfl Vw.row) | exact Src.flatv Tx.len Tx.one (Vw.pick 8 rfl Vw.row) | exact Src.flatv Tx.len Tx.one (Vw.pick 9 rfl Vw.row)) (by simp only [List.length_cons, List.length_nil]; omega) (by simp only [List.length_cons, List.length_nil]; omega)) rfl ?_
      rintro _ _ ⟨p28, c28, rfl, hn28, rfl⟩
      simp only [List.set_cons_zero, List.set_cons_succ]
      rw [← few2_succ hi]
      refine ops_ro' rfl (ro_assign rfl) rfl ?_
      refine ops_nil ?_
      refine InBlock_normal ?_
      refine Then_normal ?_
      refine wp_region' ?_
      refine ops_ro' rfl (ro_move rfl) rfl ?_
      refine ops_ro' rfl (ro_add rfl rfl (wrap_inc (by omega))) rfl ?_
      refine ops_ro' rfl (ro_assign rfl) rfl ?_
      refine ops_nil ?_
      refine Then_normal ?_
      refine back (m - 1) (by omega) (kept ⟨i + 1, p28, c28, ⟨by omega, by omega⟩, rfl, rfl⟩ ?_ ?_ ?_)
      · exact (by repeat (first | exact Has.nil _ | refine Has.cons rfl ?_))
      · exact (by repeat (first | exact Has.nil _ | refine Has.cons rfl ?_))
      · exact (SubH.cons 1 rfl (SubH.cons 1 rfl (SubH.nil _)))
    · replace hc17 := of_decide_eq_false hc17
      refine wp_exit' ?_
      refine Then_exit ?_
      refine Then_exit ?_
      refine InBlock_here ?_
      refine Then_normal ?_
      refine wp_seq' ?_
      refine wp_region' ?_
      refine ops_ro' rfl (ro_move rfl) rfl ?_
      refine ops_ro' rfl (ro_assign rfl) rfl ?_
      refine ops_nil ?_
      refine Then_normal ?_
      refine wp_ret' ?_
      have hx : xs.take i = xs.take n := by
        by_cases h : n ≤ xs.length
        · rw [show i = n by omega]
        · rw [List.take_of_length_le (by omega), List.take_of_length_le (by omega)]
      rw [hx]
      refine' doneS_ret (res1 rfl rfl) ?_ ?_
      rotate_left 1
      exact ⟨_, ⟨p, c, rfl, rfl⟩, rfl⟩
      exact SubH.refl _
  · replace hg13 := of_decide_eq_false hg13
    refine ops_skip' rfl rfl ?_
    refine ops_skip' rfl rfl ?_
    refine ops_skip' rfl rfl ?_
    refine ops_ro' rfl (ro_pick rfl rfl) rfl ?_
    refine ops_nil ?_
    refine Then_normal ?_
    refine wp_condF rfl ?_
    refine wp_exit' ?_
    refine Then_exit ?_
    refine Then_exit ?_
    refine InBlock_here ?_
    refine Then_normal ?_
    refine wp_seq' ?_
    refine wp_region' ?_
    refine ops_ro' rfl (ro_move rfl) rfl ?_
    refine ops_ro' rfl (ro_assign rfl) rfl ?_
    refine ops_nil ?_
    refine Then_normal ?_
    refine wp_ret' ?_
    have hx : xs.take i = xs.take n := by
      by_cases h : n ≤ xs.length
      · rw [show i = n by omega]
      · rw [List.take_of_length_le (by omega), List.take_of_length_le (by omega)]
    rw [hx]
    refine' doneS_ret (res1 rfl rfl) ?_ ?_
    rotate_left 1
    exact ⟨_, ⟨p, c, rfl, rfl⟩, rfl⟩
    exact SubH.refl _

end Go.Proofs.Ytbbmhppkhcodfaa
