/-
  Within, Roomy, Intact, Same.
-/
import Derived.Test.YtbbmhppkhcodfaaSxMake
import Derived.Test.YtbbmhppkhcodfaaTy
namespace Go.Proofs.Ytbbmhppkhcodfaa
open Go.Sx
set_option linter.unusedVariables false
set_option linter.unusedSimpArgs false
set_option maxRecDepth 100000
set_option maxHeartbeats 4000000

theorem tmod_pos (a k : Int) (hk : 0 < k) (h : 0 ≤ a.tmod k) : a.tmod k = a % k := by
  rw [Int.tmod_eq_emod] at h ⊢
  split at h <;> rename_i hc
  · rw [if_pos hc]; omega
  · rw [if_neg hc]
    have hb := Int.emod_lt_of_pos a hk
    omega
theorem tmod_neg (a k : Int) (hk : 0 < k) (h : a.tmod k < 0) : a.tmod k + k = a % k := by
  rw [Int.tmod_eq_emod] at h ⊢
  have hb := Int.emod_nonneg a (show k ≠ 0 by omega)
  split at h <;> rename_i hc
  · omega
  · rw [if_neg hc]; omega
theorem xor8 (a b : UInt8) : bits .xor .u8 (a.toNat : Int) (b.toNat : Int) = ((a ^^^ b).toNat : Int) := by
  show IntKind.u8.wrap ((BitVec.ofInt 8 (a.toNat : Int) ^^^ BitVec.ofInt 8 (b.toNat : Int)).toNat : Int) = _
  have e1 : BitVec.ofInt 8 (a.toNat : Int) = BitVec.ofNat 8 a.toNat := by simp
  have e2 : BitVec.ofInt 8 (b.toNat : Int) = BitVec.ofNat 8 b.toNat := by simp
  have h1 := UInt8.toNat_lt a
  have h2 := UInt8.toNat_lt b
  have h3 : a.toNat ^^^ b.toNat < 256 := Nat.xor_lt_two_pow (n := 8) h1 h2
  rw [e1, e2, BitVec.toNat_xor, BitVec.toNat_ofNat, BitVec.toNat_ofNat, Nat.mod_eq_of_lt h1, Nat.mod_eq_of_lt h2, UInt8.toNat_xor]
  exact wrap_u8_in (by omega) (by omega)


theorem within_spec (a lo hi : Int) (h0 : 0 ≤ lo) (h1 : lo ≤ hi) (h2 : hi ≤ 4611686018427387904) : Tri Try.prog 13 [.int .i64 a, .int .i64 lo, .int .i64 hi] [] (fun v H' => v = .int .i64 (lo + a % (hi - lo + 1)) ∧ H' = []) := by
  have hb0 := Int.emod_nonneg a (show hi - lo + 1 ≠ 0 by omega)
  have hb1 := Int.emod_lt_of_pos a (show 0 < hi - lo + 1 by omega)
  have hb2 : (a.tmod (hi - lo + 1)).natAbs < (hi - lo + 1).natAbs := by
    have h := Int.tmod_eq_emod (a := a) (b := hi - lo + 1)
    split at h <;> omega
  refine tri_of_wpS Try.func13 rfl Try.ntmps13 (by simp) ?_
  refine wp_seq' ?_
  refine wp_region' ?_
  refine ops_ro' rfl (ro_assign rfl) rfl ?_
  refine ops_nil ?_
  refine Then_normal ?_
  refine wp_seq' ?_
  refine wp_region' ?_
  refine ops_ro' rfl (ro_move rfl) rfl ?_
  refine ops_ro' rfl (ro_move rfl) rfl ?_
  refine ops_ro' rfl (ro_move rfl) rfl ?_
  refine ops_ro' rfl (ro_sub rfl rfl (wrap_i64_in (by omega) (by omega))) rfl ?_
  refine ops_ro' rfl (ro_add rfl rfl (wrap_i64_in (by omega) (by omega))) rfl ?_
  refine ops_ro' rfl (ro_rem rfl rfl (by omega) rfl) rfl ?_
  refine ops_ro' rfl (ro_assign rfl) rfl ?_
  refine ops_nil ?_
  refine Then_normal ?_
  refine wp_seq' ?_
  refine wp_seq' ?_
  refine wp_region' ?_
  refine ops_ro' rfl (ro_move rfl) rfl ?_
  refine ops_ro' rfl (ro_lss rfl rfl rfl) rfl ?_
  refine ops_nil ?_
  refine Then_normal ?_
  refine wp_cond' rfl (fun hc14 => ?_) (fun hc14 => ?_)
  · replace hc14 := of_decide_eq_true hc14
    have ht := tmod_neg a (hi - lo + 1) (by omega) hc14
    refine wp_region' ?_
    refine ops_ro' rfl (ro_move rfl) rfl ?_
    refine ops_ro' rfl (ro_move rfl) rfl ?_
    refine ops_ro' rfl (ro_add rfl rfl (wrap_i64_in (by omega) (by omega))) rfl ?_
    refine ops_ro' rfl (ro_move rfl) rfl ?_
    refine ops_ro' rfl (ro_sub rfl rfl (wrap_i64_in (by omega) (by omega))) rfl ?_
    refine ops_ro' rfl (ro_add rfl rfl (wrap_i64_in (by omega) (by omega))) rfl ?_
    refine ops_ro' rfl (ro_assign rfl) rfl ?_
    refine ops_nil ?_
    refine Then_normal ?_
    refine wp_seq' ?_
    refine wp_region' ?_
    refine ops_ro' rfl (ro_move rfl) rfl ?_
    refine ops_ro' rfl (ro_move rfl) rfl ?_
    refine ops_ro' rfl (ro_add rfl rfl (wrap_i64_in (by omega) (by omega))) rfl ?_
    refine ops_ro' rfl (ro_assign rfl) rfl ?_
    refine ops_nil ?_
    refine Then_normal ?_
    refine wp_ret' ?_
    refine' doneS_ret (res1 rfl rfl) ?_ ?_
    rotate_left 1
    exact ⟨by congr 1; omega, rfl⟩
    exact SubH.refl _
  · replace hc14 := of_decide_eq_false hc14
    have ht := tmod_pos a (hi - lo + 1) (by omega) (by omega)
    refine wp_skip' ?_
    refine Then_normal ?_
    refine wp_seq' ?_
    refine wp_region' ?_
    refine ops_ro' rfl (ro_move rfl) rfl ?_
    refine ops_ro' rfl (ro_move rfl) rfl ?_
    refine ops_ro' rfl (ro_add rfl rfl (wrap_i64_in (by omega) (by omega))) rfl ?_
    refine ops_ro' rfl (ro_assign rfl) rfl ?_
    refine ops_nil ?_
    refine Then_normal ?_
    refine wp_ret' ?_
    refine' doneS_ret (res1 rfl rfl) ?_ ?_
    rotate_left 1
    exact ⟨by congr 1; omega, rfl⟩
    exact SubH.refl _


theorem room0 {l : List UInt8} {t : UInt8} : (List.replicate (l.length + 80) (0 : UInt8)).take 0 ++ l.take (l.length + 80) ++ (List.replicate (l.length + 80) (0 : UInt8)).drop (0 + min l.length (l.length + 80)) = l ++ (List.replicate 0 t ++ List.replicate (80 - 0) 0) := by
  rw [List.take_zero, List.take_of_length_le (l := l) (by omega), Nat.min_eq_left (by omega), List.drop_replicate]
  simp
theorem room80 {l : List UInt8} {t : UInt8} : l ++ (List.replicate 80 t ++ List.replicate (80 - 80) 0) = l ++ List.replicate 80 t := by rw [Nat.sub_self, List.replicate_zero, List.append_nil]
theorem roomS {l : List UInt8} {t : UInt8} {j : Nat} (hj : j < 80) : (l ++ (List.replicate j t ++ List.replicate (80 - j) 0)).set (l.length + j) (UInt8.ofNat ((t.toNat : Int)).toNat) = l ++ (List.replicate (j + 1) t ++ List.replicate (80 - (j + 1)) 0) := by
  have e : UInt8.ofNat ((t.toNat : Int)).toNat = t := by simp
  rw [e, List.set_append_right _ _ (by omega), List.set_append_right _ _ (by simp), List.length_replicate, show l.length + j - l.length - j = 0 by omega, show 80 - j = (80 - (j + 1)) + 1 by omega, List.replicate_succ, List.set_cons_zero, List.replicate_succ', List.append_assoc]
  first | done | rfl
theorem roomy_spec {V : HProp} (p : Option Addr) (c : Nat) (l : List UInt8) (hV : Vw V (.slice p l.length c) l.length (cel l)) (hl : l.length ≤ 100000000) (t : UInt8) : Tri Try.prog 61 [.slice p l.length c, .int .u8 (t.toNat : Int)] [V]
    (fun v H' => ∃ K, (∃ b, v = .slice (some ⟨b, 0, none⟩) (l.length + 80) (l.length + 80) ∧ K = [row 5 1 (.slice (some ⟨b, 0, none⟩) (l.length + 80) (l.length + 80)) (l.length + 80) (cel (l ++ List.replicate 80 t))]) ∧ H' = K ++ [V]) := by
  refine tri_of_wpS Try.func61 rfl Try.ntmps61 (by simp) ?_
  refine wp_seq' ?_
  refine wp_region' ?_
  refine ops_ro' rfl (ro_assign rfl) rfl ?_
  refine ops_nil ?_
  refine Then_normal ?_
  refine wp_seq' ?_
  refine wp_region' ?_
  refine ops_ro' rfl (ro_move rfl) rfl ?_
  refine ops_ro' rfl (ro_sliceLen Try.underlying30 rfl) rfl ?_
  refine ops_ro' rfl (ro_add rfl rfl (show IntKind.i64.wrap ((l.length : Int) + 80) = ((l.length + 80 : Nat) : Int) by rw [wrap_i64_in (by omega) (by omega)]; omega)) rfl ?_
  refine ops_eff' rfl (eff_makeB sl30 rfl rfl (by omega)) rfl ?_
  rintro _ _ ⟨b10, rfl, rfl⟩
  refine ops_ro' rfl (ro_assign rfl) rfl ?_
  refine ops_nil ?_
  refine Then_normal ?_
  refine wp_seq' ?_
  refine wp_region' ?_
  refine ops_ro' rfl (ro_move rfl) rfl ?_
  refine ops_ro' rfl (ro_move rfl) rfl ?_
  refine ops_eff' rfl (eff_copyB (s := l) 0 sl30 rfl rfl rfl (by first | exact (Vw.pick 0 rfl hV) | exact (Vw.pick 1 rfl hV) | exact (Vw.pick 2 rfl hV) | exact (Vw.pick 3 rfl hV) | exact (Vw.pick 4 rfl hV) | exact (Vw.pick 5 rfl hV) | exact (Vw.pick 6 rfl hV) | exact (Vw.pick 7 rfl hV) | exact (Vw.pick 8 rfl hV) | exact (Vw.pick 9 rfl hV) | exact Vw.pick 0 rfl Vw.row | exact Vw.pick 1 rfl Vw.row | exact Vw.pick 2 rfl Vw.row | exact Vw.pick 3 rfl Vw.row | exact Vw.pick 4 rfl Vw.row | exact Vw.pick 5 rfl Vw.row | exact Vw.pick 6 rfl Vw.row | exact Vw.pick 7 rfl Vw.row | exact Vw.pick 8 rfl Vw.row | exact Vw.pick 9 rfl Vw.row) (by first | omega | (simp; done) | (simp; omega))) rfl ?_
  rintro _ _ ⟨rfl, rfl⟩
  simp only [List.set_cons_zero, List.set_cons_succ]
  rw [room0 (t := t)]
  refine ops_nil ?_
  refine Then_normal ?_
  refine wp_seq' ?_
  refine wp_seq' ?_
  refine wp_region' ?_
  refine ops_ro' rfl (ro_move rfl) rfl ?_
  refine ops_ro' rfl (ro_sliceLen Try.underlying30 rfl) rfl ?_
  refine ops_ro' rfl (ro_assign rfl) rfl ?_
  refine ops_nil ?_
  refine Then_normal ?_
  refine wp_block' ?_
  refine wp_loopK 4 (fun m Δ LL => ∃ (j : Nat), (j + m = 80) ∧ Δ = [(6, .int .i64 ((l.length + j : Nat) : Int))] ∧ LL = [row 5 1 (.slice (some ⟨b10, 0, none⟩) (l.length + 80) (l.length + 80)) (l.length + 80) (cel (l ++ (List.replicate j t ++ List.replicate (80 - j) 0))), V]) (m := 80) (Has.cons (k := 1) rfl (Has.cons (k := 5) rfl (Has.nil _))) (kept ⟨0, by omega, rfl, rfl⟩ (by repeat (first | exact Has.nil _ | refine Has.cons rfl ?_)) (by repeat (first | exact Has.nil _ | refine Has.cons rfl ?_)) (by repeat (first | exact SubH.nil _ | refine SubH.cons 0 rfl ?_ | refine SubH.cons 1 rfl ?_ | refine SubH.cons 2 rfl ?_ | refine SubH.cons 3 rfl ?_ | refine SubH.cons 4 rfl ?_ | refine SubH.cons 5 rfl ?_ | refine SubH.cons 6 rfl ?_ | refine SubH.cons 7 rfl ?_ | refine SubH.cons 8 rfl ?_ | refine SubH.cons 9 rfl ?_ | refine SubH.cons 10 rfl ?_ | refine SubH.cons 11 rfl ?_ | refine SubH.cons 12 rfl ?_ | refine SubH.cons 13 rfl ?_ | refine SubH.rown ?_))) ?_
  rintro m Δ LL ⟨j, hm, rfl, rfl⟩
  simp only [List.cons_append, List.nil_append]
  refine wp_seq' ?_
  refine wp_seq' ?_
  refine wp_region' ?_
  refine ops_ro' rfl (ro_move rfl) rfl ?_
  refine ops_ro' rfl (ro_move rfl) rfl ?_
  refine ops_ro' rfl (ro_sliceLen Try.underlying30 rfl) rfl ?_
  refine ops_ro' rfl (ro_lss rfl rfl rfl) rfl ?_
  refine ops_nil ?_
  refine Then_normal ?_
  refine wp_cond' rfl (fun hc19 => ?_) (fun hc19 => ?_)
  · replace hc19 := of_decide_eq_true hc19
    have hj : j < 80 := by omega
    refine wp_skip' ?_
    refine Then_normal ?_
    refine wp_seq' ?_
    refine wp_block' ?_
    refine wp_region' ?_
    refine ops_ro' rfl (ro_move rfl) rfl ?_
    refine ops_ro' rfl (ro_move rfl) rfl ?_
    refine ops_ro' rfl (ro_move rfl) rfl ?_
    refine ops_ro' rfl (ro_indexSlice sl30 rfl rfl rfl (by omega)) rfl ?_
    refine ops_eff0 rfl (eff_storeB 0 sc5 rfl rfl (by omega) (by have := UInt8.toNat_lt t; omega) rfl (k := l.length + j) (by omega) (by simp; omega)) rfl ?_
    rintro _ _ rfl
    simp only [List.set_cons_zero]
    rw [roomS hj]
    refine ops_nil ?_
    refine InBlock_normal ?_
    refine Then_normal ?_
    refine wp_region' ?_
    refine ops_ro' rfl (ro_move rfl) rfl ?_
    refine ops_ro' rfl (ro_add rfl rfl (show IntKind.i64.wrap (((l.length + j : Nat) : Int) + 1) = ((l.length + (j + 1) : Nat) : Int) by rw [wrap_i64_in (by omega) (by omega)]; omega)) rfl ?_
    refine ops_ro' rfl (ro_assign rfl) rfl ?_
    refine ops_nil ?_
    refine Then_normal ?_
    refine back (m - 1) (by omega) (kept ⟨j + 1, by omega, rfl, rfl⟩ ?_ ?_ ?_)
    · exact (by repeat (first | exact Has.nil _ | refine Has.cons rfl ?_))
    · exact (by repeat (first | exact Has.nil _ | refine Has.cons rfl ?_))
    · exact SubH.refl _
  · replace hc19 := of_decide_eq_false hc19
    obtain rfl : j = 80 := by omega
    rw [room80]
    refine wp_exit' ?_
    refine Then_exit ?_
    refine Then_exit ?_
    refine InBlock_here ?_
    refine Then_normal ?_
    refine wp_seq' ?_
    refine wp_region' ?_
    refine ops_ro' rfl (ro_move rfl) rfl ?_
    refine ops_ro' rfl (ro_assign rfl) rfl ?_
    refine ops_nil ?_
    refine Then_normal ?_
    refine wp_ret' ?_
    refine' doneS_ret (res1 rfl rfl) ?_ ?_
    rotate_left 1
    exact ⟨_, ⟨b10, rfl, rfl⟩, rfl⟩
    exact SubH.refl _


theorem ssame_spec {V : HProp} (p q : Option Addr) (c d : Nat) (l : List UInt8) (h1 : Vw V (.slice p l.length c) l.length (cel l)) (h2 : Vw V (.slice q l.length d) l.length (cel l)) (hl : l.length ≤ 140737488355328) : Tri Try.prog 92 [.slice p l.length c, .slice q l.length d] [V] (fun v H' => v = .bool true ∧ H' = [V]) := by
  refine tri_of_wpS Try.func92 rfl Try.ntmps92 (by simp) ?_
  refine wp_seq' ?_
  refine wp_region' ?_
  refine ops_ro' rfl (ro_assign rfl) rfl ?_
  refine ops_nil ?_
  refine Then_normal ?_
  refine wp_seq' ?_
  refine wp_seq' ?_
  refine wp_region' ?_
  refine ops_ro' rfl (ro_move rfl) rfl ?_
  refine ops_ro' rfl (ro_sliceLen Try.underlying30 rfl) rfl ?_
  refine ops_ro' rfl (ro_move rfl) rfl ?_
  refine ops_ro' rfl (ro_sliceLen Try.underlying30 rfl) rfl ?_
  refine ops_ro' rfl (ro_neq rfl rfl (decide_eq_false (by omega))) rfl ?_
  refine ops_nil ?_
  refine Then_normal ?_
  refine wp_condF rfl ?_
  refine wp_skip' ?_
  refine Then_normal ?_
  refine wp_seq' ?_
  refine wp_seq' ?_
  refine wp_region' ?_
  refine ops_ro' rfl (ro_assign rfl) rfl ?_
  refine ops_nil ?_
  refine Then_normal ?_
  refine wp_block' ?_
  refine wp_loopK 4 (fun m Δ LL => ∃ (i : Nat), (i + m = l.length) ∧ Δ = [(5, .int .i64 (i : Nat))] ∧ LL = [V]) (m := l.length) (Has.cons (k := 0) rfl (Has.cons (k := 1) rfl (Has.nil _))) (kept ⟨0, by omega, rfl, rfl⟩ (by repeat (first | exact Has.nil _ | refine Has.cons rfl ?_)) (by repeat (first | exact Has.nil _ | refine Has.cons rfl ?_)) (by repeat (first | exact SubH.nil _ | refine SubH.cons 0 rfl ?_ | refine SubH.cons 1 rfl ?_ | refine SubH.cons 2 rfl ?_ | refine SubH.cons 3 rfl ?_ | refine SubH.cons 4 rfl ?_ | refine SubH.cons 5 rfl ?_ | refine SubH.cons 6 rfl ?_ | refine SubH.cons 7 rfl ?_ | refine SubH.cons 8 rfl ?_ | refine SubH.cons 9 rfl ?_ | refine SubH.cons 10 rfl ?_ | refine SubH.cons 11 rfl ?_ | refine SubH.cons 12 rfl ?_ | refine SubH.cons 13 rfl ?_ | refine SubH.rown ?_))) ?_
  rintro m Δ LL ⟨i, hm, rfl, rfl⟩
  simp only [List.cons_append, List.nil_append]
  refine wp_seq' ?_
  refine wp_seq' ?_
  refine wp_region' ?_
  refine ops_ro' rfl (ro_move rfl) rfl ?_
  refine ops_ro' rfl (ro_move rfl) rfl ?_
  refine ops_ro' rfl (ro_sliceLen Try.underlying30 rfl) rfl ?_
  refine ops_ro' rfl (ro_lss rfl rfl rfl) rfl ?_
  refine ops_nil ?_
  refine Then_normal ?_
  refine wp_cond' rfl (fun hc14 => ?_) (fun hc14 => ?_)
  · replace hc14 := of_decide_eq_true hc14
    have hi : i < l.length := by omega
    refine wp_know (fun w F s => vw_ptr (Vw.pick (H := [V]) 0 rfl h1) s (by omega)) ?_
    rintro ⟨b1, o1, rfl⟩
    refine wp_know (fun w F s => vw_ptr (Vw.pick (H := [V]) 0 rfl h2) s (by omega)) ?_
    rintro ⟨b2, o2, rfl⟩
    refine wp_skip' ?_
    refine Then_normal ?_
    refine wp_seq' ?_
    refine wp_block' ?_
    refine wp_seq' ?_
    refine wp_draw 9 (by kernel_rfl) (Split.all _) ?_
    refine any_ro' (i := 0) (by kernel_rfl) rfl rfl (ro_move rfl) rfl (fun _ _ _ h => h) ?_
    refine any_ro' (i := 1) (by kernel_rfl) rfl rfl (ro_move rfl) rfl (fun _ _ _ h => h) ?_
    refine any_ro' (i := 2) (by kernel_rfl) rfl rfl (ro_indexSlice sl30 rfl rfl rfl (by omega)) rfl (fun _ _ _ h => h) ?_
    refine any_ro' (i := 3) (by kernel_rfl) rfl rfl (ro_load sc5 rfl (Rd.pick 0 rfl (Rd.of_n (vw_rdn h1) (j := i) (by omega) (cel_get hi)))) rfl (fun _ _ _ h => h) ?_
    refine any_ro' (i := 4) (by kernel_rfl) rfl rfl (ro_move rfl) rfl (fun _ _ _ h => h) ?_
    refine any_ro' (i := 5) (by kernel_rfl) rfl rfl (ro_move rfl) rfl (fun _ _ _ h => h) ?_
    refine any_ro' (i := 6) (by kernel_rfl) rfl rfl (ro_indexSlice sl30 rfl rfl rfl (by omega)) rfl (fun _ _ _ h => h) ?_
    refine any_ro' (i := 7) (by kernel_rfl) rfl rfl (ro_load sc5 rfl (Rd.pick 0 rfl (Rd.of_n (vw_rdn h2) (j := i) (by omega) (cel_get hi)))) rfl (fun _ _ _ h => h) ?_
    refine any_ro' (i := 8) (by kernel_rfl) rfl rfl (ro_neq rfl rfl (decide_eq_false (by omega))) rfl (fun _ _ _ h => h) ?_
    refine any_doneL (by kernel_rfl) ?_
    refine Then_normal ?_
    refine wp_condF rfl ?_
    refine wp_skip' ?_
    refine InBlock_normal ?_
    refine Then_normal ?_
    refine wp_region' ?_
    refine ops_ro' rfl (ro_move rfl) rfl ?_
    refine ops_ro' rfl (ro_add rfl rfl (wrap_inc (by omega))) rfl ?_
    refine ops_ro' rfl (ro_assign rfl) rfl ?_
    refine ops_nil ?_
    refine Then_normal ?_
    refine back (m - 1) (by omega) (kept ⟨i + 1, by omega, rfl, rfl⟩ ?_ ?_ ?_)
    · exact (by repeat (first | exact Has.nil _ | refine Has.cons rfl ?_))
    · exact (by repeat (first | exact Has.nil _ | refine Has.cons rfl ?_))
    · exact SubH.refl _
  · replace hc14 := of_decide_eq_false hc14
    refine wp_exit' ?_
    refine Then_exit ?_
    refine Then_exit ?_
    refine InBlock_here ?_
    refine Then_normal ?_
    refine wp_seq' ?_
    refine wp_region' ?_
    refine ops_ro' rfl (ro_assign rfl) rfl ?_
    refine ops_nil ?_
    refine Then_normal ?_
    refine wp_ret' ?_
    refine' doneS_ret (res1 rfl rfl) ?_ ?_
    rotate_left 1
    exact ⟨rfl, rfl⟩
    exact SubH.refl _


theorem roomG {l : List UInt8} {t : UInt8} {j : Nat} (hj : j < 80) : (cel (l ++ List.replicate 80 t))[l.length + j]? = some (byteV t) := by
  rw [cel, List.getElem?_map, List.getElem?_append_right (by omega), show l.length + j - l.length = j by omega, List.getElem?_replicate, if_pos hj]; rfl
theorem intact_spec {V : HProp} (p q : Option Addr) (c d : Nat) (l : List UInt8) (t : UInt8) (x : List UInt8) (hx : x = l ++ List.replicate 80 t) (hf : Vw V (.slice p x.length c) x.length (cel x)) (h2 : Vw V (.slice q l.length d) l.length (cel l)) (hl : l.length ≤ 100000000) (hc : x.length ≤ c) :
    Tri Try.prog 63 [.slice p x.length c, .slice q l.length d, .int .u8 (t.toNat : Int)] [V] (fun v H' => ∃ K, (v = .bool true ∧ K = []) ∧ H' = K ++ [V]) := by
  have hxl : x.length = l.length + 80 := by rw [hx]; simp
  refine tri_of_wpS Try.func63 rfl Try.ntmps63 (by simp) ?_
  refine wp_seq' ?_
  refine wp_region' ?_
  refine ops_ro' rfl (ro_assign rfl) rfl ?_
  refine ops_nil ?_
  refine Then_normal ?_
  refine wp_seq' ?_
  refine wp_seq' ?_
  refine wp_region' ?_
  refine ops_ro' rfl (ro_move rfl) rfl ?_
  refine ops_ro' rfl (ro_sliceLen Try.underlying30 rfl) rfl ?_
  refine ops_ro' rfl (ro_move rfl) rfl ?_
  refine ops_ro' rfl (ro_sliceLen Try.underlying30 rfl) rfl ?_
  refine ops_ro' rfl (ro_add rfl rfl (show IntKind.i64.wrap ((l.length : Int) + 80) = ((l.length + 80 : Nat) : Int) by rw [wrap_i64_in (by omega) (by omega)]; omega)) rfl ?_
  refine ops_ro' rfl (ro_neq rfl rfl (decide_eq_false (by omega))) rfl ?_
  refine ops_ro' rfl (ro_move (v := .bool false) rfl) rfl ?_
  refine ops_ro' rfl (ro_move rfl) rfl ?_
  refine ops_ro' rfl (ro_move rfl) rfl ?_
  refine ops_ro' rfl (ro_sliceLen Try.underlying30 rfl) rfl ?_
  refine ops_eff' rfl (eff_sliceB 0 rfl sl30 rfl (hf) rfl (bnd_of rfl rfl) (by omega) (by omega) hc) rfl ?_
  rintro _ _ ⟨p18, rfl, hv18, hn18, rfl⟩
  have hx0 : List.take (l.length - 0) (List.drop 0 x) = l := by rw [hx]; simp
  rw [hx0] at hv18 ⊢
  refine ops_ro' rfl (ro_move rfl) rfl ?_
  refine ops_eff' rfl (eff_call Try.call92 rfl rfl (by repeat (first | exact Split.nil _ | apply Split.cons 0 rfl | apply Split.cons 1 rfl | apply Split.cons 2 rfl | apply Split.cons 3 rfl | apply Split.cons 4 rfl | apply Split.cons 5 rfl | apply Split.cons 6 rfl | apply Split.cons 7 rfl | apply Split.cons 8 rfl | apply Split.cons 9 rfl | apply Split.cons 10 rfl | apply Split.cons 11 rfl)) (ssame_spec p18 q (c - 0) d l hv18 h2 (by omega))) rfl ?_
  rintro _ H' ⟨_, ⟨rfl, rfl⟩, hH⟩
  simp only [List.cons_append, List.nil_append, List.eraseIdx_cons_zero, List.eraseIdx_cons_succ, List.set_cons_zero, List.set_cons_succ] at hH
  subst hH
  refine ops_ro' rfl (ro_not rfl rfl) rfl ?_
  refine ops_ro' rfl (ro_pick rfl rfl) rfl ?_
  refine ops_nil ?_
  refine Then_normal ?_
  refine wp_condF rfl ?_
  refine wp_skip' ?_
  refine Then_normal ?_
  refine wp_seq' ?_
  refine wp_seq' ?_
  refine wp_region' ?_
  refine ops_ro' rfl (ro_move rfl) rfl ?_
  refine ops_ro' rfl (ro_sliceLen Try.underlying30 rfl) rfl ?_
  refine ops_ro' rfl (ro_assign rfl) rfl ?_
  refine ops_nil ?_
  refine Then_normal ?_
  refine wp_block' ?_
  refine wp_loopK 4 (fun m Δ LL => ∃ (j : Nat), (j + m = 80) ∧ Δ = [(7, .int .i64 ((l.length + j : Nat) : Int))] ∧ LL = [V]) (m := 80) (Has.cons (k := 0) rfl (Has.cons (k := 2) rfl (Has.nil _))) (kept ⟨0, by omega, rfl, rfl⟩ (by repeat (first | exact Has.nil _ | refine Has.cons rfl ?_)) (by repeat (first | exact Has.nil _ | refine Has.cons rfl ?_)) (by repeat (first | exact SubH.nil _ | refine SubH.cons 0 rfl ?_ | refine SubH.cons 1 rfl ?_ | refine SubH.cons 2 rfl ?_ | refine SubH.cons 3 rfl ?_ | refine SubH.cons 4 rfl ?_ | refine SubH.cons 5 rfl ?_ | refine SubH.cons 6 rfl ?_ | refine SubH.cons 7 rfl ?_ | refine SubH.cons 8 rfl ?_ | refine SubH.cons 9 rfl ?_ | refine SubH.cons 10 rfl ?_ | refine SubH.cons 11 rfl ?_ | refine SubH.cons 12 rfl ?_ | refine SubH.cons 13 rfl ?_ | refine SubH.rown ?_))) ?_
  rintro m Δ LL ⟨j, hm, rfl, rfl⟩
  simp only [List.cons_append, List.nil_append]
  refine wp_seq' ?_
  refine wp_seq' ?_
  refine wp_region' ?_
  refine ops_ro' rfl (ro_move rfl) rfl ?_
  refine ops_ro' rfl (ro_move rfl) rfl ?_
  refine ops_ro' rfl (ro_sliceLen Try.underlying30 rfl) rfl ?_
  refine ops_ro' rfl (ro_lss rfl rfl rfl) rfl ?_
  refine ops_nil ?_
  refine Then_normal ?_
  refine wp_cond' rfl (fun hc28 => ?_) (fun hc28 => ?_)
  · replace hc28 := of_decide_eq_true hc28
    have hj : j < 80 := by omega
    refine wp_know (fun w F s => vw_ptr (Vw.pick (H := [V]) 0 rfl hf) s (by omega)) ?_
    rintro ⟨b1, o1, rfl⟩
    refine wp_skip' ?_
    refine Then_normal ?_
    refine wp_seq' ?_
    refine wp_block' ?_
    refine wp_seq' ?_
    refine wp_region' ?_
    refine ops_ro' rfl (ro_move rfl) rfl ?_
    refine ops_ro' rfl (ro_move rfl) rfl ?_
    refine ops_ro' rfl (ro_indexSlice sl30 rfl rfl rfl (by omega)) rfl ?_
    refine ops_ro' rfl (ro_load sc5 rfl (Rd.pick 0 rfl (Rd.of_n (vw_rdn hf) (j := l.length + j) (by omega) (hx ▸ roomG hj)))) rfl ?_
    refine ops_ro' rfl (ro_move rfl) rfl ?_
    refine ops_ro' rfl (ro_neq rfl rfl (decide_eq_false (by omega))) rfl ?_
    refine ops_nil ?_
    refine Then_normal ?_
    refine wp_condF rfl ?_
    refine wp_skip' ?_
    refine InBlock_normal ?_
    refine Then_normal ?_
    refine wp_region' ?_
    refine ops_ro' rfl (ro_move rfl) rfl ?_
    refine ops_ro' rfl (ro_add rfl rfl (show IntKind.i64.wrap (((l.length + j : Nat) : Int) + 1) = ((l.length + (j + 1) : Nat) : Int) by rw [wrap_i64_in (by omega) (by omega)]; omega)) rfl ?_
    refine ops_ro' rfl (ro_assign rfl) rfl ?_
    refine ops_nil ?_
    refine Then_normal ?_
    refine back (m - 1) (by omega) (kept ⟨j + 1, by omega, rfl, rfl⟩ ?_ ?_ ?_)
    · exact (by repeat (first | exact Has.nil _ | refine Has.cons rfl ?_))
    · exact (by repeat (first | exact Has.nil _ | refine Has.cons rfl ?_))
    · exact SubH.refl _
  · replace hc28 := of_decide_eq_false hc28
    refine wp_exit' ?_
    refine Then_exit ?_
    refine Then_exit ?_
    refine InBlock_here ?_
    refine Then_normal ?_
    refine wp_seq' ?_
    refine wp_region' ?_
    refine ops_ro' rfl (ro_assign rfl) rfl ?_
    refine ops_nil ?_
    refine Then_normal ?_
    refine wp_ret' ?_
    refine' doneS_ret (res1 rfl rfl) ?_ ?_
    rotate_left 1
    exact ⟨_, ⟨rfl, rfl⟩, rfl⟩
    exact SubH.refl _

end Go.Proofs.Ytbbmhppkhcodfaa
