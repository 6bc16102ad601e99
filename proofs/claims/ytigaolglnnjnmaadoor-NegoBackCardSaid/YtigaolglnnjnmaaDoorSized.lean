/-
  keep.Sized: so many bytes.
-/
import Derived.Test.YtigaolglnnjnmaaDoorSxMake
import Derived.Test.YtigaolglnnjnmaaDoorTy
namespace Go.Proofs.YtigaolglnnjnmaaDoor
open Go.Sx
set_option linter.unusedVariables false
set_option linter.unusedSimpArgs false
set_option maxRecDepth 100000
set_option maxHeartbeats 4000000

theorem sized_spec {V : HProp} (p : Option Addr) (c : Nat) (l : List UInt8) (hV : Vw V (.slice p l.length c) l.length (cel l)) (hl : l.length ≤ 9223372036854775807) (n : Nat) (hn : n ≤ 100000) : Tri Tryd.prog 10 [.slice p l.length c, .int .i64 (n : Int)] [V]
    (fun v H' => ∃ K, (∃ b zz, v = .slice (some ⟨b, 0, none⟩) n n ∧ List.length zz = n ∧ K = [row 5 1 (.slice (some ⟨b, 0, none⟩) n n) n (cel zz)]) ∧ H' = K ++ [V]) := by
  refine tri_of_wpS Tryd.func10 rfl Tryd.ntmps10 (by simp) ?_
  refine wp_seq' ?_
  refine wp_region' ?_
  refine ops_ro' rfl (ro_assign rfl) rfl ?_
  refine ops_nil ?_
  refine Then_normal ?_
  refine wp_seq' ?_
  refine wp_region' ?_
  refine ops_ro' rfl (ro_move rfl) rfl ?_
  refine ops_eff' rfl (eff_makeB sl22 rfl rfl (by omega)) rfl ?_
  rintro _ _ ⟨b8, rfl, rfl⟩
  refine ops_ro' rfl (ro_assign rfl) rfl ?_
  refine ops_nil ?_
  refine Then_normal ?_
  refine wp_seq' ?_
  refine wp_seq' ?_
  refine wp_region' ?_
  refine ops_ro' rfl (ro_assign rfl) rfl ?_
  refine ops_nil ?_
  refine Then_normal ?_
  refine wp_block' ?_
  refine wp_loopK 3 (fun m Δ LL => ∃ (i : Nat) (zz : List UInt8), (i + m = n ∧ zz.length = n) ∧ Δ = [(6, .int .i64 (i : Nat))] ∧ LL = [row 5 1 (.slice (some ⟨b8, 0, none⟩) n n) n (cel zz), V]) (m := n) (Has.cons (k := 0) rfl (Has.cons (k := 1) rfl (Has.cons (k := 5) rfl (Has.nil _)))) (kept ⟨0, List.replicate n 0, ⟨by omega, by simp⟩, rfl, rfl⟩ (by repeat (first | exact Has.nil _ | refine Has.cons rfl ?_)) (by repeat (first | exact Has.nil _ | refine Has.cons rfl ?_)) (by repeat (first | exact SubH.nil _ | refine SubH.cons 0 rfl ?_ | refine SubH.cons 1 rfl ?_ | refine SubH.cons 2 rfl ?_ | refine SubH.cons 3 rfl ?_ | refine SubH.cons 4 rfl ?_ | refine SubH.cons 5 rfl ?_ | refine SubH.cons 6 rfl ?_ | refine SubH.cons 7 rfl ?_ | refine SubH.cons 8 rfl ?_ | refine SubH.cons 9 rfl ?_ | refine SubH.cons 10 rfl ?_ | refine SubH.cons 11 rfl ?_ | refine SubH.cons 12 rfl ?_ | refine SubH.cons 13 rfl ?_ | refine SubH.rown ?_))) ?_
  rintro m Δ LL ⟨i, zz, ⟨hm, hz⟩, rfl, rfl⟩
  simp only [List.cons_append, List.nil_append]
  refine wp_seq' ?_
  refine wp_seq' ?_
  refine wp_region' ?_
  refine ops_ro' rfl (ro_move rfl) rfl ?_
  refine ops_ro' rfl (ro_move rfl) rfl ?_
  refine ops_ro' rfl (ro_lss rfl rfl rfl) rfl ?_
  refine ops_split rfl rfl rfl (fun hg12 => ?_) (fun hg12 => ?_)
  · replace hg12 := of_decide_eq_true hg12
    refine ops_ro' rfl (ro_move rfl) rfl ?_
    refine ops_ro' rfl (ro_sliceLen Tryd.underlying22 rfl) rfl ?_
    refine ops_ro' rfl (ro_gtr rfl rfl rfl) rfl ?_
    refine ops_ro' rfl (ro_pick rfl rfl) rfl ?_
    refine ops_nil ?_
    refine Then_normal ?_
    refine wp_cond' rfl (fun hc16 => ?_) (fun hc16 => ?_)
    · replace hc16 := of_decide_eq_true hc16
      refine wp_skip' ?_
      refine Then_normal ?_
      refine wp_seq' ?_
      refine wp_block' ?_
      have hl0 : 0 < l.length := by omega
      have hk := Nat.mod_lt i hl0
      refine wp_know (fun w F s => vw_ptr (Vw.pick (H := [_, V]) 1 rfl hV) s (by omega)) ?_
      rintro ⟨b0, o0, rfl⟩
      refine wp_region' ?_
      refine ops_ro' rfl (ro_move rfl) rfl ?_
      refine ops_ro' rfl (ro_move rfl) rfl ?_
      refine ops_ro' rfl (ro_move rfl) rfl ?_
      refine ops_ro' rfl (ro_move rfl) rfl ?_
      refine ops_ro' rfl (ro_move rfl) rfl ?_
      refine ops_ro' rfl (ro_sliceLen Tryd.underlying22 rfl) rfl ?_
      refine ops_ro' rfl (ro_rem rfl rfl (by omega) tmodN) rfl ?_
      refine ops_ro' rfl (ro_indexSlice sl22 rfl rfl rfl (by omega)) rfl ?_
      refine ops_ro' rfl (ro_load sc5 rfl (Rd.pick 1 rfl (Rd.of_n (vw_rdn hV) (j := i % l.length) (by omega) (cel_get hk)))) rfl ?_
      refine ops_ro' rfl (ro_indexSlice sl22 rfl rfl rfl (by omega)) rfl ?_
      refine ops_eff0 rfl (eff_storeB 0 sc5 rfl rfl (Int.natCast_nonneg _) (by have := UInt8.toNat_lt l[i % l.length]; omega) rfl (k := i) (by omega) (by omega)) rfl ?_
      rintro _ _ rfl
      simp only [List.set_cons_zero]
      refine ops_nil ?_
      refine InBlock_normal ?_
      refine Then_normal ?_
      refine wp_region' ?_
      refine ops_ro' rfl (ro_move rfl) rfl ?_
      refine ops_ro' rfl (ro_add rfl rfl (wrap_inc (by omega))) rfl ?_
      refine ops_ro' rfl (ro_assign rfl) rfl ?_
      refine ops_nil ?_
      refine Then_normal ?_
      refine back (m - 1) (by omega) (kept ⟨i + 1, zz.set i (UInt8.ofNat (((l[i % l.length].toNat : Nat) : Int)).toNat), ⟨by omega, by rw [List.length_set]; exact hz⟩, rfl, rfl⟩ ?_ ?_ ?_)
      · exact (by repeat (first | exact Has.nil _ | refine Has.cons rfl ?_))
      · exact (by repeat (first | exact Has.nil _ | refine Has.cons rfl ?_))
      · exact SubH.refl _
    · replace hc16 := of_decide_eq_false hc16
      refine wp_exit' ?_
      refine Then_exit ?_
      refine Then_exit ?_
      refine InBlock_here ?_
      refine Then_normal ?_
      refine wp_seq' ?_
      refine wp_region' ?_
      refine ops_ro' rfl (ro_move rfl) rfl ?_
      refine ops_ro' rfl (ro_assign rfl) rfl ?_
      refine ops_nil ?_
      refine Then_normal ?_
      refine wp_ret' ?_
      refine' doneS_ret (res1 rfl rfl) ?_ ?_
      rotate_left 1
      exact ⟨_, ⟨b8, zz, rfl, hz, rfl⟩, rfl⟩
      exact SubH.refl _
  · replace hg12 := of_decide_eq_false hg12
    refine ops_skip' rfl rfl ?_
    refine ops_skip' rfl rfl ?_
    refine ops_skip' rfl rfl ?_
    refine ops_ro' rfl (ro_pick rfl rfl) rfl ?_
    refine ops_nil ?_
    refine Then_normal ?_
    refine wp_condF rfl ?_
    refine wp_exit' ?_
    refine Then_exit ?_
    refine Then_exit ?_
    refine InBlock_here ?_
    refine Then_normal ?_
    refine wp_seq' ?_
    refine wp_region' ?_
    refine ops_ro' rfl (ro_move rfl) rfl ?_
    refine ops_ro' rfl (ro_assign rfl) rfl ?_
    refine ops_nil ?_
    refine Then_normal ?_
    refine wp_ret' ?_
    refine' doneS_ret (res1 rfl rfl) ?_ ?_
    rotate_left 1
    exact ⟨_, ⟨b8, zz, rfl, hz, rfl⟩, rfl⟩
    exact SubH.refl _

end Go.Proofs.YtigaolglnnjnmaaDoor
