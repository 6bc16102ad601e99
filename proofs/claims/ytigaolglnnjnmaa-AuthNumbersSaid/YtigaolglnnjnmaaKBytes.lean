/-
  Lists of bytes: held against one another.
-/
import Derived.Test.YtigaolglnnjnmaaSxOpen
import Derived.Test.YtigaolglnnjnmaaSxStr
import Derived.Test.YtigaolglnnjnmaaTxt
namespace Go.Proofs.Ytigaolglnnjnmaa
open Go.Sx
set_option linter.unusedVariables false
set_option linter.unusedSimpArgs false
set_option maxRecDepth 100000
set_option maxHeartbeats 4000000

def Sq.cs (s : Slv UInt8) : List Value := [s.v]
theorem Sq.len (s : Slv UInt8) : (Sq.cs s).length = 1 := rfl
theorem Sq.one (s : Slv UInt8) : ∀ v ∈ Sq.cs s, v.oneCell' = true := fun v hv => by rw [List.mem_singleton.1 hv]; rfl
theorem map_l {xs ys : List (Slv UInt8)} {i : Nat} (hi : i < xs.length) (hj : i < ys.length) (h : xs.map Slv.l = ys.map Slv.l) : xs[i].l = ys[i].l := by
  have e1 : (xs.map Slv.l)[i]? = some xs[i].l := by rw [List.getElem?_map, List.getElem?_eq_getElem hi]; rfl
  have e2 : (ys.map Slv.l)[i]? = some ys[i].l := by rw [List.getElem?_map, List.getElem?_eq_getElem hj]; rfl
  rw [h, e2] at e1; injection e1 with e; exact e.symm
theorem kbytes_spec (V : HProp) (xs ys : List (Slv UInt8)) (p1 p2 : Option Addr) (c1 c2 : Nat) (h1 : Vw V (.slice p1 xs.length c1) xs.length (flat Sq.cs xs)) (h2 : Vw V (.slice p2 ys.length c2) ys.length (flat Sq.cs ys)) (hx : ∀ x ∈ xs, Vw V x.v x.l.length (cel x.l)) (hy : ∀ x ∈ ys, Vw V x.v x.l.length (cel x.l)) (hl : xs.length ≤ 140737488355328) :
    Tri Try.prog 47 [.slice p1 xs.length c1, .slice p2 ys.length c2] [V] (fun v H' => ∃ K, (v = .bool (decide (xs.map Slv.l = ys.map Slv.l)) ∧ K = []) ∧ H' = K ++ [V]) := by
  refine tri_of_wpS Try.func47 rfl Try.ntmps47 (by simp) ?_
  refine wp_seq' ?_
  refine wp_region' ?_
  refine ops_ro' rfl (ro_assign rfl) rfl ?_
  refine ops_nil ?_
  refine Then_normal ?_
  refine wp_seq' ?_
  refine wp_seq' ?_
  refine wp_region' ?_
  refine ops_ro' rfl (ro_move rfl) rfl ?_
  refine ops_ro' rfl (ro_sliceLen Try.underlying36 rfl) rfl ?_
  refine ops_ro' rfl (ro_move rfl) rfl ?_
  refine ops_ro' rfl (ro_sliceLen Try.underlying36 rfl) rfl ?_
  refine ops_ro' rfl (ro_neq rfl rfl rfl) rfl ?_
  refine ops_nil ?_
  refine Then_normal ?_
  refine wp_cond' rfl (fun hc10 => ?_) (fun hc10 => ?_)
  · replace hc10 := of_decide_eq_true hc10
    refine wp_seq' ?_
    refine wp_region' ?_
    refine ops_ro' rfl (ro_assign rfl) rfl ?_
    refine ops_nil ?_
    refine Then_normal ?_
    refine wp_ret' ?_
    refine Then_ret ?_
    refine' doneS_ret (res1 rfl rfl) ?_ ?_
    rotate_left 1
    exact ⟨_, ⟨by rw [decide_eq_false (fun h => by have h1 := congrArg List.length h; simp only [List.length_map] at h1; omega)], rfl⟩, rfl⟩
    exact SubH.refl _
  · replace hc10 := of_decide_eq_false hc10
    refine wp_skip' ?_
    refine Then_normal ?_
    refine wp_seq' ?_
    refine wp_seq' ?_
    refine wp_region' ?_
    refine ops_ro' rfl (ro_assign rfl) rfl ?_
    refine ops_nil ?_
    refine Then_normal ?_
    refine wp_block' ?_
    refine wp_loopK 4 (fun m Δ LL => ∃ (i : Nat), (i + m = xs.length ∧ xs.length = ys.length ∧ (xs.take i).map Slv.l = (ys.take i).map Slv.l) ∧ Δ = [(5, .int .i64 (i : Nat))] ∧ LL = [V]) (m := xs.length) (Has.cons (k := 0) rfl (Has.cons (k := 1) rfl (Has.nil _))) (kept ⟨0, ⟨by omega, by omega, by simp⟩, rfl, rfl⟩ (by repeat (first | exact Has.nil _ | refine Has.cons rfl ?_)) (by repeat (first | exact Has.nil _ | refine Has.cons rfl ?_)) (by repeat (first | exact SubH.nil _ | refine SubH.cons 0 rfl ?_ | refine SubH.cons 1 rfl ?_ | refine SubH.cons 2 rfl ?_ | refine SubH.cons 3 rfl ?_ | refine SubH.cons 4 rfl ?_ | refine SubH.cons 5 rfl ?_ | refine SubH.cons 6 rfl ?_ | refine SubH.cons 7 rfl ?_ | refine SubH.cons 8 rfl ?_ | refine SubH.cons 9 rfl ?_ | refine SubH.cons 10 rfl ?_ | refine SubH.cons 11 rfl ?_ | refine SubH.cons 12 rfl ?_ | refine SubH.cons 13 rfl ?_ | refine SubH.rown ?_))) ?_
    rintro m Δ LL ⟨i, ⟨hm, hab, ht⟩, rfl, rfl⟩
    simp only [List.cons_append, List.nil_append]
    refine wp_seq' ?_
    refine wp_seq' ?_
    refine wp_region' ?_
    refine ops_ro' rfl (ro_move rfl) rfl ?_
    refine ops_ro' rfl (ro_move rfl) rfl ?_
    refine ops_ro' rfl (ro_sliceLen Try.underlying36 rfl) rfl ?_
    refine ops_ro' rfl (ro_lss rfl rfl rfl) rfl ?_
    refine ops_nil ?_
    refine Then_normal ?_
    refine wp_cond' rfl (fun hc14 => ?_) (fun hc14 => ?_)
    · replace hc14 := of_decide_eq_true hc14
      have hi : i < xs.length := by omega
      have hj : i < ys.length := by omega
      refine wp_know (fun w F s => vw_ptr (Vw.pick (H := [V]) 0 rfl h1) s (by omega)) ?_
      rintro ⟨b1, ob1, rfl⟩
      refine wp_know (fun w F s => vw_ptr (Vw.pick (H := [V]) 0 rfl h2) s (by omega)) ?_
      rintro ⟨b2, ob2, rfl⟩
      refine wp_skip' ?_
      refine Then_normal ?_
      refine wp_seq' ?_
      refine wp_block' ?_
      refine wp_seq' ?_
      refine wp_draw 11 (by kernel_rfl) (Split.all _) ?_
      refine any_ro' (i := 0) (by kernel_rfl) rfl rfl (ro_move rfl) rfl (fun _ _ _ h => h) ?_
      refine any_ro' (i := 1) (by kernel_rfl) rfl rfl (ro_move rfl) rfl (fun _ _ _ h => h) ?_
      refine any_ro' (i := 2) (by kernel_rfl) rfl rfl (ro_indexSlice sl36 rfl rfl rfl (by omega)) rfl (fun _ _ _ h => h) ?_
      refine any_ro' (i := 3) (by kernel_rfl) rfl rfl (ro_load sc32 rfl (Rd.pick 0 rfl (Rd.elem (j := 0) (vw_rdn h1) Sq.len (List.getElem?_eq_getElem hi) rfl))) rfl (fun _ _ _ h => h) ?_
      refine any_ro' (i := 4) (by kernel_rfl) rfl rfl (ro_toStr Try.underlying32 Try.underlying5 Try.underlying9 rfl (Vw.pick 0 rfl (hx xs[i] (List.getElem_mem hi))) rfl) rfl (fun _ _ _ h => h) ?_
      refine any_ro' (i := 5) (by kernel_rfl) rfl rfl (ro_move rfl) rfl (fun _ _ _ h => h) ?_
      refine any_ro' (i := 6) (by kernel_rfl) rfl rfl (ro_move rfl) rfl (fun _ _ _ h => h) ?_
      refine any_ro' (i := 7) (by kernel_rfl) rfl rfl (ro_indexSlice sl36 rfl rfl rfl (by omega)) rfl (fun _ _ _ h => h) ?_
      refine any_ro' (i := 8) (by kernel_rfl) rfl rfl (ro_load sc32 rfl (Rd.pick 0 rfl (Rd.elem (j := 0) (vw_rdn h2) Sq.len (List.getElem?_eq_getElem hj) rfl))) rfl (fun _ _ _ h => h) ?_
      refine any_ro' (i := 9) (by kernel_rfl) rfl rfl (ro_toStr Try.underlying32 Try.underlying5 Try.underlying9 rfl (Vw.pick 0 rfl (hy ys[i] (List.getElem_mem hj))) rfl) rfl (fun _ _ _ h => h) ?_
      refine any_ro' (i := 10) (by kernel_rfl) rfl rfl (ro_neqS rfl rfl rfl) rfl (fun _ _ _ h => h) ?_
      refine any_doneL (by kernel_rfl) ?_
      refine Then_normal ?_
      refine wp_cond' rfl (fun hc27 => ?_) (fun hc27 => ?_)
      · replace hc27 := of_decide_eq_true hc27
        refine wp_seq' ?_
        refine wp_region' ?_
        refine ops_ro' rfl (ro_assign rfl) rfl ?_
        refine ops_nil ?_
        refine Then_normal ?_
        refine wp_ret' ?_
        refine InBlock_ret ?_
        refine Then_ret ?_
        refine Then_ret ?_
        refine InBlock_ret ?_
        refine Then_ret ?_
        refine' doneS_ret (res1 rfl rfl) ?_ ?_
        rotate_left 1
        exact ⟨_, ⟨by rw [decide_eq_false (fun h => hc27 (map_l hi hj h))], rfl⟩, rfl⟩
        exact SubH.refl _
      · replace hc27 := of_decide_eq_false hc27
        replace hc27 : xs[i].l = ys[i].l := Classical.byContradiction hc27
        refine wp_skip' ?_
        refine InBlock_normal ?_
        refine Then_normal ?_
        refine wp_region' ?_
        refine ops_ro' rfl (ro_move rfl) rfl ?_
        refine ops_ro' rfl (ro_add rfl rfl (wrap_inc (by omega))) rfl ?_
        refine ops_ro' rfl (ro_assign rfl) rfl ?_
        refine ops_nil ?_
        refine Then_normal ?_
        refine back (m - 1) (by omega) (kept ⟨i + 1, ⟨by omega, hab, by rw [List.take_succ_eq_append_getElem hi, List.take_succ_eq_append_getElem hj, List.map_append, List.map_append, ht]; simp only [List.map_cons, List.map_nil]; rw [hc27]⟩, rfl, rfl⟩ ?_ ?_ ?_)
        · exact (by repeat (first | exact Has.nil _ | refine Has.cons rfl ?_))
        · exact (by repeat (first | exact Has.nil _ | refine Has.cons rfl ?_))
        · exact SubH.refl _
    · replace hc14 := of_decide_eq_false hc14
      refine wp_exit' ?_
      refine Then_exit ?_
      refine Then_exit ?_
      refine InBlock_here ?_
      refine Then_normal ?_
      refine wp_seq' ?_
      refine wp_region' ?_
      refine ops_ro' rfl (ro_assign rfl) rfl ?_
      refine ops_nil ?_
      refine Then_normal ?_
      refine wp_ret' ?_
      refine' doneS_ret (res1 rfl rfl) ?_ ?_
      rotate_left 1
      exact ⟨_, ⟨by rw [decide_eq_true (by rw [List.take_of_length_le (by omega), List.take_of_length_le (by omega)] at ht; exact ht)], rfl⟩, rfl⟩
      exact SubH.refl _

end Go.Proofs.Ytigaolglnnjnmaa
