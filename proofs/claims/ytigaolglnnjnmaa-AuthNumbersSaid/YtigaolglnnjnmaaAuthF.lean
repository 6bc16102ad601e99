/-
  Package auth: a new gate; users cut short.
-/
import Derived.Test.YtigaolglnnjnmaaAuthE
import Derived.Test.YtigaolglnnjnmaaSxFork
namespace Go.Proofs.Ytigaolglnnjnmaa
open Go.Sx
set_option linter.unusedVariables false
set_option linter.unusedSimpArgs false
set_option maxRecDepth 100000
set_option maxHeartbeats 4000000

theorem cloneU_some (V : HProp) (a : Addr) (m c : Nat) (xs : List Value) (hV : Vw V (.slice (some a) m c) m xs) (hl : xs.length = m * 2) (hone : ∀ v ∈ xs, v.oneCell' = true) (hm : m ≤ 4398046511104) :
    Tri Try.prog 54 [.slice (some a) m c] [V] (fun r H' => ∃ p' c', r = .slice p' m c' ∧ H' = [row 30 2 (.slice p' m c') m xs, V]) := by
  refine tri_of_wpS Try.func54 rfl Try.ntmps54 (by simp) ?_
  refine wp_seq' ?_
  refine wp_region' ?_
  refine ops_ro' rfl (ro_assign rfl) rfl ?_
  refine ops_nil ?_
  refine Then_normal ?_
  refine wp_seq' ?_
  refine wp_seq' ?_
  refine wp_region' ?_
  refine ops_ro' rfl (ro_move rfl) rfl ?_
  refine ops_ro' rfl (ro_sliceEqlNil Try.underlying31 rfl rfl rfl) rfl ?_
  refine ops_nil ?_
  refine Then_normal ?_
  refine wp_condF rfl ?_
  refine wp_skip' ?_
  refine Then_normal ?_
  refine wp_seq' ?_
  refine wp_region' ?_
  refine ops_eff' rfl (eff_lit sl31 rfl (sbld (cs := []) [] sl31 (by decide) (by kernel_rfl) rfl) rfl (by decide)) rfl ?_
  rintro _ _ ⟨b5, rfl, rfl⟩
  refine ops_ro' rfl (ro_move rfl) rfl ?_
  refine ops_eff' rfl (eff_append 0 sl31 (.inl ⟨30, Try.underlying31⟩) rfl rfl rfl (Src.of_vw (Vw.pick 0 rfl hV) hl hone) (by omega) (by simp only [maxLen]; omega)) rfl ?_
  rintro _ _ ⟨_, ⟨p', c', rfl, -, rfl⟩, rfl⟩
  simp only [Nat.zero_add, List.nil_append, List.set_cons_zero]
  refine ops_ro' rfl (ro_assign rfl) rfl ?_
  refine ops_nil ?_
  refine Then_normal ?_
  refine wp_ret' ?_
  refine' doneS_ret (res1 rfl rfl) ?_ ?_
  rotate_left 1
  exact ⟨p', c', rfl, rfl⟩
  exact SubH.refl _
theorem cloneU_nil (V : HProp) : Tri Try.prog 54 [.slice none 0 0] [V] (fun r H' => ∃ p' c', r = .slice p' 0 c' ∧ H' = [row 30 2 (.slice p' 0 c') 0 [], V]) := by
  refine tri_of_wpS Try.func54 rfl Try.ntmps54 (by simp) ?_
  refine wp_seq' ?_
  refine wp_region' ?_
  refine ops_ro' rfl (ro_assign rfl) rfl ?_
  refine ops_nil ?_
  refine Then_normal ?_
  refine wp_seq' ?_
  refine wp_seq' ?_
  refine wp_region' ?_
  refine ops_ro' rfl (ro_move rfl) rfl ?_
  refine ops_ro' rfl (ro_sliceEqlNil Try.underlying31 rfl rfl rfl) rfl ?_
  refine ops_nil ?_
  refine Then_normal ?_
  refine wp_condT rfl ?_
  refine wp_seq' ?_
  refine wp_heap (fun w F => nil_row 30 2 w F) ?_
  refine wp_region' ?_
  refine ops_ro' rfl (ro_assign rfl) rfl ?_
  refine ops_nil ?_
  refine Then_normal ?_
  refine wp_ret' ?_
  refine Then_ret ?_
  refine' doneS_ret (res1 rfl rfl) ?_ ?_
  rotate_left 1
  exact ⟨none, 0, rfl, rfl⟩
  exact SubH.refl _
theorem cloneU (V : HProp) (p : Option Addr) (m c : Nat) (xs : List Value) (hV : Vw V (.slice p m c) m xs) (hl : xs.length = m * 2) (hone : ∀ v ∈ xs, v.oneCell' = true) (hm : m ≤ 4398046511104) :
    Tri Try.prog 54 [.slice p m c] [V] (fun r H' => ∃ p' c', r = .slice p' m c' ∧ H' = [row 30 2 (.slice p' m c') m xs, V]) := by
  cases p with
  | some a => exact cloneU_some V a m c xs hV hl hone hm
  | none =>
    refine tri_know (p := m = 0 ∧ c = 0 ∧ xs = []) (fun w F s => hV.len_nil (by simpa [St_cons, St_nil, star_emp] using s)) ?_
    rintro ⟨rfl, rfl, rfl⟩; exact cloneU_nil V


theorem auNew_spec (V : HProp) (q : Option Addr) (cq : Nat) (us : List Us) (hV : Vw V (.slice q us.length cq) us.length (flat Us.cs us)) (hl : us.length ≤ 1000000) : Tri Try.prog 23 [.slice q us.length cq] [V] (fun v H' => ∃ bg p c, v = .pointer (some ⟨bg, 0, none⟩) ∧ H' = [gt bg p us.length c Gs.zero, row 30 2 (.slice p us.length c) us.length (flat Us.cs us), V]) := by
  refine tri_of_wpS Try.func23 rfl Try.ntmps23 (by simp) ?_
  refine wp_seq' ?_
  refine wp_region' ?_
  refine ops_ro' rfl (ro_assign rfl) rfl ?_
  refine ops_nil ?_
  refine Then_normal ?_
  refine wp_seq' ?_
  refine wp_region' ?_
  refine ops_ro' rfl (ro_move rfl) rfl ?_
  refine ops_eff' rfl (eff_call Try.call54 rfl rfl (by repeat (first | exact Split.nil _ | apply Split.cons 0 rfl | apply Split.cons 1 rfl | apply Split.cons 2 rfl | apply Split.cons 3 rfl | apply Split.cons 4 rfl | apply Split.cons 5 rfl | apply Split.cons 6 rfl | apply Split.cons 7 rfl | apply Split.cons 8 rfl | apply Split.cons 9 rfl | apply Split.cons 10 rfl | apply Split.cons 11 rfl)) (cloneU V q us.length cq (flat Us.cs us) hV (by rw [flat_len Us.len]) (flat_one' Us.one us) (by omega))) rfl ?_
  rintro _ H' ⟨_, ⟨p4, c4, rfl, rfl⟩, hH⟩
  simp only [List.cons_append, List.nil_append, List.eraseIdx_cons_zero, List.eraseIdx_cons_succ, List.set_cons_zero, List.set_cons_succ] at hH
  subst hH
  refine ops_ro' rfl (ro_build rfl (bld_struct (cs := [.slice p4 us.length c4, .bool false, .int .i64 0, .string (str []), .bool false, .bool false]) st99 rfl)) rfl ?_
  refine ops_eff' rfl (eff_box rfl) rfl ?_
  rintro _ _ ⟨b6, rfl, rfl⟩
  refine ops_ro' rfl (ro_assign rfl) rfl ?_
  refine ops_nil ?_
  refine Then_normal ?_
  refine wp_ret' ?_
  refine' doneS_ret (res1 rfl rfl) ?_ ?_
  rotate_left 1
  exact ⟨b6, p4, c4, rfl, rfl⟩
  exact SubH.refl _
theorem auUser_spec (bg : Nat) (p : Option Addr) (k c : Nat) (g : Gs) : Tri Try.prog 26 [.pointer (some ⟨bg, 0, none⟩)] [gt bg p k c g] (fun v H' => v = .tuple #[.string (str g.user), .bool g.inn] ∧ H' = [gt bg p k c g]) := by
  refine tri_of_wpS Try.func26 rfl Try.ntmps26 (by simp) ?_
  refine wp_seq' ?_
  refine wp_region' ?_
  refine ops_ro' rfl (ro_assign rfl) rfl ?_
  refine ops_ro' rfl (ro_assign rfl) rfl ?_
  refine ops_nil ?_
  refine Then_normal ?_
  refine wp_seq' ?_
  refine wp_draw 9 (by kernel_rfl) (Split.all _) ?_
  refine any_ro' (i := 0) (by kernel_rfl) rfl rfl (ro_move rfl) rfl (fun _ _ _ h => h) ?_
  refine any_ro' (i := 1) (by kernel_rfl) rfl rfl (ro_nilCheck rfl) rfl (fun _ _ _ h => h) ?_
  refine any_ro' (i := 2) (by kernel_rfl) rfl rfl (ro_fieldAddr fa99_3 rfl) rfl (fun _ _ _ h => h) ?_
  refine any_ro' (i := 3) (by kernel_rfl) rfl rfl (ro_load sc9 rfl (Rd.pick 0 rfl (Rd.own rfl))) rfl (fun _ _ _ h => h) ?_
  refine any_ro' (i := 4) (by kernel_rfl) rfl rfl (ro_move rfl) rfl (fun _ _ _ h => h) ?_
  refine any_ro' (i := 5) (by kernel_rfl) rfl rfl (ro_nilCheck rfl) rfl (fun _ _ _ h => h) ?_
  refine any_ro' (i := 6) (by kernel_rfl) rfl rfl (ro_fieldAddr fa99_4 rfl) rfl (fun _ _ _ h => h) ?_
  refine any_ro' (i := 7) (by kernel_rfl) rfl rfl (ro_load sc4 rfl (Rd.pick 0 rfl (Rd.own rfl))) rfl (fun _ _ _ h => h) ?_
  refine any_ro' (i := 8) (by kernel_rfl) rfl rfl (ro_assign rfl) rfl (fun _ _ _ h => h) ?_
  refine any_unlock (m' := 10) (L' := []) (by kernel_rfl) unlock ?_
  simp only [List.cons_append, List.nil_append, List.append_nil]
  refine any_ro' (i := 9) (by kernel_rfl) rfl rfl (ro_assign rfl) rfl (fun _ _ _ h => h) ?_
  refine any_doneH (by kernel_rfl) ?_
  refine Then_normal ?_
  refine wp_ret' ?_
  refine' doneS_ret (res2 rfl rfl rfl) ?_ ?_
  rotate_left 1
  exact ⟨rfl, rfl⟩
  exact SubH.refl _
theorem auDead_spec (bg : Nat) (p : Option Addr) (k c : Nat) (g : Gs) : Tri Try.prog 27 [.pointer (some ⟨bg, 0, none⟩)] [gt bg p k c g] (fun v H' => v = .bool g.dead ∧ H' = [gt bg p k c g]) := by
  refine tri_of_wpS Try.func27 rfl Try.ntmps27 (by simp) ?_
  refine wp_seq' ?_
  refine wp_region' ?_
  refine ops_ro' rfl (ro_assign rfl) rfl ?_
  refine ops_nil ?_
  refine Then_normal ?_
  refine wp_seq' ?_
  refine wp_region' ?_
  refine ops_ro' rfl (ro_move rfl) rfl ?_
  refine ops_ro' rfl (ro_nilCheck rfl) rfl ?_
  refine ops_ro' rfl (ro_fieldAddr fa99_5 rfl) rfl ?_
  refine ops_ro' rfl (ro_load sc4 rfl (Rd.pick 0 rfl (Rd.own rfl))) rfl ?_
  refine ops_ro' rfl (ro_assign rfl) rfl ?_
  refine ops_nil ?_
  refine Then_normal ?_
  refine wp_ret' ?_
  refine' doneS_ret (res1 rfl rfl) ?_ ?_
  rotate_left 1
  exact ⟨rfl, rfl⟩
  exact SubH.refl _


def cutU (u : Us) : Us := ⟨u.name.take 66, u.pass.take 66⟩
def usr (l : List Us) : List Us := l.map cutU
theorem usr_succ {l : List Us} {i : Nat} (hi : i < l.length) : usr (l.take (i + 1)) = usr (l.take i) ++ [cutU l[i]] := by
  rw [usr, usr, List.take_succ_eq_append_getElem hi, List.map_append]; rfl
theorem users_spec (V : HProp) (q : Option Addr) (cq : Nat) (l : List Us) (hV : Vw V (.slice q l.length cq) l.length (flat Us.cs l)) (hl : l.length ≤ 9223372036854775807) : Tri Try.prog 21 [.slice q l.length cq] [V]
    (fun v H' => ∃ K, (∃ p c, v = .slice p (usr (l.take 5)).length c ∧ K = [row 30 2 (.slice p (usr (l.take 5)).length c) (usr (l.take 5)).length (flat Us.cs (usr (l.take 5)))]) ∧ H' = K ++ [V]) := by
  refine tri_of_wpS Try.func21 rfl Try.ntmps21 (by simp) ?_
  refine wp_seq' ?_
  refine wp_region' ?_
  refine ops_ro' rfl (ro_assign rfl) rfl ?_
  refine ops_nil ?_
  refine Then_normal ?_
  refine wp_seq' ?_
  refine wp_region' ?_
  refine ops_ro' rfl (ro_assign rfl) rfl ?_
  refine ops_nil ?_
  refine Then_normal ?_
  refine wp_seq' ?_
  refine wp_seq' ?_
  refine wp_region' ?_
  refine ops_ro' rfl (ro_assign rfl) rfl ?_
  refine ops_nil ?_
  refine Then_normal ?_
  refine wp_block' ?_
  refine wp_loopK 3 (fun m Δ LL => ∃ (i : Nat) (p3 : Option Addr) (c3 : Nat), (i + m = l.length ∧ i ≤ 5) ∧ Δ = [(3, .slice p3 (usr (l.take i)).length c3), (4, .int .i64 (i : Nat))] ∧ LL = [row 30 2 (.slice p3 (usr (l.take i)).length c3) (usr (l.take i)).length (flat Us.cs (usr (l.take i))), V]) (m := l.length) (Has.cons (k := 0) rfl (Has.nil _)) (kept ⟨0, none, 0, ⟨by omega, by omega⟩, rfl, rfl⟩ (by repeat (first | exact Has.nil _ | refine Has.cons rfl ?_)) (by repeat (first | exact Has.nil _ | refine Has.cons rfl ?_)) (by repeat (first | exact SubH.nil _ | refine SubH.cons 0 rfl ?_ | refine SubH.cons 1 rfl ?_ | refine SubH.cons 2 rfl ?_ | refine SubH.cons 3 rfl ?_ | refine SubH.cons 4 rfl ?_ | refine SubH.cons 5 rfl ?_ | refine SubH.cons 6 rfl ?_ | refine SubH.cons 7 rfl ?_ | refine SubH.cons 8 rfl ?_ | refine SubH.cons 9 rfl ?_ | refine SubH.cons 10 rfl ?_ | refine SubH.cons 11 rfl ?_ | refine SubH.cons 12 rfl ?_ | refine SubH.cons 13 rfl ?_ | refine SubH.rown ?_))) ?_
  rintro m Δ LL ⟨i, p3, c3, ⟨hm, hi5⟩, rfl, rfl⟩
  simp only [List.cons_append, List.nil_append]
  refine wp_seq' ?_
  refine wp_seq' ?_
  refine wp_region' ?_
  refine ops_ro' rfl (ro_move rfl) rfl ?_
  refine ops_ro' rfl (ro_move rfl) rfl ?_
  refine ops_ro' rfl (ro_sliceLen Try.underlying31 rfl) rfl ?_
  refine ops_ro' rfl (ro_lss rfl rfl rfl) rfl ?_
  refine ops_split rfl rfl rfl (fun hg9 => ?_) (fun hg9 => ?_)
  · replace hg9 := of_decide_eq_true hg9
    refine ops_ro' rfl (ro_move rfl) rfl ?_
    refine ops_ro' rfl (ro_lss rfl rfl rfl) rfl ?_
    refine ops_ro' rfl (ro_pick rfl rfl) rfl ?_
    refine ops_nil ?_
    refine Then_normal ?_
    refine wp_cond' rfl (fun hc12 => ?_) (fun hc12 => ?_)
    · replace hc12 := of_decide_eq_true hc12
      refine wp_skip' ?_
      refine Then_normal ?_
      refine wp_seq' ?_
      refine wp_block' ?_
      have hi : i < l.length := by omega
      have hul : (usr (l.take i)).length = i := by simp [usr]; omega
      refine wp_know (fun w F s => vw_ptr (Vw.pick (H := [_, V]) 1 rfl hV) s (by omega)) ?_
      rintro ⟨b0, o0, rfl⟩
      refine wp_draw 16 (by kernel_rfl) (Split.cons 1 rfl (Split.nil _)) ?_
      refine any_ro' (i := 0) (by kernel_rfl) rfl rfl (ro_move rfl) rfl (fun _ _ _ h => h) ?_
      refine any_ro' (i := 1) (by kernel_rfl) rfl rfl (ro_move rfl) rfl (fun _ _ _ h => h) ?_
      refine any_ro' (i := 2) (by kernel_rfl) rfl rfl (ro_move rfl) rfl (fun _ _ _ h => h) ?_
      refine any_ro' (i := 3) (by kernel_rfl) rfl rfl (ro_indexSlice sl31 rfl rfl rfl (by omega)) rfl (fun _ _ _ h => h) ?_
      refine any_ro' (i := 4) (by kernel_rfl) rfl rfl (ro_fieldAddr fa30_0 rfl) rfl (fun _ _ _ h => h) ?_
      refine any_ro' (i := 5) (by kernel_rfl) rfl rfl (ro_load sc9 rfl (Rd.pick 0 rfl (Rd.elem (j := 0) (vw_rdn hV) Us.len (List.getElem?_eq_getElem hi) rfl))) rfl (fun _ _ _ h => h) ?_
      refine any_ro' (i := 7) (by kernel_rfl) rfl rfl (ro_move rfl) rfl (fun _ _ _ h => h) ?_
      refine any_ro' (i := 8) (by kernel_rfl) rfl rfl (ro_move rfl) rfl (fun _ _ _ h => h) ?_
      refine any_ro' (i := 9) (by kernel_rfl) rfl rfl (ro_indexSlice sl31 rfl rfl rfl (by omega)) rfl (fun _ _ _ h => h) ?_
      refine any_ro' (i := 10) (by kernel_rfl) rfl rfl (ro_fieldAddr fa30_1 rfl) rfl (fun _ _ _ h => h) ?_
      refine any_ro' (i := 11) (by kernel_rfl) rfl rfl (ro_load sc9 rfl (Rd.pick 0 rfl (Rd.elem (j := 1) (vw_rdn hV) Us.len (List.getElem?_eq_getElem hi) rfl))) rfl (fun _ _ _ h => h) ?_
      refine any_eff' (i := 6) (by kernel_rfl) rfl rfl (eff_call Try.call25 rfl rfl (by repeat (first | exact Split.nil _ | apply Split.cons 0 rfl | apply Split.cons 1 rfl | apply Split.cons 2 rfl | apply Split.cons 3 rfl | apply Split.cons 4 rfl | apply Split.cons 5 rfl | apply Split.cons 6 rfl | apply Split.cons 7 rfl | apply Split.cons 8 rfl | apply Split.cons 9 rfl | apply Split.cons 10 rfl | apply Split.cons 11 rfl)) (kHead l[i].name 66)) rfl ?_
      rintro _ H' ⟨_, ⟨rfl, rfl⟩, hH⟩
      simp only [List.cons_append, List.nil_append, List.eraseIdx_cons_zero, List.eraseIdx_cons_succ, List.set_cons_zero, List.set_cons_succ] at hH
      subst hH
      refine any_eff' (i := 12) (by kernel_rfl) rfl rfl (eff_call Try.call25 rfl rfl (by repeat (first | exact Split.nil _ | apply Split.cons 0 rfl | apply Split.cons 1 rfl | apply Split.cons 2 rfl | apply Split.cons 3 rfl | apply Split.cons 4 rfl | apply Split.cons 5 rfl | apply Split.cons 6 rfl | apply Split.cons 7 rfl | apply Split.cons 8 rfl | apply Split.cons 9 rfl | apply Split.cons 10 rfl | apply Split.cons 11 rfl)) (kHead l[i].pass 66)) rfl ?_
      rintro _ H' ⟨_, ⟨rfl, rfl⟩, hH⟩
      simp only [List.cons_append, List.nil_append, List.eraseIdx_cons_zero, List.eraseIdx_cons_succ, List.set_cons_zero, List.set_cons_succ] at hH
      subst hH
      refine any_ro' (i := 13) (by kernel_rfl) rfl rfl (ro_build rfl (bld_struct (cs := Us.cs (cutU l[i])) st30 rfl)) rfl (fun _ _ _ h => h) ?_
      refine any_eff' (i := 14) (by kernel_rfl) rfl rfl (eff_lit sl31 rfl (sbld (cs := flat Us.cs [cutU l[i]]) [(.string ByteArray.empty), (.string ByteArray.empty)] sl31 (by decide) (by kernel_rfl) rfl) rfl (by decide)) rfl ?_
      rintro _ _ ⟨b29, rfl, rfl⟩
      refine any_eff' (i := 15) (by kernel_rfl) rfl rfl (eff_appF (f := Us.cs) (l2 := [cutU l[i]]) 1 sl31 (.inl ⟨30, Try.underlying31⟩) rfl rfl rfl (by first | exact Src.flatv Us.len Us.one (Vw.pick 0 rfl Vw.row) | exact Src.flatv Us.len Us.one (Vw.pick 1 rfl Vw.row) | exact Src.flatv Us.len Us.one (Vw.pick 2 rfl Vw.row) | exact Src.flatv Us.len Us.one (Vw.pick 3 rfl Vw.row) | exact Src.flatv Us.len Us.one (Vw.pick 4 rfl Vw.row) | exact Src.flatv Us.len Us.one (Vw.pick 5 rfl Vw.row) | exact Src.flatv Us.len Us.one (Vw.pick 6 rfl Vw.row) | exact Src.flatv Us.len Us.one (Vw.pick 7 rfl Vw.row)) (by simp only [List.length_cons, List.length_nil]; omega) (by simp only [List.length_cons, List.length_nil]; omega)) rfl ?_
      rintro _ _ ⟨p30, c30, rfl, hn30, rfl⟩
      simp only [List.set_cons_zero, List.set_cons_succ]
      rw [← usr_succ hi]
      refine any_unlock (m' := 17) (L' := []) (by kernel_rfl) unlock ?_
      simp only [List.cons_append, List.nil_append, List.append_nil]
      refine any_ro' (i := 16) (by kernel_rfl) rfl rfl (ro_assign rfl) rfl (fun _ _ _ h => h) ?_
      refine any_doneH (by kernel_rfl) ?_
      refine InBlock_normal ?_
      refine Then_normal ?_
      refine wp_region' ?_
      refine ops_ro' rfl (ro_move rfl) rfl ?_
      refine ops_ro' rfl (ro_add rfl rfl (wrap_inc (by omega))) rfl ?_
      refine ops_ro' rfl (ro_assign rfl) rfl ?_
      refine ops_nil ?_
      refine Then_normal ?_
      refine back (m - 1) (by omega) (kept ⟨i + 1, p30, c30, ⟨by omega, by omega⟩, rfl, rfl⟩ ?_ ?_ ?_)
      · exact (by repeat (first | exact Has.nil _ | refine Has.cons rfl ?_))
      · exact (by repeat (first | exact Has.nil _ | refine Has.cons rfl ?_))
      · exact (SubH.cons 2 rfl (SubH.cons 0 rfl (SubH.nil _)))
    · replace hc12 := of_decide_eq_false hc12
      refine wp_exit' ?_
      refine Then_exit ?_
      refine Then_exit ?_
      refine InBlock_here ?_
      refine Then_normal ?_
      refine wp_seq' ?_
      refine wp_region' ?_
      refine ops_ro' rfl (ro_move rfl) rfl ?_
      refine ops_ro' rfl (ro_assign rfl) rfl ?_
      refine ops_nil ?_
      refine Then_normal ?_
      refine wp_ret' ?_
      have hx : l.take i = l.take 5 := by
        by_cases h : i = 5
        · rw [h]
        · rw [List.take_of_length_le (by omega), List.take_of_length_le (by omega)]
      rw [hx]
      refine' doneS_ret (res1 rfl rfl) ?_ ?_
      rotate_left 1
      exact ⟨_, ⟨p3, c3, rfl, rfl⟩, rfl⟩
      exact SubH.refl _
  · replace hg9 := of_decide_eq_false hg9
    refine ops_skip' rfl rfl ?_
    refine ops_skip' rfl rfl ?_
    refine ops_ro' rfl (ro_pick rfl rfl) rfl ?_
    refine ops_nil ?_
    refine Then_normal ?_
    refine wp_condF rfl ?_
    refine wp_exit' ?_
    refine Then_exit ?_
    refine Then_exit ?_
    refine InBlock_here ?_
    refine Then_normal ?_
    refine wp_seq' ?_
    refine wp_region' ?_
    refine ops_ro' rfl (ro_move rfl) rfl ?_
    refine ops_ro' rfl (ro_assign rfl) rfl ?_
    refine ops_nil ?_
    refine Then_normal ?_
    refine wp_ret' ?_
    have hx : l.take i = l.take 5 := by
      by_cases h : i = 5
      · rw [h]
      · rw [List.take_of_length_le (by omega), List.take_of_length_le (by omega)]
    rw [hx]
    refine' doneS_ret (res1 rfl rfl) ?_ ?_
    rotate_left 1
    exact ⟨_, ⟨p3, c3, rfl, rfl⟩, rfl⟩
    exact SubH.refl _

end Go.Proofs.Ytigaolglnnjnmaa
