/-
  Numbers and names, by package strongroomref1.
-/
import Derived.Test.YtbiohhfibkolgaaRef1W
namespace Go.Proofs.Ytbiohhfibkolgaa
open Go.Sx
set_option linter.unusedVariables false
set_option linter.unusedSimpArgs false
set_option maxRecDepth 100000

theorem vw_form {V : HProp} {p : Option Addr} {n c : Nat} {xs : List Value} (h : Vw V (.slice p n c) n xs) {w : World} {F : HProp} (s : sat w (star V F)) : (p = none ∧ n = 0 ∧ c = 0) ∨ ∃ b o, p = some ⟨b, o, none⟩ := by
  rcases h w F s with ⟨h1, h2, _⟩ | ⟨b, o, cap, h1, _⟩
  · injection h1 with h1 _ h3; exact .inl ⟨h1, h2, h3⟩
  · injection h1 with h1 _ _; exact .inr ⟨b, o, h1⟩
theorem qbare_some (V : HProp) (bb o c : Nat) (l : List UInt8) (hV : Vw V (.slice (some ⟨bb, o, none⟩) l.length c) l.length (cel l)) (hc : l.length ≤ c) (hl : l.length ≤ 140737488354000) : Tri Try.prog 80 [.slice (some ⟨bb, o, none⟩) l.length c] [V] (fun v H' => ∃ A, Rowo v (bare l) A ∧ H' = [A, V]) := by
  refine tri_of_wp Try.func80 rfl Try.ntmps80 (by simp) ?_
  refine wp_seq' ?_
  refine wp_region' ?_
  refine ops_ro' rfl (ro_assign rfl) rfl ?_
  refine ops_nil ?_
  repeat (first | refine InBlock_normal ?_ | refine NoGoto_normal ?_ | refine Jump_normal ?_)
  refine Then_normal ?_
  refine wp_seq' ?_
  refine wp_region' ?_
  refine ops_ro' rfl (ro_assign rfl) rfl ?_
  refine ops_nil ?_
  repeat (first | refine InBlock_normal ?_ | refine NoGoto_normal ?_ | refine Jump_normal ?_)
  refine Then_normal ?_
  refine wp_seq' ?_
  refine wp_block' ?_
  refine wp_loop' (fun m Γ H => ∃ i, i + m = l.length ∧ bare (l.drop i) = bare l ∧ Has Γ [(0, .slice (some ⟨bb, o, none⟩) l.length c), (3, .int .i64 (i : Nat))] ∧ H = [V]) (m := l.length) ⟨0, by omega, rfl, Has.cons rfl (Has.cons rfl (Has.nil _)), rfl⟩ ?_
  rintro m Γ H ⟨i, him, hbi, hΓ, rfl⟩
  refine wp_has hΓ ?_
  refine wp_seq' ?_
  refine wp_seq' ?_
  rcases Nat.lt_or_ge i l.length with hi | hi
  · refine wp_region' ?_
    refine ops_ro' rfl (ro_move rfl) rfl ?_
    refine ops_ro' rfl (ro_move rfl) rfl ?_
    refine ops_ro' rfl (ro_sliceLen Try.underlying25 rfl) rfl ?_
    refine ops_ro' rfl (ro_lss rfl rfl (decide_eq_true (by omega))) rfl ?_
    refine ops_ro' rfl (ro_move rfl) rfl ?_
    refine ops_ro' rfl (ro_move rfl) rfl ?_
    refine ops_ro' rfl (ro_move rfl) rfl ?_
    refine ops_ro' rfl (ro_indexSlice sl25 rfl rfl rfl (by omega)) rfl ?_
    refine ops_ro' rfl (ro_load sc5 rfl (Rd.pick 0 rfl (vwRdn hV _ _ (by simpa using cel_get hi)))) rfl ?_
    refine ops_ro' rfl (ro_eql rfl rfl rfl) rfl ?_
    refine ops_ro' rfl (ro_pick rfl rfl) rfl ?_
    refine ops_nil ?_
    repeat (first | refine InBlock_normal ?_ | refine NoGoto_normal ?_ | refine Jump_normal ?_)
    refine Then_normal ?_
    refine wp_cond' rfl (fun hc0 => ?_) (fun hc0 => ?_)
    · try replace hc0 := of_decide_eq_true hc0
      have hz : l[i] = 0 := by
        apply UInt8.toNat_inj.1
        have h : ((l[i].toNat : Nat) : Int) = 0 := hc0
        show l[i].toNat = 0; omega
      refine wp_skip' ?_
      repeat (first | refine InBlock_normal ?_ | refine NoGoto_normal ?_ | refine Jump_normal ?_)
      refine Then_normal ?_
      refine wp_block' ?_
      refine wp_region' ?_
      refine ops_ro' rfl (ro_move rfl) rfl ?_
      refine ops_ro' rfl (ro_add rfl rfl (show IntKind.i64.wrap ((i : Int) + 1) = ((i + 1 : Nat) : Int) from by rw [wrap_i64_in (by omega) (by omega)]; omega)) rfl ?_
      refine ops_ro' rfl (ro_assign rfl) rfl ?_
      refine ops_nil ?_
      repeat (first | refine InBlock_normal ?_ | refine NoGoto_normal ?_ | refine Jump_normal ?_)
      refine Then_normal ?_
      exact ⟨m - 1, by omega, i + 1, by omega, by rw [← hbi, List.drop_eq_getElem_cons hi, hz, bare_zero], Has.cons rfl (Has.cons rfl (Has.nil _)), rfl⟩
    · try replace hc0 := of_decide_eq_false hc0
      have hz : ¬ l[i] = 0 := fun e => hc0 (by show ((l[i].toNat : Nat) : Int) = 0; rw [e]; rfl)
      have HB : bare l = l.drop i := by rw [← hbi, List.drop_eq_getElem_cons hi, bare_stop _ hz]
      refine wp_exit' ?_
      repeat (first | refine Then_exit ?_ | refine NoGoto_exit ?_ | refine Jump_exit ?_ | refine InBlock_here ?_ | refine InBlock_far rfl ?_)
      repeat (first | refine InBlock_normal ?_ | refine NoGoto_normal ?_ | refine Jump_normal ?_)
      refine Then_normal ?_
      refine wp_seq' ?_
      refine wp_region' ?_
      refine ops_eff' rfl (eff_buildSlice rfl (sbld (cs := []) [] sl25 (by decide) (by kernel_rfl) rfl)) rfl ?_
      rintro _ _ ⟨b17, rfl, rfl⟩
      refine ops_ro' rfl (ro_move rfl) rfl ?_
      refine ops_ro' rfl (ro_move rfl) rfl ?_
      refine ops_ro' rfl (ro_slice (l := i) (h := l.length) sl25 rfl (bnd_of rfl rfl) rfl (by omega) hc) rfl ?_
      refine ops_eff' rfl (eff_appendLit (src := resl bb o c 1 i l.length) (m := l.length - i) (news := ((cel l).drop (i * 1)).take ((l.length - i) * 1)) 0 sl25 (.inl ⟨_, Try.underlying25⟩) rfl rfl rfl rfl (Src.of_vw (Vw.pick 0 rfl (Vw.resl (vwRdn hV) (by omega) (Nat.le_refl _) hc (by simp [cel]))) (by simp [cel]) (fun v hv => cel_one l v (List.mem_of_mem_drop (List.mem_of_mem_take hv)))) (by omega) (by simp only [maxLen]; omega)) rfl ?_
      rintro _ _ ⟨b', c', rfl, rfl⟩
      refine ops_ro' rfl (ro_assign rfl) rfl ?_
      refine ops_nil ?_
      repeat (first | refine InBlock_normal ?_ | refine NoGoto_normal ?_ | refine Jump_normal ?_)
      refine Then_normal ?_
      refine wp_ret' ?_
      repeat (first | refine Then_ret ?_ | refine InBlock_ret ?_ | refine NoGoto_ret ?_ | refine Jump_ret ?_)
      refine done_ret (res1 rfl rfl) ?_
      have e : bare l = l.drop i := HB
      have e2 : ((cel l).drop (i * 1)).take ((l.length - i) * 1) = cel (l.drop i) := by
        rw [Nat.mul_one, Nat.mul_one]
        exact (List.take_of_length_le (by simp [cel])).trans (by simp [cel])
      refine ⟨_, ⟨some ⟨b', 0, none⟩, c', ?_, ?_⟩, rfl⟩
      · rw [e]; simp
      · rw [e2, e]; simp
  · refine wp_region' ?_
    refine ops_ro' rfl (ro_move rfl) rfl ?_
    refine ops_ro' rfl (ro_move rfl) rfl ?_
    refine ops_ro' rfl (ro_sliceLen Try.underlying25 rfl) rfl ?_
    refine ops_ro' rfl (ro_lss rfl rfl (decide_eq_false (by omega))) rfl ?_
    refine ops_ro' rfl (ro_move rfl) rfl ?_
    refine ops_skip rfl rfl ?_
    refine ops_skip rfl rfl ?_
    refine ops_skip rfl rfl ?_
    refine ops_skip rfl rfl ?_
    refine ops_skip rfl rfl ?_
    refine ops_ro' rfl (ro_pick rfl rfl) rfl ?_
    refine ops_nil ?_
    repeat (first | refine InBlock_normal ?_ | refine NoGoto_normal ?_ | refine Jump_normal ?_)
    refine Then_normal ?_
    refine wp_condF rfl ?_
    refine wp_exit' ?_
    repeat (first | refine Then_exit ?_ | refine NoGoto_exit ?_ | refine Jump_exit ?_ | refine InBlock_here ?_ | refine InBlock_far rfl ?_)
    repeat (first | refine InBlock_normal ?_ | refine NoGoto_normal ?_ | refine Jump_normal ?_)
    refine Then_normal ?_
    refine wp_seq' ?_
    have HB : bare l = l.drop i := by rw [← hbi, List.drop_eq_nil_of_le hi]; rfl
    refine wp_region' ?_
    refine ops_eff' rfl (eff_buildSlice rfl (sbld (cs := []) [] sl25 (by decide) (by kernel_rfl) rfl)) rfl ?_
    rintro _ _ ⟨b17, rfl, rfl⟩
    refine ops_ro' rfl (ro_move rfl) rfl ?_
    refine ops_ro' rfl (ro_move rfl) rfl ?_
    refine ops_ro' rfl (ro_slice (l := i) (h := l.length) sl25 rfl (bnd_of rfl rfl) rfl (by omega) hc) rfl ?_
    refine ops_eff' rfl (eff_appendLit (src := resl bb o c 1 i l.length) (m := l.length - i) (news := ((cel l).drop (i * 1)).take ((l.length - i) * 1)) 0 sl25 (.inl ⟨_, Try.underlying25⟩) rfl rfl rfl rfl (Src.of_vw (Vw.pick 0 rfl (Vw.resl (vwRdn hV) (by omega) (Nat.le_refl _) hc (by simp [cel]))) (by simp [cel]) (fun v hv => cel_one l v (List.mem_of_mem_drop (List.mem_of_mem_take hv)))) (by omega) (by simp only [maxLen]; omega)) rfl ?_
    rintro _ _ ⟨b', c', rfl, rfl⟩
    refine ops_ro' rfl (ro_assign rfl) rfl ?_
    refine ops_nil ?_
    repeat (first | refine InBlock_normal ?_ | refine NoGoto_normal ?_ | refine Jump_normal ?_)
    refine Then_normal ?_
    refine wp_ret' ?_
    repeat (first | refine Then_ret ?_ | refine InBlock_ret ?_ | refine NoGoto_ret ?_ | refine Jump_ret ?_)
    refine done_ret (res1 rfl rfl) ?_
    have e : bare l = l.drop i := HB
    have e2 : ((cel l).drop (i * 1)).take ((l.length - i) * 1) = cel (l.drop i) := by
      rw [Nat.mul_one, Nat.mul_one]
      exact (List.take_of_length_le (by simp [cel])).trans (by simp [cel])
    refine ⟨_, ⟨some ⟨b', 0, none⟩, c', ?_, ?_⟩, rfl⟩
    · rw [e]; simp
    · rw [e2, e]; simp
theorem qbare_nil (V : HProp) : Tri Try.prog 80 [.slice none 0 0] [V] (fun v H' => ∃ A, Rowo v [] A ∧ H' = [A, V]) := by
  refine tri_of_wp Try.func80 rfl Try.ntmps80 (by simp) ?_
  refine wp_seq' ?_
  refine wp_region' ?_
  refine ops_ro' rfl (ro_assign rfl) rfl ?_
  refine ops_nil ?_
  repeat (first | refine InBlock_normal ?_ | refine NoGoto_normal ?_ | refine Jump_normal ?_)
  refine Then_normal ?_
  refine wp_seq' ?_
  refine wp_region' ?_
  refine ops_ro' rfl (ro_assign rfl) rfl ?_
  refine ops_nil ?_
  repeat (first | refine InBlock_normal ?_ | refine NoGoto_normal ?_ | refine Jump_normal ?_)
  refine Then_normal ?_
  refine wp_seq' ?_
  refine wp_block' ?_
  refine wp_loop' (fun m Γ H => Has Γ [(0, .slice none 0 0), (3, .int .i64 0)] ∧ H = [V]) (m := 0) ⟨Has.cons rfl (Has.cons rfl (Has.nil _)), rfl⟩ ?_
  rintro m Γ H ⟨hΓ, rfl⟩
  refine wp_has hΓ ?_
  refine wp_seq' ?_
  refine wp_seq' ?_
  refine wp_region' ?_
  refine ops_ro' rfl (ro_move rfl) rfl ?_
  refine ops_ro' rfl (ro_move rfl) rfl ?_
  refine ops_ro' rfl (ro_sliceLen Try.underlying25 rfl) rfl ?_
  refine ops_ro' rfl (ro_lss rfl rfl (decide_eq_false (by decide))) rfl ?_
  refine ops_ro' rfl (ro_move rfl) rfl ?_
  refine ops_skip rfl rfl ?_
  refine ops_skip rfl rfl ?_
  refine ops_skip rfl rfl ?_
  refine ops_skip rfl rfl ?_
  refine ops_skip rfl rfl ?_
  refine ops_ro' rfl (ro_pick rfl rfl) rfl ?_
  refine ops_nil ?_
  repeat (first | refine InBlock_normal ?_ | refine NoGoto_normal ?_ | refine Jump_normal ?_)
  refine Then_normal ?_
  refine wp_condF rfl ?_
  refine wp_exit' ?_
  repeat (first | refine Then_exit ?_ | refine NoGoto_exit ?_ | refine Jump_exit ?_ | refine InBlock_here ?_ | refine InBlock_far rfl ?_)
  repeat (first | refine InBlock_normal ?_ | refine NoGoto_normal ?_ | refine Jump_normal ?_)
  refine Then_normal ?_
  refine wp_seq' ?_
  refine wp_region' ?_
  refine ops_eff' rfl (eff_buildSlice rfl (sbld (cs := []) [] sl25 (by decide) (by kernel_rfl) rfl)) rfl ?_
  rintro _ _ ⟨b17, rfl, rfl⟩
  refine ops_ro' rfl (ro_move rfl) rfl ?_
  refine ops_ro' rfl (ro_move rfl) rfl ?_
  refine ops_ro' rfl (ro_sliceNil sl25 rfl (bnd_of rfl rfl) rfl) rfl ?_
  refine ops_eff' rfl (eff_appendLit (src := .slice none 0 0) (m := 0) (news := []) 0 sl25 (.inl ⟨_, Try.underlying25⟩) rfl rfl rfl rfl (Src.of_vw (Vw.nil _) rfl (by simp)) (by omega) (by simp only [maxLen]; omega)) rfl ?_
  rintro _ _ ⟨b', c', rfl, rfl⟩
  refine ops_ro' rfl (ro_assign rfl) rfl ?_
  refine ops_nil ?_
  repeat (first | refine InBlock_normal ?_ | refine NoGoto_normal ?_ | refine Jump_normal ?_)
  refine Then_normal ?_
  refine wp_ret' ?_
  repeat (first | refine Then_ret ?_ | refine InBlock_ret ?_ | refine NoGoto_ret ?_ | refine Jump_ret ?_)
  refine done_ret (res1 rfl rfl) ?_
  exact ⟨_, ⟨some ⟨b', 0, none⟩, c', rfl, rfl⟩, rfl⟩
theorem qbare_spec (V : HProp) (p : Option Addr) (c : Nat) (l : List UInt8) (hV : Vw V (.slice p l.length c) l.length (cel l)) (hc : l.length ≤ c) (hl : l.length ≤ 140737488354000) : Tri Try.prog 80 [.slice p l.length c] [V] (fun v H' => ∃ A, Rowo v (bare l) A ∧ H' = [A, V]) := by
  refine tri_know (p := (p = none ∧ l.length = 0 ∧ c = 0) ∨ ∃ b o, p = some ⟨b, o, none⟩) (fun w F s => vw_form hV (by rw [St_cons, St_nil, star_comm V, emp_star] at s; exact s)) ?_
  rintro (⟨rfl, h0, rfl⟩ | ⟨b, o, rfl⟩)
  · have e : l = [] := List.eq_nil_of_length_eq_zero h0
    subst e; exact qbare_nil V
  · exact qbare_some V b o c l hV hc hl


theorem bare_head (l : List UInt8) : True := trivial
theorem top_big {d : UInt8} {y : List UInt8} (h : 128 ≤ d.toNat) : top (d :: y) = 0 :: d :: y := by rw [top, if_pos h]
theorem top_small {d : UInt8} {y : List UInt8} (h : ¬ 128 ≤ d.toNat) : top (d :: y) = d :: y := by rw [top, if_neg h]
theorem qmpint_run (V V2 : HProp) (p : Option Addr) (c : Nat) (l : List UInt8) (hV : Vw V (.slice p l.length c) l.length (cel l)) (hl : l.length ≤ 35184372088832) (p2 : Option Addr) (c2 : Nat) (x : List UInt8) (hV2 : Vw V2 (.slice p2 x.length c2) x.length (cel x)) (hc2 : x.length ≤ c2) (hx : x.length ≤ 35184372088000) :
    Tri Try.prog 62 [.slice p l.length c, .slice p2 x.length c2] [V, V2] (fun v H' => ∃ A, Rowo v (l ++ mp x) A ∧ ∃ R, H' = A :: V :: R ∧ V2 ∈ R) := by
  refine tri_of_wp Try.func62 rfl Try.ntmps62 (by simp) ?_
  refine wp_seq' ?_
  refine wp_region' ?_
  refine ops_ro' rfl (ro_assign rfl) rfl ?_
  refine ops_nil ?_
  repeat (first | refine InBlock_normal ?_ | refine NoGoto_normal ?_ | refine Jump_normal ?_)
  refine Then_normal ?_
  refine wp_seq' ?_
  refine wp_region' ?_
  refine ops_ro' rfl (ro_move rfl) rfl ?_
  refine ops_eff' rfl (eff_call Try.call80 rfl rfl (Split.cons 1 rfl (Split.nil _)) (qbare_spec V2 p2 c2 x hV2 hc2 (by omega))) rfl ?_
  rintro _ H' ⟨_, ⟨_, ⟨p3, c3, rfl, rfl⟩, rfl⟩, hH⟩
  simp only [List.cons_append, List.nil_append, List.eraseIdx_cons_zero, List.eraseIdx_cons_succ, List.set_cons_zero, List.set_cons_succ] at hH
  subst hH
  have hble : (bare x).length ≤ x.length := (List.dropWhile_sublist _).length_le
  have hno := bare_head x
  have hmp : mp x = be (top (bare x)).length 4 ++ top (bare x) := rfl
  generalize bare x = y at *
  refine ops_ro' rfl (ro_assign rfl) rfl ?_
  refine ops_nil ?_
  repeat (first | refine InBlock_normal ?_ | refine NoGoto_normal ?_ | refine Jump_normal ?_)
  refine Then_normal ?_
  refine wp_seq' ?_
  refine wp_seq' ?_
  rcases y with _ | ⟨d, y2⟩
  · refine wp_region' ?_
    refine ops_ro' rfl (ro_move rfl) rfl ?_
    refine ops_ro' rfl (ro_sliceLen Try.underlying25 rfl) rfl ?_
    refine ops_ro' rfl (ro_gtr rfl rfl (decide_eq_false (by simp))) rfl ?_
    refine ops_ro' rfl (ro_move rfl) rfl ?_
    refine ops_skip rfl rfl ?_
    refine ops_skip rfl rfl ?_
    refine ops_skip rfl rfl ?_
    refine ops_skip rfl rfl ?_
    refine ops_ro' rfl (ro_pick rfl rfl) rfl ?_
    refine ops_nil ?_
    repeat (first | refine InBlock_normal ?_ | refine NoGoto_normal ?_ | refine Jump_normal ?_)
    refine Then_normal ?_
    refine wp_condF rfl ?_
    refine wp_skip' ?_
    repeat (first | refine InBlock_normal ?_ | refine NoGoto_normal ?_ | refine Jump_normal ?_)
    refine Then_normal ?_
    refine wp_seq' ?_
    refine wp_region' ?_
    refine ops_ro' rfl (ro_move rfl) rfl ?_
    refine ops_ro' rfl (ro_move rfl) rfl ?_
    refine ops_ro' rfl (ro_toStr Try.underlying25 Try.underlying5 Try.underlying9 rfl (by first | exact Vw.pick 0 rfl Vw.row | exact Vw.pick 1 rfl Vw.row | exact Vw.pick 2 rfl Vw.row | exact Vw.pick 3 rfl Vw.row | exact Vw.pick 4 rfl Vw.row | exact Vw.pick 5 rfl Vw.row | exact Vw.pick 6 rfl Vw.row | exact Vw.pick 7 rfl Vw.row) rfl) rfl ?_
    refine ops_eff' rfl (eff_call Try.call61 rfl rfl (Split.cons 2 rfl (Split.nil _)) (qtext_spec V p c l hV (by omega) (str []) (by decide) (by omega))) rfl ?_
    rintro _ H' ⟨_, ⟨_, ⟨p5, c5, rfl, rfl⟩, rfl⟩, hH⟩
    simp only [List.cons_append, List.nil_append, List.eraseIdx_cons_zero, List.eraseIdx_cons_succ, List.set_cons_zero, List.set_cons_succ] at hH
    subst hH
    refine ops_ro' rfl (ro_assign rfl) rfl ?_
    refine ops_nil ?_
    repeat (first | refine InBlock_normal ?_ | refine NoGoto_normal ?_ | refine Jump_normal ?_)
    refine Then_normal ?_
    refine wp_ret' ?_
    repeat (first | refine Then_ret ?_ | refine InBlock_ret ?_ | refine NoGoto_ret ?_ | refine Jump_ret ?_)
    refine done_ret (res1 rfl rfl) ?_
    rw [hmp]; exact ⟨_, ⟨p5, c5, rfl, rfl⟩, _, rfl, by simp⟩
  · refine wp_know (fun w F s => (row_shape 0 rfl s).2) ?_
    rintro (⟨h1, h2, -⟩ | ⟨bb, cap, h1, -, -⟩)
    · simp at h2
    obtain rfl : p3 = some ⟨bb, 0, none⟩ := by injection h1
    refine wp_region' ?_
    refine ops_ro' rfl (ro_move rfl) rfl ?_
    refine ops_ro' rfl (ro_sliceLen Try.underlying25 rfl) rfl ?_
    refine ops_ro' rfl (ro_gtr rfl rfl (decide_eq_true (by simp))) rfl ?_
    refine ops_ro' rfl (ro_move rfl) rfl ?_
    refine ops_ro' rfl (ro_move rfl) rfl ?_
    refine ops_ro' rfl (ro_indexSlice sl25 rfl rfl rfl (by simp)) rfl ?_
    refine ops_ro' rfl (ro_load sc5 rfl (Rd.pick 0 rfl (Rd.row rfl))) rfl ?_
    refine ops_ro' rfl (ro_geq rfl rfl rfl) rfl ?_
    refine ops_ro' rfl (ro_pick rfl rfl) rfl ?_
    refine ops_nil ?_
    repeat (first | refine InBlock_normal ?_ | refine NoGoto_normal ?_ | refine Jump_normal ?_)
    refine Then_normal ?_
    refine wp_cond' rfl (fun hc0 => ?_) (fun hc0 => ?_)
    · try replace hc0 := of_decide_eq_true hc0
      refine wp_region' ?_
      refine ops_eff' rfl (eff_buildSlice rfl (sbld (cs := cel [0]) [.int .u8 0] sl25 (by decide) (by kernel_rfl) rfl)) rfl ?_
      rintro _ _ ⟨b17, rfl, rfl⟩
      refine ops_ro' rfl (ro_move rfl) rfl ?_
      refine ops_eff' rfl (eff_appendLit (k := 1) (cs := cel [0]) (src := .slice (some ⟨bb, 0, none⟩) (d :: y2).length c3) (m := (d :: y2).length) (news := cel (d :: y2)) 0 sl25 (.inl ⟨_, Try.underlying25⟩) rfl rfl rfl rfl (Src.of_vw (Vw.pick 0 rfl Vw.row) (by simp [cel_length]) (cel_one _)) (by simp only [List.length_cons] at hble ⊢; omega) (by simp only [maxLen, List.length_cons] at hble ⊢; omega)) rfl ?_
      rintro _ _ ⟨b', c', rfl, rfl⟩
      refine ops_ro' rfl (ro_assign rfl) rfl ?_
      refine ops_nil ?_
      repeat (first | refine InBlock_normal ?_ | refine NoGoto_normal ?_ | refine Jump_normal ?_)
      refine Then_normal ?_
      refine wp_seq' ?_
      refine wp_region' ?_
      refine ops_ro' rfl (ro_move rfl) rfl ?_
      refine ops_ro' rfl (ro_move rfl) rfl ?_
      refine ops_ro' rfl (ro_toStr Try.underlying25 Try.underlying5 Try.underlying9 rfl (by first | exact Vw.pick 0 rfl (Vw.row (xs := cel (d :: y2))) | exact Vw.pick 0 rfl (Vw.row (xs := cel (0 :: d :: y2)))) (by simp <;> omega)) rfl ?_
      refine ops_eff' rfl (eff_call Try.call61 rfl rfl (by first | exact Split.cons (A := V) 3 rfl (Split.nil _) | exact Split.cons (A := V) 2 rfl (Split.nil _)) (qtext_spec V p c l hV (by omega) _ (by rw [str_size]; simp only [List.length_cons] at hble ⊢; omega) (by omega))) rfl ?_
      rintro _ H' ⟨_, ⟨_, ⟨p5, c5, rfl, rfl⟩, rfl⟩, hH⟩
      simp only [List.cons_append, List.nil_append, List.eraseIdx_cons_zero, List.eraseIdx_cons_succ, List.set_cons_zero, List.set_cons_succ] at hH
      subst hH
      refine ops_ro' rfl (ro_assign rfl) rfl ?_
      refine ops_nil ?_
      repeat (first | refine InBlock_normal ?_ | refine NoGoto_normal ?_ | refine Jump_normal ?_)
      refine Then_normal ?_
      refine wp_ret' ?_
      repeat (first | refine Then_ret ?_ | refine InBlock_ret ?_ | refine NoGoto_ret ?_ | refine Jump_ret ?_)
      refine done_ret (res1 rfl rfl) ?_
      rw [hmp, top_big (by have h : (128 : Int) ≤ ((d.toNat : Nat) : Int) := hc0; omega)]; exact ⟨_, ⟨p5, c5, rfl, rfl⟩, _, rfl, by simp⟩
    · try replace hc0 := of_decide_eq_false hc0
      refine wp_skip' ?_
      repeat (first | refine InBlock_normal ?_ | refine NoGoto_normal ?_ | refine Jump_normal ?_)
      refine Then_normal ?_
      refine wp_seq' ?_
      refine wp_region' ?_
      refine ops_ro' rfl (ro_move rfl) rfl ?_
      refine ops_ro' rfl (ro_move rfl) rfl ?_
      refine ops_ro' rfl (ro_toStr Try.underlying25 Try.underlying5 Try.underlying9 rfl (by first | exact Vw.pick 0 rfl (Vw.row (xs := cel (d :: y2))) | exact Vw.pick 0 rfl (Vw.row (xs := cel (0 :: d :: y2)))) (by simp <;> omega)) rfl ?_
      refine ops_eff' rfl (eff_call Try.call61 rfl rfl (by first | exact Split.cons (A := V) 3 rfl (Split.nil _) | exact Split.cons (A := V) 2 rfl (Split.nil _)) (qtext_spec V p c l hV (by omega) _ (by rw [str_size]; simp only [List.length_cons] at hble ⊢; omega) (by omega))) rfl ?_
      rintro _ H' ⟨_, ⟨_, ⟨p5, c5, rfl, rfl⟩, rfl⟩, hH⟩
      simp only [List.cons_append, List.nil_append, List.eraseIdx_cons_zero, List.eraseIdx_cons_succ, List.set_cons_zero, List.set_cons_succ] at hH
      subst hH
      refine ops_ro' rfl (ro_assign rfl) rfl ?_
      refine ops_nil ?_
      repeat (first | refine InBlock_normal ?_ | refine NoGoto_normal ?_ | refine Jump_normal ?_)
      refine Then_normal ?_
      refine wp_ret' ?_
      repeat (first | refine Then_ret ?_ | refine InBlock_ret ?_ | refine NoGoto_ret ?_ | refine Jump_ret ?_)
      refine done_ret (res1 rfl rfl) ?_
      rw [hmp, top_small (by have h : ¬ (128 : Int) ≤ ((d.toNat : Nat) : Int) := hc0; omega)]; exact ⟨_, ⟨p5, c5, rfl, rfl⟩, _, rfl, by simp⟩
theorem St_three {A B C : HProp} {R : List HProp} (h : C ∈ R) {w : World} {F : HProp} (s : sat w (star (St (A :: B :: R)) F)) : sat w (star (St [A, B, C]) F) := by
  obtain ⟨i, hi⟩ := List.mem_iff_getElem?.1 h
  have e : St (A :: B :: R) = star (St [A, B, C]) (St (R.eraseIdx i)) := by
    simp only [St_cons, St_nil, St_pick hi, star_emp, emp_star, star_assoc]
  rw [e, star_assoc, star_left_comm] at s
  exact sat_star_right s
theorem qmpint_spec (V V2 : HProp) (p : Option Addr) (c : Nat) (l : List UInt8) (hV : Vw V (.slice p l.length c) l.length (cel l)) (hl : l.length ≤ 35184372088832) (p2 : Option Addr) (n2 c2 : Nat) (x : List UInt8) (hn : x.length = n2) (hV2 : Vw V2 (.slice p2 n2 c2) n2 (cel x)) (hc2 : n2 ≤ c2) (hx : x.length ≤ 35184372088000) :
    Tri Try.prog 62 [.slice p l.length c, .slice p2 n2 c2] [V, V2] (fun v H' => ∃ A, Rowo v (l ++ mp x) A ∧ H' = [A, V, V2]) := by
  subst hn
  exact tri_weak (qmpint_run V V2 p c l hV hl p2 c2 x hV2 hc2 hx) fun v H ⟨A, h1, R, h2, h3⟩ => ⟨_, ⟨A, h1, rfl⟩, fun w F s => by subst h2; exact St_three h3 s⟩

end Go.Proofs.Ytbiohhfibkolgaa
