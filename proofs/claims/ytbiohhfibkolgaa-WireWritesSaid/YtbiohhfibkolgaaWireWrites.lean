/-
  The walk of WireWrites.
-/
import Derived.Test.YtbiohhfibkolgaaPart
namespace Go.Proofs.Ytbiohhfibkolgaa
open Go.Sx
set_option linter.unusedVariables false
set_option linter.unusedSimpArgs false
set_option maxRecDepth 100000

structure Pt where
  k : Int
  n : Nat
  s : ByteArray
  q : Option Addr
  cq : Nat
  xs : List (List UInt8)
def Pt.cs (x : Pt) : List Value := [Value.int .i64 x.k, .int .u64 (x.n : Nat), .string x.s, .slice x.q x.xs.length x.cq]
def Pt.Ok (V : HProp) (x : Pt) : Prop := x.n < 18446744073709551616 ∧ (x.xs.length ≠ 0 → Vw V (.slice x.q x.xs.length x.cq) x.xs.length (x.xs.map fun y => Value.string (str y)))
theorem pts_get : ∀ (ps : List Pt) (i j : Nat) (u : Value) (hi : i < ps.length), (ps[i].cs)[j]? = some u → (ps.flatMap Pt.cs)[i * 4 + j]? = some u
  | x :: r, 0, j, u, hi, h => by
    have h' : x.cs[j]? = some u := h
    rw [List.flatMap_cons, Nat.zero_mul, Nat.zero_add, List.getElem?_append_left (List.getElem?_eq_some_iff.1 h').1]; exact h'
  | x :: r, i + 1, j, u, hi, h => by
    have h1 := pts_get r i j u (by simpa using hi) h
    have e : x.cs.length = 4 := rfl
    rw [List.flatMap_cons, List.getElem?_append_right (by omega), e, show (i + 1) * 4 + j - 4 = i * 4 + j by omega]; exact h1
theorem pt_rdn {V : HProp} {bb o : Nat} {ps : List Pt} {i : Nat} (h : RdN V bb o (ps.flatMap Pt.cs)) (hi : i < ps.length) : RdN V bb (o + i * 4) ps[i].cs := fun j u hj => by
  have h1 := h (i * 4 + j) u (pts_get ps i j u hi hj)
  rwa [← Nat.add_assoc] at h1
theorem few_len (xs : List (List UInt8)) : (few xs 8 66).length ≤ 8 := by simp [few]; omega
theorem few_66 (xs : List (List UInt8)) : ∀ x ∈ few xs 8 66, x.length ≤ 66 := fun x hx => by
  obtain ⟨y, _, rfl⟩ := List.mem_map.1 hx
  have := hd_size (str y) 66; simpa using this
theorem few_each (xs : List (List UInt8)) : ∀ x ∈ few xs 8 66, x.length ≤ 35184372088000 := fun x hx => by have := few_66 xs x hx; omega
theorem tail_len (zs : List (List UInt8)) (h : ∀ z ∈ zs, z.length ≤ 66) : (Lib.joinTail [44] zs).length ≤ 67 * zs.length := by
  induction zs with
  | nil => simp [Lib.joinTail]
  | cons z r ih =>
    have h1 := ih fun y hy => h y (.tail _ hy)
    have h2 := h z (.head _)
    simp only [Lib.joinTail, List.map_cons, List.flatten_cons, List.length_append, List.length_cons, List.length_nil] at h1 ⊢
    omega
theorem join_len (zs : List (List UInt8)) (h : ∀ z ∈ zs, z.length ≤ 66) : (joined zs [44]).length ≤ 67 * zs.length := by
  cases zs with
  | nil => simp [joined, Lib.join_nil]
  | cons z r =>
    have h1 := tail_len r fun y hy => h y (.tail _ hy)
    have h2 := h z (.head _)
    rw [joined, Lib.join_cons, List.length_append, List.length_cons]; omega
theorem few_join (xs : List (List UInt8)) (i : Nat) : (joined ((few xs 8 66).take i) [44]).length ≤ 700 := by
  have h1 := join_len ((few xs 8 66).take i) fun z hz => few_66 xs z (List.mem_of_mem_take hz)
  have h2 := few_len xs
  have h3 : ((few xs 8 66).take i).length ≤ (few xs 8 66).length := by simp; omega
  omega
theorem short_spec (V : HProp) (q : Option Addr) (cq : Nat) (xs : List (List UInt8)) (hV : xs.length ≠ 0 → Vw V (.slice q xs.length cq) xs.length (xs.map fun x => Value.string (str x))) (k : Int) (n : Nat) (s : ByteArray) :
    Tri Try.prog 31 [.agg [Value.int .i64 k, .int .u64 (n : Nat), .string s, .slice q xs.length cq].toArray] [V] (fun v H' => ∃ A sl, Rows' sl (few xs 8 66) A ∧ v = .agg [Value.int .i64 k, .int .u64 (n : Nat), .string (hd s 200), sl].toArray ∧ H' = [A, V]) :=
  tri_weak (short_run V q cq xs hV k n s) fun v H ⟨A, sl, h1, h2, R, h3, h4⟩ => ⟨_, ⟨A, sl, h1, h2, rfl⟩, fun w F s => by
    subst h3
    obtain ⟨i, hi⟩ := List.mem_iff_getElem?.1 h4
    have e : St (A :: R) = star (St [A, V]) (St (R.eraseIdx i)) := by
      simp only [St_cons, St_nil, St_pick hi, star_emp, emp_star, star_assoc]
    rw [e, star_assoc, star_left_comm] at s
    exact sat_star_right s⟩
theorem wireWrites_run (V : HProp) (q : Option Addr) (cq : Nat) (ps : List Pt) (hV : Vw V (.slice q ps.length cq) ps.length (ps.flatMap Pt.cs)) (hps : ∀ x ∈ ps, x.Ok V) :
    Tri Try.prog 6 [.slice q ps.length cq] [V] (fun v H' => v = .bool true ∧ V ∈ H') := by
  refine tri_of_wp Try.func6 rfl Try.ntmps6 (by simp) ?_
  refine wp_seq' ?_
  refine wp_region' ?_
  refine ops_ro' rfl (ro_assign rfl) rfl ?_
  refine ops_nil ?_
  repeat (first | refine InBlock_normal ?_ | refine NoGoto_normal ?_ | refine Jump_normal ?_)
  refine Then_normal ?_
  refine wp_seq' ?_
  refine wp_region' ?_
  refine ops_eff' rfl (eff_call Try.call22 rfl rfl (Split.nil _) (newWriter_spec)) rfl ?_
  rintro _ H' ⟨_, ⟨pw, rfl, rfl⟩, hH⟩
  simp only [List.cons_append, List.nil_append, List.eraseIdx_cons_zero, List.eraseIdx_cons_succ, List.set_cons_zero, List.set_cons_succ] at hH
  subst hH
  refine ops_ro' rfl (ro_assign rfl) rfl ?_
  refine ops_nil ?_
  repeat (first | refine InBlock_normal ?_ | refine NoGoto_normal ?_ | refine Jump_normal ?_)
  refine Then_normal ?_
  refine wp_seq' ?_
  refine wp_seq' ?_
  refine wp_region' ?_
  refine ops_ro' rfl (ro_move rfl) rfl ?_
  refine ops_ro' rfl (ro_ptrEqlNil Try.underlying49 rfl rfl rfl) rfl ?_
  refine ops_nil ?_
  repeat (first | refine InBlock_normal ?_ | refine NoGoto_normal ?_ | refine Jump_normal ?_)
  refine Then_normal ?_
  refine wp_condF rfl ?_
  refine wp_skip' ?_
  repeat (first | refine InBlock_normal ?_ | refine NoGoto_normal ?_ | refine Jump_normal ?_)
  refine Then_normal ?_
  refine wp_seq' ?_
  refine wp_heap (fun w F s => nil_row 5 1 w F s) ?_
  refine wp_region' ?_
  refine ops_ro' rfl (ro_assign rfl) rfl ?_
  refine ops_nil ?_
  repeat (first | refine InBlock_normal ?_ | refine NoGoto_normal ?_ | refine Jump_normal ?_)
  refine Then_normal ?_
  refine wp_seq' ?_
  refine wp_seq' ?_
  refine wp_region' ?_
  refine ops_ro' rfl (ro_assign rfl) rfl ?_
  refine ops_nil ?_
  repeat (first | refine InBlock_normal ?_ | refine NoGoto_normal ?_ | refine Jump_normal ?_)
  refine Then_normal ?_
  refine wp_block' ?_
  refine wp_loop' (fun m Γ H => ∃ i p' c' p c acc, i + m = ps.length ∧ acc.length ≤ 1000 * i ∧ i ≤ 30 ∧ Has Γ [(0, .slice q ps.length cq), (3, .pointer (some ⟨pw, 0, none⟩)), (4, .slice p acc.length c), (5, .int .i64 (i : Nat))] ∧ H = row 5 1 (.slice p acc.length c) acc.length (cel acc) :: wr pw p' c' acc ++ [V]) (m := ps.length) ⟨0, none, 0, none, 0, [], by omega, by simp, by omega, (Has.cons rfl (Has.cons rfl (Has.cons rfl (Has.cons rfl (Has.nil _))))), rfl⟩ ?_
  rintro m Γ H ⟨i, p', c', p, c, acc, him, hacc, h30, hΓ, rfl⟩
  refine wp_has hΓ ?_
  refine wp_seq' ?_
  refine wp_seq' ?_
  rcases Nat.lt_or_ge i ps.length with hi | hi
  · refine wp_region' ?_
    refine ops_ro' rfl (ro_move rfl) rfl ?_
    refine ops_ro' rfl (ro_move rfl) rfl ?_
    refine ops_ro' rfl (ro_sliceLen Try.underlying58 rfl) rfl ?_
    refine ops_ro' rfl (ro_lss rfl rfl (decide_eq_true (by omega))) rfl ?_
    refine ops_ro' rfl (ro_move rfl) rfl ?_
    refine ops_ro' rfl (ro_move rfl) rfl ?_
    refine ops_ro' rfl (ro_lss rfl rfl rfl) rfl ?_
    refine ops_ro' rfl (ro_pick rfl rfl) rfl ?_
    refine ops_nil ?_
    repeat (first | refine InBlock_normal ?_ | refine NoGoto_normal ?_ | refine Jump_normal ?_)
    refine Then_normal ?_
    refine wp_cond' rfl (fun hc1 => ?_) (fun hc1 => ?_)
    · try replace hc1 := of_decide_eq_true hc1
      have hok := hps _ (List.getElem_mem hi)
      refine wp_know (fun w F s => vwPtr (Vw.pick (H := [_, _, _, V]) 3 rfl hV) s (by omega)) ?_
      rintro ⟨bb, o, rfl⟩
      have hfl := few_len ps[i].xs
      have hfx := few_each ps[i].xs
      have hfj := few_join ps[i].xs
      refine wp_skip' ?_
      repeat (first | refine InBlock_normal ?_ | refine NoGoto_normal ?_ | refine Jump_normal ?_)
      refine Then_normal ?_
      refine wp_seq' ?_
      refine wp_block' ?_
      refine wp_seq' ?_
      refine wp_region' ?_
      refine ops_ro' rfl (ro_move rfl) rfl ?_
      refine ops_ro' rfl (ro_move rfl) rfl ?_
      refine ops_ro' rfl (ro_move rfl) rfl ?_
      refine ops_ro' rfl (ro_move rfl) rfl ?_
      refine ops_ro' rfl (ro_indexSlice sl58 rfl rfl rfl (by omega)) rfl ?_
      refine ops_ro' rfl (ro_loadA ag62 rfl (RdN.of_pick 3 rfl (pt_rdn (vwRdn hV) hi)) rfl) rfl ?_
      refine ops_eff' rfl (eff_call Try.call31 rfl rfl (Split.cons 3 rfl (Split.nil _)) (short_spec V _ _ ps[i].xs hok.2 ps[i].k ps[i].n ps[i].s)) rfl ?_
      rintro _ H' ⟨_, ⟨A, sl, ⟨p3, c3, rfl, rfl⟩, rfl, rfl⟩, hH⟩
      simp only [List.cons_append, List.nil_append, List.eraseIdx_cons_zero, List.eraseIdx_cons_succ, List.set_cons_zero, List.set_cons_succ] at hH
      subst hH
      refine ops_know (fun w F s => row_cap3 0 rfl s) ?_
      intro hc3
      refine ops_eff' rfl (eff_call Try.call30 rfl rfl (Split.cons 3 rfl (Split.cons 3 rfl (Split.cons 2 rfl (Split.cons 0 rfl (Split.nil _))))) (put_both _ _ pw p' c' p c acc Vw.row (by omega) ps[i].k ps[i].n hok.1 (hd ps[i].s 200) (hd_size _ _) p3 c3 (few ps[i].xs 8 66) Vw.row hc3 hfl hfx hfj)) rfl ?_
      rintro _ H' ⟨_, ⟨e, A, p1, c1, he, ⟨p2, c2, rfl, rfl⟩, rfl⟩, hH⟩
      simp only [List.cons_append, List.nil_append, List.eraseIdx_cons_zero, List.eraseIdx_cons_succ, List.set_cons_zero, List.set_cons_succ] at hH
      subst hH
      refine ops_drop 3 ?_
      refine ops_front 2 rfl ?_
      have hal : (acc ++ e).length ≤ 1000 * (i + 1) := by rw [List.length_append]; omega
      refine ops_ro' rfl (ro_assign rfl) rfl ?_
      refine ops_nil ?_
      repeat (first | refine InBlock_normal ?_ | refine NoGoto_normal ?_ | refine Jump_normal ?_)
      refine Then_normal ?_
      refine wp_seq' ?_
      refine wp_draw 6 (by kernel_rfl) (Split.cons 0 rfl (Split.nil _)) ?_
      refine any_ro' (i := 0) (by kernel_rfl) rfl rfl (ro_move rfl) rfl (fun _ _ _ h => h) ?_
      refine any_ro' (i := 3) (by kernel_rfl) rfl rfl (ro_move rfl) rfl (fun _ _ _ h => h) ?_
      refine any_ro' (i := 4) (by kernel_rfl) rfl rfl (ro_toStr Try.underlying25 Try.underlying5 Try.underlying9 rfl (by first | exact Vw.pick 0 rfl Vw.row | exact Vw.pick 1 rfl Vw.row | exact Vw.pick 2 rfl Vw.row | exact Vw.pick 3 rfl Vw.row | exact Vw.pick 4 rfl Vw.row | exact Vw.pick 5 rfl Vw.row | exact Vw.pick 6 rfl Vw.row | exact Vw.pick 7 rfl Vw.row) rfl) rfl (fun _ _ _ h => h) ?_
      refine any_eff' (i := 1) (by kernel_rfl) rfl rfl (eff_call Try.call24 rfl rfl (Split.cons 0 rfl (Split.cons 0 rfl (Split.nil _))) (done_spec _ _ _ (acc ++ e) (by omega))) rfl ?_
      rintro _ H' ⟨_, ⟨p'', c'', rfl, hal, rfl⟩, hH⟩
      simp only [List.cons_append, List.nil_append, List.eraseIdx_cons_zero, List.eraseIdx_cons_succ, List.set_cons_zero, List.set_cons_succ] at hH
      subst hH
      refine any_lock 0 rfl ?_
      refine any_ro' (i := 2) (by kernel_rfl) rfl rfl (ro_toStr Try.underlying25 Try.underlying5 Try.underlying9 rfl (by first | exact Vw.pick 0 rfl Vw.row | exact Vw.pick 1 rfl Vw.row | exact Vw.pick 2 rfl Vw.row | exact Vw.pick 3 rfl Vw.row | exact Vw.pick 4 rfl Vw.row | exact Vw.pick 5 rfl Vw.row | exact Vw.pick 6 rfl Vw.row | exact Vw.pick 7 rfl Vw.row) rfl) rfl (fun _ _ _ h => h) ?_
      refine any_ro' (i := 5) (by kernel_rfl) rfl rfl (ro_strNeq rfl rfl (decide_eq_false (by simp))) rfl (fun _ _ _ h => h) ?_
      refine any_done (by kernel_rfl) ?_
      repeat (first | refine InBlock_normal ?_ | refine NoGoto_normal ?_ | refine Jump_normal ?_)
      refine Then_normal ?_
      refine wp_condF rfl ?_
      refine wp_skip' ?_
      repeat (first | refine InBlock_normal ?_ | refine NoGoto_normal ?_ | refine Jump_normal ?_)
      refine Then_normal ?_
      refine wp_drop 0 ?_
      refine wp_region' ?_
      refine ops_ro' rfl (ro_move rfl) rfl ?_
      refine ops_ro' rfl (ro_add rfl rfl (show IntKind.i64.wrap ((i : Int) + 1) = ((i + 1 : Nat) : Int) from by rw [wrap_i64_in (by omega) (by omega)]; omega)) rfl ?_
      refine ops_ro' rfl (ro_assign rfl) rfl ?_
      refine ops_nil ?_
      repeat (first | refine InBlock_normal ?_ | refine NoGoto_normal ?_ | refine Jump_normal ?_)
      refine Then_normal ?_
      exact ⟨m - 1, by omega, i + 1, p1, c1, p2, c2, acc ++ e, by omega, by omega, by omega, (Has.cons rfl (Has.cons rfl (Has.cons rfl (Has.cons rfl (Has.nil _))))), rfl⟩
    · try replace hc1 := of_decide_eq_false hc1
      refine wp_exit' ?_
      repeat (first | refine Then_exit ?_ | refine NoGoto_exit ?_ | refine Jump_exit ?_ | refine InBlock_here ?_ | refine InBlock_far rfl ?_)
      repeat (first | refine InBlock_normal ?_ | refine NoGoto_normal ?_ | refine Jump_normal ?_)
      refine Then_normal ?_
      refine wp_seq' ?_
      refine wp_draw 9 (by kernel_rfl) (Split.cons 0 rfl (Split.nil _)) ?_
      refine any_ro' (i := 0) (by kernel_rfl) rfl rfl (ro_move rfl) rfl (fun _ _ _ h => h) ?_
      refine any_ro' (i := 3) (by kernel_rfl) rfl rfl (ro_move rfl) rfl (fun _ _ _ h => h) ?_
      refine any_ro' (i := 4) (by kernel_rfl) rfl rfl (ro_toStr Try.underlying25 Try.underlying5 Try.underlying9 rfl (by first | exact Vw.pick 0 rfl Vw.row | exact Vw.pick 1 rfl Vw.row | exact Vw.pick 2 rfl Vw.row | exact Vw.pick 3 rfl Vw.row | exact Vw.pick 4 rfl Vw.row | exact Vw.pick 5 rfl Vw.row | exact Vw.pick 6 rfl Vw.row | exact Vw.pick 7 rfl Vw.row) rfl) rfl (fun _ _ _ h => h) ?_
      refine any_eff' (i := 1) (by kernel_rfl) rfl rfl (eff_call Try.call24 rfl rfl (Split.cons 0 rfl (Split.cons 0 rfl (Split.nil _))) (done_spec _ _ _ acc (by omega))) rfl ?_
      rintro _ H' ⟨_, ⟨p'', c'', rfl, hal, rfl⟩, hH⟩
      simp only [List.cons_append, List.nil_append, List.eraseIdx_cons_zero, List.eraseIdx_cons_succ, List.set_cons_zero, List.set_cons_succ] at hH
      subst hH
      refine any_lock 0 rfl ?_
      refine any_ro' (i := 2) (by kernel_rfl) rfl rfl (ro_toStr Try.underlying25 Try.underlying5 Try.underlying9 rfl (by first | exact Vw.pick 0 rfl Vw.row | exact Vw.pick 1 rfl Vw.row | exact Vw.pick 2 rfl Vw.row | exact Vw.pick 3 rfl Vw.row | exact Vw.pick 4 rfl Vw.row | exact Vw.pick 5 rfl Vw.row | exact Vw.pick 6 rfl Vw.row | exact Vw.pick 7 rfl Vw.row) rfl) rfl (fun _ _ _ h => h) ?_
      refine any_ro' (i := 5) (by kernel_rfl) rfl rfl (ro_strEql rfl rfl (decide_eq_true rfl)) rfl (fun _ _ _ h => h) ?_
      refine any_ro' (i := 6) (by kernel_rfl) rfl rfl (ro_move rfl) rfl (fun _ _ _ h => h) ?_
      refine any_eff' (i := 7) (by kernel_rfl) rfl rfl (eff_call Try.call29 rfl rfl (Split.nil _) (known1_spec)) rfl ?_
      rintro _ H' ⟨_, ⟨rfl, rfl⟩, hH⟩
      simp only [List.cons_append, List.nil_append, List.eraseIdx_cons_zero, List.eraseIdx_cons_succ, List.set_cons_zero, List.set_cons_succ] at hH
      subst hH
      refine any_ro' (i := 8) (by kernel_rfl) rfl rfl (ro_pick rfl rfl) rfl (fun _ _ _ h => h) ?_
      refine any_unlock (m' := 10) (L' := []) (by kernel_rfl) unlock ?_
      refine any_ro' (i := 9) (by kernel_rfl) rfl rfl (ro_assign rfl) rfl (fun _ _ _ h => h) ?_
      refine any_doneH (by kernel_rfl) ?_
      repeat (first | refine InBlock_normal ?_ | refine NoGoto_normal ?_ | refine Jump_normal ?_)
      refine Then_normal ?_
      refine wp_ret' ?_
      repeat (first | refine Then_ret ?_ | refine InBlock_ret ?_ | refine NoGoto_ret ?_ | refine Jump_ret ?_)
      refine done_ret (res1 rfl rfl) ?_
      exact ⟨rfl, by simp⟩
  · refine wp_region' ?_
    refine ops_ro' rfl (ro_move rfl) rfl ?_
    refine ops_ro' rfl (ro_move rfl) rfl ?_
    refine ops_ro' rfl (ro_sliceLen Try.underlying58 rfl) rfl ?_
    refine ops_ro' rfl (ro_lss rfl rfl (decide_eq_false (by omega))) rfl ?_
    refine ops_ro' rfl (ro_move rfl) rfl ?_
    refine ops_skip rfl rfl ?_
    refine ops_skip rfl rfl ?_
    refine ops_ro' rfl (ro_pick rfl rfl) rfl ?_
    refine ops_nil ?_
    repeat (first | refine InBlock_normal ?_ | refine NoGoto_normal ?_ | refine Jump_normal ?_)
    refine Then_normal ?_
    refine wp_condF rfl ?_
    refine wp_exit' ?_
    repeat (first | refine Then_exit ?_ | refine NoGoto_exit ?_ | refine Jump_exit ?_ | refine InBlock_here ?_ | refine InBlock_far rfl ?_)
    repeat (first | refine InBlock_normal ?_ | refine NoGoto_normal ?_ | refine Jump_normal ?_)
    refine Then_normal ?_
    refine wp_seq' ?_
    refine wp_draw 9 (by kernel_rfl) (Split.cons 0 rfl (Split.nil _)) ?_
    refine any_ro' (i := 0) (by kernel_rfl) rfl rfl (ro_move rfl) rfl (fun _ _ _ h => h) ?_
    refine any_ro' (i := 3) (by kernel_rfl) rfl rfl (ro_move rfl) rfl (fun _ _ _ h => h) ?_
    refine any_ro' (i := 4) (by kernel_rfl) rfl rfl (ro_toStr Try.underlying25 Try.underlying5 Try.underlying9 rfl (by first | exact Vw.pick 0 rfl Vw.row | exact Vw.pick 1 rfl Vw.row | exact Vw.pick 2 rfl Vw.row | exact Vw.pick 3 rfl Vw.row | exact Vw.pick 4 rfl Vw.row | exact Vw.pick 5 rfl Vw.row | exact Vw.pick 6 rfl Vw.row | exact Vw.pick 7 rfl Vw.row) rfl) rfl (fun _ _ _ h => h) ?_
    refine any_eff' (i := 1) (by kernel_rfl) rfl rfl (eff_call Try.call24 rfl rfl (Split.cons 0 rfl (Split.cons 0 rfl (Split.nil _))) (done_spec _ _ _ acc (by omega))) rfl ?_
    rintro _ H' ⟨_, ⟨p'', c'', rfl, hal, rfl⟩, hH⟩
    simp only [List.cons_append, List.nil_append, List.eraseIdx_cons_zero, List.eraseIdx_cons_succ, List.set_cons_zero, List.set_cons_succ] at hH
    subst hH
    refine any_lock 0 rfl ?_
    refine any_ro' (i := 2) (by kernel_rfl) rfl rfl (ro_toStr Try.underlying25 Try.underlying5 Try.underlying9 rfl (by first | exact Vw.pick 0 rfl Vw.row | exact Vw.pick 1 rfl Vw.row | exact Vw.pick 2 rfl Vw.row | exact Vw.pick 3 rfl Vw.row | exact Vw.pick 4 rfl Vw.row | exact Vw.pick 5 rfl Vw.row | exact Vw.pick 6 rfl Vw.row | exact Vw.pick 7 rfl Vw.row) rfl) rfl (fun _ _ _ h => h) ?_
    refine any_ro' (i := 5) (by kernel_rfl) rfl rfl (ro_strEql rfl rfl (decide_eq_true rfl)) rfl (fun _ _ _ h => h) ?_
    refine any_ro' (i := 6) (by kernel_rfl) rfl rfl (ro_move rfl) rfl (fun _ _ _ h => h) ?_
    refine any_eff' (i := 7) (by kernel_rfl) rfl rfl (eff_call Try.call29 rfl rfl (Split.nil _) (known1_spec)) rfl ?_
    rintro _ H' ⟨_, ⟨rfl, rfl⟩, hH⟩
    simp only [List.cons_append, List.nil_append, List.eraseIdx_cons_zero, List.eraseIdx_cons_succ, List.set_cons_zero, List.set_cons_succ] at hH
    subst hH
    refine any_ro' (i := 8) (by kernel_rfl) rfl rfl (ro_pick rfl rfl) rfl (fun _ _ _ h => h) ?_
    refine any_unlock (m' := 10) (L' := []) (by kernel_rfl) unlock ?_
    refine any_ro' (i := 9) (by kernel_rfl) rfl rfl (ro_assign rfl) rfl (fun _ _ _ h => h) ?_
    refine any_doneH (by kernel_rfl) ?_
    repeat (first | refine InBlock_normal ?_ | refine NoGoto_normal ?_ | refine Jump_normal ?_)
    refine Then_normal ?_
    refine wp_ret' ?_
    repeat (first | refine Then_ret ?_ | refine InBlock_ret ?_ | refine NoGoto_ret ?_ | refine Jump_ret ?_)
    refine done_ret (res1 rfl rfl) ?_
    exact ⟨rfl, by simp⟩

end Go.Proofs.Ytbiohhfibkolgaa
