/-
  Texts joined by strongroomref1; short lists; short parts.
-/
import Derived.Test.YtbiohhfibkolgaaRef1M
namespace Go.Proofs.Ytbiohhfibkolgaa
open Go.Sx
set_option linter.unusedVariables false
set_option linter.unusedSimpArgs false
set_option maxRecDepth 100000

theorem txt_get {xs : List (List UInt8)} {i : Nat} (h : i < xs.length) : (xs.map fun x => Value.string (str x))[i]? = some (Value.string (str xs[i])) := by simp [h]
theorem txt_get1 {xs : List (List UInt8)} {i : Nat} (h : i < xs.length) : (xs.map fun x => Value.string (str x))[i * 1]? = some (Value.string (str xs[i])) := by rw [Nat.mul_one]; exact txt_get h
theorem jn_succ {xs : List (List UInt8)} {i : Nat} (hi : i < xs.length) (h0 : 0 < i) : joined (xs.take (i + 1)) [44] = joined (xs.take i) [44] ++ [44] ++ xs[i] := by
  obtain ⟨k, rfl⟩ : ∃ k, i = k + 1 := ⟨i - 1, by omega⟩
  match xs, hi with
  | x :: r, hi =>
    have hk0 : k < r.length := by simpa using hi
    have hk : r[k]? = some r[k] := List.getElem?_eq_getElem hk0
    unfold joined
    rw [List.take_succ_cons, List.take_succ_cons, Lib.join_cons, Lib.join_cons, Lib.joinTail_take_succ [44] r k _ hk]
    simp [List.append_assoc]
theorem jn_zero {xs : List (List UInt8)} {i : Nat} (hi : i < xs.length) (h0 : i = 0) : joined (xs.take (i + 1)) [44] = joined (xs.take i) [44] ++ xs[i] := by
  subst h0
  match xs, hi with
  | x :: r, hi => unfold joined; simp [Lib.join_one, Lib.join_nil]
theorem qjoin_spec (V : HProp) (q : Option Addr) (cq : Nat) (xs : List (List UInt8)) (hV : Vw V (.slice q xs.length cq) xs.length (xs.map fun x => Value.string (str x))) (hx : ∀ x ∈ xs, x.length ≤ 35184372088000) (hn : xs.length ≤ 140737488355328) (hj : ∀ i, (joined (xs.take i) [44]).length ≤ 35184372088000) :
    Tri Try.prog 81 [.slice q xs.length cq] [V] (fun v H' => v = .string (str (joined xs [44])) ∧ H' = [V]) := by
  refine tri_of_wp Try.func81 rfl Try.ntmps81 (by simp) ?_
  refine wp_seq' ?_
  refine wp_region' ?_
  refine ops_ro' rfl (ro_assign rfl) rfl ?_
  refine ops_nil ?_
  repeat (first | refine InBlock_normal ?_ | refine NoGoto_normal ?_ | refine Jump_normal ?_)
  refine Then_normal ?_
  refine wp_seq' ?_
  refine wp_region' ?_
  refine ops_ro' rfl (ro_assign rfl) rfl ?_
  refine ops_nil ?_
  repeat (first | refine InBlock_normal ?_ | refine NoGoto_normal ?_ | refine Jump_normal ?_)
  refine Then_normal ?_
  refine wp_seq' ?_
  refine wp_seq' ?_
  refine wp_region' ?_
  refine ops_ro' rfl (ro_assign rfl) rfl ?_
  refine ops_nil ?_
  repeat (first | refine InBlock_normal ?_ | refine NoGoto_normal ?_ | refine Jump_normal ?_)
  refine Then_normal ?_
  refine wp_block' ?_
  refine wp_loop' (fun m Γ H => ∃ i, i + m = xs.length ∧ Has Γ [(0, .slice q xs.length cq), (3, .string (str (joined (xs.take i) [44]))), (4, .int .i64 (i : Nat))] ∧ H = [V]) (m := xs.length) ⟨0, by omega, (Has.cons rfl (Has.cons rfl (Has.cons rfl (Has.nil _)))), rfl⟩ ?_
  rintro m Γ H ⟨i, him, hΓ, rfl⟩
  refine wp_has hΓ ?_
  have hji := hj i
  refine wp_seq' ?_
  refine wp_seq' ?_
  refine wp_region' ?_
  refine ops_ro' rfl (ro_move rfl) rfl ?_
  refine ops_ro' rfl (ro_move rfl) rfl ?_
  refine ops_ro' rfl (ro_sliceLen Try.underlying60 rfl) rfl ?_
  refine ops_ro' rfl (ro_lss rfl rfl rfl) rfl ?_
  refine ops_nil ?_
  repeat (first | refine InBlock_normal ?_ | refine NoGoto_normal ?_ | refine Jump_normal ?_)
  refine Then_normal ?_
  refine wp_cond' rfl (fun hc0 => ?_) (fun hc0 => ?_)
  · try replace hc0 := of_decide_eq_true hc0
    have hi : i < xs.length := by omega
    refine wp_know (fun w F s => vwPtr (Vw.pick (H := [V]) 0 rfl hV) s (by omega)) ?_
    rintro ⟨bb, o, rfl⟩
    have hxi := hx _ (List.getElem_mem hi)
    refine wp_skip' ?_
    repeat (first | refine InBlock_normal ?_ | refine NoGoto_normal ?_ | refine Jump_normal ?_)
    refine Then_normal ?_
    refine wp_seq' ?_
    refine wp_block' ?_
    refine wp_seq' ?_
    refine wp_seq' ?_
    refine wp_region' ?_
    refine ops_ro' rfl (ro_move rfl) rfl ?_
    refine ops_ro' rfl (ro_gtr rfl rfl rfl) rfl ?_
    refine ops_nil ?_
    repeat (first | refine InBlock_normal ?_ | refine NoGoto_normal ?_ | refine Jump_normal ?_)
    refine Then_normal ?_
    refine wp_cond' rfl (fun hc1 => ?_) (fun hc1 => ?_)
    · try replace hc1 := of_decide_eq_true hc1
      refine wp_region' ?_
      refine ops_ro' rfl (ro_move rfl) rfl ?_
      refine ops_ro' rfl (ro_strAdd rfl rfl (by rw [str_size]; show _ + 1 ≤ _; omega)) rfl ?_
      refine ops_ro' rfl (ro_assign rfl) rfl ?_
      refine ops_nil ?_
      repeat (first | refine InBlock_normal ?_ | refine NoGoto_normal ?_ | refine Jump_normal ?_)
      refine Then_normal ?_
      refine wp_region' ?_
      refine ops_ro' rfl (ro_move rfl) rfl ?_
      refine ops_ro' rfl (ro_move rfl) rfl ?_
      refine ops_ro' rfl (ro_move rfl) rfl ?_
      refine ops_ro' rfl (ro_indexSlice sl60 rfl rfl rfl (by omega)) rfl ?_
      refine ops_ro' rfl (ro_load sc9 rfl (Rd.pick 0 rfl (vwRdn hV _ _ (txt_get1 hi)))) rfl ?_
      refine ops_ro' rfl (ro_strAdd rfl rfl (by first | (rw [str_size, str_size]; omega) | (show (str _ ++ str [44]).size + (str _).size ≤ _; rw [str_append, str_size, str_size, List.length_append]; simp only [List.length_cons, List.length_nil]; omega))) rfl ?_
      refine ops_ro' rfl (ro_assign rfl) rfl ?_
      refine ops_nil ?_
      repeat (first | refine InBlock_normal ?_ | refine NoGoto_normal ?_ | refine Jump_normal ?_)
      refine Then_normal ?_
      refine wp_region' ?_
      refine ops_ro' rfl (ro_move rfl) rfl ?_
      refine ops_ro' rfl (ro_add rfl rfl (show IntKind.i64.wrap ((i : Int) + 1) = ((i + 1 : Nat) : Int) from by rw [wrap_i64_in (by omega) (by omega)]; omega)) rfl ?_
      refine ops_ro' rfl (ro_assign rfl) rfl ?_
      refine ops_nil ?_
      repeat (first | refine InBlock_normal ?_ | refine NoGoto_normal ?_ | refine Jump_normal ?_)
      refine Then_normal ?_
      exact ⟨m - 1, by omega, i + 1, by omega, (Has.cons rfl (Has.cons (by rw [jn_succ hi (by omega), ← str_append, ← str_append]; rfl) (Has.cons rfl (Has.nil _)))), rfl⟩
    · try replace hc1 := of_decide_eq_false hc1
      refine wp_skip' ?_
      repeat (first | refine InBlock_normal ?_ | refine NoGoto_normal ?_ | refine Jump_normal ?_)
      refine Then_normal ?_
      refine wp_region' ?_
      refine ops_ro' rfl (ro_move rfl) rfl ?_
      refine ops_ro' rfl (ro_move rfl) rfl ?_
      refine ops_ro' rfl (ro_move rfl) rfl ?_
      refine ops_ro' rfl (ro_indexSlice sl60 rfl rfl rfl (by omega)) rfl ?_
      refine ops_ro' rfl (ro_load sc9 rfl (Rd.pick 0 rfl (vwRdn hV _ _ (txt_get1 hi)))) rfl ?_
      refine ops_ro' rfl (ro_strAdd rfl rfl (by first | (rw [str_size, str_size]; omega) | (show (str _ ++ str [44]).size + (str _).size ≤ _; rw [str_append, str_size, str_size, List.length_append]; simp only [List.length_cons, List.length_nil]; omega))) rfl ?_
      refine ops_ro' rfl (ro_assign rfl) rfl ?_
      refine ops_nil ?_
      repeat (first | refine InBlock_normal ?_ | refine NoGoto_normal ?_ | refine Jump_normal ?_)
      refine Then_normal ?_
      refine wp_region' ?_
      refine ops_ro' rfl (ro_move rfl) rfl ?_
      refine ops_ro' rfl (ro_add rfl rfl (show IntKind.i64.wrap ((i : Int) + 1) = ((i + 1 : Nat) : Int) from by rw [wrap_i64_in (by omega) (by omega)]; omega)) rfl ?_
      refine ops_ro' rfl (ro_assign rfl) rfl ?_
      refine ops_nil ?_
      repeat (first | refine InBlock_normal ?_ | refine NoGoto_normal ?_ | refine Jump_normal ?_)
      refine Then_normal ?_
      exact ⟨m - 1, by omega, i + 1, by omega, (Has.cons rfl (Has.cons (by rw [jn_zero hi (by omega), ← str_append]; rfl) (Has.cons rfl (Has.nil _)))), rfl⟩
  · try replace hc0 := of_decide_eq_false hc0
    refine wp_exit' ?_
    repeat (first | refine Then_exit ?_ | refine NoGoto_exit ?_ | refine Jump_exit ?_ | refine InBlock_here ?_ | refine InBlock_far rfl ?_)
    repeat (first | refine InBlock_normal ?_ | refine NoGoto_normal ?_ | refine Jump_normal ?_)
    refine Then_normal ?_
    refine wp_seq' ?_
    refine wp_region' ?_
    refine ops_ro' rfl (ro_move rfl) rfl ?_
    refine ops_ro' rfl (ro_assign rfl) rfl ?_
    refine ops_nil ?_
    repeat (first | refine InBlock_normal ?_ | refine NoGoto_normal ?_ | refine Jump_normal ?_)
    refine Then_normal ?_
    refine wp_ret' ?_
    repeat (first | refine Then_ret ?_ | refine InBlock_ret ?_ | refine NoGoto_ret ?_ | refine Jump_ret ?_)
    refine done_ret (res1 rfl rfl) ?_
    obtain rfl : i = xs.length := by omega
    exact ⟨by rw [List.take_length], rfl⟩
theorem qnames_spec (V V2 : HProp) (p : Option Addr) (c : Nat) (l : List UInt8) (hV : Vw V (.slice p l.length c) l.length (cel l)) (hl : l.length ≤ 35184372088832) (q : Option Addr) (cq : Nat) (xs : List (List UInt8)) (hV2 : Vw V2 (.slice q xs.length cq) xs.length (xs.map fun x => Value.string (str x))) (hx : ∀ x ∈ xs, x.length ≤ 35184372088000) (hn : xs.length ≤ 140737488355328) (hj : ∀ i, (joined (xs.take i) [44]).length ≤ 35184372088000) :
    Tri Try.prog 63 [.slice p l.length c, .slice q xs.length cq] [V, V2] (fun v H' => ∃ A, Rowo v (l ++ (be (str (joined xs [44])).size 4 ++ (str (joined xs [44])).data.toList)) A ∧ H' = [A, V, V2]) := by
  refine tri_of_wp Try.func63 rfl Try.ntmps63 (by simp) ?_
  refine wp_seq' ?_
  refine wp_region' ?_
  refine ops_ro' rfl (ro_assign rfl) rfl ?_
  refine ops_nil ?_
  repeat (first | refine InBlock_normal ?_ | refine NoGoto_normal ?_ | refine Jump_normal ?_)
  refine Then_normal ?_
  refine wp_seq' ?_
  refine wp_region' ?_
  refine ops_ro' rfl (ro_move rfl) rfl ?_
  refine ops_ro' rfl (ro_move rfl) rfl ?_
  refine ops_eff' rfl (eff_call Try.call81 rfl rfl (Split.cons 1 rfl (Split.nil _)) (qjoin_spec V2 q cq xs hV2 hx hn hj)) rfl ?_
  rintro _ H' ⟨_, ⟨rfl, rfl⟩, hH⟩
  simp only [List.cons_append, List.nil_append, List.eraseIdx_cons_zero, List.eraseIdx_cons_succ, List.set_cons_zero, List.set_cons_succ] at hH
  subst hH
  refine ops_eff' rfl (eff_call Try.call61 rfl rfl (Split.cons 1 rfl (Split.nil _)) (qtext_spec V p c l hV (by omega) (str (joined xs [44])) (by rw [str_size]; have := hj xs.length; rw [List.take_length] at this; omega) hl)) rfl ?_
  rintro _ H' ⟨_, ⟨_, ⟨p2, c2, rfl, rfl⟩, rfl⟩, hH⟩
  simp only [List.cons_append, List.nil_append, List.eraseIdx_cons_zero, List.eraseIdx_cons_succ, List.set_cons_zero, List.set_cons_succ] at hH
  subst hH
  refine ops_ro' rfl (ro_assign rfl) rfl ?_
  refine ops_nil ?_
  repeat (first | refine InBlock_normal ?_ | refine NoGoto_normal ?_ | refine Jump_normal ?_)
  refine Then_normal ?_
  refine wp_ret' ?_
  repeat (first | refine Then_ret ?_ | refine InBlock_ret ?_ | refine NoGoto_ret ?_ | refine Jump_ret ?_)
  refine done_ret (res1 rfl rfl) ?_
  exact ⟨_, ⟨p2, c2, rfl, rfl⟩, rfl⟩


/-- a few texts, none too long -/
def few (xs : List (List UInt8)) (n most : Nat) : List (List UInt8) := (xs.take n).map fun x => (hd (str x) most).data.toList
/-- a slice of ours that has these texts -/
def Rows' (v : Value) (ys : List (List UInt8)) (A : HProp) : Prop := ∃ p c, v = .slice p ys.length c ∧ A = row 9 1 (.slice p ys.length c) ys.length (ys.map fun y => Value.string (str y))
theorem few_spec (V : HProp) (q : Option Addr) (cq : Nat) (xs : List (List UInt8)) (hV : xs.length ≠ 0 → Vw V (.slice q xs.length cq) xs.length (xs.map fun x => Value.string (str x))) (n most : Nat) (h1 : n ≤ 1000) (h2 : most ≤ 1000000) :
    Tri Try.prog 65 [.slice q xs.length cq, .int .i64 n, .int .i64 most] [V] (fun v H' => ∃ A, Rows' v (few xs n most) A ∧ H' = [A, V]) := by
  refine tri_of_wp Try.func65 rfl Try.ntmps65 (by simp) ?_
  refine wp_seq' ?_
  refine wp_region' ?_
  refine ops_ro' rfl (ro_assign rfl) rfl ?_
  refine ops_nil ?_
  repeat (first | refine InBlock_normal ?_ | refine NoGoto_normal ?_ | refine Jump_normal ?_)
  refine Then_normal ?_
  refine wp_seq' ?_
  refine wp_region' ?_
  refine ops_ro' rfl (ro_assign rfl) rfl ?_
  refine ops_nil ?_
  repeat (first | refine InBlock_normal ?_ | refine NoGoto_normal ?_ | refine Jump_normal ?_)
  refine Then_normal ?_
  refine wp_seq' ?_
  refine wp_seq' ?_
  refine wp_heap (fun w F s => nil_row 9 1 w F s) ?_
  refine wp_region' ?_
  refine ops_ro' rfl (ro_assign rfl) rfl ?_
  refine ops_nil ?_
  repeat (first | refine InBlock_normal ?_ | refine NoGoto_normal ?_ | refine Jump_normal ?_)
  refine Then_normal ?_
  refine wp_block' ?_
  refine wp_loop' (fun m Γ H => ∃ i p c, i + m = xs.length ∧ i ≤ n ∧ Has Γ [(0, .slice q xs.length cq), (1, .int .i64 (n : Nat)), (2, .int .i64 (most : Nat)), (7, .slice p i c), (8, .int .i64 (i : Nat))] ∧ H = [row 9 1 (.slice p i c) i ((xs.take i).map fun x => Value.string (hd (str x) most)), V]) (m := xs.length) ⟨0, none, 0, by omega, by omega, (Has.cons rfl (Has.cons rfl (Has.cons rfl (Has.cons rfl (Has.cons rfl (Has.nil _)))))), rfl⟩ ?_
  rintro m Γ H ⟨i, p, c, him, hin, hΓ, rfl⟩
  refine wp_has hΓ ?_
  refine wp_seq' ?_
  refine wp_seq' ?_
  rcases Nat.lt_or_ge i xs.length with hi | hi
  · refine wp_region' ?_
    refine ops_ro' rfl (ro_move rfl) rfl ?_
    refine ops_ro' rfl (ro_move rfl) rfl ?_
    refine ops_ro' rfl (ro_sliceLen Try.underlying60 rfl) rfl ?_
    refine ops_ro' rfl (ro_lss rfl rfl (decide_eq_true (by omega))) rfl ?_
    refine ops_ro' rfl (ro_move rfl) rfl ?_
    refine ops_ro' rfl (ro_move rfl) rfl ?_
    refine ops_ro' rfl (ro_move rfl) rfl ?_
    refine ops_ro' rfl (ro_lss rfl rfl rfl) rfl ?_
    refine ops_ro' rfl (ro_pick rfl rfl) rfl ?_
    refine ops_nil ?_
    repeat (first | refine InBlock_normal ?_ | refine NoGoto_normal ?_ | refine Jump_normal ?_)
    refine Then_normal ?_
    refine wp_cond' rfl (fun hc0 => ?_) (fun hc0 => ?_)
    · try replace hc0 := of_decide_eq_true hc0
      refine wp_know (fun w F s => vwPtr (Vw.pick (H := [_, V]) 1 rfl (hV (by omega))) s (by omega)) ?_
      rintro ⟨bb, o, rfl⟩
      refine wp_skip' ?_
      repeat (first | refine InBlock_normal ?_ | refine NoGoto_normal ?_ | refine Jump_normal ?_)
      refine Then_normal ?_
      refine wp_seq' ?_
      refine wp_block' ?_
      refine wp_region' ?_
      refine ops_ro' rfl (ro_move rfl) rfl ?_
      refine ops_ro' rfl (ro_move rfl) rfl ?_
      refine ops_ro' rfl (ro_move rfl) rfl ?_
      refine ops_ro' rfl (ro_indexSlice sl60 rfl rfl rfl (by omega)) rfl ?_
      refine ops_ro' rfl (ro_load sc9 rfl (Rd.pick 1 rfl (vwRdn (hV (by omega)) _ _ (txt_get1 hi)))) rfl ?_
      refine ops_ro' rfl (ro_move rfl) rfl ?_
      refine ops_eff' rfl (eff_call Try.call21 rfl rfl (Split.nil _) (head_spec _ most)) rfl ?_
      rintro _ H' ⟨_, ⟨rfl, rfl⟩, hH⟩
      simp only [List.cons_append, List.nil_append, List.eraseIdx_cons_zero, List.eraseIdx_cons_succ, List.set_cons_zero, List.set_cons_succ] at hH
      subst hH
      refine ops_eff' rfl (eff_buildSlice rfl (sbld (cs := [_]) [(.string ByteArray.empty)] sl60 (by decide) (by kernel_rfl) rfl)) rfl ?_
      rintro _ _ ⟨b27, rfl, rfl⟩
      refine ops_eff' rfl (eff_append (m := 1) (news := [Value.string (hd (str xs[i]) most)]) 1 sl60 (.inl ⟨_, Try.underlying60⟩) rfl rfl rfl (Src.of_vw (m := 1) (Vw.pick 0 rfl (Vw.rd rdn_all)) rfl (by simp [Value.oneCell'])) (by omega) (by simp only [maxLen]; omega)) rfl ?_
      rintro _ _ ⟨_, ⟨p2, c2, rfl, -, rfl⟩, rfl⟩
      refine ops_drop 0 ?_
      refine ops_ro' rfl (ro_assign rfl) rfl ?_
      refine ops_nil ?_
      repeat (first | refine InBlock_normal ?_ | refine NoGoto_normal ?_ | refine Jump_normal ?_)
      refine Then_normal ?_
      refine wp_region' ?_
      refine ops_ro' rfl (ro_move rfl) rfl ?_
      refine ops_ro' rfl (ro_add rfl rfl (show IntKind.i64.wrap ((i : Int) + 1) = ((i + 1 : Nat) : Int) from by rw [wrap_i64_in (by omega) (by omega)]; omega)) rfl ?_
      refine ops_ro' rfl (ro_assign rfl) rfl ?_
      refine ops_nil ?_
      repeat (first | refine InBlock_normal ?_ | refine NoGoto_normal ?_ | refine Jump_normal ?_)
      refine Then_normal ?_
      refine ⟨m - 1, by omega, i + 1, p2, c2, by omega, by omega, (Has.cons rfl (Has.cons rfl (Has.cons rfl (Has.cons rfl (Has.cons rfl (Has.nil _)))))), ?_⟩
      rw [List.take_succ_eq_append_getElem hi, List.map_append]; rfl
    · try replace hc0 := of_decide_eq_false hc0
      have htk : xs.take i = xs.take n := by rw [show i = n by omega]
      refine wp_exit' ?_
      repeat (first | refine Then_exit ?_ | refine NoGoto_exit ?_ | refine Jump_exit ?_ | refine InBlock_here ?_ | refine InBlock_far rfl ?_)
      repeat (first | refine InBlock_normal ?_ | refine NoGoto_normal ?_ | refine Jump_normal ?_)
      refine Then_normal ?_
      refine wp_seq' ?_
      refine wp_region' ?_
      refine ops_ro' rfl (ro_move rfl) rfl ?_
      refine ops_ro' rfl (ro_assign rfl) rfl ?_
      refine ops_nil ?_
      repeat (first | refine InBlock_normal ?_ | refine NoGoto_normal ?_ | refine Jump_normal ?_)
      refine Then_normal ?_
      refine wp_ret' ?_
      repeat (first | refine Then_ret ?_ | refine InBlock_ret ?_ | refine NoGoto_ret ?_ | refine Jump_ret ?_)
      refine done_ret (res1 rfl rfl) ?_
      have hk : (xs.take n).length = i := by rw [← htk, List.length_take]; omega
      refine ⟨_, ⟨p, c, ?_, ?_⟩, rfl⟩
      · rw [few, List.length_map, hk]
      · rw [few, List.length_map, hk, htk, List.map_map] <;> congr 2
  · refine wp_region' ?_
    refine ops_ro' rfl (ro_move rfl) rfl ?_
    refine ops_ro' rfl (ro_move rfl) rfl ?_
    refine ops_ro' rfl (ro_sliceLen Try.underlying60 rfl) rfl ?_
    refine ops_ro' rfl (ro_lss rfl rfl (decide_eq_false (by omega))) rfl ?_
    refine ops_ro' rfl (ro_move rfl) rfl ?_
    refine ops_skip rfl rfl ?_
    refine ops_skip rfl rfl ?_
    refine ops_skip rfl rfl ?_
    refine ops_ro' rfl (ro_pick rfl rfl) rfl ?_
    refine ops_nil ?_
    repeat (first | refine InBlock_normal ?_ | refine NoGoto_normal ?_ | refine Jump_normal ?_)
    refine Then_normal ?_
    refine wp_condF rfl ?_
    refine wp_exit' ?_
    repeat (first | refine Then_exit ?_ | refine NoGoto_exit ?_ | refine Jump_exit ?_ | refine InBlock_here ?_ | refine InBlock_far rfl ?_)
    repeat (first | refine InBlock_normal ?_ | refine NoGoto_normal ?_ | refine Jump_normal ?_)
    refine Then_normal ?_
    refine wp_seq' ?_
    have htk : xs.take i = xs.take n := by rw [List.take_of_length_le (by omega), List.take_of_length_le (by omega)]
    refine wp_region' ?_
    refine ops_ro' rfl (ro_move rfl) rfl ?_
    refine ops_ro' rfl (ro_assign rfl) rfl ?_
    refine ops_nil ?_
    repeat (first | refine InBlock_normal ?_ | refine NoGoto_normal ?_ | refine Jump_normal ?_)
    refine Then_normal ?_
    refine wp_ret' ?_
    repeat (first | refine Then_ret ?_ | refine InBlock_ret ?_ | refine NoGoto_ret ?_ | refine Jump_ret ?_)
    refine done_ret (res1 rfl rfl) ?_
    have hk : (xs.take n).length = i := by rw [← htk, List.length_take]; omega
    refine ⟨_, ⟨p, c, ?_, ?_⟩, rfl⟩
    · rw [few, List.length_map, hk]
    · rw [few, List.length_map, hk, htk, List.map_map] <;> congr 2

end Go.Proofs.Ytbiohhfibkolgaa
